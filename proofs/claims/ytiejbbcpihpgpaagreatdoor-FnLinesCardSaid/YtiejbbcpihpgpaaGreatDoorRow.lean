/-
  The law FnLines returns true for every input of bytes, and leaves it as it was, where the listed package variables read as the program text lays them.
-/
import Derived.Handed
import Derived.Shelf.Vars
import Derived.Test.YtiejbbcpihpgpaaGreatDoorRows
import Derived.Test.YtiejbbcpihpgpaaGreatDoorTie
import Derived.Test.YtiejbbcpihpgpaaGreatDoorCards
import Derived.Lay
import Derived.LaidMore
import Derived.LaidLaws
import Derived.OpenShut
import Derived.Stop.Joined
import Derived.SevenTiedAt
import Derived.Test.YtiejbbcpihpgpaaGreatDoorPartI
namespace Go.Proofs.YtiejbbcpihpgpaaGreatDoor.Ab
open Go Go.Proofs
theorem lift_shaped {H:Type} {enc:TypeId×Value->H} {C:Checked} {os:Os} {f:FuncId} {fn:Func} {s:ChangeSpec} {apart fresh handsOn again:Bool} {X:World->Prop}
  (hX:∀ w w':World,w.heap=w'.heap->X w->X w') (own:ownKnob C.prog.godebug=none) (started:os.Started) (noInit:C.prog.inits.idxOf? f=none) (hfn:C.prog.funcs[f]?=some fn)
  (witness:∃ (w:World) (tape:Tape) (i:Input),w.os=os/\(w.forCall tape i).Shaped C.prog/\i.vars=[]/\Input.okWide C.prog (w.forCall tape i) .any w.heap.size f i ∧
   ((s.pre enc C.prog fn [] apart (w.forCall tape i).memory i.args/\X (w.forCall tape i).memory)/\sizedMet enc C.prog fn (OpenSpec.ofChange s) apart (w.forCall tape i).memory i.args)/\({}:Assume).holds C.prog (lone (Frame.enter C.prog f i.args .normal) [] (w.forCall tape i)))
  (hc:∀ (W:World) (base:Nat) (args:Array Value) (ds gs:List (DataW H)) (before:List MemPlace),
   (∀ (j:Nat) t v,fn.params[j]?=some t->args[j]?=some v->Value.okWide C.prog W .any base t v)->DataW.Whole enc C.prog fn.params.toList s.vars apart W args.toList ds gs before->X W->W.ShapedOpen C.prog →
   Calls C.prog f args W fun e W'=>∃ v,e=.returned v/\s.post enc C.prog fn apart fresh handsOn again W args v W'):
  ReturnsInHanded {} C os f .any (fun w args=>(s.pre enc C.prog fn [] apart w args/\X w)/\sizedMet enc C.prog fn (OpenSpec.ofChange s) apart w args) (s.post enc C.prog fn apart fresh handsOn again):=by
 refine returnsInHanded_of_calls own started noInit witness fun w tape i _ hsh _ hok hpre _=>?_
 obtain ⟨_,_,_,g,hg,_,_,_,_,hval⟩:=hok
 cases hg.symm.trans hfn
 obtain ⟨⟨⟨ds,gs,before,hw,_⟩,hx⟩,_⟩:=hpre
 refine (hc (w.forCall tape i) w.heap.size i.args ds gs before hval (DataW.Whole.of_heap (w:=(w.forCall tape i).memory) (w':=w.forCall tape i) (by rfl) hw) (hX (w.forCall tape i).memory _ (by rfl) hx) hsh).mono ?_
 rintro e W' ⟨v,rfl,hp⟩
 exact ChangeSpec.post_blind hp
theorem shaped_int {P:Program} {w:World} {g:Nat} (h:w.ShapedOpen P) (hg:g<P.globals.size) (h0:((begin P (fun _ _=>0) default).world.heap[g]?).bind Obj.row?=some (#[.int .i64 0],3)) (hb:P.buildable 3=true)
  (hc:P.cellTypes P.depth 3=some [3]) (hu:P.underlying 3=some (.int .i64)):∃ cs t fr,w.heap[g]?=some (.cells cs t fr)/\∃ m:Int,cs[0]?=some (.int .i64 m):=by
 obtain ⟨m,hm⟩:=cell_of_shapedOpen_int h hg h0 rfl hb hc hu
 unfold World.cell? at hm
 simp only at hm
 cases hh:w.heap[g]? with
 |none=>rw [hh] at hm;cases hm
 |some ob=>
  rw [hh] at hm
  cases ob with
  |cells cs t fr=>
   obtain ⟨lo,hi⟩:=fr
   refine ⟨cs,t,(lo,hi),rfl,m,?_⟩
   simp only at hm
   exact hm
  |_=>cases hm
end Go.Proofs.YtiejbbcpihpgpaaGreatDoor.Ab

namespace Go.Proofs.YtiejbbcpihpgpaaGreatDoor
open Go.ChangeShapes Go.WideShapes Go.ChangeAt Go.RowKit Go.Proofs.YtiejbbcpihpgpaaGreatDoor.Ab
theorem Tryz.own:ownKnob Tryz.prog.godebug=none:=by kernel_rfl
theorem Tryz.laidOut:laidOutB Tryz.prog=true:=by kernel_rfl
noncomputable abbrev laidL:List (String×DataW Unit):=Rows.fnLinesRow.laid
theorem all_met (os:Os) (args:Array Value):laidMetH Tryz.prog laidL ((World.laidAll Tryz.prog os laidL).forCall (fun _ _=>0) ⟨#[],args,[]⟩).memory:=by
 rw [MakeChecks.laidMetH_plain _ _ _ (by kernel_rfl)];exact laidMet_laidAll _ (by kernel_rfl) (by kernel_rfl)
theorem of_laid {W:World} (h:laidMetH Tryz.prog laidL W) (hsh:W.ShapedOpen Tryz.prog):∀ b p,GG b=some p->∃ ob,W.heap[b]?=some ob/\p ob:=by
 rw [MakeChecks.laidMetH_plain _ _ _ (by kernel_rfl)] at h
 obtain ⟨ps,⟨g0,t0,cs0,f0,p0,q0,hg0,ht0,hv0,hd0,⟨g1,t1,cs1,f1,p1,q1,hg1,ht1,hv1,hd1,⟨g2,t2,cs2,f2,p2,q2,hg2,ht2,hv2,hd2,⟨g3,t3,cs3,f3,p3,q3,hg3,ht3,hv3,hd3,⟨g4,t4,cs4,f4,p4,q4,hg4,ht4,hv4,hd4,⟨g5,t5,cs5,f5,p5,q5,hg5,ht5,hv5,hd5,⟨g6,t6,cs6,f6,p6,q6,hg6,ht6,hv6,hd6,_,_⟩,_⟩,_⟩,_⟩,_⟩,_⟩,_⟩,_,_⟩:=h
 intro b p hb
 simp only [GG] at hb
 split at hb
 ·rename_i e
  subst e
  cases hb
  have hgl:Tryz.prog.globalNamed "internal/strconv.uint64pow10" = some 2:=by kernel_rfl
  have hty:(Tryz.prog.globals[2]?).map (·.type)=some 273:=by kernel_rfl
  obtain rfl:=Option.some.inj (hgl.symm.trans hg2)
  obtain rfl:=Option.some.inj (hty.symm.trans ht2)
  have hc:=Lib.cells_of_tab (zs:=Lib.pow10Tab) Tryz.underlying273 (k:=.u64) (by kernel_rfl) (by kernel_rfl) (by kernel_rfl) hd2
  unfold World.var? at hv2
  rw [hgl] at hv2
  simp only [Option.bind_some] at hv2
  split at hv2
  ·rename_i cs t fr hh
   cases hv2
   refine ⟨_,hh,?_⟩
   simp only [uN]
   rw [<-hc]
  ·cases hv2
 split at hb
 ·rename_i e
  subst e
  cases hb
  have hgl:Tryz.prog.globalNamed "strconv.ErrSyntax" = some 0:=by kernel_rfl
  have hty:(Tryz.prog.globals[0]?).map (·.type)=some 56:=by kernel_rfl
  obtain rfl:=Option.some.inj (hgl.symm.trans hg5)
  obtain rfl:=Option.some.inj (hty.symm.trans ht5)
  obtain ⟨_,u,v,hc,_⟩:=iface_of_trod (ti:=56) Tryz.underlying56 hd5
  unfold World.var? at hv5
  rw [hgl] at hv5
  simp only [Option.bind_some] at hv5
  split at hv5
  ·rename_i cs t fr hh
   cases hv5
   refine ⟨_,hh,?_⟩
   refine ⟨.iface u v,?_,.inr ⟨u,v,rfl⟩⟩
   rw [<-Array.getElem?_toList,hc];rfl
  ·cases hv5
 split at hb
 ·rename_i e
  subst e
  cases hb
  obtain ⟨cs,t,fr,hh,m,hm⟩:=shaped_int (P:=Tryz.prog) hsh (g:=3) (of_decide_eq_true (by kernel_rfl)) (by kernel_rfl) (by kernel_rfl) (by kernel_rfl) Tryz.underlying3
  exact ⟨_,hh,m,hm⟩
 split at hb
 ·rename_i e
  subst e
  cases hb
  have hgl:Tryz.prog.globalNamed "strconv.ErrRange" = some 1:=by kernel_rfl
  have hty:(Tryz.prog.globals[1]?).map (·.type)=some 56:=by kernel_rfl
  obtain rfl:=Option.some.inj (hgl.symm.trans hg4)
  obtain rfl:=Option.some.inj (hty.symm.trans ht4)
  obtain ⟨_,u,v,hc,_⟩:=iface_of_trod (ti:=56) Tryz.underlying56 hd4
  unfold World.var? at hv4
  rw [hgl] at hv4
  simp only [Option.bind_some] at hv4
  split at hv4
  ·rename_i cs t fr hh
   cases hv4
   refine ⟨_,hh,?_⟩
   refine ⟨.iface u v,?_,.inr ⟨u,v,rfl⟩⟩
   rw [<-Array.getElem?_toList,hc];rfl
  ·cases hv4
 ·cases hb
set_option maxRecDepth 100000 in
theorem lifted (os:Os) (started:os.Started) (H:Type) (enc:TypeId×Value->H):
  ReturnsInHanded {} Tryz.checked os 3 .any (fun w args=>(Rows.fnLinesSpec.pre enc Tryz.prog Tryz.f3 [] false w args/\laidMetH Tryz.prog laidL w)/\sizedMet enc Tryz.prog Tryz.f3 (OpenSpec.ofChange Rows.fnLinesSpec) false w args)
   (Rows.fnLinesSpec.post enc Tryz.prog Tryz.f3 false true false false):=by
 refine lift_shaped (C:=Tryz.checked) (X:=fun w=>laidMetH Tryz.prog laidL w) (fun _ _ hh h=>h.of_heap hh) Tryz.own started (by kernel_rfl) Tryz.func3
  (ChangeSpec.witness_shaped (enc:=enc) (C:=Tryz.checked) (os:=os) (X:=fun w _=>laidMetH Tryz.prog laidL w) false (World.laidAll Tryz.prog os laidL) #[.slice none 0 0] 8 (World.laidAll_os _ _ _) (World.shaped_of_ZipB (by kernel_rfl) (by kernel_rfl)) (by kernel_rfl) (by kernel_rfl) (by kernel_rfl) (all_met os _)) ?_
 intro W base args ds gs before hval hW hL hsh
 refine yI (P:=Tryz.prog) GG (tb:=4) Tryz.laidOut (by kernel_rfl) (by kernel_rfl) rfl rfl rfl (fun ds h=>by match ds with|[d0]=>rfl) (fun dss h=>?_) W (of_laid hL hsh) base args ds gs before hval hW
 obtain ⟨d0,rfl,h0⟩:=aRE (P:=Tryz.prog) (t:=22) h
 obtain ⟨a,rfl,ha⟩:=aOk Tryz.underlying22 Tryz.underlying5 (by kernel_rfl) h0
 exact ⟨_,aLa a ha⟩
theorem fact1:Tryz.prog.inPlace 3=Rows.fnLinesRow.inPlace:=by kernel_rfl
theorem fact2:Tryz.prog.unfollowed 3=Rows.fnLinesRow.unfollowed:=by kernel_rfl
theorem fact3:Tryz.prog.recurses 3=Rows.fnLinesRow.recurses:=by kernel_rfl
theorem fact4:Tryz.prog.varsNamed 3=Rows.fnLinesRow.named:=by kernel_rfl
theorem facts:joinedFacts Tryz.prog 3 Tryz.f3 Rows.fnLinesSpec Rows.fnLinesRow=true:=by
 unfold joinedFacts
 rw [fact1,fact2,fact3,fact4]
 kernel_rfl
theorem row_holds:Rows.FnLinesSaid:=
 OpenClaim.holds_of_wide 3 Tryz.f3 rfl rfl rfl rfl rfl rfl rfl ⟨rfl,rfl,rfl,rfl,rfl⟩ rfl rfl rfl rfl rfl (by kernel_rfl) Tryz.func3 facts
  (of_decide_eq_true (by kernel_rfl)) (by unfold Func.isWrapper;first|(rw [if_pos (by decide +kernel)];kernel_rfl)|(rw [if_neg (by decide +kernel)];exact ⟨rfl,rfl⟩))
  (fun os started H enc _=>lifted os started H enc)
theorem card_holds:Rows.FnLinesCardSaid:=
 Claim7.holds_tied_plain_at .later [] [.data,.data,.data,.data,.sentinel,.sentinel,.pinned] true (true, "6e598c7b41422bae2b9ba2e46de41bbaa2f18c31981ddd465b265c12dd89e624") true
  row_holds (fun _ h=>by cases h) (by kernel_rfl) (fun _ h=>by cases h) fnLines_row_tie rfl ⟨rfl,rfl⟩ (by kernel_rfl) rfl
  (fun f fn hf hfn=>by
   obtain rfl:f=3:=Option.some.inj ((show Tryz.prog.funcNamed "loop.example/g00705/laws.FnLines" = some 3 by kernel_rfl).symm.trans hf) |>.symm
   obtain rfl:fn=Tryz.f3:=(Option.some.inj (Tryz.func3.symm.trans hfn)).symm
   exact ⟨by kernel_rfl,fun j t ht=>by
    have hall:(Tryz.f3.params.toList.all fun u=>!Tryz.prog.wantsStandIn u)=true:=by kernel_rfl
    have hm:t∈Tryz.f3.params.toList:=by simpa using Array.mem_of_getElem? ht
    exact (show Tryz.prog.wantsStandIn t=false by simpa using List.all_eq_true.1 hall t hm)⟩)
  (by kernel_rfl)
end Go.Proofs.YtiejbbcpihpgpaaGreatDoor
