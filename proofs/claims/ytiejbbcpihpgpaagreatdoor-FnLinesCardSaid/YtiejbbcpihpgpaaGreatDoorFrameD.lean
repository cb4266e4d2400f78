/-
  A part of a proof about the given program; what is proved is said where each theorem stands.
-/
import Derived.ProofKit
import Derived.Sort.Grow
import Derived.Deep.Draws
import Derived.KernelRfl
import Derived.Test.YtiejbbcpihpgpaaGreatDoorFrameC
namespace Go.Proofs.YtiejbbcpihpgpaaGreatDoor.Ab
theorem aM4 {P:Program} {G:GV} {f:FuncId} {fn:Func} (nc nr:Nat) (vl:List Nat) (ac:aI) (rs:List (eN×Nat×Option (Bool×Nat))) (om:List (Option eN)) (rcs:List C) {cs:List C} {r:C} {os:List (Option C)}
  (hf:P.funcs[f]?=some fn) (hb:fn.body.isSome=true) (hname:(fn.name == "runtime.NumGoroutine")=false) (hr:sY P fn.results.toList rs=true) (hcomp:rS P (fn.ntmps,lK 0 om) vl (fn.body.getD .skip)=some ac.erase)
  (hvl:((List.range nc).all vl.contains)=true) (hn:decide (nc<=fn.ntmps/\om.length<=nc/\nr=rs.length)=true) (hN:(cs.length==nc && rcs.length==nr)=true) (hret:wC rcs=r)
  (hW:W P vl (fn.ntmps,lK 0 om) (aC P G) ac (rR cs) (Fin (aC P G) rs om rcs os) (fun _ _=>False) (Fin (aC P G) rs om rcs os)):aC P G f cs r os:=by
 simp only [Bool.and_eq_true,beq_iff_eq] at hN
 obtain ⟨e1,e2⟩:=hN
 subst e1 e2
 obtain ⟨h1,h2,h4⟩:=of_decide_eq_true hn
 rw [List.all_eq_true] at hvl
 obtain ⟨code,hc⟩:=Option.isSome_iff_exists.1 hb
 rw [hc] at hcomp
 subst hret
 exact aPZ hf hc hname (rv:=fn.results.toList) rfl hr hcomp (fun m hm=>by simp_all) h1 h2 h4 (fun _ _ _ _ h=>h) (WS.mono hW fun ex st hk=>by
  grind)
attribute [simp] aHE tJ aCi ev out St.app vQ put del cQ qM gK oG eM yU A.cellB yF lJ aNO jT aHC aNX aTt wI aTD aIu aNW unA aDP aDQ aTI aNI rT bnd aTP aNz mmA
attribute [simp] cH cH.openL aUc aVh lL lO aBE rA aMv pV oZ mC pZ pE aB0 aB2 vD mE yZ aCO aRN aN5 aHD oA aVP aH0 aHZ wK aBw xN aCN aDU aR3 mkA sP aSQ eF lA RM.mapM aBB aCq aIw rM aTR aVO
attribute [simp] tV aOD
attribute [simp] aDR aCj oP aRK nI wC mY rR
attribute [simp] aB8 aDt aL1 oB
def kC {α:Type} (K:α->List Loc->Prop) (x:Loc):α->List Loc->Prop:=fun r l=>K r (x::l)
def kL {α:Type} (K:α->List Loc->Prop) (l:List Loc):α->List Loc->Prop:=fun r l'=>K r (l++l')
def kB {α β:Type} (e:Env) (f:β->RM α) (K:α->List Loc->Prop):β->List Loc->Prop:=fun a l=>goL e (f a) (kL K l)
def kS (V:FuncId->List C->C->List (Option C)->Prop) (base i:Nat) (o:cM) (r:List cM) (st:St) (K:St->Prop):Wr->List Loc->Prop:=fun wr _=>uI V base (i+1) r (st.app o.dst wr) K
def kD (V:FuncId->List C->C->List (Option C)->Prop) (base i:Nat) (o:cM) (r:List cM) (logs:List (List Loc×List Loc)) (acc:Bool) (st:St) (K:St->Prop):Wr->List Loc->Prop:=
 fun wr l=>tB V base (i+1) r ((l,vQ o.dst wr)::logs) (aTT acc (aHe o.after l (vQ o.dst wr) logs)) (st.app o.dst wr) K
def aUw {α:Type} (V:FuncId->List C->C->List (Option C)->Prop) (e:Env) (f:FuncId) (cs:List C) (k:C->List (Option C)->RM α) (K:α->List Loc->Prop):Prop:=∃ c os,V f cs c os/\goL e (k c os) K
section
variable {α β:Type} {e:Env} {K:α->List Loc->Prop}
@[simp] theorem aXo {x:Loc} {r:α} {l:List Loc}:kC K x r l=K r (x::l):=id rfl
@[simp] theorem aXm {r:α} {l l':List Loc}:kL K l r l'=K r (l++l'):=id rfl
@[simp] theorem aXp {f:β->RM α} {a:β} {l:List Loc}:kB e f K a l=goL e (f a) (kL K l):=id rfl
@[simp] theorem aXl {V:FuncId->List C->C->List (Option C)->Prop} {base i:Nat} {o:cM} {r:List cM} {st:St} {K:St->Prop} {wr:Wr} {l:List Loc}:kS V base i o r st K wr l=uI V base (i+1) r (st.app o.dst wr) K:=id rfl
@[simp] theorem aXn {V:FuncId->List C->C->List (Option C)->Prop} {base i:Nat} {o:cM} {r:List cM} {logs:List (List Loc×List Loc)} {acc:Bool} {st:St} {K:St->Prop} {wr:Wr} {l:List Loc}:
  kD V base i o r logs acc st K wr l=tB V base (i+1) r ((l,vQ o.dst wr)::logs) (aTT acc (aHe o.after l (vQ o.dst wr) logs)) (st.app o.dst wr) K:=id rfl
@[simp] theorem aWJ {V:FuncId->List C->C->List (Option C)->Prop} {base i:Nat} {st:St} {K:St->Prop}:uI V base i [] st K=K st:=id rfl
@[simp] theorem aV4 {V:FuncId->List C->C->List (Option C)->Prop} {base i:Nat} {o:cM} {r:List cM} {st:St} {K:St->Prop}:uI V base i (o::r) st K=goL (st.env V) (tJ (base+64*i) o) (kS V base i o r st K):=id rfl
@[simp] theorem aWK {V:FuncId->List C->C->List (Option C)->Prop} {base i:Nat} {logs:List (List Loc×List Loc)} {acc:Bool} {st:St} {K:St->Prop}:tB V base i [] logs acc st K=(aT0 acc/\K st):=id rfl
@[simp] theorem aV5 {V:FuncId->List C->C->List (Option C)->Prop} {base i:Nat} {o:cM} {r:List cM} {logs:List (List Loc×List Loc)} {acc:Bool} {st:St} {K:St->Prop}:
  tB V base i (o::r) logs acc st K=goL (st.env V) (tJ (base+64*i) o) (kD V base i o r logs acc st K):=id rfl
@[simp ↓] theorem aXg {a:α}:goL e (.ret a) K=K a []:=id rfl
@[simp ↓] theorem aWT:goL e .fail K=False:=id rfl
@[simp ↓] theorem aVu {v:Bool} {s:Nat} {k:A->RM α}:goL e (.rs v s k) K=match e.sl v s with|some x=>goL e (k x) (kC K (.slot v s))|none=>False:=by simp only [goL];cases e.sl v s<;>rfl
@[simp ↓] theorem aVv {n:Nat} {k:O->RM α}:goL e (.rh n k) K=match e.h n with|some o=>goL e (k o) (kC K (.obj n))|none=>False:=by simp only [goL];cases e.h n<;>rfl
theorem aIr {b:Bool} {x y:RM α}:goL e (.ite b x y) K=((b=true->goL e x K)/\(b=false->goL e y K)):=id rfl
@[simp ↓] theorem aTC {x y:RM α}:goL e (.ite true x y) K=goL e x K:=by rw [aIr];simp
@[simp ↓] theorem aSf {x y:RM α}:goL e (.ite false x y) K=goL e y K:=by rw [aIr];simp
theorem aJ {b:Bool} {x y:RM α} (h1:b=true->goL e x K) (h2:b=false->goL e y K):goL e (.ite b x y) K:=⟨h1,h2⟩
@[simp ↓] theorem aRy {p:Prop} {k:RM α}:goL e (.need p k) K=(p/\goL e k K):=id rfl
@[simp ↓] theorem aWU {st:St} {V:FuncId->List C->C->List (Option C)->Prop} {f:FuncId} {cs:List C} {k:C->List (Option C)->RM α}:goL (st.env V) (.call f cs k) K=aUw V (st.env V) f cs k K:=id rfl
theorem aPt {m:RM β} {f:β->RM α}:∀ {K:α->List Loc->Prop},goL e (m.bind f) K=goL e m (kB e f K):=by
 induction m with
 |ret a=>intro K;rfl
 |fail=>intro K;rfl
 |rs v s k ih=>intro K;simp only [RM.bind,aVu];cases e.sl v s with
  |none=>rfl
  |some x=>exact ih x
 |rh n k ih=>intro K;simp only [RM.bind,aVv];cases e.h n with
  |none=>rfl
  |some x=>exact ih x
 |ite b x y ihx ihy=>grind [RM.bind,aIr]
 |need p k ih=>grind [RM.bind,aRy]
 |call g cs k ih=>intro K;show (∃ c os,_)=(∃ c os,_);grind
@[simp ↓] theorem aWV {m:RM β} {f:β->RM α}:goL e (m.bind f) K=goL e m (kB e f K):=aPt
end
theorem aF {α:Type} {V:FuncId->List C->C->List (Option C)->Prop} {e:Env} {f:FuncId} {cs:List C} {k:C->List (Option C)->RM α} {K:α->List Loc->Prop} {c:C} {os:List (Option C)} (h:V f cs c os) (hk:goL e (k c os) K):aUw V e f cs k K:=⟨c,os,h,hk⟩
@[simp] theorem aUh (st:St) (V:FuncId->List C->C->List (Option C)->Prop) (s:Nat):(st.env V).sl true s=cQ st.vars s:=id rfl
@[simp] theorem aTK (st:St) (V:FuncId->List C->C->List (Option C)->Prop) (s:Nat):(st.env V).sl false s=cQ st.tmps s:=id rfl
@[simp] theorem aXy (st:St) (V:FuncId->List C->C->List (Option C)->Prop) (n:Nat):(st.env V).h n=cQ st.objs n:=id rfl
@[simp] theorem aXz (st:St) (V:FuncId->List C->C->List (Option C)->Prop):(st.env V).V=V:=id rfl
@[simp] theorem aW8 (op:BinOp) (k:IntKind) (m n:Int) (h1:op≠.shl) (h2:op≠.shr):qU .int op (.d (.int k m)) (.d (.int k n))=wI (fX op k m n):=by
 unfold qU;cases op<;>simp_all
@[simp] theorem aW7 (k k':IntKind) (m n:Int):qU .int .shl (.d (.int k m)) (.d (.int k' n))=wI (yA .shl k m n):=id rfl
@[simp] theorem aW6 (k k':IntKind) (m n:Int):qU .int .shr (.d (.int k m)) (.d (.int k' n))=wI (yA .shr k m n):=id rfl
@[simp] theorem aUq (s t:List UInt8):qU .str .add (.d (.str s)) (.d (.str t))=.need (s.length+t.length<=dP) (out (.d (.str (s++t)))):=id rfl
@[simp] theorem aVG (s t:List UInt8):qU .str .eql (.d (.str s)) (.d (.str t))=out (.d (.bool (s==t))):=id rfl
@[simp] theorem aVF (s t:List UInt8):qU .str .neq (.d (.str s)) (.d (.str t))=out (.d (.bool (!(s==t)))):=id rfl
@[simp] theorem aWi (ks:List Nat) (x y:List A) (r:Bool) (h:tV ks x y=some r):qU (.st ks) .eql (.agg x) (.agg y)=out (.d (.bool r)):=by simp only [qU,h]
@[simp] theorem aWh (ks:List Nat) (x y:List A) (r:Bool) (h:tV ks x y=some r):qU (.st ks) .neq (.agg x) (.agg y)=out (.d (.bool (!r))):=by simp only [qU,h]
@[simp] theorem aUs (s t:Bool):qU .bool .eql (.d (.bool s)) (.d (.bool t))=out (.d (.bool (s==t))):=id rfl
@[simp] theorem aUr (s t:Bool):qU .bool .neq (.d (.bool s)) (.d (.bool t))=out (.d (.bool (!(s==t)))):=id rfl
section
variable (k:IntKind) (a b:Int)
@[simp] theorem aVs:fX .add k a b=some (.int k (k.wrap (a+b))):=id rfl
@[simp] theorem aVj:fX .sub k a b=some (.int k (k.wrap (a-b))):=id rfl
@[simp] theorem aVm:fX .mul k a b=some (.int k (k.wrap (a*b))):=id rfl
@[simp] theorem aUf:fX .and .u8 a b=some (.int .u8 (IntKind.u8.wrap ((BitVec.ofInt 8 a &&& BitVec.ofInt 8 b).toNat))):=id rfl
@[simp] theorem aTz:fX .and .u64 a b=some (.int .u64 (IntKind.u64.wrap ((BitVec.ofInt 64 a &&& BitVec.ofInt 64 b).toNat))):=id rfl
@[simp] theorem aVk:fX .or .u8 a b=some (.int .u8 (IntKind.u8.wrap ((BitVec.ofInt 8 a ||| BitVec.ofInt 8 b).toNat))):=id rfl
@[simp] theorem aVr:fX .eql k a b=some (.bool (a==b)):=id rfl
@[simp] theorem aVl:fX .neq k a b=some (.bool (a != b)):=id rfl
@[simp] theorem aVn:fX .lss k a b=some (.bool (a<b)):=id rfl
@[simp] theorem aVo:fX .leq k a b=some (.bool (a<=b)):=id rfl
@[simp] theorem aVp:fX .gtr k a b=some (.bool (a>b)):=id rfl
@[simp] theorem aVq:fX .geq k a b=some (.bool (a>=b)):=id rfl
end
@[simp] theorem aOy (k:IntKind) (a b:Int) (h:0<=b):yA .shr k a b=some (.int k (a.fdiv (2 ^ (min b.toNat k.bits)))):=by
 unfold yA;rw [if_neg (by omega)]
@[simp] theorem aOz (k:IntKind) (a b:Int) (h:0<=b):yA .shl k a b=some (.int k (k.wrap (a*2 ^ (min b.toNat k.bits)))):=by
 unfold yA;rw [if_neg (by omega)]
@[simp] theorem aMU (k:IntKind) (a b:Int) (h:b≠0):fX .quo k a b=some (.int k (k.wrap (a.tdiv b))):=by
 simp only [fX,if_neg h]
@[simp] theorem aMT (k:IntKind) (a b:Int) (h:b≠0):fX .rem k a b=some (.int k (a.tmod b)):=by
 simp only [fX,if_neg h]
@[simp] theorem aXh:IntKind.u8.bits=8:=id rfl
@[simp] theorem aW5:IntKind.i64.bits=64:=id rfl
@[simp] theorem aW4:IntKind.u64.bits=64:=id rfl
@[simp] theorem aXq (i:Int) (n:Nat) (k:Nat->RM Wr):idx i n k=.need (0<=i/\i<n) (k i.toNat):=id rfl
@[simp] theorem mD (s:List UInt8):(aB s).length=s.length:=by simp [aB]
@[simp] theorem aVB (s:List UInt8) (i:Nat):(aB s)[i]?=(s[i]?).map fun b=>[.int .u8 b.toNat]:=by simp [aB]
def Typ (P:Program):Nat->TypeId->List D->Prop
 |0,_,_=>False
 |k+1,t,ds=>match P.underlying t with
  |some .bool=>∃ b,ds=[.bool b]
  |some (.int q)=>∃ n,ds=[.int q n]/\(Lit.int q n).wf=true
  |some .string=>∃ s,ds=[.str s]/\s.length<=maxLen
  |some (.slice e)=>∃ rows,ds=[.slc (P.cellsOf e) rows]/\rows.length<=maxLen/\∀ r,r∈rows->r.length=P.cellsOf e/\Typ P k e r
  |some (.struct fs)=>ds.length=P.cellsOf t/\∀ f,f∈fs.toList->Typ P k f.type ((ds.drop f.offset).take (P.cellsOf f.type))
  |_=>False
def aCV (P:Program):Nat->List Field->Option Nat
 |o,[]=>some o
 |o,f::r=>if f.offset=o then aCV P (o+P.cellsOf f.type) r else none
def vP (P:Program):Nat->TypeId->Bool
 |0,_=>false
 |k+1,t=>match P.underlying t with
  |some .bool=>true
  |some (.int _)=>true
  |some .string=>true
  |some (.slice e)=>decide (0<P.cellsOf e) && vP P k e
  |some (.struct fs)=>(aCV P 0 fs.toList==some (P.cellsOf t)) && fs.toList.all fun f=>vP P k f.type
  |_=>false
def vU (w:World) (cs:List Value) (ds:List D):Prop:=ds.length=cs.length/\∀ (m:Nat) c d,cs[m]?=some c->ds[m]?=some d->Shr w (fun b _=>b<w.heap.size) c d
theorem vU.one {w:World} {c:Value} {d:D} (h:Shr w (fun b _=>b<w.heap.size) c d):vU w [c] [d]:=by
 refine ⟨rfl,fun m c' d' h1 h2=>?_⟩
 cases m with
 |zero=>simp at h1 h2;subst h1 h2;exact h
 |succ m=>simp at h1
theorem vU.append {w:World} {cs cs':List Value} {ds ds':List D} (h:vU w cs ds) (h':vU w cs' ds'):vU w (cs++cs') (ds++ds'):=by
 refine ⟨by simp [h.1,h'.1],fun m c d h1 h2=>?_⟩
 by_cases hm:m<cs.length
 ·rw [List.getElem?_append_left hm] at h1
  rw [List.getElem?_append_left (by rw [h.1];exact hm)] at h2
  exact h.2 m c d h1 h2
 ·rw [List.getElem?_append_right (by omega)] at h1
  rw [List.getElem?_append_right (by rw [h.1];omega),h.1] at h2
  exact h'.2 _ c d h1 h2
theorem aQc {P:Program}:∀ (fs:List Field) (o n:Nat),aCV P o fs=some n->o<=n/\∀ f,f∈fs->o<=f.offset/\f.offset+P.cellsOf f.type<=n:=by
 intro fs
 induction fs with
 |nil=>intro o n h;simp only [aCV,Option.some.injEq] at h;exact ⟨by omega,fun f hf=>by simp at hf⟩
 |cons f fs ih=>
  intro o n h
  simp only [aCV] at h
  split at h
  ·rename_i e
   obtain ⟨h1,h2⟩:=ih _ _ h
   refine ⟨by omega,fun g hg=>?_⟩
   rcases List.mem_cons.1 hg with rfl|hg
   ·exact ⟨by omega,by omega⟩
   ·have:=h2 g hg;exact ⟨by omega,this.2⟩
  ·cases h
theorem aKp {P:Program} {w:World} {k:Nat}:∀ (fs:List Field) (o n:Nat) (cs:List Value),aCV P o fs=some n->cs.length=n-o →
  (∀ f,f∈fs->∃ ds,vU w ((cs.drop (f.offset-o)).take (P.cellsOf f.type)) ds/\Typ P k f.type ds) →
  ∃ ds,vU w cs ds/\∀ f,f∈fs->Typ P k f.type ((ds.drop (f.offset-o)).take (P.cellsOf f.type)):=by
 intro fs
 induction fs with
 |nil=>
  intro o n cs h hl _
  simp only [aCV,Option.some.injEq] at h
  subst h
  have:cs=[]:=List.length_eq_zero_iff.1 (by omega)
  subst this
  exact ⟨[],⟨rfl,fun m c d h=>by simp at h⟩,fun f hf=>by simp at hf⟩
 |cons f fs ih=>
  intro o n cs h hl hf
  simp only [aCV] at h
  split at h
  ·rename_i e
   obtain ⟨h1,h2⟩:=aQc _ _ _ h
   obtain ⟨d0,s0,t0⟩:=hf f (by simp)
   rw [e,Nat.sub_self,List.drop_zero] at s0
   have l0:d0.length=P.cellsOf f.type:=by rw [s0.1];simp;omega
   obtain ⟨ds,s1,t1⟩:=ih (o+P.cellsOf f.type) n (cs.drop (P.cellsOf f.type)) h (by simp;omega) (fun g hg=>by
    obtain ⟨dg,sg,tg⟩:=hf g (by simp [hg])
    have:=(h2 g hg).1
    rw [List.drop_drop,show P.cellsOf f.type+(g.offset-(o+P.cellsOf f.type))=g.offset-o by omega]
    exact ⟨dg,sg,tg⟩)
   refine ⟨d0++ds,by have:=s0.append s1;rwa [List.take_append_drop] at this,fun g hg=>?_⟩
   rcases List.mem_cons.1 hg with rfl|hg
   ·rw [e,Nat.sub_self,List.drop_zero,List.take_append_of_le_length (by omega),<-l0,List.take_length];exact t0
   ·have h3:=(h2 g hg).1
    have:=t1 g hg
    rw [List.drop_append,List.drop_of_length_le (show d0.length<=g.offset-o by omega),List.nil_append,l0,show g.offset-o-P.cellsOf f.type=g.offset-(o+P.cellsOf f.type) by omega]
    exact this
  ·cases h
theorem aTE {rows:List (List D)} {sz:Nat} (hsz:0<sz):∀ {m:Nat} {d:D},(∀ r,r∈rows->r.length=sz)->rows.flatten[m]?=some d->∃ row,rows[m / sz]?=some row/\row[m % sz]?=some d:=by
 induction rows with
 |nil=>intro m d _ h;simp at h
 |cons r rs ih=>
  intro m d hr h
  have hl:=hr r (by simp)
  simp only [List.flatten_cons] at h
  by_cases hm:m<sz
  ·rw [List.getElem?_append_left (by omega)] at h
   rw [Nat.div_eq_of_lt hm,Nat.mod_eq_of_lt hm]
   exact ⟨r,rfl,h⟩
  ·rw [List.getElem?_append_right (by omega),hl] at h
   obtain ⟨row,h1,h2⟩:=ih (fun r hr'=>hr r (by simp [hr'])) h
   have e1:m / sz=(m-sz) / sz+1:=by rw [Nat.div_eq_sub_div hsz (by omega)]
   have e2:m % sz=(m-sz) % sz:=Nat.mod_eq_sub_mod (by omega)
   rw [e1,e2]
   exact ⟨row,by simpa using h1,h2⟩
theorem aLE {p:Nat->List D->Prop}:∀ (n:Nat),(∀ i,i<n->∃ r,p i r)->∃ rows:List (List D),rows.length=n/\∀ (i:Nat) r,rows[i]?=some r->p i r:=by
 intro n
 induction n with
 |zero=>intro _;exact ⟨[],rfl,fun i r h=>by simp at h⟩
 |succ n ih=>
  intro h
  obtain ⟨rows,h1,h2⟩:=ih fun i hi=>h i (by omega)
  obtain ⟨r,hr⟩:=h n (by omega)
  refine ⟨rows++[r],by simp [h1],fun i r' hi=>?_⟩
  by_cases hlt:i<n
  ·rw [List.getElem?_append_left (by omega)] at hi;exact h2 i r' hi
  ·rw [List.getElem?_append_right (by omega)] at hi
   have:i-rows.length=0:=by
    have:=(List.getElem?_eq_some_iff.1 hi).1;simp at this;omega
   rw [this] at hi
   simp at hi
   subst hi
   rw [show i=n by omega];exact hr
section
variable {H:Type} {enc:TypeId×Value->H} {P:Program} {w:World} {base:Nat} {spare:Nat->Bool} {held:Bool}
theorem aCJ {a:Addr} {n:Nat} {cs:List Value} (h:w.cells? base a n=some cs):cs.length=n/\∀ i,i<n->w.cell? (a.add i)=cs[i]?:=by
 unfold World.cells? at h
 split at h
 ·exact ⟨by simpa using mapM_some_length h,fun i hi=>mapM_some_get h i i (by simp [hi])⟩
 ·cases h
theorem aTU (a:Addr) (i j:Nat) (h:a.spot=none):(a.add i).add j=at_ a.block (a.off+(i+j)):=by
 unfold Addr.add
 obtain ⟨b,o,s⟩:=a
 simp only at h
 subst h
 split<;>split<;>simp_all [at_,Nat.add_assoc]
theorem aOl:∀ (k n:Nat) (t:TypeId) (cs:List Value) (x:DataW H×List MemPlace),vP P k t=true->DataW.trod enc P w base spare held n t cs=some x->∃ ds,vU w cs ds/\Typ P k t ds:=by
 intro k
 induction k with
 |zero=>intro n t cs x hp;simp [vP] at hp
 |succ k ih=>
  intro n t cs x hp h
  simp only [vP] at hp
  split at hp
  ·rename_i hu
   obtain ⟨b,rfl,_⟩:=DataW.trod_bool hu h
   exact ⟨[.bool b],vU.one (.bool b),by simp only [Typ,hu];exact ⟨b,rfl⟩⟩
  ·rename_i q hu
   obtain ⟨m,rfl,_,hw⟩:=DataW.trod_int hu h
   exact ⟨[.int q m],vU.one (.int q m),by simp only [Typ,hu];exact ⟨m,rfl,hw⟩⟩
  ·rename_i hu
   obtain ⟨s,rfl,_,hl⟩:=DataW.trod_string hu h
   exact ⟨[.str s.data.toList],vU.one (by have:=Shr.str (w:=w) (Fz:=fun b _=>b<w.heap.size) s.data.toList;rwa [<-aSE s] at this),by
    simp only [Typ,hu];exact ⟨_,rfl,by simpa using hl⟩⟩
  ·rename_i e hu
   simp only [Bool.and_eq_true,decide_eq_true_eq] at hp
   obtain ⟨hsz,hpe⟩:=hp
   rcases DataW.trod_slice hu h with ⟨rfl,_⟩|⟨a,len,cap,elems,rest,n',rfl,rfl,_,_,hlc,hcap,hel,hget,_,_⟩
   ·exact ⟨[.slc (P.cellsOf e) []],vU.one (.emp none 0 _),by simp only [Typ,hu];exact ⟨[],rfl,by simp,fun r hr=>by simp at hr⟩⟩
   ·by_cases h0:len=0
    ·subst h0
     exact ⟨[.slc (P.cellsOf e) []],vU.one (.emp _ _ _),by simp only [Typ,hu];exact ⟨[],rfl,by simp,fun r hr=>by simp at hr⟩⟩
    ·have hrow:∀ i,i<len->∃ ci,w.cells? base (a.add (i*P.cellsOf e)) (P.cellsOf e)=some ci/\∃ r,vU w ci r/\Typ P k e r:=by
      intro i hi
      have hg:=hget i hi
      rw [List.getElem?_eq_getElem (by omega)] at hg
      obtain ⟨ci,h1,h2⟩:=Option.bind_eq_some_iff.1 hg
      exact ⟨ci,h1,ih _ _ _ _ hpe h2⟩
     have hspot:a.spot=none:=by
      obtain ⟨ci,h1,_⟩:=hrow 0 (by omega)
      obtain ⟨h2,h3⟩:=aCJ h1
      have h4:=h3 0 hsz
      rw [List.getElem?_eq_getElem (by omega)] at h4
      simp only [Nat.zero_mul,Addr.add,if_true] at h4
      cases hs:a.spot with
      |none=>rfl
      |some z=>
       exfalso
       unfold World.cell? at h4
       split at h4
       ·simp [hs] at h4
       ·cases h4
     obtain ⟨rows,hl,hrows⟩:=aLE (p:=fun i r=>∃ ci,w.cells? base (a.add (i*P.cellsOf e)) (P.cellsOf e)=some ci/\vU w ci r/\Typ P k e r) len (fun i hi=>by
      obtain ⟨ci,h1,r,h2⟩:=hrow i hi;exact ⟨r,ci,h1,h2⟩)
     have hrl:∀ r,r∈rows->r.length=P.cellsOf e:=by
      intro r hr
      obtain ⟨i,hi⟩:=List.getElem?_of_mem hr
      obtain ⟨ci,h1,h2,_⟩:=hrows i r hi
      rw [h2.1,(aCJ h1).1]
     refine ⟨[.slc (P.cellsOf e) rows],vU.one ?_,by
      simp only [Typ,hu]
      refine ⟨rows,rfl,by omega,fun r hr=>⟨hrl r hr,?_⟩⟩
      obtain ⟨i,hi⟩:=List.getElem?_of_mem hr
      obtain ⟨ci,h1,h2,h3⟩:=hrows i r hi
      exact h3⟩
     have ea:a=at_ a.block a.off:=by
      obtain ⟨b,o,s⟩:=a
      simp only at hspot
      subst hspot
      rfl
     have key:∀ m d,rows.flatten[m]?=some d->∃ u,w.cell? (at_ a.block (a.off+m))=some u/\Shr w (fun b _=>b<w.heap.size) u d:=by
      intro m d hm
      obtain ⟨row,h1,h2⟩:=aTE hsz hrl hm
      obtain ⟨ci,h3,h4,_⟩:=hrows _ _ h1
      obtain ⟨h5,h6⟩:=aCJ h3
      have hlt:=Nat.mod_lt m hsz
      have h7:=h6 (m % P.cellsOf e) hlt
      rw [aTU _ _ _ hspot,Nat.div_add_mod' m (P.cellsOf e)] at h7
      have hc:=List.getElem?_eq_getElem (show m % P.cellsOf e<ci.length by omega)
      exact ⟨_,h7.trans hc,h4.2 _ _ _ hc h2⟩
     rw [ea,<-hl]
     exact .slc a.block a.off cap _ rows (fun m=>(w.cell? (at_ a.block (a.off+m))).getD Go.undef) hrl (by omega) (fun m d hm=>by
      obtain ⟨u,h1,h2⟩:=key m d hm
      exact ⟨by rw [h1];rfl,aIz h1⟩) (fun m d hm=>by
      obtain ⟨u,h1,h2⟩:=key m d hm
      rw [h1];exact h2)
  ·rename_i fs hu
   simp only [Bool.and_eq_true,beq_iff_eq,List.all_eq_true] at hp
   obtain ⟨ht,hall⟩:=hp
   obtain ⟨xs,n',rfl,_,hl,hxl,hget⟩:=DataW.trod_struct hu h
   obtain ⟨ds,s1,t1⟩:=aKp (k:=k) (w:=w) fs.toList 0 _ cs ht (by omega) (fun f hf=>by
    obtain ⟨i,hi⟩:=List.getElem?_of_mem hf
    have hg:=hget i f (by simpa using hi)
    have hlt:=(List.getElem?_eq_some_iff.1 hi).1
    rw [List.getElem?_eq_getElem (show i<xs.length by simp at hlt;omega)] at hg
    exact ih _ _ _ _ (hall f hf) hg)
   refine ⟨ds,s1,?_⟩
   simp only [Typ,hu]
   exact ⟨by rw [s1.1,hl],t1⟩
  ·cases hp
end
open Go.ChangeShapes Go.WideShapes Go.ChangeAt Go.RowKit
def aNe (P:Program) (t:TypeId) (ds:List D):C:=
 match P.underlying t with
 |some (.struct _)=>.agg (ds.map .d)
 |_=>match ds with
  |[d]=>.d d
  |_=>.tup []
def aB4 (P:Program):List TypeId->List (List D)->List C
 |t::ts,d::ds=>aNe P t d::aB4 P ts ds
 |_,_=>[]
def aFm (P:Program):List TypeId->List (List D)->Prop
 |[],[]=>True
 |t::ts,d::ds=>Typ P 12 t d/\aFm P ts ds
 |_,_=>False
section
variable {H:Type} {enc:TypeId×Value->H} {P:Program} {w:World} {base:Nat} {spare:Nat->Bool} {held:Bool}
theorem aR1 {r:Reach} {b0:Nat} {t:TypeId} {v:Value} {d:DataW H} {ps:List MemPlace} (hp:vP P 12 t=true) (hval:Value.okWide P w r b0 t v) (hd:DataW.Trod enc P w base spare held t v d ps):
  ∃ ds,Typ P 12 t ds/\RC w (fun b _=>b<w.heap.size) (aNe P t ds) v (fun _ _=>False):=by
 obtain ⟨n,hn⟩:=hd
 obtain ⟨ds,s1,t1⟩:=aOl 12 n t _ _ hp hn
 refine ⟨ds,t1,?_⟩
 have one:v.cells.toList=[v]->(∀ fs,P.underlying t≠some (.struct fs))->RC w (fun b _=>b<w.heap.size) (aNe P t ds) v (fun _ _=>False):=by
  intro hc hns
  rw [hc] at s1
  obtain ⟨d,rfl⟩:=List.length_eq_one_iff.1 s1.1
  have e:aNe P t [d]=.d d:=by
   unfold aNe
   split
   ·rename_i fs hu;exact absurd hu (hns fs)
   ·rfl
  rw [e]
  exact .d _ _ _ (s1.2 0 v d rfl rfl) (fun _ _ h=>h)
 simp only [vP] at hp
 split at hp
 ·rename_i hu
  obtain ⟨b,rfl⟩:=okWide_bool hu hval
  exact one rfl (fun fs h=>by rw [hu] at h;cases h)
 ·rename_i q hu
  obtain ⟨m,rfl⟩:=okWide_int hu hval
  exact one rfl (fun fs h=>by rw [hu] at h;cases h)
 ·rename_i hu
  obtain ⟨s,rfl⟩:=okWide_string hu hval
  exact one rfl (fun fs h=>by rw [hu] at h;cases h)
 ·rename_i e hu
  obtain ⟨a,len,cap,rfl⟩:=okWide_slice hu hval
  exact one rfl (fun fs h=>by rw [hu] at h;cases h)
 ·rename_i fs hu
  obtain ⟨cs,rfl,_⟩:=okWide_struct hu hval
  have s1':vU w cs.toList ds:=s1
  have e:aNe P t ds=.agg (ds.map .d):=by simp only [aNe,hu]
  rw [e]
  have hl:cs.size=ds.length:=by rw [s1'.1];simp
  have key:∀ (m:Nat) c,(ds.map C.d)[m]?=some c->∃ d,c=.d d/\Shr w (fun b _=>b<w.heap.size) (cs.getD m Go.undef) d:=by
   intro m c hm
   rw [List.getElem?_map] at hm
   obtain ⟨d,hd,rfl⟩:=Option.map_eq_some_iff.1 hm
   have hlt:=(List.getElem?_eq_some_iff.1 hd).1
   have hc:cs.toList[m]?=some (cs.getD m Go.undef):=by simp [hl,hlt]
   exact ⟨d,rfl,s1'.2 m _ d hc hd⟩
  refine .agg _ cs (fun _ _ _=>False) _ (by simpa using hl) (fun m c hm=>?_) (fun m c hm=>?_) (fun _ _ _ _ _ _ _ h=>h.elim) (fun x y=>⟨fun h=>h.elim,fun ⟨_,_,h⟩=>h⟩)
  ·obtain ⟨d,_,h⟩:=key m c hm;exact h.one
  ·obtain ⟨d,rfl,h⟩:=key m c hm;exact .d _ _ _ h (fun _ _ h=>h)
 ·cases hp
theorem aLS {r:Reach} {b0:Nat}:∀ (ts:List TypeId) (vs:List Value) (ds:List (DataW H)) (ps:List MemPlace),(ts.all fun t=>vP P 12 t)=true->(∀ (j:Nat) t v,ts[j]?=some t->vs[j]?=some v->Value.okWide P w r b0 t v) →
  DataW.TrodAll enc P w base spare held ts vs ds ps->ds.length=ts.length/\∃ dss,aFm P ts dss/\(aB4 P ts dss).length=vs.length/\∀ (m:Nat) c,(aB4 P ts dss)[m]?=some c->RC w (fun b _=>b<w.heap.size) c (vs.getD m Go.undef) (fun _ _=>False)
 |[],[],[],_,_,_,_=>⟨rfl,[],trivial,rfl,fun m c h=>by simp [aB4] at h⟩
 |t::ts,v::vs,d::ds,_,hp,hok,⟨p,q,h1,h2,_⟩=>by
  simp only [List.all_cons,Bool.and_eq_true] at hp
  obtain ⟨d0,t0,r0⟩:=aR1 hp.1 (hok 0 t v rfl rfl) h1
  obtain ⟨hl,dss,t1,l1,r1⟩:=aLS ts vs ds q hp.2 (fun j t v h h'=>hok (j+1) t v (by simpa using h) (by simpa using h')) h2
  refine ⟨by simp [hl],d0::dss,⟨t0,t1⟩,by simp [aB4,l1],fun m c hm=>?_⟩
  cases m with
  |zero=>simp [aB4] at hm;subst hm;exact r0
  |succ m=>simpa using r1 m c (by simpa [aB4] using hm)
theorem aA5 {w':World} (hl:laidOutB P=true) (hb:∀ b,b<w.heap.size->w'.heap[b]?=w.heap[b]?):∀ (ts:List TypeId) (vs:List Value) (ds:List (DataW H)) (ps:List MemPlace),(ts.all fun t=>P.readableRec t && decide (t<P.types.size))=true →
  DataW.TrodAll enc P w 0 (fun _=>true) true ts vs ds ps->DataW.TrodAll enc P w' 0 (fun b=>decide (b<w.heap.size)) true ts vs ds ps
 |[],[],[],_,_,h=>h
 |t::ts,v::vs,d::ds,_,hr,⟨p,q,h1,h2,e⟩=>by
  simp only [List.all_cons,Bool.and_eq_true,decide_eq_true_eq] at hr
  have hlt:∀ x∈p,x.block<w.heap.size:=by
   obtain ⟨n,hn⟩:=h1
   exact DataW.trod_lt n _ _ _ hn
  refine ⟨p,q,WideElems.Trod_stays hl hr.1.1 hr.1.2 h1 (fun x hx=>?_) (fun x hx=>by simpa using hlt x hx),aA5 hl hb ts vs ds q hr.2 h2,e⟩
  have:=hlt x hx
  cases x with
  |cell b o=>exact World.cell?_of_block (hb b this)
  |map b=>exact hb b this
end
theorem yI {H:Type} {enc:TypeId×Value->H} {P:Program} (G:GV) {f:FuncId} {fn:Func} {s:ChangeSpec} {apart:Bool} {tb:TypeId} (hl:laidOutB P=true)
  (hpl:(fn.params.toList.all fun t=>vP P 12 t)=true) (hrd:(fn.params.toList.all fun t=>P.readableRec t && decide (t<P.types.size))=true) (hvars:s.vars=[]) (hrt:fn.resultTypes=#[tb]) (htb:P.underlying tb=some .bool)
  (hs:∀ ds:List (DataW H),ds.length=fn.params.toList.length->s.fn H ds={ results:=[.lit (.bool true)],args:=ds })
  (hV:∀ dss:List (List D),aFm P fn.params.toList dss->∃ os,aC P G f (aB4 P fn.params.toList dss) (.d (.bool true)) os) (W:World) (hG:∀ b p,G b=some p->∃ ob,W.heap[b]?=some ob/\p ob) (base:Nat) (args:Array Value) (ds gs:List (DataW H)) (before:List MemPlace)
  (hval:∀ (j:Nat) t v,fn.params[j]?=some t->args[j]?=some v->Value.okWide P W .any base t v) (hW:DataW.Whole enc P fn.params.toList s.vars apart W args.toList ds gs before):
  Calls P f args W fun e W'=>∃ v,e=.returned v/\s.post enc P fn apart true false false W args v W':=by
 have hW0:=hW
 obtain ⟨p,q,hA,hVr,rfl,hfz,hnd⟩:=hW
 rw [hvars] at hVr
 have hgs:gs=[]/\q=[]:=by
  cases gs with
  |nil=>exact ⟨rfl,hVr⟩
  |cons=>exact hVr.elim
 obtain ⟨rfl,rfl⟩:=hgs
 obtain ⟨hdl,dss,t1,l1,r1⟩:=aLS (r:=.any) (b0:=base) _ _ _ _ hpl (fun j t v h h'=>hval j t v (by simpa using h) (by simpa using h')) hA
 obtain ⟨os,hgo,hcall⟩:=hV dss t1
 refine (hcall W args (fun b _=>b<W.heap.size) (fun _ _ _=>False) (fun b p h=>by
  obtain ⟨ob,h1,h2⟩:=hG b p h
  have hb:b<W.heap.size:=by
   rw [Array.getElem?_eq_some_iff] at h1
   exact h1.1
  exact ⟨fun _=>hb,ob,h1,h2⟩) (fun b _ h=>h) ⟨by simpa using l1.symm,fun m c hm=>by have:=r1 m c hm;simpa [Array.getD_eq_getD_getElem?,List.getD_eq_getElem?_getD] using this,fun _ _ _ _ _ _ _ h=>h.elim⟩ (fun _ _ _ _ h=>h.elim)).mono ?_
 rintro e W' ⟨v,Fz',U',rfl,post⟩
 have hb:∀ b,b<W.heap.size->W'.heap[b]?=W.heap[b]?:=fun b h=>post.blk b h fun _ ⟨_,_,h⟩=>h
 have hv:v=.bool true:=by
  have:=post.res
  cases this with|d _ _ _ h _=>cases h;rfl
 subst hv
 have e1:ds++[]=ds:=List.append_nil ds
 refine ⟨_,rfl,ds,[],p++[],[],p,[],hW0,?_,?_,?_,?_,fun h=>by cases h⟩
 ·rw [e1,hs ds hdl,hrt]
  exact trodAll_mk1 (shut_bool htb true)
 ·rw [e1,hs ds hdl]
  exact aA5 hl hb _ _ _ _ hrd hA
 ·rw [e1,hs ds hdl,hvars]
  rfl
 ·have hk:=World.keptBut_refl W (fun x=>x∈p++[]/\(x∈([]:List MemPlace)\/x∈p\/x∈([]:List MemPlace)))
  exact ⟨post.side.1.trans hk.1,post.side.2.trans hk.2.1,fun i hi=>by rw [hb i hi];exact hk.2.2 i hi⟩
theorem aTu {H:Type} {enc:TypeId×Value->H} {P:Program} {f:FuncId} {fn:Func} {s:ChangeSpec} {apart:Bool} {tb:TypeId} (hl:laidOutB P=true)
  (hpl:(fn.params.toList.all fun t=>vP P 12 t)=true) (hrd:(fn.params.toList.all fun t=>P.readableRec t && decide (t<P.types.size))=true) (hvars:s.vars=[]) (hrt:fn.resultTypes=#[tb]) (htb:P.underlying tb=some .bool)
  (hs:∀ ds:List (DataW H),ds.length=fn.params.toList.length->s.fn H ds={ results:=[.lit (.bool true)],args:=ds })
  (hV:∀ dss:List (List D),aFm P fn.params.toList dss->∃ os,aC P (fun _=>none) f (aB4 P fn.params.toList dss) (.d (.bool true)) os) (W:World) (base:Nat) (args:Array Value) (ds gs:List (DataW H)) (before:List MemPlace)
  (hval:∀ (j:Nat) t v,fn.params[j]?=some t->args[j]?=some v->Value.okWide P W .any base t v) (hW:DataW.Whole enc P fn.params.toList s.vars apart W args.toList ds gs before):
  Calls P f args W fun e W'=>∃ v,e=.returned v/\s.post enc P fn apart true false false W args v W':=
 yI (fun _=>none) hl hpl hrd hvars hrt htb hs hV W (fun b p h=>by cases h) base args ds gs before hval hW
def bM (l:List Int):List (List D):=l.map fun n=>[.int .i64 n]
def aK (l:List (List UInt8)):List (List D):=l.map fun s=>[.str s]
def aJ3 (l:List Bool):List (List D):=l.map fun b=>[.bool b]
@[simp] theorem gW (l:List Int):(bM l).length=l.length:=by simp [bM]
@[simp] theorem aWg (l:List Int) (i:Nat):(bM l)[i]?=(l[i]?).map fun n=>[.int .i64 n]:=by simp [bM]
@[simp] theorem bV (l:List (List UInt8)):(aK l).length=l.length:=by simp [aK]
@[simp] theorem aV3 (l:List (List UInt8)) (i:Nat):(aK l)[i]?=(l[i]?).map fun n=>[.str n]:=by simp [aK]
@[simp] theorem aVD (l:List Bool):(aJ3 l).length=l.length:=by simp [aJ3]
@[simp] theorem aVE (l:List Bool) (i:Nat):(aJ3 l)[i]?=(l[i]?).map fun n=>[.bool n]:=by simp [aJ3]
def aX (n:Int):Prop:=-9223372036854775808<=n/\n<=9223372036854775807
theorem aHQ {α:Type} {p:α->Prop} {f:α->List D}:∀ (rows:List (List D)),(∀ r,r∈rows->∃ x,r=f x/\p x)->∃ l:List α,rows=l.map f/\∀ x,x∈l->p x:=by
 intro rows
 induction rows with
 |nil=>simp
 |cons r rs ih=>
  intro h
  obtain ⟨x,rfl,hx⟩:=h r (by simp)
  obtain ⟨l,rfl,hl⟩:=ih fun r hr=>h r (by grind)
  exact ⟨x::l,rfl,fun y hy=>(List.mem_cons.1 hy).elim (fun e=>e ▸ hx) (hl y)⟩
section
variable {P:Program} {k:Nat} {t e:TypeId} {ds:List D}
theorem aWE (ht:P.underlying t=some .bool) (h:Typ P (k+1) t ds):∃ b,ds=[.bool b]:=by
 grind [Typ]
theorem aSB (ht:P.underlying t=some (.int .i64)) (h:Typ P (k+1) t ds):∃ n,ds=[.int .i64 n]/\aX n:=by
 simp only [Typ,ht] at h
 obtain ⟨n,rfl,hw⟩:=h
 exact ⟨n,rfl,by simp only [Lit.wf,Bool.and_eq_true,decide_eq_true_eq] at hw;exact hw⟩
theorem aUI (ht:P.underlying t=some (.int .u8)) (h:Typ P (k+1) t ds):∃ b:UInt8,ds=[.int .u8 b.toNat]:=by
 simp only [Typ,ht] at h
 obtain ⟨n,rfl,hw⟩:=h
 simp only [Lit.wf,Bool.and_eq_true,decide_eq_true_eq] at hw
 obtain ⟨h1,h2⟩:=hw
 have h3:0<=n:=h1
 have h4:n<=255:=h2
 refine ⟨UInt8.ofNat n.toNat,?_⟩
 grind [UInt8.toNat_ofNat']
theorem aSA (ht:P.underlying t=some .string) (h:Typ P (k+1) t ds):∃ s,ds=[.str s]/\s.length<=maxLen:=by
 grind [Typ]
theorem aHt (ht:P.underlying t=some (.slice e)) (h:Typ P (k+1) t ds):∃ rows,ds=[.slc (P.cellsOf e) rows]/\rows.length<=maxLen/\∀ r,r∈rows->Typ P k e r:=by
 grind [Typ]
theorem aUJ {fs:Array Field} (ht:P.underlying t=some (.struct fs)) (h:Typ P (k+1) t ds):ds.length=P.cellsOf t/\∀ f,f∈fs.toList->Typ P k f.type ((ds.drop f.offset).take (P.cellsOf f.type)):=by
 grind [Typ]
theorem aV2 {fs:Array Field} (h:∀ f,f∈fs.toList->Typ P k f.type ((ds.drop f.offset).take (P.cellsOf f.type))) (i:Nat) {f:Field} (hi:fs[i]?=some f) {n:Nat} (hc:P.cellsOf f.type=n):Typ P k f.type ((ds.drop f.offset).take n):=by
 grind
theorem aOk (ht:P.underlying t=some (.slice e)) (he:P.underlying e=some (.int .u8)) (hc:P.cellsOf e=1) (h:Typ P (k+2) t ds):∃ a:List UInt8,ds=[.slc 1 (aB a)]/\a.length<=maxLen:=by
 obtain ⟨rows,rfl,h1,h2⟩:=aHt ht h
 obtain ⟨l,rfl,_⟩:=aHQ (p:=fun _:UInt8=>True) (f:=fun b=>[D.int .u8 b.toNat]) rows fun r hr=>by grind [aUI]
 exact ⟨l,by rw [hc];rfl,by grind⟩
theorem aWD (ht:P.underlying t=some (.slice e)) (he:P.underlying e=some (.int .i64)) (hc:P.cellsOf e=1) (h:Typ P (k+2) t ds):∃ a:List Int,ds=[.slc 1 (bM a)]/\a.length<=maxLen/\∀ n,n∈a->aX n:=by
 obtain ⟨rows,rfl,h1,h2⟩:=aHt ht h
 obtain ⟨l,rfl,hl⟩:=aHQ (p:=aX) (f:=fun b=>[D.int .i64 b]) rows fun r hr=>aSB he (h2 r hr)
 exact ⟨l,by rw [hc];rfl,by grind,hl⟩
theorem aWC (ht:P.underlying t=some (.slice e)) (he:P.underlying e=some .string) (hc:P.cellsOf e=1) (h:Typ P (k+2) t ds):∃ a:List (List UInt8),ds=[.slc 1 (aK a)]/\a.length<=maxLen/\∀ n,n∈a->n.length<=maxLen:=by
 obtain ⟨rows,rfl,h1,h2⟩:=aHt ht h
 obtain ⟨l,rfl,hl⟩:=aHQ (p:=fun s:List UInt8=>s.length<=maxLen) (f:=fun b=>[D.str b]) rows fun r hr=>aSA he (h2 r hr)
 exact ⟨l,by rw [hc];rfl,by grind,hl⟩
end
theorem aRE {P:Program} {t:TypeId} {dss:List (List D)} (h:aFm P [t] dss):∃ d,dss=[d]/\Typ P 12 t d:=by
 match dss,h with
 |[d],h=>exact ⟨d,rfl,h.1⟩
theorem aWX {P:Program} {t u:TypeId} {dss:List (List D)} (h:aFm P [t,u] dss):∃ d e,dss=[d,e]/\Typ P 12 t d/\Typ P 12 u e:=by
 match dss,h with
 |[d,e],h=>exact ⟨d,e,rfl,h.1,h.2.1⟩
theorem aVx {P:Program} {t u v:TypeId} {dss:List (List D)} (h:aFm P [t,u,v] dss):∃ d e f,dss=[d,e,f]/\Typ P 12 t d/\Typ P 12 u e/\Typ P 12 v f:=by
 match dss,h with
 |[d,e,f],h=>exact ⟨d,e,f,rfl,h.1,h.2.1,h.2.2.1⟩
open Go.Sort
theorem aMY {w w':World} {Fz:bK} {args:Array Value} {v:Value} {r:C} {os:List (Option C)} (hFz:∀ b o,Fz b o->b<w.heap.size) (hside:w'.os=w.os/\w'.output=w.output) (hsize:w.heap.size<=w'.heap.size) (hblk:∀ b,b<w.heap.size->w'.heap[b]?=w.heap[b]?)
  (hr:RC w' Fz r v (fun _ _=>False)) (ho:∀ (m:Nat) c,os[m]?≠some (some c)) (S:bK):∃ U',aVY w w' Fz Fz S args v r os U':=
 ⟨fun _ _ _=>False,hside,hsize,fun b hb _=>hblk b hb,fun b o hb _=>nV (hblk b hb) o,fun _ _ h=>h,fun b o h=>Nat.lt_of_lt_of_le (hFz b o h) hsize,fun _ _ h=>.inl h,hr,fun m c h=>absurd h (ho m c),fun _ _ _ _ _ h=>h.elim,fun _ _ _ h=>h.elim⟩
theorem aMZ (w:World) (k:Nat) (os:Array Obj):(grow (w.drewN k) os).os=w.os/\(grow (w.drewN k) os).output=w.output/\w.heap.size<=(grow (w.drewN k) os).heap.size/\∀ b,b<w.heap.size->(grow (w.drewN k) os).heap[b]?=w.heap[b]?:=by
 refine ⟨rfl,rfl,?_,fun b hb=>?_⟩
 ·simp
 ·show (w.heap++os)[b]?=w.heap[b]?
  rw [Array.getElem?_append_left hb]
theorem aTr {P:Program} {G:GV} {f:FuncId} {k:IntKind} {n:Int} {r:D} {rv:Value} (hgo:aSd P f) (hr:∀ w Fz,Shr w Fz rv r)
  (h:∀ w,(∀ b p,G b=some p->∃ ob,w.heap[b]?=some ob/\p ob)->Calls P f #[.int k n] w fun e w'=>e=.returned rv/\∃ j os,w'=grow (w.drewN j) os):aC P G f [.d (.int k n)] (.d r) [none]:=by
 refine ⟨hgo,fun w args Fz U hG hFz hRC hap=>?_⟩
 obtain ⟨hl,hRC,_⟩:=hRC
 have h0:=hRC 0 _ rfl
 generalize hv0:args.getD 0 Go.undef=v0 at h0
 have hargs:args=#[.int k n]:=by
  cases h0 with|d _ _ _ hs _=>?_
  cases hs
  apply Array.ext
  ·grind
  simp_all
 subst hargs
 refine (h w fun b p hb=>(hG b p hb).2).mono ?_
 rintro e w' ⟨rfl,j,os,rfl⟩
 obtain ⟨g1,g2,g3,g4⟩:=aMZ w j os
 obtain ⟨U',hp⟩:=aMY (w:=w) (w':=grow (w.drewN j) os) (Fz:=Fz) (args:=#[.int k n]) (v:=rv) (r:=.d r) (os:=[none]) hFz ⟨g1,g2⟩ g3 g4 (.d _ _ _ (hr _ _) fun _ _ h=>h) (fun m c hm=>by
  grind) (fun x y=>∃ i,i<[C.d (D.int k n)].length/\U i x y)
 grind
theorem aT2 {w:World} {Fz:bK} {v:Value} {sz:Nat} {rows:List (List D)} (h:Shr w Fz v (.slc sz rows)):(∃ a cap,v=.slice a 0 cap/\rows=[]) ∨
  ∃ (b off cap:Nat) (vs:Nat->Value),v=.slice (some (at_ b off)) rows.length cap/\rows.length<=cap/\∀ (m:Nat) d,rows.flatten[m]?=some d->w.cell? (at_ b (off+m))=some (vs m)/\Shr w Fz (vs m) d:=by
 cases h with
 |emp a cap=>simp
 |slc b off cap _ _ vs hr hcap hc hs=>exact .inr ⟨b,off,cap,vs,rfl,hcap,fun m d hm=>⟨(hc m d hm).1,hs m d hm⟩⟩
theorem aW9 {w:World} {Fz:bK} {a b:D} {args:Array Value} {U:Nat->bK} (h:RCs w Fz [.d a,.d b] args U):∃ u v,args=#[u,v]/\Shr w Fz u a/\Shr w Fz v b:=by
 obtain ⟨hl,hRC,_⟩:=h
 have h0:=hRC 0 _ rfl
 have h1:=hRC 1 _ rfl
 have hl':args.size=2:=hl
 refine ⟨args.getD 0 Go.undef,args.getD 1 Go.undef,?_,?_,?_⟩
 ·apply Array.ext
  ·grind
  ·intro i i1 i2
   have:i=0\/i=1:=by grind
   rcases this with rfl|rfl<;>simp [Array.getD_eq_getD_getElem?,i1]
 ·generalize args.getD 0 Go.undef=v0 at h0;cases h0;grind
 ·generalize args.getD 1 Go.undef=v0 at h1;cases h1;grind
theorem qK {P:Program} {vl:List Nat} {nt:Nat×List Nat} {V:FuncId->List C->C->List (Option C)->Prop} {a b:aI} {st:St} {Kn:St->Prop} {Ke:Nat->St->Prop} {Kr:St->Prop} (live:List Nat) (M:St->Prop)
  (h1:W P vl nt V a st (fun st'=>M (gc live st')) Ke Kr) (h2:∀ st',M st'->W P vl nt V b st' Kn Ke Kr):W P vl nt V (.seq a b) st Kn Ke Kr:=
 aN (W.mono h1 (fun _ hm=>aVV live (h2 _ hm)) (fun _ _ h=>h) (fun _ h=>h))
theorem aBx {P:Program} {G:GV} {f:FuncId} (ds:List D) {r:C} (hgo:aSd P f)
  (h:∀ (w:World) (Fz:bK) (args:Array Value),(∀ b p,G b=some p->∃ ob,w.heap[b]?=some ob/\p ob)->(∀ b o,Fz b o->b<w.heap.size)->args.size=ds.length->(∀ (i:Nat) d,ds[i]?=some d->Shr w Fz (args.getD i Go.undef) d) →
   Calls P f args w fun e w'=>∃ v Fz' S,e=.returned v/\(w'.os=w.os/\w'.output=w.output)/\w.heap.size<=w'.heap.size/\(∀ b,b<w.heap.size->w'.heap[b]?=w.heap[b]?) ∧
    (∀ b o,Fz b o->Fz' b o)/\(∀ b o,Fz' b o->(Fz b o\/w.heap.size<=b)/\b<w'.heap.size)/\RC w' Fz' r v S/\∀ x y,S x y->w.heap.size<=x/\¬Fz' x y/\x<w'.heap.size):
  aC P G f (ds.map .d) r (List.replicate ds.length none):=by
 refine ⟨hgo,fun w args Fz U hG hFz hRC hap=>?_⟩
 obtain ⟨hl,hRC,_⟩:=hRC
 refine (h w Fz args (fun b p hb=>(hG b p hb).2) hFz (by simpa using hl) (fun i d hd=>?_)).mono ?_
 ·have h0:=hRC i (.d d) (by simp [hd])
  generalize args.getD i Go.undef=v0 at h0
  cases h0
  assumption
 ·rintro e w' ⟨v,Fz',S,rfl,hside,hsize,hblk,hF1,hF2,hr,hS⟩
  have keep:∀ b o,b<w.heap.size->w'.cell? (at_ b o)=w.cell? (at_ b o)/\w'.frz? (at_ b o)=w.frz? (at_ b o):=fun b o hb=>nV (hblk b hb) o
  refine ⟨v,Fz',fun i=>if i=0 then S else fun _ _=>False,rfl,hside,hsize,fun b hb _=>hblk b hb,fun b o hb _=>keep b o hb,hF1,fun b o hb=>(hF2 b o hb).2,fun b o hb=>?_,hr,?_,?_,?_⟩
  ·rcases (hF2 b o hb).1 with h|h
   ·exact .inl h
   ·exact .inr (.inr h)
  ·intro m c hm
   rw [List.getElem?_replicate] at hm
   split at hm<;>cases hm
  ·intro i j hij x y hx hy
   by_cases hi:i=0
   ·subst hi
    rw [if_neg (by omega)] at hy
    exact hy
   ·simp only [hi,if_false] at hx
  ·intro i x y hx
   by_cases hi:i=0
   ·subst hi
    obtain ⟨h1,h2,h3⟩:=hS x y hx
    exact ⟨.inr h1,h2,h3⟩
   ·simp only [hi,if_false] at hx
@[simp] theorem aVH (t:Nat) (k:IntKind) (n:Int):qU .err .neq (.d (.ifc t k n)) (.d (.err true))=out (.d (.bool true)):=id rfl
@[simp] theorem aVI (t:Nat) (k:IntKind) (n:Int):qU .err .eql (.d (.ifc t k n)) (.d (.err true))=out (.d (.bool false)):=id rfl
@[simp] theorem aVJ (b:Bool):qU .err .neq (.d (.err b)) (.d (.err true))=out (.d (.bool (!b))):=id rfl
@[simp] theorem aVK (b:Bool):qU .err .eql (.d (.err b)) (.d (.err true))=out (.d (.bool b)):=id rfl
theorem aBb {w:World} {Fz:bK} {v:Value} {s:List UInt8} (h:Shr w Fz v (.str s)):v=.string ⟨s.toArray⟩:=by cases h;rfl
theorem aSJ {w:World} {Fz:bK} {v:Value} {k:IntKind} {n:Int} (h:Shr w Fz v (.int k n)):v=.int k n:=by cases h;rfl
theorem aXe {w:World} {Fz:bK} {v:Value} {t:Nat} {k:IntKind} {n:Int} (h:Shr w Fz v (.ifc t k n)):v=.iface t (.int k n):=by cases h;rfl
theorem aDY {args:Array Value} {l:List Value} (h:args.size=l.length) (hg:∀ (i:Nat) v,l[i]?=some v->args.getD i Go.undef=v):args=l.toArray:=by
 apply Array.ext
 ·simpa using h
 ·intro i h1 h2
  have h3:i<l.length:=by simpa using h2
  have:=hg i _ (List.getElem?_eq_getElem h3)
  rw [Array.getD_eq_getD_getElem?,Array.getElem?_eq_getElem h1] at this
  simpa using this
theorem jE (l:List Int):∀ row,row∈bM l->∀ d,d∈row->oB 0 d:=by
 intro row hr d hd
 simp only [bM,List.mem_map] at hr
 obtain ⟨x,_,rfl⟩:=hr
 simp at hd;subst hd;simp [oB]
theorem cC (l:List (List UInt8)):∀ row,row∈aK l->∀ d,d∈row->oB 0 d:=by
 intro row hr d hd
 simp only [aK,List.mem_map] at hr
 obtain ⟨x,_,rfl⟩:=hr
 simp at hd;subst hd;simp [oB]
theorem aZ (l:List UInt8):∀ row,row∈aB l->∀ d,d∈row->oB 0 d:=by
 intro row hr d hd
 simp only [aB,List.mem_map] at hr
 obtain ⟨x,_,rfl⟩:=hr
 simp at hd;subst hd;simp [oB]
end Go.Proofs.YtiejbbcpihpgpaaGreatDoor.Ab

set_option linter.unusedVariables false
namespace Go.Proofs.YtiejbbcpihpgpaaGreatDoor.Ab
section
variable {P:Program} {vl:List Nat} {nt:Nat×List Nat} {V:FuncId->List C->C->List (Option C)->Prop} {st:St} {Kn:St->Prop} {Ke:Nat->St->Prop} {Kr:St->Prop}
theorem iX {ops:List cM} (h:∀ K:St->Prop,(∀ st',Kn ⟨[],st'.vars,st'.objs,st.nx+64*ops.length⟩->K st')->uI V st.nx 0 ops st K):W P vl nt V (.reg ops false) st Kn Ke Kr:=
 wW (aHT _ _ _ _ (h (fun st'=>Kn ⟨[],st'.vars,st'.objs,st.nx+64*ops.length⟩) fun _ h=>h))
theorem fS {ops:List cM} (h:∀ K:St->Prop,(∀ st',Kn ⟨[],st'.vars,st'.objs,st.nx+64*ops.length⟩->K st')->tB V st.nx 0 ops [] true st K):W P vl nt V (.reg ops true) st Kn Ke Kr:=
 wW (aBm _ _ _ _ _ (h (fun st'=>Kn ⟨[],st'.vars,st'.objs,st.nx+64*ops.length⟩) fun _ h=>h)).2
theorem aW {c:Prop} [Decidable c] {a b:Prop} (hc:decide c=true) (h:a):if c then a else b:=by rw [if_pos (of_decide_eq_true hc)];grind
theorem bB {c:Prop} [Decidable c] {a b:Prop} (hc:decide c=false) (h:b):if c then a else b:=by rw [if_neg (of_decide_eq_false hc)];grind
theorem aXw {b:Bool} {p:Prop} (h1:b=true) (h2:p):aT0 b/\p:=⟨h1,h2⟩
end
theorem aK5 {c:Ctx} {g:Gh} {h h':Nat->Option O} {w:World} (hi:fB c g h w) {q k sz:Nat} (hq:¬g.Nm q) (N:Nat->Prop) (hN:∀ n,N n->n≠q)
  (h1:h' q=some (.arr 0 k sz [])) (h2:∀ n,n≠q->¬N n->h' n=h n)
  (h3:∀ n,N n->∃ cells cells',h n=some (.box cells)/\h' n=some (.box cells')/\cells'.length=cells.length/\∀ (m:Nat) (a:A),cells'[m]?=some a->(cells[m]?=some a\/(a=.sl q/\∃ k' sz',cells[m]?=some (.nil k' sz')))):
  ∃ g',fB c g' h' w/\Ext g g' h h' w w/\(∀ n,g'.Nm n->g.Nm n\/n=q)/\∀ k' sz' v,RA g h w (.nil k' sz') v->RA g' h' w (.sl q) v:=by
 have hhq:h q=none:=by
  cases e:h q with
  |none=>rfl
  |some o=>exact absurd (hi.nm q o e) hq
 refine ⟨⟨fun n=>if n=q then .slice none 0 0 else g.ν n,fun n=>if n=q then fun _ _=>False else g.F n,g.Fz,fun n=>g.Nm n\/n=q⟩,?_⟩
 have key:=rJ (g':=⟨fun n=>if n=q then .slice none 0 0 else g.ν n,fun n=>if n=q then fun _ _=>False else g.F n,g.Fz,fun n=>g.Nm n\/n=q⟩) (h':=h') (w':=w) hi (fun n=>n=q\/N n) ⟨rfl,rfl⟩ (Nat.le_refl _)
  (fun n hn=>⟨h2 n (fun e=>hn (.inl e)) (fun e=>hn (.inr e)),fun _=>if_neg fun e=>hn (.inl e)⟩) (fun n hn=>.inl hn) (fun n hn=>if_neg fun e=>by grind) (fun _ _ _=>rfl) (fun _ _ _ _=>⟨rfl,rfl⟩) (fun _ _ h=>h) (fun _ _ h=>.inl h)
  (fun n ver k' sz' rows hM hn hh=>by
   grind)
  (fun x n o hM hh=>by
   rcases hM with rfl|hM
   ·rw [h1] at hh
    cases hh
    exact ⟨.inr rfl,.inl ⟨if_pos rfl,rfl,fun x y hf=>by grind⟩⟩
   ·obtain ⟨cells,cells',e1,e2,hl,hc⟩:=h3 n hM
    have hnm:=hi.nm n _ e1
    rw [e2] at hh
    cases hh
    have ho:=hi.obj n _ e1
    have hnq:=hN n hM
    obtain ⟨b,o,e,hr,hf,hcc⟩:=ho
    refine ⟨.inl hnm,b,o,by grind,by rw [hl];grind,fun x y=>by grind,fun m a hm=>?_⟩
    rcases hc m a hm with hm'|⟨rfl,k',sz',hm'⟩
    ·obtain ⟨u,hu,hu1,hra⟩:=hcc m a hm'
     exact ⟨u,hu,hu1,hra.ext x⟩
    ·obtain ⟨u,hu,hu1,hra⟩:=hcc m _ hm'
     cases hra
     have:=RA.sl (g:=⟨fun n=>if n=q then .slice none 0 0 else g.ν n,fun n=>if n=q then fun _ _=>False else g.F n,g.Fz,fun n=>g.Nm n\/n=q⟩) (h:=h') (w:=w) q (.inr rfl) (by grind)
     grind)
  (fun n o hM hh x y hf=>by
   rcases hM with rfl|hM
   ·grind
   ·obtain ⟨cells,cells',e1,e2,hl,hc⟩:=h3 n hM
    simp only [if_neg (hN n hM)] at hf
    exact ⟨.inl ⟨n,_,.inr hM,e1,hf⟩,hi.lt n _ e1 x y hf,(hi.mine n _ e1 x y hf).2⟩)
  (fun n m o o' hM hM' hh hh' hne x y hf hf'=>by
   by_cases hn:n=q
   ·simp_all
   ·by_cases hm:m=q
    ·simp_all
    ·simp only [if_neg hn] at hf
     simp only [if_neg hm] at hf'
     obtain ⟨_,_,e1,_⟩:=h3 n (hM.resolve_left hn)
     obtain ⟨_,_,e2,_⟩:=h3 m (hM'.resolve_left hm)
     exact hi.disj n m _ _ e1 e2 hne x y hf hf')
 refine ⟨key.1,key.2,fun n h=>h,fun k' sz' v hv=>?_⟩
 cases hv
 have:=RA.sl (g:=⟨fun n=>if n=q then .slice none 0 0 else g.ν n,fun n=>if n=q then fun _ _=>False else g.F n,g.Fz,fun n=>g.Nm n\/n=q⟩) (h:=h') (w:=w) q (.inr rfl) (by simp only [if_true];rfl)
 grind
section
variable {P:Program} {vl:List Nat} {nt:Nat×List Nat} {V:FuncId->List C->C->List (Option C)->Prop} {st:St} {Kn:St->Prop} {Ke:Nat->St->Prop} {Kr:St->Prop}
theorem aNh {ac:aI} (n j:Nat) {k sz:Nat} {cells:List A} (hn:cQ st.objs n=some (.box cells)) (hj:cells[j]?=some (.nil k sz))
  (h:W P vl nt V ac ⟨st.tmps,st.vars,qM st.objs [(n,some (.box (cells.set j (.sl st.nx)))),(st.nx,some (.arr 0 k sz []))],st.nx+1⟩ Kn Ke Kr):W P vl nt V ac st Kn Ke Kr:=by
 intro code hc c hV g act w hi hnm
 have hq:¬g.Nm st.nx:=fun e=>by have:=hnm _ e;omega
 have hnq:n≠st.nx:=fun e=>hq (e ▸ hi.h.nm n _ hn)
 obtain ⟨g',hI,hx,hN,_⟩:=aK5 (q:=st.nx) (k:=k) (sz:=sz) (h':=cQ (qM st.objs [(n,some (.box (cells.set j (.sl st.nx)))),(st.nx,some (.arr 0 k sz []))])) hi.h hq (fun m=>m=n) (fun m e=>e ▸ hnq) (by rw [fT];simp [eS]) (fun m h1 h2=>by rw [fT];grind [eS]) (fun m e=>by
  subst e
  refine ⟨cells,cells.set j (.sl st.nx),hn,by rw [fT];grind [eS],by simp,fun i a hi=>?_⟩
  rw [List.getElem?_set] at hi
  grind)
 refine h code hc c hV g' act w ⟨⟨fun s x hs=>?_,fun s x hs=>?_,hi.s.defers⟩,hI,hi.ntz,hi.pin⟩ fun m hm=>?_
 ·obtain ⟨h1,h2,h3⟩:=hi.s.loc s x hs;exact ⟨h1,h2,h3.ext hx⟩
 ·obtain ⟨h1,h2,h3⟩:=hi.s.var s x hs;exact ⟨h1,h2,h3.ext hx⟩
 grind
theorem kX {ac:aI} (s j:Nat) {n o k sz:Nat} {cells:List A} (hs:cQ st.vars s=some (.ptr n o)) (hn:cQ st.objs n=some (.box cells)) (hj:cells[j]?=some (.nil k sz))
  (h:W P vl nt V ac ⟨st.tmps,st.vars,qM st.objs [(n,some (.box (cells.set j (.sl st.nx)))),(st.nx,some (.arr 0 k sz []))],st.nx+1⟩ Kn Ke Kr):W P vl nt V ac st Kn Ke Kr:=aNh n j hn hj h
theorem aVU {ac:aI} (s:Nat) {k sz:Nat} (hs:cQ st.vars s=some (.nil k sz))
  (h:W P vl nt V ac ⟨st.tmps,put st.vars s (.sl st.nx),qM st.objs [(st.nx,some (.arr 0 k sz []))],st.nx+1⟩ Kn Ke Kr):W P vl nt V ac st Kn Ke Kr:=by
 intro code hc c hV g act w hi hnm
 have hq:¬g.Nm st.nx:=fun e=>by have:=hnm _ e;omega
 obtain ⟨g',hI,hx,hN,hra⟩:=aK5 (q:=st.nx) (k:=k) (sz:=sz) (h':=cQ (qM st.objs [(st.nx,some (.arr 0 k sz []))])) hi.h hq (fun _=>False) (fun _ e=>e.elim) (by rw [fT];simp [eS]) (fun m h1 h2=>by rw [fT];grind [eS]) (fun m e=>e.elim)
 refine h code hc c hV g' act w ⟨⟨fun s x hs=>?_,fun s' x hs'=>?_,hi.s.defers⟩,hI,hi.ntz,hi.pin⟩ fun m hm=>?_
 ·obtain ⟨h1,h2,h3⟩:=hi.s.loc s x hs;exact ⟨h1,h2,h3.ext hx⟩
 ·rw [nQ] at hs'
  split at hs'
  ·rename_i e;subst e
   obtain ⟨h1,h2,h3⟩:=hi.s.var s' _ hs
   grind
  ·obtain ⟨h1,h2,h3⟩:=hi.s.var s' x hs';exact ⟨h1,h2,h3.ext hx⟩
 grind
end
end Go.Proofs.YtiejbbcpihpgpaaGreatDoor.Ab

set_option linter.unusedVariables false
namespace Go.Proofs.YtiejbbcpihpgpaaGreatDoor.Ab
theorem aLs {c:Ctx} {g:Gh} {h h':Nat->Option O} {w:World} (hi:fB c g h w) {n ver k sz:Nat} {rows rows2:List (List D)} {a0:A} (hn:h n=some (.arr ver k sz rows)) (N:Nat->Prop) (hN:∀ m,N m->m≠n)
  (ha:(a0=.sl n/\rows2=rows)\/∃ lo hi,a0=.sv n sz lo hi/\rows2=(rows.take hi).drop lo)
  (h1:h' n=none) (h2:∀ m,m≠n->¬N m->h' m=h m)
  (h3:∀ m,N m->∃ cells cells',h m=some (.box cells)/\h' m=some (.box cells')/\cells'.length=cells.length/\∀ (i:Nat) (a:A),cells'[i]?=some a->(cells[i]?=some a\/(a=.d (.slc sz rows2)/\cells[i]?=some a0))):
  ∃ g',fB c g' h' w/\Ext g g' h h' w w/\(∀ m,g'.Nm m->g.Nm m)/\∀ v,RA g h w a0 v->RA g' h' w (.d (.slc sz rows2)) v:=by
 have hown:Own w g.Fz (k+1) (g.ν n) (.slc sz rows) (g.F n):=hi.obj n _ hn
 let g':Gh:={ g with Fz:=fun b o=>g.Fz b o\/g.F n b o }
 have hsh:∀ v,RA g h w a0 v->Shr w g'.Fz v (.slc sz rows2):=by
  intro v hv
  rcases ha with ⟨rfl,rfl⟩|⟨lo,hi2,rfl,rfl⟩
  ·cases hv
   grind [Own.shr]
  ·cases hv with|sv _ _ _ _ len cap a a1 hn2 ev q1 q2 q3 q4 q5 q6=>?_
   rw [ev] at hown
   obtain ⟨S',ho',hS⟩:=hown.sub q1 q2 q3 q4 q5
   grind [Own.shr]
 have key:=rJ (g':=g') (h':=h') (w':=w) hi (fun m=>m=n\/N m) ⟨rfl,rfl⟩ (Nat.le_refl _)
  (fun m hM=>⟨h2 m (fun e=>hM (.inl e)) (fun e=>hM (.inr e)),fun _=>rfl⟩) (fun m hm=>hm) (fun m hm=>rfl) (fun _ _ _=>rfl) (fun _ _ _ _=>⟨rfl,rfl⟩) (fun _ _ h=>.inl h) (fun b o h=>h.imp id fun h=>.inl ⟨n,_,.inl rfl,hn,h⟩)
  (fun m ver2 k2 sz2 rows2 hM hm hh=>by
   grind)
  (fun x m o hM hh=>by
   rcases hM with rfl|hM
   ·grind
   ·obtain ⟨cells,cells',e1,e2,hl,hc⟩:=h3 m hM
    have hnm:=hi.nm m _ e1
    rw [e2] at hh
    cases hh
    have ho:=hi.obj m _ e1
    obtain ⟨b,o,e,hr,hf,hcc⟩:=ho
    refine ⟨hnm,b,o,e,by grind,fun x y=>by grind,fun i a hm=>?_⟩
    rcases hc i a hm with hm'|⟨rfl,hm'⟩
    ·obtain ⟨u,hu,hu1,hra⟩:=hcc i a hm'
     exact ⟨u,hu,hu1,hra.ext x⟩
    ·obtain ⟨u,hu,hu1,hra⟩:=hcc i _ hm'
     exact ⟨u,hu,hu1,.d _ _ (hsh u hra)⟩)
  (fun m o hM hh x y hf=>by
   rcases hM with rfl|hM
   ·grind
   ·obtain ⟨cells,cells',e1,e2,hl,hc⟩:=h3 m hM
    exact ⟨.inl ⟨m,_,.inr hM,e1,hf⟩,hi.lt m _ e1 x y hf,fun hz=>hz.elim (hi.mine m _ e1 x y hf).2 (hi.disj m n _ _ e1 hn (hN m hM) x y hf)⟩)
  (fun m m' o o' hM hM' hh hh' hne x y hf hf'=>by
   rcases hM with rfl|hM
   ·grind
   ·rcases hM' with rfl|hM'
    ·grind
    ·obtain ⟨_,_,e1,_⟩:=h3 m hM
     obtain ⟨_,_,e2,_⟩:=h3 m' hM'
     exact hi.disj m m' _ _ e1 e2 hne x y hf hf')
 exact ⟨g',key.1,key.2,fun m h=>h,fun v hv=>.d _ _ (hsh v hv)⟩
theorem aQo {c:Ctx} {g:Gh} {h h':Nat->Option O} {w:World} (hi:fB c g h w) {q n ver k sz lo hi2:Nat} {rows:List (List D)} (hq:¬g.Nm q) (hn:h n=some (.arr ver k sz rows)) {m:Nat} {cells:List A} {j:Nat} (hmn:m≠n) (hm:h m=some (.box cells))
  (hj:cells[j]?=some (.sv n sz lo hi2)) (h1:h' n=none) (h0:h' q=some (.arr 0 k sz ((rows.take hi2).drop lo))) (h3:h' m=some (.box (cells.set j (.sl q)))) (h2:∀ x,x≠n->x≠q->x≠m->h' x=h x):
  ∃ g',fB c g' h' w/\Ext g g' h h' w w/\∀ x,g'.Nm x->g.Nm x\/x=q:=by
 have hown:Own w g.Fz (k+1) (g.ν n) (.slc sz rows) (g.F n):=hi.obj n _ hn
 have hnn:=hi.nm n _ hn
 have hmm:=hi.nm m _ hm
 have hnq:n≠q:=fun e=>hq (e ▸ hnn)
 have hmq:m≠q:=fun e=>hq (e ▸ hmm)
 obtain ⟨b,o,e,hr,hf,hcc⟩:=hi.obj m _ hm
 obtain ⟨u,hu,hu1,hra⟩:=hcc j _ hj
 have hos:∃ S',Own w g.Fz (k+1) u (.slc sz ((rows.take hi2).drop lo)) S'/\∀ x y,S' x y->g.F n x y:=by
  cases hra with|sv _ _ _ _ len cap a a1 hn2 ev q1 q2 q3 q4 q5 q6=>?_
  rw [ev] at hown
  exact hown.sub q1 q2 q3 q4 q5
 obtain ⟨S',ho',hS⟩:=hos
 let g':Gh:={ ν:=fun x=>if x=q then u else g.ν x,F:=fun x=>if x=q then S' else g.F x,Fz:=g.Fz,Nm:=fun x=>g.Nm x\/x=q }
 have key:=rJ (g':=g') (h':=h') (w':=w) hi (fun x=>x=n\/x=q\/x=m) ⟨rfl,rfl⟩ (Nat.le_refl _)
  (fun x hM=>⟨h2 x (fun e=>hM (.inl e)) (fun e=>hM (.inr (.inl e))) (fun e=>hM (.inr (.inr e))),fun _=>if_neg fun e=>hM (.inr (.inl e))⟩) (fun x hx=>.inl hx) (fun x hx=>if_neg fun e=>by grind) (fun _ _ _=>rfl) (fun _ _ _ _=>⟨rfl,rfl⟩) (fun _ _ h=>h) (fun b o h=>.inl h)
  (fun x ver2 k2 sz2 rows2 hM hx hh=>by
   grind)
  (fun x y o' hM hh=>by
   rcases hM with rfl|rfl|rfl
   ·grind
   ·rw [h0] at hh;cases hh
    refine ⟨.inr rfl,?_⟩
    have e2:g'.ν y=u:=if_pos rfl
    have e3:g'.F y=S':=if_pos rfl
    have goal:Own w g'.Fz (k+1) (g'.ν y) (.slc sz ((rows.take hi2).drop lo)) (g'.F y):=by grind
    exact goal
   ·rw [h3] at hh;cases hh
    have e3:g'.F y=g.F y:=if_neg hmq
    have e2:g'.ν y=g.ν y:=if_neg hmq
    refine ⟨.inl hmm,b,o,e2.trans e,by grind,fun x z=>by grind,fun i a ha=>?_⟩
    rw [List.getElem?_set] at ha
    split at ha
    ·rename_i ei;subst ei
     split at ha
     ·cases ha
      refine ⟨u,hu,hu1,?_⟩
      have e4:g'.ν q=u:=if_pos rfl
      have:=RA.sl (g:=g') (h:=h') (w:=w) q (.inr rfl) (by grind)
      grind
     grind
    ·obtain ⟨u2,hu2,hu3,hra2⟩:=hcc i a ha
     exact ⟨u2,hu2,hu3,hra2.ext x⟩)
  (fun x o' hM hh y z hfx=>by
   rcases hM with rfl|rfl|rfl
   ·rw [h1] at hh;cases hh
   ·have e3:g'.F x=S':=if_pos rfl
    rw [e3] at hfx
    have:=hS y z hfx
    exact ⟨.inl ⟨n,_,.inl rfl,hn,this⟩,hi.lt n _ hn y z this,(hi.mine n _ hn y z this).2⟩
   ·have e3:g'.F x=g.F x:=if_neg hmq
    rw [e3] at hfx
    exact ⟨.inl ⟨x,_,.inr (.inr rfl),hm,hfx⟩,hi.lt x _ hm y z hfx,(hi.mine x _ hm y z hfx).2⟩)
  (fun x x' o1 o2 hM hM' hh hh' hne y z hf1 hf2=>by
   have e3:g'.F q=S':=if_pos rfl
   have e4:g'.F m=g.F m:=if_neg hmq
   rcases hM with rfl|rfl|rfl
   ·rw [h1] at hh;cases hh
   ·rcases hM' with rfl|rfl|rfl
    ·rw [h1] at hh';cases hh'
    ·exact hne rfl
    ·rw [e3] at hf1;rw [e4] at hf2
     exact hi.disj n _ _ _ hn hm (Ne.symm hmn) y z (hS y z hf1) hf2
   ·rcases hM' with rfl|rfl|rfl
    ·rw [h1] at hh';cases hh'
    ·rw [e4] at hf1;rw [e3] at hf2
     exact hi.disj n _ _ _ hn hm (Ne.symm hmn) y z (hS y z hf2) hf1
    ·exact hne rfl)
 grind
section
variable {P:Program} {vl:List Nat} {nt:Nat×List Nat} {V:FuncId->List C->C->List (Option C)->Prop} {st:St} {Kn:St->Prop} {Ke:Nat->St->Prop} {Kr:St->Prop}
theorem aJ5 {ac:aI} (m j:Nat) {n ver k sz:Nat} {rows:List (List D)} {cells:List A} (hm:cQ st.objs m=some (.box cells)) (hj:cells[j]?=some (.sl n)) (hn:cQ st.objs n=some (.arr ver k sz rows))
  (h:W P vl nt V ac ⟨st.tmps,st.vars,qM st.objs [(n,none),(m,some (.box (cells.set j (.d (.slc sz rows)))))],st.nx⟩ Kn Ke Kr):W P vl nt V ac st Kn Ke Kr:=by
 intro code hc c hV g act w hi hnm
 have hmn:m≠n:=fun e=>by grind
 obtain ⟨g',hI,hx,hN,_⟩:=aLs (h':=cQ (qM st.objs [(n,none),(m,some (.box (cells.set j (.d (.slc sz rows)))))])) hi.h hn (fun x=>x=m) (fun x e=>e ▸ hmn) (.inl ⟨rfl,rfl⟩) (by rw [fT];simp [eS,Ne.symm hmn]) (fun x h1 h2=>by rw [fT];grind [eS]) (fun x e=>by
  subst e
  refine ⟨cells,cells.set j (.d (.slc sz rows)),hm,by rw [fT];simp [eS],by simp,fun i a hi=>?_⟩
  grind)
 refine h code hc c hV g' act w ⟨⟨fun s x hs=>?_,fun s x hs=>?_,hi.s.defers⟩,hI,hi.ntz,hi.pin⟩ fun x hx=>hnm x (hN x hx)
 ·obtain ⟨h1,h2,h3⟩:=hi.s.loc s x hs;exact ⟨h1,h2,h3.ext hx⟩
 ·obtain ⟨h1,h2,h3⟩:=hi.s.var s x hs;exact ⟨h1,h2,h3.ext hx⟩
theorem aVW {ac:aI} (s:Nat) {n ver k sz:Nat} {rows:List (List D)} (hs:cQ st.vars s=some (.sl n)) (hn:cQ st.objs n=some (.arr ver k sz rows))
  (h:W P vl nt V ac ⟨st.tmps,put st.vars s (.d (.slc sz rows)),qM st.objs [(n,none)],st.nx⟩ Kn Ke Kr):W P vl nt V ac st Kn Ke Kr:=by
 intro code hc c hV g act w hi hnm
 obtain ⟨g',hI,hx,hN,hra⟩:=aLs (h':=cQ (qM st.objs [(n,none)])) hi.h hn (fun x=>False) (fun x e=>e.elim) (.inl ⟨rfl,rfl⟩) (by rw [fT];simp [eS]) (fun x h1 h2=>by rw [fT];grind [eS]) (fun x e=>e.elim)
 refine h code hc c hV g' act w ⟨⟨fun s x hs=>?_,fun s' x hs'=>?_,hi.s.defers⟩,hI,hi.ntz,hi.pin⟩ fun x hx=>hnm x (hN x hx)
 ·obtain ⟨h1,h2,h3⟩:=hi.s.loc s x hs;exact ⟨h1,h2,h3.ext hx⟩
 ·rw [nQ] at hs'
  split at hs'
  ·rename_i e;subst e
   obtain ⟨h1,h2,h3⟩:=hi.s.var s' _ hs
   grind
  ·obtain ⟨h1,h2,h3⟩:=hi.s.var s' x hs';exact ⟨h1,h2,h3.ext hx⟩
theorem aVS {ac:aI} (m j:Nat) {n ver k sz lo hi2:Nat} {rows:List (List D)} {cells:List A} (hm:cQ st.objs m=some (.box cells)) (hj:cells[j]?=some (.sv n sz lo hi2)) (hn:cQ st.objs n=some (.arr ver k sz rows))
  (h:W P vl nt V ac ⟨st.tmps,st.vars,qM st.objs [(n,none),(m,some (.box (cells.set j (.sl st.nx)))),(st.nx,some (.arr 0 k sz ((rows.take hi2).drop lo)))],st.nx+1⟩ Kn Ke Kr):W P vl nt V ac st Kn Ke Kr:=by
 intro code hc c hV g act w hi hnm
 have hmn:m≠n:=fun e=>by grind
 have hq:¬g.Nm st.nx:=fun e=>by grind
 have hnq:n≠st.nx:=fun e=>hq (e ▸ hi.h.nm n _ hn)
 have hmq:m≠st.nx:=fun e=>hq (e ▸ hi.h.nm m _ hm)
 obtain ⟨g',hI,hx,hN⟩:=aQo (q:=st.nx) (lo:=lo) (hi2:=hi2) (h':=cQ (qM st.objs [(n,none),(m,some (.box (cells.set j (.sl st.nx)))),(st.nx,some (.arr 0 k sz ((rows.take hi2).drop lo)))])) hi.h hq hn hmn hm hj
  (by rw [fT];simp [eS,hnq,Ne.symm hmn]) (by rw [fT];simp [eS]) (by rw [fT];grind [eS]) (fun x h1 h2 h3=>by rw [fT];grind [eS])
 refine h code hc c hV g' act w ⟨⟨fun s x hs=>?_,fun s x hs=>?_,hi.s.defers⟩,hI,hi.ntz,hi.pin⟩ fun x hx=>?_
 ·obtain ⟨h1,h2,h3⟩:=hi.s.loc s x hs;exact ⟨h1,h2,h3.ext hx⟩
 ·obtain ⟨h1,h2,h3⟩:=hi.s.var s x hs;exact ⟨h1,h2,h3.ext hx⟩
 grind
end
end Go.Proofs.YtiejbbcpihpgpaaGreatDoor.Ab

set_option linter.unusedVariables false
namespace Go.Proofs.YtiejbbcpihpgpaaGreatDoor.Ab
/-! Codes are reckoned where they are used: slots that live, modes of calls. What is reckoned here only proposes; the kernel compares. Sets of slots are numbers (bits). -/
def aPH (x m : Nat) : Nat := (m >>> x) % 2
def aOA (x m : Nat) : Nat := match aPH x m with | 0 => m + (1 <<< x) | _ => m
def aWZ (x m : Nat) : Nat := match aPH x m with | 0 => m | _ => m - (1 <<< x)
def aN7 : Nat → Nat → Nat → List Nat
  | 0, _, _ => []
  | n + 1, i, m => match m with | 0 => [] | _ => match m % 2 with | 0 => aN7 n (i + 1) (m / 2) | _ => i :: aN7 n (i + 1) (m / 2)
def aWk : List Nat → List Nat × Nat → List Nat × Nat
  | [], p => p
  | x :: a, p => match aWk a p with | (l, m) => match aPH x m with | 0 => (x :: l, m + (1 <<< x)) | _ => (l, m)
def aU5 (pres : List (List Nat)) : List Edge → List Nat × Nat
  | [] => ([], 0)
  | e :: r => match alw e with | true => aWk (e.on :: pres.getD e.on []) (aU5 pres r) | false => aU5 pres r
def aUk (P : Program) (nt : Nat × List Nat) (ops : Array Oper) (draw : Bool) : List (List Nat) → List Oper → Option (List cM)
  | _, [] => some []
  | pres, o :: r => (aPF nt [] o.dst).bind fun d => (cOp P [] o.type o.op).bind fun p => (aJ2 ops [] o.guard).bind fun g =>
      let af := match draw with | true => (aU5 pres o.after.toList).1 | false => []
      (aUk P nt ops draw (pres ++ [af]) r).bind fun rs => some ({ dst := d, op := p, guard := g, after := af } :: rs)
def aFb (P : Program) (nt : Nat × List Nat) : Code → Option aI
  | .skip => some .skip
  | .label _ => some .skip
  | .region _ ops draw => (aUk P nt ops draw [] ops.toList).map (.reg · draw)
  | .seq a b => (aFb P nt a).bind fun a => (aFb P nt b).bind fun b => some (.seq a b)
  | .cond c a b => (iN P [] 0 c).bind fun c => (aFb P nt a).bind fun a => (aFb P nt b).bind fun b => some (.cond c a b)
  | .block id c => (aFb P nt c).bind fun c => some (.block id c)
  | .loop c => (aFb P nt c).bind fun c => some (.loop [] c)
  | .exit id => some (.exit id)
  | .ret => some .ret
  | _ => none
def Opd.sl : Opd → Nat → Nat
  | .loc t, m => aOA t m
  | .var t, m => aOA t m
  | _, m => m
def oSl : Option Opd → Nat → Nat
  | some x, m => x.sl m
  | none, m => m
def aUx : List Opd → Nat → Nat
  | [], m => m
  | x :: r, m => x.sl (aUx r m)
def aWO : List (Nat × Opd) → Nat → Nat
  | [], m => m
  | p :: r, m => p.2.sl (aWO r m)
def aW3 : List (Nat × Nat × Opd) → Nat → Nat
  | [], m => m
  | p :: r, m => p.2.2.sl (aW3 r m)
def AOp.sl : AOp → Nat → Nat
  | .mv x, m | .split x, m | .box x, m | .load _ _ x, m | .fld _ x, m | .fieldV _ _ _ x, m | .un _ x, m | .conv _ x, m | .s2b x, m | .b2s x, m | .len _ x, m | .ext x _, m | .nchk x, m | .mkI _ x, m | .mark x, m => x.sl m
  | .store _ x y, m | .idxA _ x y, m | .idxS x y, m | .bin _ _ x y, m | .mm _ x y, m | .mkslice _ _ _ _ x y, m | .app _ _ x y, m | .appS x y, m => x.sl (y.sl m)
  | .pick x y z, m => x.sl (y.sl (z.sl m))
  | .lit _ _ _ _ ps, m => aWO ps m
  | .build _ ps, m => aW3 ps m
  | .sliceS x a b, m | .sliceA _ x a b, m => x.sl (oSl a (oSl b m))
  | .clo _ xs, m => aUx xs m
  | .call f xs _, m => f.sl (aUx xs m)
  | .alloc _, m | .bad, m => m
def gSl : Option (Opd × Bool) → Nat → Nat
  | some p, m => p.1.sl m
  | none, m => m
def aH5 : List cM → Nat → Nat
  | [], L => L
  | o :: r, L => let L := aH5 r L
    let L := match o.dst with | .none => L | .loc t => aWZ t L | .var t => aWZ t L
    o.op.sl (gSl o.guard L)
def aUd (id : Nat) : List (Nat × Nat) → Nat
  | [] => 0
  | p :: r => match (p.1 - id) + (id - p.1) with | 0 => p.2 | _ => aUd id r
def orM : Nat → Nat → Nat := fun a b => a ||| b
def aI.regs : aI → Nat → Nat
  | .reg ops _, L => orM (aH5 ops 0) L
  | .seq a b, L => a.regs (b.regs L)
  | .cond c a b, L => c.sl (a.regs (b.regs L))
  | .block _ c, L => c.regs L
  | .loop _ c, L => c.regs L
  | _, L => L
def aWW : List cM → Nat → Nat
  | [], L => L
  | o :: r, L => gSl o.guard (aWW r L)
def aI.gds : aI → Nat → Nat
  | .reg ops _, L => aWW ops L
  | .seq a b, L => a.gds (b.gds L)
  | .cond _ a b, L => a.gds (b.gds L)
  | .block _ c, L => c.gds L
  | .loop _ c, L => c.gds L
  | _, L => L
def Opd.col (vm : Nat) : Opd → Opd
  | .loc t => match aPH t vm with | 0 => .loc t | _ => .var t
  | x => x
def aTg (vm : Nat) : Option Opd → Option Opd
  | some x => some (x.col vm)
  | none => none
def aPT (vm : Nat) : List Opd → List Opd
  | [] => []
  | x :: r => x.col vm :: aPT vm r
def aQU : List (Nat × List eN) → Nat → List Opd → List eN
  | [], _, xs => xs.map fun _ => .borrow
  | p :: r, f, xs => match (p.1 - f) + (f - p.1) with | 0 => p.2 | _ => aQU r f xs
def AOp.col (M : List (Nat × List eN)) (vm : Nat) : AOp → AOp
  | .mv x => .mv (x.col vm)
  | .split x => .split (x.col vm)
  | .box x => .box (x.col vm)
  | .load a n x => .load a n (x.col vm)
  | .fld n x => .fld n (x.col vm)
  | .fieldV a b n x => .fieldV a b n (x.col vm)
  | .un o x => .un o (x.col vm)
  | .conv k x => .conv k (x.col vm)
  | .s2b x => .s2b (x.col vm)
  | .b2s x => .b2s (x.col vm)
  | .len s x => .len s (x.col vm)
  | .ext x i => .ext (x.col vm) i
  | .nchk x => .nchk (x.col vm)
  | .mkI t x => .mkI t (x.col vm)
  | .mark x => .mark (x.col vm)
  | .store n x y => .store n (x.col vm) (y.col vm)
  | .idxA n x y => .idxA n (x.col vm) (y.col vm)
  | .idxS x y => .idxS (x.col vm) (y.col vm)
  | .bin t o x y => .bin t o (x.col vm) (y.col vm)
  | .mm b x y => .mm b (x.col vm) (y.col vm)
  | .mkslice a b c z x y => .mkslice a b c z (x.col vm) (y.col vm)
  | .app a b x y => .app a b (x.col vm) (y.col vm)
  | .appS x y => .appS (x.col vm) (y.col vm)
  | .pick x y z => .pick (x.col vm) (y.col vm) (z.col vm)
  | .lit a b c z ps => .lit a b c z (ps.map fun p => (p.1, p.2.col vm))
  | .build z ps => .build z (ps.map fun p => (p.1, p.2.1, p.2.2.col vm))
  | .sliceS x a b => .sliceS (x.col vm) (aTg vm a) (aTg vm b)
  | .sliceA n x a b => .sliceA n (x.col vm) (aTg vm a) (aTg vm b)
  | .clo f xs => .clo f (aPT vm xs)
  | .call f xs _ => .call (f.col vm) (aPT vm xs) (match f with | .fn i => aQU M i xs | _ => xs.map fun _ => .borrow)
  | .alloc c => .alloc c
  | .bad => .bad
def cM.col (M : List (Nat × List eN)) (vm gs : Nat) (o : cM) : cM :=
  { dst := match o.dst with | .loc t => (match aPH t vm with | 0 => .loc t | _ => .var t) | d => d
    op := match o.op with
      | .mv x => (match o.dst with | .loc t => (match aPH t gs with | 0 => .mv (x.col vm) | _ => .split (x.col vm)) | _ => .mv (x.col vm))
      | p => p.col M vm
    guard := match o.guard with | some p => some (p.1.col vm, p.2) | none => none
    after := o.after }
def aI.col (M : List (Nat × List eN)) (vm gs : Nat) : aI → aI
  | .reg ops d => .reg (ops.map (cM.col M vm gs)) d
  | .seq a b => .seq (a.col M vm gs) (b.col M vm gs)
  | .cond c a b => .cond (c.col vm) (a.col M vm gs) (b.col M vm gs)
  | .block id c => .block id (c.col M vm gs)
  | .loop l c => .loop l (c.col M vm gs)
  | c => c
def aI.hasLoop : aI → Bool
  | .seq a b => match a.hasLoop with | true => true | false => b.hasLoop
  | .cond _ a b => match a.hasLoop with | true => true | false => b.hasLoop
  | .block _ c => c.hasLoop
  | .loop _ _ => true
  | _ => false
inductive Sk where
  | nop | ret
  | reg (g k : Nat)
  | seq (a b : Sk)
  | cond (m : Nat) (a b : Sk)
  | block (id : Nat) (c : Sk)
  | loop (h : Nat) (c : Sk)
  | exit (id : Nat)
def aNQ : List cM → Nat → Nat
  | [], m => m
  | o :: r, m => match o.dst with | .none => aNQ r m | .loc _ => aNQ r m | .var t => aOA t (aNQ r m)
def aXj (vm : Nat) (m : Nat) : Nat := m &&& vm
def aI.sk (vm : Nat) : aI → Sk
  | .skip => .nop
  | .ret => .ret
  | .reg ops _ => .reg (aXj vm (aH5 ops 0)) (aNQ ops 0)
  | .seq a b => .seq (a.sk vm) (b.sk vm)
  | .cond c a b => .cond (c.sl 0) (a.sk vm) (b.sk vm)
  | .block id c => .block id (c.sk vm)
  | .loop _ c => .loop 0 (c.sk vm)
  | .exit id => .exit id
def lpN (h h' : Nat) (c : Sk) (m : Nat) : Nat × Sk × Nat := match h' - h with | 0 => (h, .loop h c, m) | _ => (h', .loop h' c, m + 1)
def Sk.pass (ret : Nat) : Sk → List (Nat × Nat) → Nat → Nat × Sk × Nat
  | .nop, _, L => (L, .nop, 0)
  | .ret, _, _ => (ret, .ret, 0)
  | .reg g k, _, L => (orM g (L - (L &&& k)), .reg g k, 0)
  | .seq a b, blk, L => match b.pass ret blk L with | (L, b', m) => match a.pass ret blk L with | (L, a', n) => (L, .seq a' b', m + n)
  | .cond x a b, blk, L => match b.pass ret blk L with | (Lb, b', m) => match a.pass ret blk L with | (La, a', n) => (orM x (orM La Lb), .cond x a' b', m + n)
  | .block id c, blk, L => match c.pass ret ((id, L) :: blk) L with | (L, c', m) => (L, .block id c', m)
  | .loop h c, blk, _ => match c.pass ret blk h with | (h', c', m) => lpN h (orM h' h) c' m
  | .exit id, blk, _ => (aUd id blk, .exit id, 0)
def Sk.rounds (ret : Nat) : Nat → Sk → Sk
  | 0, s => s
  | n + 1, s => match s.pass ret [] ret with | (_, s', m) => match m with | 0 => s' | _ => Sk.rounds ret n s'
def aI.fill (nt : Nat) : aI → Sk → aI
  | .seq a b, .seq x y => .seq (a.fill nt x) (b.fill nt y)
  | .cond c a b, .cond _ x y => .cond c (a.fill nt x) (b.fill nt y)
  | .block id c, .block _ x => .block id (c.fill nt x)
  | .loop _ c, .loop h x => .loop (aN7 nt 0 h) (c.fill nt x)
  | c, _ => c
def aQN : Nat → List (Option eN) → Nat → Nat
  | _, [], m => m
  | n, none :: r, m => aQN (n + 1) r m
  | n, some _ :: r, m => aOA n (aQN (n + 1) r m)
def aNx : List ResultVar → Nat → Nat
  | [], m => m
  | .tmp t :: r, m => aOA t (aNx r m)
  | .cell a _ :: r, m => aOA a (aNx r m)
def aUQ (P : Program) : List ResultVar → List eN → List (eN × Nat × Option (Bool × Nat))
  | [], _ => []
  | .tmp t :: r, md => (md.headD .give, t, none) :: aUQ P r md.tail
  | .cell a t :: r, md => (md.headD .give, a, qF P t) :: aUQ P r md.tail
abbrev Cfg := List (Nat × List eN × List (Option eN) × List eN)
def aW0 : Cfg → Nat → List (Option eN) × List eN
  | [], _ => ([], [])
  | p :: r, f => match (p.1 - f) + (f - p.1) with | 0 => p.2.2 | _ => aW0 r f
def aXk : List (Option eN) → Array TypeId → List (Option eN)
  | [], ps => ps.toList.map fun _ => none
  | l, _ => l
def aT8 (P : Program) (CF : Cfg) (f : FuncId) (fn : Func) : List (Option eN) × List (eN × Nat × Option (Bool × Nat)) :=
  match aW0 CF f with | (o, m) => (aXk o fn.params, aUQ P fn.results.toList m)
def aT7 (P : Program) (om : List (Option eN)) (fn : Func) : aI := (aFb P (fn.ntmps, lK 0 om) (fn.body.getD .skip)).getD .skip
def aT6 (x : aI) (np nt : Nat) (rv : List ResultVar) : Nat × Nat × List Nat := let m := orM ((1 <<< np) - 1) (aNx rv (x.regs 0)); (m, x.gds 0, aN7 nt 0 m)
def aT5 (M : List (Nat × List eN)) (x : aI) (vm gs : Nat) : aI := x.col M vm gs
def aT4 (y : aI) (vm nt : Nat) (om : List (Option eN)) (rv : List ResultVar) : Option Sk := match y.hasLoop with | true => some ((y.sk vm).rounds (aQN 0 om (aNx rv 0)) 12) | false => none
def aT3 (nt : Nat) (y : aI) (ls : Option Sk) : aI := match ls with | none => y | some s => y.fill nt s
def aMz (P : Program) (vl : List Nat) (om : List (Option eN)) (rs : List (eN × Nat × Option (Bool × Nat))) (fn : Func) (nc nr : Nat) : Bool :=
  fn.body.isSome && !(fn.name == "runtime.NumGoroutine") && sY P fn.results.toList rs && (List.range nc).all vl.contains && decide (nc ≤ fn.ntmps ∧ om.length ≤ nc ∧ nr = rs.length)
theorem cvM {P : Program} {G : GV} {f : FuncId} {fn : Func} {om : List (Option eN)} {vl : List Nat} {rs : List (eN × Nat × Option (Bool × Nat))} {c : aI} {cs : List C} {r : C} {os : List (Option C)} (hf : P.funcs[f]? = some fn) (rcs : List C)
    (hk : aMz P vl om rs fn cs.length rcs.length = true) (hcomp : rS P (fn.ntmps, lK 0 om) vl (fn.body.getD .skip) = some c.erase) (hret : wC rcs = r)
    (hW : W P vl (fn.ntmps, lK 0 om) (aC P G) c (rR cs) (Fin (aC P G) rs om rcs os) (fun _ _ => False) (Fin (aC P G) rs om rcs os)) : aC P G f cs r os := by
  unfold aMz at hk
  simp only [Bool.and_eq_true, Bool.not_eq_true'] at hk
  obtain ⟨⟨⟨⟨h1, h2⟩, h3⟩, h4⟩, h5⟩ := hk
  exact aM4 cs.length rcs.length vl c rs om rcs hf h1 h2 h3 hcomp h4 h5 (by simp) hret hW
theorem aN0 {α:Type} {e:Env}:∀ {m:RM α} {K:α->List Loc->Prop},goL e m K->∃ r l,K r l/\goL e m fun r' l'=>r'=r/\l'=l:=by
 intro m
 induction m with
 |ret a=>simp_all
 |fail=>simp_all
 |rs v s k ih=>
  intro K h
  simp only [goL] at h
  split at h
  ·rename_i x hx
   obtain ⟨r,l,h1,h2⟩:=ih x h
   refine ⟨r,_,h1,?_⟩
   simp only [goL,hx]
   simp_all
  grind
 |rh n k ih=>
  intro K h
  simp only [goL] at h
  split at h
  ·rename_i x hx
   obtain ⟨r,l,h1,h2⟩:=ih x h
   refine ⟨r,_,h1,?_⟩
   simp only [goL,hx]
   simp_all
  grind
 |ite b x y ihx ihy=>
  cases b with
  |true=>
   simp_all
  |false=>
   simp_all
 |need p k ih=>
  simp_all
 |call f cs k ih=>
  intro K h
  obtain ⟨c,os,hv,hg⟩:=h
  obtain ⟨r,l,h1,h2⟩:=ih c os hg
  exact ⟨r,l,h1,c,os,hv,h2⟩
section
variable {V:FuncId->List C->C->List (Option C)->Prop} {base:Nat}
theorem aOI:∀ {ops:List cM} {i:Nat} {st:St} {K K':St->Prop},(∀ s,K s->K' s)->uI V base i ops st K->uI V base i ops st K':=by
 intro ops
 induction ops with
 |nil=>simp_all
 |cons o r ih=>intro i st K K' hk h;exact rO (fun wr l h=>ih hk h) h
theorem aOJ:∀ {ops:List cM} {i:Nat} {logs:List (List Loc×List Loc)} {acc:Bool} {st:St} {K K':St->Prop},(∀ s,K s->K' s)->tB V base i ops logs acc st K->tB V base i ops logs acc st K':=by
 intro ops
 induction ops with
 |nil=>simp_all
 |cons o r ih=>intro i logs acc st K K' hk h;exact rO (fun wr l h=>ih hk h) h
theorem aQz:∀ {ops:List cM} {i:Nat} {st:St} {K:St->Prop},uI V base i ops st K->∃ st',K st'/\uI V base i ops st fun s=>s=st':=by
 intro ops
 induction ops with
 |nil=>simp_all
 |cons o r ih=>
  intro i st K h
  obtain ⟨wr,l,h1,h2⟩:=aN0 h
  grind [uI,rO]
theorem aQA:∀ {ops:List cM} {i:Nat} {logs:List (List Loc×List Loc)} {acc:Bool} {st:St} {K:St->Prop},tB V base i ops logs acc st K->∃ st',K st'/\tB V base i ops logs acc st fun s=>s=st':=by
 intro ops
 induction ops with
 |nil=>simp_all
 |cons o r ih=>
  intro i logs acc st K h
  obtain ⟨wr,l,h1,h2⟩:=aN0 h
  grind [tB,rO]
end
def Dt (P:Program) (vl:List Nat) (nt:Nat×List Nat) (V:FuncId->List C->C->List (Option C)->Prop) (ac:aI) (st:St) (Kn:St->Prop) (Ke:Nat->St->Prop) (Kr:St->Prop):Prop:=
 ∃ ex st',(match ex with|.norm=>Kn st'|.exit id=>Ke id st'|.ret=>Kr st')/\WS P vl nt V ac st fun e s=>e=ex/\s=st'
section
variable {P:Program} {vl:List Nat} {nt:Nat×List Nat} {V:FuncId->List C->C->List (Option C)->Prop} {st:St} {Kn:St->Prop} {Ke:Nat->St->Prop} {Kr:St->Prop}
theorem eC (h:Kn st):Dt P vl nt V .skip st Kn Ke Kr:=⟨.norm,st,h,aOa ⟨rfl,rfl⟩⟩
theorem gH (h:Kr st):Dt P vl nt V .ret st Kn Ke Kr:=⟨.ret,st,h,aR6 ⟨rfl,rfl⟩⟩
theorem eW {id:Nat} (h:Ke id st):Dt P vl nt V (.exit id) st Kn Ke Kr:=⟨.exit id,st,h,aOb ⟨rfl,rfl⟩⟩
theorem eL {a b:aI} (h:Dt P vl nt V a st (fun st'=>Dt P vl nt V b st' Kn Ke Kr) Ke Kr):Dt P vl nt V (.seq a b) st Kn Ke Kr:=by
 obtain ⟨ex,st1,hq,hw⟩:=h
 cases ex with
 |norm=>
  obtain ⟨ex2,st2,hq2,hw2⟩:=hq
  exact ⟨ex2,st2,hq2,aFk (hw.mono fun e s h=>by grind)⟩
 |exit id=>exact ⟨.exit id,st1,hq,aFk (hw.mono fun e s h=>by grind)⟩
 |ret=>exact ⟨.ret,st1,hq,aFk (hw.mono fun e s h=>by grind)⟩
theorem dR {id:Nat} {a:aI} (h:Dt P vl nt V a st Kn (fun j st'=>if j=id then Kn st' else Ke j st') Kr):Dt P vl nt V (.block id a) st Kn Ke Kr:=by
 obtain ⟨ex,st1,hq,hw⟩:=h
 cases ex with
 |norm=>exact ⟨.norm,st1,hq,wX (hw.mono fun e s h=>by grind)⟩
 |ret=>exact ⟨.ret,st1,hq,wX (hw.mono fun e s h=>by grind)⟩
 |exit j=>
  by_cases hj:j=id
  ·have hq:if j=id then Kn st1 else Ke j st1:=hq
   rw [if_pos hj] at hq
   exact ⟨.norm,st1,hq,wX (hw.mono fun e s h=>by grind)⟩
  ·have hq:if j=id then Kn st1 else Ke j st1:=hq
   rw [if_neg hj] at hq
   exact ⟨.exit j,st1,hq,wX (hw.mono fun e s h=>by grind)⟩
theorem dN {x:Nat} {t:Bool} {a b:aI} (hx:cQ st.vars x=some (.d (.bool t))) (h1:t=true->Dt P vl nt V a st Kn Ke Kr) (h2:t=false->Dt P vl nt V b st Kn Ke Kr):Dt P vl nt V (.cond (.var x) a b) st Kn Ke Kr:=by
 have key:∀ (u:Bool) (ac:aI),t=u->(ac=if u then a else b)->Dt P vl nt V ac st Kn Ke Kr->Dt P vl nt V (.cond (.var x) a b) st Kn Ke Kr:=by
  rintro u ac rfl rfl ⟨ex,st1,hq,hw⟩
  refine ⟨ex,st1,hq,aOc ?_⟩
  show goL (st.env V) (.rs true x .ret) _
  simp only [goL]
  have:(st.env V).sl true x=some (.d (.bool t)):=hx
  grind
 grind
theorem eQ {ops:List cM} (h:∀ K:St->Prop,(∀ st',Kn ⟨[],st'.vars,st'.objs,st.nx+64*ops.length⟩->K st')->uI V st.nx 0 ops st K):Dt P vl nt V (.reg ops false) st Kn Ke Kr:=by
 obtain ⟨s1,h1,h2⟩:=aQz (h (fun st'=>Kn ⟨[],st'.vars,st'.objs,st.nx+64*ops.length⟩) fun _ h=>h)
 refine ⟨.norm,_,h1,wW (aHT _ _ _ _ ?_)⟩
 exact aOI (fun s e=>by grind) h2
theorem dQ {ops:List cM} (h:∀ K:St->Prop,(∀ st',Kn ⟨[],st'.vars,st'.objs,st.nx+64*ops.length⟩->K st')->tB V st.nx 0 ops [] true st K):Dt P vl nt V (.reg ops true) st Kn Ke Kr:=by
 obtain ⟨s1,h1,h2⟩:=aQA (h (fun st'=>Kn ⟨[],st'.vars,st'.objs,st.nx+64*ops.length⟩) fun _ h=>h)
 have h3:tB V st.nx 0 ops [] true st (fun st'=>Ex.norm=Ex.norm/\(⟨[],st'.vars,st'.objs,st.nx+64*ops.length⟩:St)=⟨[],s1.vars,s1.objs,st.nx+64*ops.length⟩):=aOJ (fun s e=>by grind) h2
 exact ⟨.norm,_,h1,wW (aBm _ _ _ _ _ h3).2⟩
theorem sT {ops:List cM} {st':St} (h:∀ K:St->Prop,K st'->uI V st.nx 0 ops st K) (hK:Kn ⟨[],st'.vars,st'.objs,st.nx+64*ops.length⟩):Dt P vl nt V (.reg ops false) st Kn Ke Kr:=
 eQ fun K hk=>h K (hk _ hK)
theorem aV0 {ops:List cM} {st':St} (h:∀ K:St->Prop,K st'->tB V st.nx 0 ops [] true st K) (hK:Kn ⟨[],st'.vars,st'.objs,st.nx+64*ops.length⟩):Dt P vl nt V (.reg ops true) st Kn Ke Kr:=
 dQ fun K hk=>h K (hk _ hK)
theorem aXt {ops:List cM} (r:Nat) (b:Bool) (h:∀ K:St->Prop,(∀ t tm,t=b->K ⟨tm,put st.vars r (.d (.bool t)),st.objs,st.nx⟩)->uI V st.nx 0 ops st K)
  (hK:Kn ⟨[],put st.vars r (.d (.bool b)),st.objs,st.nx+64*ops.length⟩):Dt P vl nt V (.reg ops false) st Kn Ke Kr:=
 eQ fun K hk=>h K fun t tm e=>hk _ (by grind)
theorem aXi {ops:List cM} (r:Nat) (b:Bool) (h:∀ K:St->Prop,(∀ t tm,t=b->K ⟨tm,put st.vars r (.d (.bool t)),st.objs,st.nx⟩)->tB V st.nx 0 ops [] true st K)
  (hK:Kn ⟨[],put st.vars r (.d (.bool b)),st.objs,st.nx+64*ops.length⟩):Dt P vl nt V (.reg ops true) st Kn Ke Kr:=
 dQ fun K hk=>h K fun t tm e=>hk _ (by grind)
theorem aPR {ac:aI} {st1:St} (hr:∀ (Kn:St->Prop) (Ke:Nat->St->Prop) (Kr:St->Prop),W P vl nt V ac st1 Kn Ke Kr->W P vl nt V ac st Kn Ke Kr) (h:Dt P vl nt V ac st1 Kn Ke Kr):Dt P vl nt V ac st Kn Ke Kr:=by
 obtain ⟨ex,s1,hq,hw⟩:=h
 refine ⟨ex,s1,hq,?_⟩
 have:=hr (fun s=>Ex.norm=ex/\s=s1) (fun j s=>Ex.exit j=ex/\s=s1) (fun s=>Ex.ret=ex/\s=s1) (WS.mono hw fun e s h=>by grind)
 exact WS.mono this fun e s h=>by grind
theorem aXd {ac:aI} (live:List Nat) (h:Dt P vl nt V ac (gc live st) Kn Ke Kr):Dt P vl nt V ac st Kn Ke Kr:=aPR (fun _ _ _ h=>aVV live h) h
theorem pH {ac:aI} (live:List Nat) {s1:St} (e:gc live st=s1) (h:Dt P vl nt V ac s1 Kn Ke Kr):Dt P vl nt V ac st Kn Ke Kr:=aXd live (by grind)
theorem Dt.mono {ac:aI} {Kn':St->Prop} {Ke':Nat->St->Prop} {Kr':St->Prop} (h:Dt P vl nt V ac st Kn Ke Kr) (h1:∀ st,Kn st->Kn' st) (h2:∀ j st,Ke j st->Ke' j st) (h3:∀ st,Kr st->Kr' st):Dt P vl nt V ac st Kn' Ke' Kr':=by
 obtain ⟨ex,s1,hq,hw⟩:=h
 refine ⟨ex,s1,?_,hw⟩
 grind
theorem oD {a b:aI} (live:List Nat) (M:St->Prop) (h1:Dt P vl nt V a st (fun st'=>M (gc live st')) Ke Kr) (h2:∀ st',M st'->Dt P vl nt V b st' Kn Ke Kr):Dt P vl nt V (.seq a b) st Kn Ke Kr:=
 eL (h1.mono (fun _ hm=>aXd live (h2 _ hm)) (fun _ _ h=>h) (fun _ h=>h))
theorem mR {ac:aI} (s j:Nat) {n o k sz:Nat} {cells:List A} (hs:cQ st.vars s=some (.ptr n o)) (hn:cQ st.objs n=some (.box cells)) (hj:cells[j]?=some (.nil k sz))
  (h:Dt P vl nt V ac ⟨st.tmps,st.vars,qM st.objs [(n,some (.box (cells.set j (.sl st.nx)))),(st.nx,some (.arr 0 k sz []))],st.nx+1⟩ Kn Ke Kr):Dt P vl nt V ac st Kn Ke Kr:=aPR (fun _ _ _ h=>kX s j hs hn hj h) h
theorem aXu {ac:aI} (s:Nat) {k sz:Nat} (hs:cQ st.vars s=some (.nil k sz))
  (h:Dt P vl nt V ac ⟨st.tmps,put st.vars s (.sl st.nx),qM st.objs [(st.nx,some (.arr 0 k sz []))],st.nx+1⟩ Kn Ke Kr):Dt P vl nt V ac st Kn Ke Kr:=aPR (fun _ _ _ h=>aVU s hs h) h
theorem oC {ac:aI} (m j:Nat) {n ver k sz:Nat} {rows:List (List D)} {cells:List A} (hm:cQ st.objs m=some (.box cells)) (hj:cells[j]?=some (.sl n)) (hn:cQ st.objs n=some (.arr ver k sz rows))
  (h:Dt P vl nt V ac ⟨st.tmps,st.vars,qM st.objs [(n,none),(m,some (.box (cells.set j (.d (.slc sz rows)))))],st.nx⟩ Kn Ke Kr):Dt P vl nt V ac st Kn Ke Kr:=aPR (fun _ _ _ h=>aJ5 m j hm hj hn h) h
theorem aV1 {ac:aI} (s:Nat) {n ver k sz:Nat} {rows:List (List D)} (hs:cQ st.vars s=some (.sl n)) (hn:cQ st.objs n=some (.arr ver k sz rows))
  (h:Dt P vl nt V ac ⟨st.tmps,put st.vars s (.d (.slc sz rows)),qM st.objs [(n,none)],st.nx⟩ Kn Ke Kr):Dt P vl nt V ac st Kn Ke Kr:=aPR (fun _ _ _ h=>aVW s hs hn h) h
theorem aVZ {ac:aI} (m j:Nat) {n ver k sz lo hi2:Nat} {rows:List (List D)} {cells:List A} (hm:cQ st.objs m=some (.box cells)) (hj:cells[j]?=some (.sv n sz lo hi2)) (hn:cQ st.objs n=some (.arr ver k sz rows))
  (h:Dt P vl nt V ac ⟨st.tmps,st.vars,qM st.objs [(n,none),(m,some (.box (cells.set j (.sl st.nx)))),(st.nx,some (.arr 0 k sz ((rows.take hi2).drop lo)))],st.nx+1⟩ Kn Ke Kr):Dt P vl nt V ac st Kn Ke Kr:=aPR (fun _ _ _ h=>aVS m j hm hj hn h) h
inductive Rnd (P:Program) (vl:List Nat) (nt:Nat×List Nat) (V:FuncId->List C->C->List (Option C)->Prop) (live:List Nat) (a:aI) (ex:Ex) (st':St):Nat->St->Prop
 |last (s:St):ex≠.norm->WS P vl nt V a s (fun e s1=>e=ex/\s1=st')->Rnd P vl nt V live a ex st' 0 s
 |more (n:Nat) (s s1:St):WS P vl nt V a s (fun e s2=>e=.norm/\s2=s1)->Rnd P vl nt V live a ex st' n (gc live s1)->Rnd P vl nt V live a ex st' (n+1) s
theorem gA {live:List Nat} {a:aI} (I:Nat->St->Prop) (n:Nat) (h0:I n (gc live st)) (hI:∀ n st,I n st->Dt P vl nt V a st (fun st'=>∃ m,m<n/\I m (gc live st')) Ke Kr):Dt P vl nt V (.loop live a) st Kn Ke Kr:=by
 have key:∀ n s,I n s->∃ ex st' k,(match ex with|.norm=>Kn st'|.exit id=>Ke id st'|.ret=>Kr st')/\Rnd P vl nt V live a ex st' k s:=by
  intro n
  induction n using Nat.strongRecOn with
  |ind n ih=>
   intro s hs
   obtain ⟨ex,s1,hq,hw⟩:=hI n s hs
   cases ex with
   |norm=>
    obtain ⟨m,hm,hq⟩:=hq
    obtain ⟨ex,st',k,h1,h2⟩:=ih m hm _ hq
    exact ⟨ex,st',k+1,h1,.more k s s1 hw h2⟩
   |exit id=>exact ⟨.exit id,s1,0,hq,.last s (fun e=>by cases e) hw⟩
   |ret=>exact ⟨.ret,s1,0,hq,.last s (fun e=>by cases e) hw⟩
 obtain ⟨ex,st',k,h1,h2⟩:=key n _ h0
 refine ⟨ex,st',h1,aFl (fun n s=>Rnd P vl nt V live a ex st' n s) ⟨k,h2⟩ fun n s hr=>?_⟩
 cases hr with
 |last _ hne hw=>
  grind
 |more n _ s1 hw hr=>
  refine hw.mono fun e s2 h=>?_
  grind
end
theorem aVz {α:Type} {P:Program} {G:GV} {f:FuncId} {fn:Func} {om:List (Option eN)} {vl:List Nat} {rs:List (eN×Nat×Option (Bool×Nat))} {c:aI} {cs:List C} (hf:P.funcs[f]?=some fn) (nr:Nat) (R:α->Prop) (rc:α->List C) (oc:α->List (Option C)) (hn:∀ a,(rc a).length=nr)
  (hk:aMz P vl om rs fn cs.length nr=true) (hcomp:rS P (fn.ntmps,lK 0 om) vl (fn.body.getD .skip)=some c.erase)
  (hW:Dt P vl (fn.ntmps,lK 0 om) (aC P G) c (rR cs) (fun st=>∃ a,R a/\Fin (aC P G) rs om (rc a) (oc a) st) (fun _ _=>False) (fun st=>∃ a,R a/\Fin (aC P G) rs om (rc a) (oc a) st)):∃ a,R a/\aC P G f cs (wC (rc a)) (oc a):=by
 obtain ⟨ex,st',hq,hw⟩:=hW
 have hq2:∃ a,R a/\Fin (aC P G) rs om (rc a) (oc a) st'/\∀ id,ex≠.exit id:=by
  grind
 obtain ⟨a,h1,h2,h3⟩:=hq2
 refine ⟨a,h1,cvM hf (rc a) (by rw [hn a];omega) hcomp rfl (WS.mono hw fun e s h=>?_)⟩
 grind
end Go.Proofs.YtiejbbcpihpgpaaGreatDoor.Ab
