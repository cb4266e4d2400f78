/-
  A part of a proof about the given program; what is proved is said where each theorem stands.
-/
import Derived.Test.YtiejbbcpihpgpaaGreatDoorPartC
namespace Go.Proofs
end Go.Proofs
set_option linter.unusedSimpArgs false
set_option linter.unusedVariables false
set_option maxRecDepth 100000
set_option maxHeartbeats 2000000
namespace Go.Proofs.YtiejbbcpihpgpaaGreatDoor.Ab
open Go.Proofs
theorem qN (a:List dD) (ff fm:Int) (hla:a.length<=1048577):aC PP GG 145 [.agg (jZ.mk a ff fm).c] (.agg (jZ.mk a ff fm).o) [none]:=by
 refine cv Tryz.func145 [.agg (jZ.mk a ff fm).o] ?_
 refine jJ ?_
 refine kX 3 0 rfl rfl rfl ?_
 refine jJ ?_
 refine bH (fun n st=>∃ i:Nat,n=a.length-i/\i<=a.length ∧
  st=⟨[],[(1,.ptr 0 0),(2,.ptr 1 0),(3,.ptr 2 0),(4,.d (.int .i64 i))],[(0,.box [.d (.slc 2 (dG a)),.d (.int .i64 ff),.d (.int .i64 fm)]),(1,.box [.nil 0 2,.d (.int .i64 0),.d (.int .i64 0)]),(2,.box [.sl 3,.d (.int .i64 ff),.d (.int .i64 fm)]),(3,.arr 0 0 2 (dG (a.take i)))],4⟩) _ ⟨0,rfl,by omega,?_⟩ ?_
 ·exact gE @dG.eq_1
 rintro n st ⟨i,rfl,hi,rfl⟩
 by_cases hlt:i<a.length
 rotate_left
 ·have hie:i=a.length:=by omega
  subst hie
  rw [List.take_length]
  exact nK
 have ha:=List.getElem?_eq_getElem hlt
 have hm:=List.getElem_mem hlt
 generalize a[i]=x at ha hm
 have hsc:=aMq ha
 have hlen:=aEp a i
 have hir:=dH (a.take i)
 generalize dG (a.take i)=L at *
 refine eT (Y2 ha @aM.eq_1) ?_
 refine ⟨a.length-(i+1),by omega,i+1,rfl,hlt,?_⟩
 rw [hsc]
 refine kN ?_
 exact aA (by omega) (by omega)
theorem jV (w:aS) (hf:aE6 w):aC PP GG 109 [.agg w.c] (.agg w.o) [none]:=by
 refine cv Tryz.func109 [.agg w.o] ?_
 obtain ⟨now,next,lost,⟨tk⟩,⟨ls⟩,⟨us,ff,fm⟩,⟨js⟩,a⟩:=w
 obtain ⟨hf1,hf2,hf3,hf4,hol,hon⟩:=hf
 dsimp only at hf1 hf2 hf3 hf4 hol
 have c1:=nM tk hf1
 have c2:=aBh ls (by have:=hf2.1;dsimp only at this;omega)
 have c3:=qN us ff fm (by have:=hf3.1;dsimp only at this;omega)
 have c4:=sG js (by have:=hf4.1;dsimp only at this;omega)
 have hi1:=cB tk
 have hi2:=bW ls
 have hi3:=dH us
 have hi4:=fY js
 refine aFq (Z4 c1 c2 c3 c4) ?_
 refine kX 3 9 rfl rfl rfl ?_
 refine jJ ?_
 refine bH (fun n st=>∃ i:Nat,n=a.length-i/\i<=a.length ∧
  st=⟨[],[(1,.ptr 0 0),(2,.ptr 1 0),(3,.ptr 2 0),(4,.d (.int .i64 i))],[(0,.box [.d (.int .i64 now),.d (.int .i64 next),.d (.int .i64 lost),.d (.slc 7 (cA tk)),.d (.slc 6 (bG ls)),.d (.slc 2 (dG us)),.d (.int .i64 ff),.d (.int .i64 fm),.d (.slc 3 (gM js)),.d (.slc 2 (dW a))]),
   (1,.box [.d (.int .i64 0),.d (.int .i64 0),.d (.int .i64 0),.nil 1 7,.nil 0 6,.nil 0 2,.d (.int .i64 0),.d (.int .i64 0),.nil 0 3,.nil 0 2]),
   (2,.box [.d (.int .i64 now),.d (.int .i64 next),.d (.int .i64 lost),.sl 3,.sl 4,.sl 5,.d (.int .i64 ff),.d (.int .i64 fm),.sl 6,.sl 7]),(3,.arr 0 1 7 (cA tk)),(4,.arr 0 0 6 (bG ls)),(5,.arr 0 0 2 (dG us)),(6,.arr 0 0 3 (gM js)),(7,.arr 0 0 2 (dW (a.take i)))],8⟩) _ ⟨0,rfl,by omega,?_⟩ ?_
 ·exact gE @dW.eq_1
 rintro n st ⟨i,rfl,hi,rfl⟩
 by_cases hlt:i<a.length
 rotate_left
 ·have hie:i=a.length:=by omega
  subst hie
  rw [List.take_length]
  exact nK
 have ha:=List.getElem?_eq_getElem hlt
 generalize a[i]=x at ha
 have hsc:=aKQ ha
 have hlen:=aDD a i
 generalize dW (a.take i)=L at *
 refine eT (Y2 ha @aM.eq_1) ?_
 refine ⟨a.length-(i+1),by omega,i+1,rfl,hlt,?_⟩
 rw [hsc]
 refine kN ?_
 exact aA (by omega) (by omega)
def aHq:aR:=⟨0,0,[],0,0,0,0⟩
def kG (f:bQ) (id:Int):aR:=if bX f then (f.aG.find? fun t=>decide (t.bZ=id)).getD aHq else aHq
def lY (e now:Int):Bool:=!decide (e=0) && decide (e<=now)
theorem xL {α:Type} {p:α->Bool} {l:List α} (h:l.any p=true):∃ (k:Nat) (t:α),nA p l=k/\l[k]?=some t/\p t=true/\l.find? p=some t:=by
 unfold nA
 cases hf:l.findIdx? p with
 |none=>
  rw [List.findIdx?_eq_none_iff] at hf
  rw [List.any_eq_true] at h
  obtain ⟨x,hx,hp⟩:=h
  rw [hf x hx] at hp;cases hp
 |some i=>
  rw [List.findIdx?_eq_some_iff_getElem] at hf
  obtain ⟨h1,h2,h3⟩:=hf
  refine ⟨i,_,rfl,List.getElem?_eq_getElem h1,h2,?_⟩
  rw [List.find?_eq_some_iff_getElem]
  exact ⟨h2,i,h1,rfl,fun j hj=>by simpa using h3 j hj⟩
theorem nL (t:aR) (now:Int):aC PP GG 141 [.agg t.c,.d (.int .i64 now)] (.d (.bool (lY t.bS now))) [none,none]:=by
 refine cv Tryz.func141 [.d (.bool (lY t.bS now))] ?_
 have hr:lY t.bS now=(!decide (t.bS=0) && decide (t.bS<=now)):=rfl
 have q:(t.bS != 0)=!decide (t.bS=0):=rfl
 have hind:=cC t.fO
 generalize lY t.bS now=r at *
 obtain ⟨t1,t2,t3,t4,e,t6,t7⟩:=t
 dsimp only at q hr
 cases h0:decide (e=0)
 ·rw [h0] at hr q
  simp only [Bool.not_false,Bool.true_and] at hr q
  subst hr
  exact fC q
 ·rw [h0] at hr q
  simp only [Bool.not_true,Bool.false_and] at hr q
  subst hr
  exact fC q
theorem lW (f:bQ) (id:Int) (hf:uZ f):aC PP GG 107 [.agg f.c,.d (.int .i64 id)] (.tup [.agg (kG f id).o,.d (.bool (bX f && cN f id))]) [none,none]:=by
 refine cv Tryz.func107 [.agg (kG f id).o,.d (.bool (bX f && cN f id))] ?_
 have cf:=kE f hf
 have cat:=mX f id hf.1
 have hno:decide (nA (fun t=>decide (t.bZ=id)) f.aG<0)=!cN f id:=oU _ _
 have hF:kG f id=if bX f then (f.aG.find? fun t=>decide (t.bZ=id)).getD aHq else aHq:=rfl
 have hfi:=fun (h:cN f id=true)=>xL (p:=fun t:aR=>decide (t.bZ=id)) (l:=f.aG) h
 have hft:=hf.2
 obtain ⟨a⟩:=f
 dsimp only at cf cat hno hF hfi hft
 generalize kG ⟨a⟩ id=F at *
 generalize cN ⟨a⟩ id=H at *
 generalize bX ⟨a⟩=B at *
 cases B
 ·simp only [Bool.false_eq_true,if_false] at hF
  subst hF
  exact dO (Y2 @aHq.eq_1 @aK.eq_1) (Z1 cf)
 simp only [if_true] at hF
 cases H
 ·simp only [Bool.not_false] at hno
  have hn:a.find? (fun t=>decide (t.bZ=id))=none:=by
   rw [List.find?_eq_none]
   have h2:=oU (fun t:aR=>decide (t.bZ=id)) a
   rw [hno] at h2
   intro x hx hp
   have:a.any (fun t=>decide (t.bZ=id))=true:=List.any_eq_true.2 ⟨x,hx,hp⟩
   rw [this] at h2;cases h2
  rw [hn] at hF
  simp only [Option.getD_none] at hF
  subst hF
  exact dO (Y3 @aHq.eq_1 @aK.eq_1 hno) (Z2 cf cat)
 ·obtain ⟨k,t,hk,ht,_,hfd⟩:=hfi rfl
  rw [hfd] at hF
  simp only [Option.getD_some] at hF
  simp only [Bool.not_true] at hno
  rw [hk] at cat hno
  have hkl:=(List.getElem?_eq_some_iff.1 ht).1
  have cc:=lQ t (hft t (List.mem_of_getElem? ht))
  subst hF
  exact dO ht (Z3 cf cat cc)
def aFj (b:eO) (l:aT):Bool:=fR b && fR ⟨b.aP++[l]⟩
def aHo (b:eO) (l:aT):eO:=if aFj b l then ⟨b.aP++[l]⟩ else b
theorem aRG {b:eO} {l:aT} (h:fR b=true) (hf:aE8 b) (hl:l.dM.length<=1048576):aE8 ⟨b.aP++[l]⟩:=by
 unfold fR at h
 simp only [Bool.and_eq_true,decide_eq_true_eq] at h
 refine ⟨by simp;omega,fun t ht=>?_⟩
 rcases List.mem_append.1 ht with ht|ht
 ·exact hf.2 t ht
 ·simp at ht;subst ht;exact hl
theorem aFJ (b:eO) (l:aT) (hf:aE8 b) (hl:l.dM.length<=1048576):aC PP GG 230 [.agg b.c,.agg l.c] (.tup [.agg (aHo b l).o,.d (.bool (aFj b l))]) [none,none]:=by
 refine cv Tryz.func230 [.agg (aHo b l).o,.d (.bool (aFj b l))] ?_
 have cb:=nE b hf
 have hfo:=fun h=>nE ⟨b.aP++[l]⟩ (aRG h hf hl)
 have ccp:=aBh b.aP (by have:=hf.1;omega)
 have hA:aFj b l=(fR b && fR ⟨b.aP++[l]⟩):=rfl
 have hB:aHo b l=if aFj b l then ⟨b.aP++[l]⟩ else b:=rfl
 have hbl:=hf.1
 obtain ⟨a⟩:=b
 dsimp only at cb hfo ccp hA hB hbl
 have hrl:=yR a [l]
 rw [show bG [l]=[l.row] from rfl] at hrl
 have hi1:=bW a
 generalize aFj ⟨a⟩ l=AL at *
 generalize aHo ⟨a⟩ l=AB at *
 cases hb:fR ⟨a⟩ with
 |false=>
  rw [hb] at cb hA
  simp only [Bool.false_and] at hA
  subst hA
  simp only [Bool.false_eq_true,if_false] at hB
  subst hB
  exact dO @aM.eq_1 (Z2 cb ccp)
 |true=>
  rw [hb] at cb hA
  simp only [Bool.true_and] at hA
  have co:=hfo hb
  dsimp only [eO.c] at co
  rw [<-hA,hrl] at co
  cases AL
  ·simp only [Bool.false_eq_true,if_false] at hB
   subst hB
   exact dO @aM.eq_1 (Z3 cb ccp co)
  ·simp only [if_true] at hB
   subst hB
   exact dO (Y2 @aM.eq_1 hrl) (Z3 cb ccp co)
def aNt (w:aS) (tok:Int):Bool:=cN w.aE tok && !lY (kG w.aE tok).bS w.cT
def xT (w:aS) (tok:Int) (path:List UInt8) (ttl aM:Int):aT:=⟨w.bJ,tok,path,w.cT,w.cT+ttl,w.cT+aM⟩
def aIq (w:aS) (tok ttl aM:Int):Bool:=aNt w tok && !decide (w.bJ=1000000000) && decide (aM<=1000000000) && inB ttl 1 aM
def lP (w:aS) (tok:Int) (path:List UInt8) (ttl aM:Int):Bool:=fH w && aIq w tok ttl aM && aFj w.bA (xT w tok path ttl aM)
def nW (w:aS) (tok:Int) (path:List UInt8) (ttl aM:Int):aS:=if lP w tok path ttl aM then { w with bA:=⟨w.bA.aP++[xT w tok path ttl aM]⟩,bJ:=w.bJ+1 } else w
def uX (w:aS) (tok:Int) (path:List UInt8) (ttl aM:Int):Int:=if lP w tok path ttl aM then w.bJ else 0
theorem aD0 {w:aS} (h:fH w=true):(0<=w.cT/\w.cT<=1000000000)/\(1<=w.bJ/\w.bJ<=1000000000)/\(0<=w.fL/\w.fL<=1000000000):=by
 unfold fH at h
 simp only [Bool.and_eq_true] at h
 exact ⟨cD h.1.1.1.1.1.1.1.1.1,cD h.1.1.1.1.1.1.1.1.2,cD h.1.1.1.1.1.1.1.2⟩
theorem aDz (w:aS) (tok:Int) (path:List UInt8) (ttl aM:Int) (hf:aE6 w) (hp:path.length<=1048576):
  aC PP GG 204 [.agg w.c,.d (.int .i64 tok),.d (.str path),.d (.int .i64 ttl),.d (.int .i64 aM)] (.tup [.agg (nW w tok path ttl aM).o,.d (.int .i64 (uX w tok path ttl aM))]) [none,none,none,none,none]:=by
 refine cv Tryz.func204 [.agg (nW w tok path ttl aM).o,.d (.int .i64 (uX w tok path ttl aM))] ?_
 have cw:=uE w hf
 have ccp:=jV w hf
 have cft:=lW w.aE tok hf.1
 have cov:=nL (kG w.aE tok) w.cT
 have cin:aC PP GG 20 [.d (.int .i64 ttl),.d (.int .i64 1),.d (.int .i64 aM)] (.d (.bool (inB ttl 1 aM))) [none,none,none]:=bD _ _ _
 have cad:=aFJ w.bA (xT w tok path ttl aM) hf.2.1 hp
 have hnum:=fun h=>aD0 (w:=w) h
 have hfb:=fun h=>tY (w:=w) h
 have hB:lP w tok path ttl aM=(fH w && (cN w.aE tok && !lY (kG w.aE tok).bS w.cT && !decide (w.bJ=1000000000) && decide (aM<=1000000000) && inB ttl 1 aM) && aFj w.bA (xT w tok path ttl aM)):=rfl
 have hW:nW w tok path ttl aM=if lP w tok path ttl aM then { w with bA:=⟨w.bA.aP++[xT w tok path ttl aM]⟩,bJ:=w.bJ+1 } else w:=rfl
 have hI:uX w tok path ttl aM=if lP w tok path ttl aM then w.bJ else 0:=rfl
 have hAB:aHo w.bA (xT w tok path ttl aM)=if aFj w.bA (xT w tok path ttl aM) then ⟨w.bA.aP++[xT w tok path ttl aM]⟩ else w.bA:=rfl
 have hNL:xT w tok path ttl aM=⟨w.bJ,tok,path,w.cT,w.cT+ttl,w.cT+aM⟩:=rfl
 obtain ⟨now,next,lost,⟨tk⟩,⟨ls⟩,⟨us,ff,fm⟩,⟨js⟩,ow⟩:=w
 dsimp only at cft cov cad hnum hfb hB hW hI hAB hNL
 have hi1:=cB tk
 have hi2:=bW ls
 have hi3:=dH us
 have hi4:=fY js
 have hi5:=eI ow
 generalize nW ⟨now,next,lost,⟨tk⟩,⟨ls⟩,⟨us,ff,fm⟩,⟨js⟩,ow⟩ tok path ttl aM=GW at *
 generalize uX ⟨now,next,lost,⟨tk⟩,⟨ls⟩,⟨us,ff,fm⟩,⟨js⟩,ow⟩ tok path ttl aM=GI at *
 generalize lP ⟨now,next,lost,⟨tk⟩,⟨ls⟩,⟨us,ff,fm⟩,⟨js⟩,ow⟩ tok path ttl aM=GB at *
 generalize xT ⟨now,next,lost,⟨tk⟩,⟨ls⟩,⟨us,ff,fm⟩,⟨js⟩,ow⟩ tok path ttl aM=NL at *
 generalize hWB:fH ⟨now,next,lost,⟨tk⟩,⟨ls⟩,⟨us,ff,fm⟩,⟨js⟩,ow⟩=WB at *
 cases WB
 ·simp only [Bool.false_and] at hB
  subst hB
  simp only [Bool.false_eq_true,if_false] at hW hI
  subst hW hI
  exact oE (Z2 cw ccp)
 have hnum:=hnum rfl
 rw [hfb rfl,Bool.true_and] at cft
 simp only [Bool.true_and] at hB
 generalize cN ⟨tk⟩ tok=H at *
 generalize lY (kG ⟨tk⟩ tok).bS now=O at *
 have hit:=cC (kG ⟨tk⟩ tok).fO
 generalize kG ⟨tk⟩ tok=T at *
 obtain ⟨t1,t2,t3,t4,t5,t6,t7⟩:=T
 dsimp only at hit
 have hN:(next==1000000000)=decide (next=1000000000):=rfl
 have hM:decide (1000000000<aM)=!decide (aM<=1000000000):=by rw [<-decide_not];exact decide_eq_decide.2 (by omega)
 generalize decide (next=1000000000)=N at *
 have hinl:inB ttl 1 aM=true->1<=ttl/\ttl<=aM:=cD
 generalize inB ttl 1 aM=I at *
 by_cases hml:aM<=1000000000
 rotate_left
 ·rw [decide_eq_false hml] at hB
  simp only [Bool.and_false,Bool.false_and] at hB
  subst hB
  simp only [Bool.false_eq_true,if_false] at hW hI
  subst hW hI
  have hlt:1000000000<aM:=by omega
  cases H
  ·exact oE (Z3 cw ccp cft)
  ·cases O
   ·cases N
    ·exact dO (Y2 hN hlt) (Z4 cw ccp cft cov)
    ·exact dO hN (Z4 cw ccp cft cov)
   ·exact oE (Z4 cw ccp cft cov)
 have hnl:¬1000000000<aM:=by omega
 rw [decide_eq_true hml,Bool.and_true] at hB
 cases H
 ·simp only [Bool.false_and] at hB
  subst hB
  simp only [Bool.false_eq_true,if_false] at hW hI
  subst hW hI
  exact oE (Z3 cw ccp cft)
 cases O
 rotate_left
 ·simp only [Bool.not_true,Bool.and_false,Bool.false_and] at hB
  subst hB
  simp only [Bool.false_eq_true,if_false] at hW hI
  subst hW hI
  exact oE (Z4 cw ccp cft cov)
 cases N
 rotate_left
 ·simp only [Bool.not_true,Bool.and_false,Bool.false_and] at hB
  subst hB
  simp only [Bool.false_eq_true,if_false] at hW hI
  subst hW hI
  exact dO hN (Z4 cw ccp cft cov)
 cases I
 ·simp only [Bool.and_false,Bool.false_and] at hB
  subst hB
  simp only [Bool.false_eq_true,if_false] at hW hI
  subst hW hI
  exact dO (Y2 hN hnl) (Z5 cw ccp cft cov cin)
 have hinl:=hinl rfl
 simp only [Bool.not_false,Bool.and_true,Bool.true_and] at hB
 subst hB
 have hw1:IntKind.i64.wrap (now+ttl)=now+ttl:=aA (by omega) (by omega)
 have hw2:IntKind.i64.wrap (now+aM)=now+aM:=aA (by omega) (by omega)
 have hw3:IntKind.i64.wrap (next+1)=next+1:=aA (by omega) (by omega)
 subst hNL
 generalize aHo ⟨ls⟩ ⟨next,tok,path,now,now+ttl,now+aM⟩=AB at *
 obtain ⟨ab⟩:=AB
 have hi6:=bW ab
 cases hAL:aFj ⟨ls⟩ ⟨next,tok,path,now,now+ttl,now+aM⟩ with
 |false=>
  rw [hAL] at hAB hW hI cad
  simp only [Bool.false_eq_true,if_false] at hAB hW hI
  cases hAB
  subst hW hI
  exact dO (Y4 hN hnl hw1 hw2) (Z6 cw ccp cft cov cin cad)
 |true=>
  rw [hAL] at hAB hW hI cad
  simp only [if_true] at hAB hW hI
  cases hAB
  subst hW hI
  exact dO (Y5 hN hnl hw1 hw2 hw3) (Z6 cw ccp cft cov cin cad)
theorem aHk (a:List UInt8):Go.Op.bytesLess a a=false:=by
 induction a with
 |nil=>rfl
 |cons x a ih=>simp [Go.Op.bytesLess,ih]
theorem aFg {a b c:List UInt8}:Go.Op.bytesLess a b=true->Go.Op.bytesLess b c=true->Go.Op.bytesLess a c=true:=by
 induction a generalizing b c with
 |nil=>
  intro h1 h2
  cases b with
  |nil=>simp [Go.Op.bytesLess] at h1
  |cons y b=>
   cases c with
   |nil=>simp [Go.Op.bytesLess] at h2
   |cons z c=>rfl
 |cons x a ih=>
  intro h1 h2
  cases b with
  |nil=>simp [Go.Op.bytesLess] at h1
  |cons y b=>
   cases c with
   |nil=>simp [Go.Op.bytesLess] at h2
   |cons z c=>
    simp only [Go.Op.bytesLess,Bool.or_eq_true,decide_eq_true_eq,Bool.and_eq_true,beq_iff_eq] at h1 h2 ⊢
    rcases h1 with h1|⟨rfl,h1⟩
    ·rcases h2 with h2|⟨rfl,h2⟩
     ·exact .inl (UInt8.lt_trans h1 h2)
     ·exact .inl h1
    ·rcases h2 with h2|⟨rfl,h2⟩
     ·exact .inl h2
     ·exact .inr ⟨rfl,ih h1 h2⟩
theorem aLR {a b:List UInt8} (h:a≠b):Go.Op.bytesLess a b=true\/Go.Op.bytesLess b a=true:=by
 induction a generalizing b with
 |nil=>
  cases b with
  |nil=>exact absurd rfl h
  |cons y b=>exact .inl rfl
 |cons x a ih=>
  cases b with
  |nil=>exact .inr rfl
  |cons y b=>
   simp only [Go.Op.bytesLess,Bool.or_eq_true,decide_eq_true_eq,Bool.and_eq_true,beq_iff_eq]
   by_cases hxy:x=y
   ·subst hxy
    rcases ih (b:=b) (fun e=>h (by rw [e])) with h1|h1
    ·exact .inl (.inr ⟨rfl,h1⟩)
    ·exact .inr (.inr ⟨rfl,h1⟩)
   ·have hn:x.toNat≠y.toNat:=fun e=>hxy (UInt8.toNat_inj.1 e)
    rcases Nat.lt_or_gt_of_ne hn with h1|h1
    ·exact .inl (.inl (UInt8.lt_iff_toNat_lt.2 h1))
    ·exact .inr (.inl (UInt8.lt_iff_toNat_lt.2 h1))
theorem aRZ {a b:List UInt8} (h:Go.Op.bytesLess a b=true):Go.Op.bytesLess b a=false:=by
 cases h2:Go.Op.bytesLess b a with
 |false=>rfl
 |true=>have:=aFg h h2;rw [aHk] at this;cases this
def nS {α:Type} (key:α->List UInt8) (s:List UInt8) (l:List α):Nat:=(l.filter fun x=>Go.Op.bytesLess (key x) s).length
theorem aN3 {f:jZ} (h:oV f=true):f.bE.Pairwise (fun y x=>Go.Op.bytesLess y.aH x.aH=true):=by
 unfold oV at h
 simp only [Bool.and_eq_true] at h
 have h:=h.2
 have hs:∀ (i:Nat) x y,f.bE[i]?=some y->f.bE[i+1]?=some x->Go.Op.bytesLess y.aH x.aH=true:=by
  intro i x y hy hx
  have:=pK h hx
  unfold aF3 at this
  rw [Bool.and_eq_true,rV _ hy] at this
  exact this.2
 rw [List.pairwise_iff_getElem]
 intro i j hi hj hij
 obtain ⟨d,rfl⟩:∃ d,j=i+1+d:=⟨j-i-1,by omega⟩
 induction d with
 |zero=>exact hs i _ _ (List.getElem?_eq_getElem hi) (List.getElem?_eq_getElem hj)
 |succ d ih=>
  have h1:=ih (by omega) (by omega)
  have h2:=hs (i+1+d) _ _ (List.getElem?_eq_getElem (show i+1+d<f.bE.length by omega)) (List.getElem?_eq_getElem hj)
  exact aFg h1 h2
theorem aMt {α:Type} {R:α->α->Prop} {l:List α} (h:l.Pairwise R) {i j:Nat} {x y:α} (hij:i<j) (hx:l[i]?=some x) (hy:l[j]?=some y):R x y:=by
 rw [List.pairwise_iff_getElem] at h
 obtain ⟨h1,rfl⟩:=List.getElem?_eq_some_iff.1 hx
 obtain ⟨h2,rfl⟩:=List.getElem?_eq_some_iff.1 hy
 exact h i j h1 h2 hij
def lR (f:jZ) (s:List UInt8):jZ:=if 0<f.gT then { f with gT:=f.gT-1 } else { f with bE:=f.bE.filter fun u=>!(u.aH==s) }
def tS (f:jZ):Int:=if 0<f.gT then 2 else 0
theorem aH6 {α:Type} {q:List α->α->Bool} {l:List α} (h:∀ (i:Nat) x,l[i]?=some x->q (l.take i) x=true):okP q [] l=true:=by
 have:∀ n,n<=l.length->okP q [] (l.take n)=true:=by
  intro n
  induction n with
  |zero=>intro _;rfl
  |succ n ih=>
   intro hn
   have hx:=List.getElem?_eq_getElem (show n<l.length by omega)
   rw [rI hx,ih (by omega),h n _ hx];rfl
 have:=this l.length (Nat.le_refl _)
 rwa [List.take_length] at this
theorem mJ (f:jZ):oV f=true ↔ f.bE.length<=120/\inB f.gT 0 1000=true/\inB f.bF 0 1000000000=true/\(∀ u,u∈f.bE->fA u.aH=true)/\f.bE.Pairwise (fun y x=>Go.Op.bytesLess y.aH x.aH=true):=by
 constructor
 ·intro h
  have hp:=aN3 h
  unfold oV at h
  simp only [Bool.and_eq_true,decide_eq_true_eq] at h
  refine ⟨h.1.1.1,h.1.1.2,h.1.2,fun u hu=>?_,hp⟩
  obtain ⟨i,hi⟩:=List.getElem?_of_mem hu
  have:=pK h.2 hi
  unfold aF3 at this
  rw [Bool.and_eq_true] at this
  exact this.1
 ·rintro ⟨h1,h2,h3,h4,h5⟩
  unfold oV
  rw [h2,h3,decide_eq_true h1]
  simp only [Bool.and_self,Bool.true_and]
  refine aH6 fun i x hx=>?_
  unfold aF3
  rw [h4 x (List.mem_of_getElem? hx),Bool.true_and]
  cases i with
  |zero=>exact rU _ _ _
  |succ j=>
   have hlt:=(List.getElem?_eq_some_iff.1 hx).1
   have hy:=List.getElem?_eq_getElem (show j<f.bE.length by omega)
   rw [rV _ hy]
   exact aMt h5 (Nat.lt_succ_self j) hy hx
theorem aRH {f:jZ} (h:oV f=true) (s:List UInt8):oV (lR f s)=true:=by
 rw [mJ] at h ⊢
 obtain ⟨h1,h2,h3,h4,h5⟩:=h
 unfold lR
 split
 ·rename_i hp
  refine ⟨h1,?_,h3,h4,h5⟩
  have:=cD h2
  unfold inB;simp only [Bool.and_eq_true,decide_eq_true_eq];omega
 ·exact ⟨Nat.le_trans (List.length_filter_le _ _) h1,h2,h3,fun u hu=>h4 u ((List.mem_filter.1 hu).1),h5.filter _⟩
theorem aRF {f:jZ} (h:rQ f) (s:List UInt8):rQ (lR f s):=by
 unfold lR
 split
 ·exact h
 ·exact ⟨Nat.le_trans (List.length_filter_le _ _) h.1,fun u hu=>h.2 u ((List.mem_filter.1 hu).1)⟩
theorem aFG (f:jZ) (s:List UInt8) (hf:rQ f) (hb:oV f=true):aC PP GG 225 [.agg f.c,.d (.str s)] (.tup [.agg (lR f s).o,.d (.int .i64 (tS f))]) [none,none]:=by
 refine cv Tryz.func225 [.agg (lR f s).o,.d (.int .i64 (tS f))] ?_
 have hD:lR f s=if 0<f.gT then { f with gT:=f.gT-1 } else { f with bE:=f.bE.filter fun u=>!(u.aH==s) }:=rfl
 have hC:tS f=if 0<f.gT then 2 else 0:=rfl
 have ccp:=qN f.bE f.gT f.bF (by have:=hf.1;omega)
 have cfo:=uG f hf
 rw [hb] at cfo
 have hi:=mJ f |>.1 hb
 have hl:=hf.1
 obtain ⟨a,ff,fm⟩:=f
 dsimp only at hD hC ccp cfo hi hl
 have hin:=cD hi.2.1
 have hi3:=dH a
 generalize lR ⟨a,ff,fm⟩ s=DF at *
 generalize tS ⟨a,ff,fm⟩=DC at *
 by_cases hff:0<ff
 ·rw [if_pos hff] at hD hC
  subst hD hC
  have hw:IntKind.i64.wrap (ff-1)=ff-1:=aA (by omega) (by omega)
  exact dO (Y2 hff hw) (Z2 cfo ccp)
 ·rw [if_neg hff] at hD hC
  subst hD hC
  refine u_1 ?_
  refine oK (Z1 ccp) ?_
  refine aN (aN ?_)
  refine aSu (Z1 cfo) ?_
  refine aO rfl (fun h=>by simp at h) (fun h=>aQ ?_)
  refine aN (aN ?_)
  refine u_2 hff ?_
  refine aO rfl (fun h=>by simp at h) (fun h=>aQ ?_)
  refine u_1 ?_
  refine kX 6 0 rfl rfl rfl ?_
  refine jJ ?_
  refine bH (fun n st=>∃ i:Nat,n=a.length-i/\i<=a.length ∧
   st=⟨[],[(1,.d (.str s)),(2,.ptr 0 0),(4,.ptr 1 0),(6,.ptr 2 0),(7,.d (.int .i64 i))],[(0,.box [.d (.slc 2 (dG a)),.d (.int .i64 ff),.d (.int .i64 fm)]),(1,.box [.nil 0 2,.d (.int .i64 0),.d (.int .i64 0)]),(2,.box [.sl 3,.d (.int .i64 ff),.d (.int .i64 fm)]),(3,.arr 0 0 2 (dG ((a.take i).filter fun u=>!(u.aH==s))))],4⟩) _ ⟨0,rfl,by omega,?_⟩ ?_
  ·exact gE @dG.eq_1
  rintro n st ⟨i,rfl,hi',rfl⟩
  by_cases hlt:i<a.length
  rotate_left
  ·have hie:i=a.length:=by omega
   subst hie
   rw [List.take_length]
   have hi4:=dH (a.filter fun u=>!(u.aH==s))
   generalize (a.filter fun u=>!(u.aH==s))=b at *
   exact nK
  have ha:=List.getElem?_eq_getElem hlt
  generalize a[i]=x at ha
  have hsc:=nH (p:=fun u:dD=>!(u.aH==s)) (f:=dD.row) ha
  have hlen:=jU (fun u:dD=>!(u.aH==s)) dD.row a i
  rw [show ∀ l:List dD,(l.filter fun u=>!(u.aH==s)).map dD.row=dG (l.filter fun u=>!(u.aH==s)) from fun l=>rfl] at hsc hlen
  rw [show ∀ l:List dD,(l.filter fun u=>!(u.aH==s)).map dD.row=dG (l.filter fun u=>!(u.aH==s)) from fun l=>rfl] at hsc
  generalize dG ((a.take i).filter fun u=>!(u.aH==s))=L at *
  obtain ⟨xn,xp⟩:=x
  dsimp only at hsc
  cases hx:(xn==s) with
  |false=>
   rw [hx] at hsc
   simp only [Bool.not_false,if_true] at hsc
   refine eT (Y3 ha hx @aM.eq_1) ?_
   refine ⟨a.length-(i+1),by omega,i+1,rfl,hlt,?_⟩
   rw [hsc]
   refine kN ?_
   exact aA (by omega) (by omega)
  |true=>
   rw [hx] at hsc
   simp only [Bool.not_true,Bool.false_eq_true,if_false,List.append_nil] at hsc
   refine eT (Y2 ha hx) ?_
   refine ⟨a.length-(i+1),by omega,i+1,rfl,hlt,?_⟩
   rw [hsc]
   refine kN ?_
   exact aA (by omega) (by omega)
def kJ (q:fJ) (s:List UInt8) (now:Int):fJ:=⟨q.cF++[⟨s,now,0⟩]⟩
def aKU (q:fJ) (s:List UInt8):Bool:=q.cF.any fun t=>t.aH==s
def wF (q:fJ) (s:List UInt8) (now:Int):Bool:=aKU q s || iS (kJ q s now)
def lF (q:fJ) (s:List UInt8) (now:Int):fJ:=if aKU q s then q else if iS (kJ q s now) then kJ q s now else q
theorem aLv {q:fJ} {s:List UInt8} (now:Int) (h:iS q=true) (hf:aF2 q) (hs:s.length<=1048576):aF2 (kJ q s now):=by
 unfold iS at h
 simp only [Bool.and_eq_true,decide_eq_true_eq] at h
 refine ⟨by unfold kJ;simp;omega,fun t ht=>?_⟩
 rcases List.mem_append.1 ht with ht|ht
 ·exact hf.2 t ht
 ·simp at ht;subst ht;exact hs
theorem aEf (q:fJ) (s:List UInt8) (now:Int) (hf:aF2 q) (hs:s.length<=1048576) (hb:iS q=true):
  aC PP GG 190 [.agg q.c,.d (.str s),.d (.int .i64 now)] (.tup [.agg (lF q s now).o,.d (.bool (wF q s now))]) [none,none,none]:=by
 refine cv Tryz.func190 [.agg (lF q s now).o,.d (.bool (wF q s now))] ?_
 have ccp:=sG q.cF (by have:=hf.1;omega)
 have cq0:=qO q hf
 rw [hb] at cq0
 have cq:=qO (kJ q s now) (aLv now hb hf hs)
 have hB:wF q s now=(aKU q s || iS (kJ q s now)):=rfl
 have hQ:lF q s now=if aKU q s then q else if iS (kJ q s now) then kJ q s now else q:=rfl
 have hH:aKU q s=q.cF.any fun t=>t.aH==s:=rfl
 have hl:=hf.1
 obtain ⟨a⟩:=q
 dsimp only at ccp cq0 hB hQ hl hH
 have hi1:=fY a
 have hro:gM (kJ ⟨a⟩ s now).cF=gM a++[[.str s,.int .i64 now,.int .i64 0]]:=by
  unfold kJ;dsimp only;rw [aKS];rfl
 dsimp only [fJ.c] at cq
 rw [hro] at cq
 generalize aKU ⟨a⟩ s=H at *
 generalize hqo:iS (kJ ⟨a⟩ s now)=Q at *
 have hoq:(kJ ⟨a⟩ s now).o=[.own 0 3 (gM a++[[.str s,.int .i64 now,.int .i64 0]])]:=by rw [<-hro]
 generalize kJ ⟨a⟩ s now=OQ at *
 generalize wF ⟨a⟩ s now=DB at *
 generalize lF ⟨a⟩ s now=DQ at *
 refine aFq (Z2 ccp cq0) ?_
 refine bH (fun n st=>∃ i:Nat,n=a.length-i/\i<=a.length/\(∀ y,y∈a.take i->(y.aH==s)=false) ∧
  st=⟨[],[(1,.d (.str s)),(2,.d (.int .i64 now)),(3,.ptr 0 0),(6,.ptr 1 0),(8,.ptr 2 0),(9,.d (.int .i64 i))],[(0,.box [.d (.slc 3 (gM a))]),(1,.box [.nil 0 3]),(2,.box [.sl 3]),(3,.arr 0 0 3 (gM a))],4⟩) _ ⟨0,rfl,by omega,fun x hx=>by simp at hx,?_⟩ ?_
 ·exact oJ
 rintro n st ⟨i,rfl,hi,hn,rfl⟩
 by_cases hlt:i<a.length
 ·have ha:=List.getElem?_eq_getElem hlt
  generalize a[i]=x at ha
  obtain ⟨xn,xa,xt⟩:=x
  cases hx:(xn==s) with
  |true=>
   have e:=(aBH (p:=fun t:iY=>t.aH==s) ha hn hx).2
   rw [e] at hH
   subst hH
   simp only [Bool.true_or,if_true] at hB hQ
   subst hB hQ
   exact fC (Y2 ha hx)
  |false=>
   have hn2:=mH (p:=fun t:iY=>t.aH==s) ha hn hx
   refine eT (Y2 ha hx) ?_
   refine ⟨a.length-(i+1),by omega,i+1,rfl,hlt,hn2,?_⟩
   refine kN ?_
   exact aA (by omega) (by omega)
 ·have hie:i=a.length:=by omega
  subst hie
  rw [List.take_length] at hn
  rw [(xP hn).2] at hH
  subst hH
  simp only [Bool.false_or,Bool.false_eq_true,if_false] at hB hQ
  subst hB
  cases DB
  ·simp only [Bool.false_eq_true,if_false] at hQ
   subst hQ
   exact dO @aM.eq_1 (Z2 ccp cq)
  ·simp only [if_true] at hQ
   subst hQ
   rw [hoq]
   exact dO @aM.eq_1 (Z2 ccp cq)
structure RQ where
 jobs:List iY
 far:jZ
 done:List (List UInt8)
 failed:List (List UInt8)
def lX (now:Int) (s:RQ) (j:iY):RQ:=
 if now<j.fAt then { s with jobs:=s.jobs++[j] }
 else if tS s.far=0 then { s with far:=lR s.far j.aH,done:=s.done++[j.aH] }
 else if j.jR+1=6 then { s with far:=lR s.far j.aH,failed:=s.failed++[j.aH] }
 else { s with jobs:=s.jobs++[⟨j.aH,now+2 ^ (j.jR+1).toNat,j.jR+1⟩],far:=lR s.far j.aH }
def rq (now:Int) (q:List iY) (f:jZ):RQ:=q.foldl (lX now) ⟨[],f,[],[]⟩
theorem aST {now:Int} {q:List iY} {f:jZ} {i:Nat} {j:iY} (h:q[i]?=some j):rq now (q.take (i+1)) f=lX now (rq now (q.take i) f) j:=by
 unfold rq;rw [List.take_add_one,h,List.foldl_append];rfl
theorem aMk (now:Int) (q:List iY) (f:jZ):(rq now q f).jobs.length<=q.length/\(rq now q f).done.length<=q.length/\(rq now q f).failed.length<=q.length:=by
 induction q using lV with
 |h0=>exact ⟨Nat.le_refl _,Nat.le_refl _,Nat.le_refl _⟩
 |h1 l x ih=>
  have e:rq now (l++[x]) f=lX now (rq now l f) x:=by unfold rq;rw [List.foldl_append];rfl
  rw [e,List.length_append]
  simp only [List.length_cons,List.length_nil]
  unfold lX
  repeat' split
  all_goals (simp only [List.length_append,List.length_cons,List.length_nil];omega)
theorem aMl {now:Int} {f:jZ} (hb:oV f=true) (hf:rQ f) (q:List iY):oV (rq now q f).far=true/\rQ (rq now q f).far:=by
 induction q using lV with
 |h0=>exact ⟨hb,hf⟩
 |h1 l x ih=>
  have e:rq now (l++[x]) f=lX now (rq now l f) x:=by unfold rq;rw [List.foldl_append];rfl
  rw [e]
  unfold lX
  repeat' split
  ·exact ih
  all_goals exact ⟨aRH ih.1 _,aRF ih.2 _⟩
theorem aOv (l:List (List UInt8)) (x:List UInt8):aK l++[[.str x]]=aK (l++[x]):=by simp [aK]
theorem aQE (l:List iY) (x:iY):gM l++[x.row]=gM (l++[x]):=by simp [gM]
theorem aPj {q:fJ} (h:iS q=true) {i:Nat} {j:iY} (hi:q.cF[i]?=some j):0<=j.jR/\j.jR<=5:=by
 unfold iS at h
 rw [Bool.and_eq_true] at h
 have:=pK h.2 hi
 unfold aIe aIf at this
 simp only [Bool.and_eq_true] at this
 exact cD this.1.2
theorem aSK {t:Int} (h1:1<=t) (h2:t<=5):IntKind.i64.wrap (1*2 ^ (min t.toNat 64))=2 ^ t.toNat/\0<=(2:Int) ^ t.toNat/\(2:Int) ^ t.toNat<=32:=by
 obtain ⟨n,rfl⟩:∃ n:Nat,t=n:=⟨t.toNat,by omega⟩
 have:n=1\/n=2\/n=3\/n=4\/n=5:=by omega
 rcases this with rfl|rfl|rfl|rfl|rfl<;>decide
theorem aFB (q:fJ) (f:jZ) (now:Int) (hq:aF2 q) (hf:rQ f) (hqb:iS q=true) (hfb:oV f=true) (hnow:0<=now/\now<=1000000000):
  aC PP GG 192 [.agg q.c,.agg f.c,.d (.int .i64 now)] (.tup [.agg (fJ.mk (rq now q.cF f).jobs).o,.agg (rq now q.cF f).far.o,.own 0 1 (aK (rq now q.cF f).done),.own 0 1 (aK (rq now q.cF f).failed)]) [none,none,none]:=by
 refine cv Tryz.func192 [.agg (fJ.mk (rq now q.cF f).jobs).o,.agg (rq now q.cF f).far.o,.own 0 1 (aK (rq now q.cF f).done),.own 0 1 (aK (rq now q.cF f).failed)] ?_
 have ccp:=qN f.bE f.gT f.bF (by have:=hf.1;omega)
 have cqo:=qO q hq
 have cfo:=uG f hf
 have cin:=bD now 0 1000000000
 rw [hqb] at cqo
 rw [hfb] at cfo
 rw [decide_eq_true hnow.1,decide_eq_true hnow.2,Bool.and_self] at cin
 have hfa:=fun l=>aMl (now:=now) hfb hf l
 have htr:=fun (i:Nat) (j:iY) h=>aPj (q:=q) hqb (i:=i) (j:=j) h
 have hl:=hq.1
 have hi3:=dH f.bE
 obtain ⟨a⟩:=q
 obtain ⟨us,ff,fm⟩:=f
 dsimp only at ccp cqo cfo htr hl hi3
 refine u_1 ?_
 refine oK (Z1 ccp) ?_
 refine aN (aN ?_)
 refine aSu (Z3 cqo cfo cin) ?_
 refine aO rfl (fun h=>by simp at h) (fun h=>aQ ?_)
 refine u_1 ?_
 refine kX 11 0 rfl rfl rfl ?_
 refine jJ ?_
 refine bH (fun n st=>∃ i:Nat,n=a.length-i/\i<=a.length ∧
  st=⟨[],[(2,.d (.int .i64 now)),(3,.ptr 0 0),(6,.ptr 1 0),(7,.ptr 2 0),(10,.ptr 3 0),(11,.ptr 4 0),(12,.sl 5),(13,.sl 6),(14,.d (.int .i64 i))],
   [(0,.box [.d (.slc 3 (gM a))]),(1,.box [.nil 0 3]),(2,.box [.nil 0 2,.d (.int .i64 0),.d (.int .i64 0)]),(3,.box [.sl 7,.d (.int .i64 (rq now (a.take i) ⟨us,ff,fm⟩).far.gT),.d (.int .i64 (rq now (a.take i) ⟨us,ff,fm⟩).far.bF)]),(4,.box [.sl 8]),
    (5,.arr 0 0 1 (aK (rq now (a.take i) ⟨us,ff,fm⟩).done)),(6,.arr 0 0 1 (aK (rq now (a.take i) ⟨us,ff,fm⟩).failed)),(7,.arr 0 0 2 (dG (rq now (a.take i) ⟨us,ff,fm⟩).far.bE)),(8,.arr 0 0 3 (gM (rq now (a.take i) ⟨us,ff,fm⟩).jobs))],9⟩) _ ⟨0,rfl,by omega,?_⟩ ?_
 ·exact gE (Y3 @rq.eq_1 @aK.eq_1 @gM.eq_1)
 rintro n st ⟨i,rfl,hi,rfl⟩
 by_cases hlt:i<a.length
 rotate_left
 ·have hie:i=a.length:=by omega
  subst hie
  rw [List.take_length]
  exact nK
 have ha:=List.getElem?_eq_getElem hlt
 generalize a[i]=x at ha
 have hsu:=aST (now:=now) (f:=⟨us,ff,fm⟩) ha
 have hlen:=aMk now (a.take i) ⟨us,ff,fm⟩
 rw [List.length_take] at hlen
 obtain ⟨hfb2,hff2⟩:=hfa (a.take i)
 have ht:=htr i x ha
 generalize rq now (a.take i) ⟨us,ff,fm⟩=R at *
 obtain ⟨rj,rf,rd,rl⟩:=R
 dsimp only at hlen hfb2 hff2
 have cd:=aFG rf x.aH hff2 hfb2
 unfold lX at hsu
 dsimp only at hsu
 obtain ⟨xn,xa,xt⟩:=x
 dsimp only at cd hsu ht
 have hi4:=dH (lR rf xn).bE
 have hdc:tS rf=0\/tS rf=2:=by unfold tS;split<;>simp
 have hi5:=dH rf.bE
 have hl1:(aK rd).length<=i:=by rw [bV];omega
 have hl2:(aK rl).length<=i:=by rw [bV];omega
 have hl3:(gM rj).length<=i:=by rw [aKR];omega
 by_cases hat:now<xa
 ·rw [if_pos hat] at hsu
  refine eT (Y3 ha hat @aM.eq_1) ?_
  refine ⟨a.length-(i+1),by omega,i+1,rfl,hlt,?_⟩
  rw [hsu]
  refine aWu ?_
  exact aA (by omega) (by omega)
 ·rw [if_neg hat] at hsu
  generalize tS rf=DC at *
  generalize lR rf xn=DF at *
  obtain ⟨du,df,dm⟩:=DF
  obtain ⟨ru,rff,rfm⟩:=rf
  dsimp only at hi4 hi5
  rcases hdc with rfl|rfl
  ·rw [if_pos rfl] at hsu
   refine fV (Y3 ha hat @aM.eq_1) (Z1 cd) ?_
   refine ⟨a.length-(i+1),by omega,i+1,rfl,hlt,?_⟩
   rw [hsu]
   refine aWt ?_
   exact aA (by omega) (by omega)
  ·rw [if_neg (by omega)] at hsu
   have hw1:IntKind.i64.wrap (xt+1)=xt+1:=aA (by omega) (by omega)
   by_cases h6:xt+1=6
   ·rw [if_pos h6] at hsu
    have hq6:(xt+1==6)=true:=by simpa using h6
    refine fV (Y5 ha hat @aM.eq_1 hw1 hq6) (Z1 cd) ?_
    refine ⟨a.length-(i+1),by omega,i+1,rfl,hlt,?_⟩
    rw [hsu]
    refine aWt ?_
    exact aA (by omega) (by omega)
   ·rw [if_neg h6] at hsu
    have hq6:(xt+1==6)=false:=by simpa using h6
    obtain ⟨hs1,hs2,hs3⟩:=aSK (t:=xt+1) (by omega) (by omega)
    have hw2:IntKind.i64.wrap (now+2 ^ (xt+1).toNat)=now+2 ^ (xt+1).toNat:=aA (by omega) (by omega)
    have hnn:0<=xt+1:=by omega
    have hwu:IntKind.u64.wrap (xt+1)=xt+1:=by rw [IntKind.wrap_u64];omega
    refine fV (Y10 ha hat @aM.eq_1 hw1 hq6 hwu @aOz hnn hs1 hw2) (Z1 cd) ?_
    refine ⟨a.length-(i+1),by omega,i+1,rfl,hlt,?_⟩
    rw [hsu]
    refine aWu ?_
    refine ⟨aA (by omega) (by omega),?_⟩
    rw [Nat.min_eq_left (by omega),aA (n:=2 ^ (xt+1).toNat) (by omega) (by omega)]
    exact hw2
def qI (w:aS) (n:Int):aS:={ w with fL:=if 1000000000<w.fL+n then 1000000000 else w.fL+n }
def zA (w:aS) (o:cO):aS:=
 if wF w.bO o.aH w.cT then { w with bO:=lF w.bO o.aH w.cT } else qI { w with bO:=lF w.bO o.aH w.cT } 1
def nR (id:Int) (s:aS×List cO) (o:cO):aS×List cO:=
 if o.eJ=id then (zA s.1 o,s.2) else (s.1,s.2++[o])
def gP (w:aS) (id:Int) (os:List cO):aS×List cO:=os.foldl (nR id) (w,[])
def kF (w:aS) (l:aT):aS:={ (gP w l.bZ w.bI).1 with bI:=(gP w l.bZ w.bI).2 }
def bC (w:aS) (ls:List aT):aS:=ls.foldl kF w
def jP (w:aS):RQ:=rq w.cT w.bO.cF w.bT
def jG (w:aS) (ls:List aT):aS:=
 qI { bC w ls with bO:=⟨(jP (bC w ls)).jobs⟩,bT:=(jP (bC w ls)).far } (jP (bC w ls)).failed.length
structure qL (w:aS):Prop where
 now:0<=w.cT/\w.cT<=1000000000
 lost:0<=w.fL/\w.fL<=1000000000
 qb:iS w.bO=true
 qf:aF2 w.bO
 fb:oV w.bT=true
 ff:rQ w.bT
 ol:w.bI.length<=1048576
 on:∀ o,o∈w.bI->o.aH.length<=1048576
theorem aQF {q:fJ} {s:List UInt8} (now:Int) (h:iS q=true) (hf:aF2 q) (hs:s.length<=1048576):iS (lF q s now)=true/\aF2 (lF q s now):=by
 unfold lF
 split
 ·exact ⟨h,hf⟩
 ·split
  ·next h2=>exact ⟨h2,aLv now h hf hs⟩
  ·exact ⟨h,hf⟩
theorem aTn {w:aS} {n:Int} (h:qL w) (hn:0<=n):qL (qI w n):=by
 obtain ⟨h1,h2,h3,h4,h5,h6,h7,h8⟩:=h
 refine ⟨h1,?_,h3,h4,h5,h6,h7,h8⟩
 unfold qI
 dsimp only
 split<;>omega
theorem aVt {w:aS} {o:cO} (h:qL w) (ho:o.aH.length<=1048576):qL (zA w o):=by
 have hq:=aQF w.cT h.qb h.qf ho
 have h':qL { w with bO:=lF w.bO o.aH w.cT }:=⟨h.now,h.lost,hq.1,hq.2,h.fb,h.ff,h.ol,h.on⟩
 unfold zA
 split
 ·exact h'
 ·exact aTn h' (by omega)
theorem aH9 {w:aS} {id:Int} {os:List cO} {i:Nat} {o:cO} (h:os[i]?=some o):gP w id (os.take (i+1))=nR id (gP w id (os.take i)) o:=by
 unfold gP;rw [List.take_add_one,h,List.foldl_append];rfl
theorem uT (w:aS) (id:Int) (l:List cO) (x:cO):gP w id (l++[x])=nR id (gP w id l) x:=by
 unfold gP;rw [List.foldl_append];rfl
theorem aEJ {w:aS} (id:Int) (h:qL w) (os:List cO) (ho:∀ o,o∈os->o.aH.length<=1048576):qL (gP w id os).1/\(gP w id os).2.length<=os.length/\∀ o,o∈(gP w id os).2->o∈os:=by
 induction os using lV with
 |h0=>exact ⟨h,Nat.le_refl _,fun o ho=>ho⟩
 |h1 l x ih=>
  obtain ⟨i1,i2,i3⟩:=ih fun o h=>ho o (List.mem_append_left _ h)
  rw [uT,List.length_append]
  unfold nR
  split
  ·exact ⟨aVt i1 (ho x (by simp)),by simp;omega,fun o h=>List.mem_append_left _ (i3 o h)⟩
  ·refine ⟨i1,by simp;omega,fun o h=>?_⟩
   rcases List.mem_append.1 h with h|h
   ·exact List.mem_append_left _ (i3 o h)
   ·exact List.mem_append_right _ h
theorem aO2 {w:aS} (l:aT) (h:qL w):qL (kF w l):=by
 obtain ⟨h1,h2,h3⟩:=aEJ l.bZ h w.bI h.on
 exact ⟨h1.now,h1.lost,h1.qb,h1.qf,h1.fb,h1.ff,by unfold kF;dsimp only;have:=h.ol;omega,fun o ho=>h.on o (h3 o ho)⟩
theorem xG {w:aS} (h:qL w) (ls:List aT):qL (bC w ls):=by
 unfold bC
 induction ls generalizing w with
 |nil=>exact h
 |cons l r ih=>exact ih (aO2 l h)
theorem aK9 {w:aS} {ls:List aT} {i:Nat} {l:aT} (h:ls[i]?=some l):bC w (ls.take (i+1))=kF (bC w (ls.take i)) l:=by
 unfold bC;rw [List.take_add_one,h,List.foldl_append];rfl
theorem aBg (w:aS) (n:Int) (h:0<=w.fL/\w.fL<=1000000000) (hn:0<=n/\n<=1000000000):
  aC PP GG 191 [.agg w.o,.d (.int .i64 n)] (.agg (qI w n).o) [none,none]:=by
 refine cv Tryz.func191 [.agg (qI w n).o] ?_
 have hL:qI w n={ w with fL:=if 1000000000<w.fL+n then 1000000000 else w.fL+n }:=rfl
 obtain ⟨a,b,c,⟨tk⟩,⟨bk⟩,⟨us,ff,fm⟩,⟨jb⟩,ow⟩:=w
 dsimp only at hL h
 have hi1:=cB tk
 have hi2:=bW bk
 have hi3:=dH us
 have hi4:=fY jb
 have hi5:=eI ow
 have hw:IntKind.i64.wrap (c+n)=c+n:=aA (by omega) (by omega)
 by_cases hc:1000000000<c+n
 ·rw [if_pos hc] at hL
  rw [hL]
  exact fC (Y2 hw hc)
 ·rw [if_neg hc] at hL
  rw [hL]
  exact fC (Y2 hw hc)
theorem aMr (l:List cO) (x:cO):dW l++[x.row]=dW (l++[x]):=by simp [dW]
abbrev aWS (ls:List aT) (i:Nat):List (Nat×A):=[(1,.d (.slc 6 (bG ls))),(2,.ptr 0 0),(4,.ptr 1 0),(7,.d (.int .i64 i))]
abbrev aXs (W:aS):List (Nat×O):=[(0,.box [.d (.int .i64 W.cT),.d (.int .i64 W.bJ),.d (.int .i64 W.fL),.sl 2,.sl 3,.sl 4,.d (.int .i64 W.bT.gT),.d (.int .i64 W.bT.bF),.sl 5,.sl 6]),(1,.box [.d (.int .i64 0),.d (.int .i64 0),.d (.int .i64 0),.nil 1 7,.nil 0 6,.nil 0 2,.d (.int .i64 0),.d (.int .i64 0),.nil 0 3,.nil 0 2]),(2,.arr 0 1 7 (cA W.aE.aG)),(3,.arr 0 0 6 (bG W.bA.aP)),(4,.arr 0 0 2 (dG W.bT.bE)),(5,.arr 0 0 3 (gM W.bO.cF)),(6,.arr 0 0 2 (dW W.bI))]
abbrev aXr (W:aS) (r:List cO):List (Nat×O):=[(0,.box [.d (.int .i64 W.cT),.d (.int .i64 W.bJ),.d (.int .i64 W.fL),.sl 3,.sl 4,.sl 5,.d (.int .i64 W.bT.gT),.d (.int .i64 W.bT.bF),.sl 6,.sl 7]),(1,.box [.d (.int .i64 0),.d (.int .i64 0),.d (.int .i64 0),.nil 1 7,.nil 0 6,.nil 0 2,.d (.int .i64 0),.d (.int .i64 0),.nil 0 3,.nil 0 2]),(2,.arr 0 0 2 (dW r)),(3,.arr 0 1 7 (cA W.aE.aG)),(4,.arr 0 0 6 (bG W.bA.aP)),(5,.arr 0 0 2 (dG W.bT.bE)),(6,.arr 0 0 3 (gM W.bO.cF)),(7,.arr 0 0 2 (dW W.bI))]
theorem sO (w:aS) (ls:List aT) (h:qL w) (hls:ls.length<=1048576):
  aC PP GG 149 [.agg w.o,.d (.slc 6 (bG ls))] (.tup [.agg (jG w ls).o,.own 0 1 (aK (jP (bC w ls)).done),.own 0 1 (aK (jP (bC w ls)).failed)]) [none,none]:=by
 refine cv Tryz.func149 [.agg (jG w ls).o,.own 0 1 (aK (jP (bC w ls)).done),.own 0 1 (aK (jP (bC w ls)).failed)] ?_
 refine jJ ?_
 refine bH (fun n st=>∃ i:Nat,n=ls.length-i/\i<=ls.length/\st=⟨[],aWS ls i,aXs (bC w (ls.take i)),7⟩) _ ⟨0,rfl,by omega,?_⟩ ?_
 ·obtain ⟨a,b,c,⟨tk⟩,⟨bk⟩,⟨us,ff,fm⟩,⟨jb⟩,ow⟩:=w
  exact gE @bC.eq_1
 rintro n st ⟨i,rfl,hi,rfl⟩
 by_cases hlt:i<ls.length
 ·have hli:=List.getElem?_eq_getElem hlt
  generalize ls[i]=l at hli
  have hsu:=aK9 (w:=w) hli
  have hW:=xG h (ls.take i)
  generalize bC w (ls.take i)=W at *
  unfold kF at hsu
  have hfo:=fun os=>aEJ (w:=W) l.bZ hW os
  refine eT @sP.eq_1 ?_
  refine bH (fun n st=>∃ j:Nat,n=W.bI.length-j/\j<=W.bI.length/\st=⟨[],aWS ls i++[(8,.sl 2),(9,.d (.int .i64 j))],aXr { (gP W l.bZ (W.bI.take j)).1 with bI:=W.bI } (gP W l.bZ (W.bI.take j)).2,8⟩) _ ⟨0,rfl,by omega,?_⟩ ?_
  ·exact gE (Y2 @gP.eq_1 @dW.eq_1)
  rintro n st ⟨j,rfl,hj,rfl⟩
  by_cases hjt:j<W.bI.length
  ·have hoj:=List.getElem?_eq_getElem hjt
   have hom:=List.getElem_mem hjt
   generalize W.bI[j]=o at hoj hom
   have hsj:=aH9 (w:=W) (id:=l.bZ) hoj
   obtain ⟨hV,hrl,-⟩:=hfo (W.bI.take j) fun o ho=>hW.on o (List.mem_of_mem_take ho)
   rw [List.length_take] at hrl
   have hol:=hW.ol
   have hon:=hW.on o hom
   have hi5:=eI W.bI
   generalize gP W l.bZ (W.bI.take j)=S at *
   obtain ⟨V,r⟩:=S
   dsimp only at hV hrl
   unfold nR at hsj
   dsimp only at hsj
   have hr2:(dW r).length<=j:=by rw [yQ];omega
   have hi6:=eI r
   obtain ⟨on,ol⟩:=o
   by_cases hne:on=l.bZ
   ·rw [if_pos hne] at hsj
    have cqd:=aEf V.bO ol V.cT hV.qf hon hV.qb
    have clo:=aBg { V with bO:=lF V.bO ol V.cT,bI:=W.bI } 1 hV.lost ⟨by omega,by omega⟩
    unfold zA at hsj
    dsimp only at hsj
    subst hne
    obtain ⟨Vn,Vx,Vl,⟨Vf⟩,⟨Vb⟩,⟨Vu,Vfl,Vfm⟩,⟨Vq⟩,Vo⟩:=V
    dsimp only at cqd clo hsj
    have hi1:=cB Vf
    have hi2:=bW Vb
    have hi3:=dH Vu
    generalize wF ⟨Vq⟩ ol Vn=DB at *
    generalize lF ⟨Vq⟩ ol Vn=DQ at *
    obtain ⟨dj⟩:=DQ
    have hi4:=fY dj
    cases DB
    ·simp only [Bool.false_eq_true,if_false] at hsj
     refine fV (Y4 hli hoj @aM.eq_1 @qI.eq_1) (Z2 cqd clo) ?_
     refine ⟨W.bI.length-(j+1),by omega,j+1,rfl,hjt,?_⟩
     rw [hsj]
     refine kM @qI.eq_1 ?_
     exact aA (by omega) (by omega)
    ·simp only [if_true] at hsj
     refine fV (Y3 hli hoj @aM.eq_1) (Z1 cqd) ?_
     refine ⟨W.bI.length-(j+1),by omega,j+1,rfl,hjt,?_⟩
     rw [hsj]
     refine kN ?_
     exact aA (by omega) (by omega)
   ·rw [if_neg hne] at hsj
    refine eT (Y4 hli hoj hne @aM.eq_1) ?_
    refine ⟨W.bI.length-(j+1),by omega,j+1,rfl,hjt,?_⟩
    rw [hsj]
    simp [gc,bP,cI,gcV,gcO,dS,cU,eH,aY,bR,bU,dU,<-aMr]
    exact aA (by omega) (by omega)
  ·have hje:j=W.bI.length:=by omega
   subst hje
   rw [List.take_length]
   generalize gP W l.bZ W.bI=S at *
   obtain ⟨V,r⟩:=S
   dsimp only at hsu
   have hi6:=eI r
   refine jJ ?_
   refine ⟨ls.length-(i+1),by omega,i+1,rfl,hlt,?_⟩
   rw [hsu]
   refine kN ?_
   exact aA (by omega) (by omega)
 ·have hie:i=ls.length:=by omega
  subst hie
  rw [List.take_length]
  have hW:=xG h ls
  have hgo:jG w ls=qI { bC w ls with bO:=⟨(jP (bC w ls)).jobs⟩,bT:=(jP (bC w ls)).far } (jP (bC w ls)).failed.length:=rfl
  have cru:=aFB (bC w ls).bO (bC w ls).bT (bC w ls).cT hW.qf hW.ff hW.qb hW.fb hW.now
  have hlr:jP (bC w ls)=rq (bC w ls).cT (bC w ls).bO.cF (bC w ls).bT:=rfl
  have hln:=(aMk (bC w ls).cT (bC w ls).bO.cF (bC w ls).bT).2.2
  have hql:=hW.qf.1
  rw [<-hlr] at cru hln
  generalize bC w ls=W at *
  generalize jP W=R at *
  obtain ⟨rj,⟨ru,rfl',rfm⟩,rd,rf⟩:=R
  obtain ⟨Wn,Wx,Wl,⟨Wf⟩,⟨Wb⟩,⟨Wu,Wfl,Wfm⟩,⟨Wq⟩,Wo⟩:=W
  dsimp only at *
  have clo:=aBg ⟨Wn,Wx,Wl,⟨Wf⟩,⟨Wb⟩,⟨ru,rfl',rfm⟩,⟨rj⟩,Wo⟩ rf.length hW.lost ⟨by omega,by omega⟩
  rw [<-hgo] at clo
  generalize jG w ls=Z at *
  obtain ⟨Zn,Zx,Zl,⟨Zf⟩,⟨Zb⟩,⟨Zu,Zfl,Zfm⟩,⟨Zq⟩,Zo⟩:=Z
  have hi1:=cB Wf
  have hi2:=bW Wb
  have hi3:=dH ru
  have hi4:=fY rj
  have hi5:=eI Wo
  have hj1:=cB Zf
  have hj2:=bW Zb
  have hj3:=dH Zu
  have hj4:=fY Zq
  have hj5:=eI Zo
  have hj6:=cC rd
  have hj7:=cC rf
  exact oE (Z2 cru clo)
def aMu (w:aS):Prop:=w.bI.Pairwise (fun y x=>y.eJ<x.eJ)
theorem aQ5 {w:aS} (hf:aE6 w) (hb:fH w=true) (b:eO):qL { w with bA:=b }/\aMu { w with bA:=b }/\fR w.bA=true:=by
 unfold fH at hb
 simp only [Bool.and_eq_true] at hb
 obtain ⟨⟨⟨⟨⟨⟨⟨⟨⟨h1,h2⟩,h3⟩,h4⟩,h5⟩,h6⟩,h7⟩,h8⟩,h9⟩,h10⟩:=hb
 obtain ⟨f1,f2,f3,f4,f5,f6⟩:=hf
 exact ⟨⟨cD h1,cD h3,h7,f4,h6,f3,f5,f6⟩,aNA h10,h5⟩
def gB (f:bQ) (g:List Int):bQ:=⟨f.aG.filter fun t=>!g.contains t.bZ⟩
theorem uD (a:List aR) (g:List Int) (hf:uZ ⟨a⟩) (hg:g.length<=1048576):
  aC PP GG 142 [.agg (bQ.mk a).c,.d (.slc 1 (bM g))] (.agg (gB ⟨a⟩ g).o) [none,none]:=by
 refine cv Tryz.func142 [.agg (gB ⟨a⟩ g).o] ?_
 have hL:gB ⟨a⟩ g=⟨a.filter fun t=>!g.contains t.bZ⟩:=rfl
 rw [hL]
 clear hL
 have chas:=fun x=>oS g x (by omega)
 refine jJ ?_
 refine kX 5 0 rfl rfl rfl ?_
 refine jJ ?_
 refine bH (fun n st=>∃ i:Nat,n=a.length-i/\i<=a.length ∧
  st=⟨[],[(1,.d (.slc 1 (bM g))),(2,.ptr 0 0),(4,.ptr 1 0),(5,.ptr 2 0),(6,.d (.int .i64 i))],[(0,.box [.d (.slc 7 (cA a))]),(1,.box [.nil 1 7]),(2,.box [.sl 3]),(3,.arr 0 1 7 (cA ((a.take i).filter fun t=>!g.contains t.bZ)))],4⟩) _ ⟨0,rfl,by omega,?_⟩ ?_
 ·exact gE @cA.eq_1
 rintro n st ⟨i,rfl,hi,rfl⟩
 by_cases hlt:i<a.length
 rotate_left
 ·have hie:i=a.length:=by omega
  subst hie
  rw [List.take_length]
  have hi4:=cB (a.filter fun t=>!g.contains t.bZ)
  generalize (a.filter fun t=>!g.contains t.bZ)=b at *
  exact nK
 have ha:=List.getElem?_eq_getElem hlt
 have hm:=List.getElem_mem hlt
 generalize a[i]=x at ha hm
 have hsc:=nH (p:=fun t:aR=>!g.contains t.bZ) (f:=aR.row) ha
 have hlen:=jU (fun t:aR=>!g.contains t.bZ) aR.row a i
 rw [show ∀ l:List aR,(l.filter fun t=>!g.contains t.bZ).map aR.row=cA (l.filter fun t=>!g.contains t.bZ) from fun l=>rfl] at hsc hlen
 rw [show ∀ l:List aR,(l.filter fun t=>!g.contains t.bZ).map aR.row=cA (l.filter fun t=>!g.contains t.bZ) from fun l=>rfl] at hsc
 have hir:=cB ((a.take i).filter fun t=>!g.contains t.bZ)
 have ct:=lQ x (hf.2 x hm)
 have hla:a.length<=1048576:=hf.1
 generalize cA ((a.take i).filter fun t=>!g.contains t.bZ)=L at *
 have ch:=chas x.bZ
 obtain ⟨xi,xp,xn,xm,xe,xl,xu⟩:=x
 dsimp only at hsc ch
 cases hc:g.contains xi with
 |true=>
  rw [hc] at hsc ch
  simp only [Bool.not_true,Bool.false_eq_true,if_false,List.append_nil] at hsc
  refine fV ha (Z1 ch) ?_
  refine ⟨a.length-(i+1),by omega,i+1,rfl,hlt,?_⟩
  rw [hsc]
  refine kN ?_
  exact aA (by omega) (by omega)
 |false=>
  rw [hc] at hsc ch
  simp only [Bool.not_false,if_true] at hsc
  refine fV (Y2 ha @aM.eq_1) (Z2 ch ct) ?_
  refine ⟨a.length-(i+1),by omega,i+1,rfl,hlt,?_⟩
  rw [hsc]
  refine kN ?_
  exact aA (by omega) (by omega)
theorem aGW (f:bQ):gB f []=f:=by
 obtain ⟨a⟩:=f
 unfold gB
 congr 1
 rw [List.filter_eq_self]
 intro t _
 rfl
theorem aCn (f:bQ) (id:Int) (hf:uZ f):
  aC PP GG 197 [.agg f.c,.d (.int .i64 id)] (.tup [.agg (gB f (fG f id)).o,.own 0 1 (bM (fG f id))]) [none,none]:=by
 refine cv Tryz.func197 [.agg (gB f (fG f id)).o,.own 0 1 (bM (fG f id))] ?_
 have cb:=aEj f id hf
 have hgl:=xO f id
 have hl:=hf.1
 have ccp:=nM f.aG hf
 have cle:=uD f.aG (fG f id) hf (by omega)
 have hnil:=aGW f
 obtain ⟨a⟩:=f
 dsimp only at hgl hl ccp cle
 generalize fG ⟨a⟩ id=G at *
 have hi1:=cB a
 have hig:=jE G
 cases G with
 |nil=>
  rw [hnil]
  clear hnil cle
  exact dO @bM.eq_1 (Z2 cb ccp)
 |cons x t=>
  have hne:(((x::t).length:Int)==0)=false:=by simp;omega
  have hle:=kV (x::t)
  generalize (x::t)=G at *
  generalize gB ⟨a⟩ G=R at *
  obtain ⟨r⟩:=R
  have hi2:=cB r
  clear hnil
  exact dO (Y2 hne hle) (Z2 cb cle)
def jX (b:eO) (g:List Int):eO:=⟨b.aP.filter fun l=>!g.contains l.cL⟩
def mA (b:eO) (g:List Int):List aT:=b.aP.filter fun l=>g.contains l.cL
theorem vZ (b:eO) (g:List Int) (hf:aE8 b) (hb:fR b=true) (hg:g.length<=200):
  aC PP GG 148 [.agg b.c,.d (.slc 1 (bM g))] (.tup [.agg (jX b g).o,.own 0 6 (bG (mA b g))]) [none,none]:=by
 refine cv Tryz.func148 [.agg (jX b g).o,.own 0 6 (bG (mA b g))] ?_
 have hK:jX b g=⟨b.aP.filter fun l=>!g.contains l.cL⟩:=rfl
 have hG:mA b g=b.aP.filter fun l=>g.contains l.cL:=rfl
 have cbo:=nE b hf
 rw [hb] at cbo
 rw [hK,hG]
 clear hK hG
 have chas:=fun x=>oS g x (by omega)
 have hl:=hf.1
 obtain ⟨a⟩:=b
 dsimp only at hl
 have hgl:=kV g
 have hng:((200:Int)<(g.length:Int))=False:=by simp;omega
 refine fV (Y2 hgl hng) (Z1 cbo) ?_
 refine kX 6 0 rfl rfl rfl ?_
 refine jJ ?_
 refine bH (fun n st=>∃ i:Nat,n=a.length-i/\i<=a.length ∧
  st=⟨[],[(1,.d (.slc 1 (bM g))),(2,.ptr 0 0),(4,.ptr 1 0),(6,.ptr 2 0),(7,.sl 3),(8,.d (.int .i64 i))],[(0,.box [.d (.slc 6 (bG a))]),(1,.box [.nil 0 6]),(2,.box [.sl 4]),(3,.arr 0 0 6 (bG ((a.take i).filter fun l=>g.contains l.cL))),(4,.arr 0 0 6 (bG ((a.take i).filter fun l=>!g.contains l.cL)))],5⟩) _ ⟨0,rfl,by omega,?_⟩ ?_
 ·exact gE @bG.eq_1
 rintro n st ⟨i,rfl,hi,rfl⟩
 by_cases hlt:i<a.length
 rotate_left
 ·have hie:i=a.length:=by omega
  subst hie
  rw [List.take_length]
  have hi4:=bW (a.filter fun l=>g.contains l.cL)
  have hi5:=bW (a.filter fun l=>!g.contains l.cL)
  generalize (a.filter fun l=>g.contains l.cL)=b1 at *
  generalize (a.filter fun l=>!g.contains l.cL)=b2 at *
  exact nK
 have ha:=List.getElem?_eq_getElem hlt
 generalize a[i]=x at ha
 have hsc:=nH (p:=fun l:aT=>g.contains l.cL) (f:=aT.row) ha
 have hlen:=jU (fun l:aT=>g.contains l.cL) aT.row a i
 rw [show ∀ l:List aT,(l.filter fun l=>g.contains l.cL).map aT.row=bG (l.filter fun l=>g.contains l.cL) from fun l=>rfl] at hsc hlen
 rw [show ∀ l:List aT,(l.filter fun l=>g.contains l.cL).map aT.row=bG (l.filter fun l=>g.contains l.cL) from fun l=>rfl] at hsc
 have hsc2:=nH (p:=fun l:aT=>!g.contains l.cL) (f:=aT.row) ha
 have hlen2:=jU (fun l:aT=>!g.contains l.cL) aT.row a i
 rw [show ∀ l:List aT,(l.filter fun l=>!g.contains l.cL).map aT.row=bG (l.filter fun l=>!g.contains l.cL) from fun l=>rfl] at hsc2 hlen2
 rw [show ∀ l:List aT,(l.filter fun l=>!g.contains l.cL).map aT.row=bG (l.filter fun l=>!g.contains l.cL) from fun l=>rfl] at hsc2
 generalize bG ((a.take i).filter fun l=>g.contains l.cL)=L at *
 generalize bG ((a.take i).filter fun l=>!g.contains l.cL)=L2 at *
 have ch:=chas x.cL
 obtain ⟨x1,x2,x3,x4,x5,x6⟩:=x
 dsimp only at hsc hsc2 ch
 cases hc:g.contains x2 with
 |true=>
  rw [hc] at hsc hsc2 ch
  simp only [if_true] at hsc
  simp only [Bool.not_true,Bool.false_eq_true,if_false,List.append_nil] at hsc2
  refine fV (Y2 ha @aM.eq_1) (Z1 ch) ?_
  refine ⟨a.length-(i+1),by omega,i+1,rfl,hlt,?_⟩
  rw [hsc,hsc2]
  refine kN ?_
  exact aA (by omega) (by omega)
 |false=>
  rw [hc] at hsc hsc2 ch
  simp only [Bool.not_false,if_true] at hsc2
  simp only [Bool.false_eq_true,if_false,List.append_nil] at hsc
  refine fV (Y2 ha @aM.eq_1) (Z1 ch) ?_
  refine ⟨a.length-(i+1),by omega,i+1,rfl,hlt,?_⟩
  rw [hsc,hsc2]
  refine kN ?_
  exact aA (by omega) (by omega)
def ctB (w:aS) (id:Int):Bool:=fH w && cN w.aE id
def ctG (w:aS) (id:Int):List Int:=if fH w then fG w.aE id else []
def ctX (w:aS) (g:List Int):aS:={ w with aE:=gB w.aE g,bA:=jX w.bA g }
def ctW (w:aS) (id:Int):aS:=if ctB w id then jG (ctX w (fG w.aE id)) (mA w.bA (fG w.aE id)) else w
theorem aCx {w:aS} (hf:aE6 w) (hb:fH w=true) (f:bQ) (b:eO):qL { w with aE:=f,bA:=b }/\aMu { w with aE:=f,bA:=b }/\fR w.bA=true:=by
 obtain ⟨hL,hI,hbb⟩:=aQ5 hf hb b
 obtain ⟨a1,a2,a3,a4,a5,a6,a7,a8⟩:=hL
 exact ⟨⟨a1,a2,a3,a4,a5,a6,a7,a8⟩,hI,hbb⟩
theorem aM1 {f:bQ} {id:Int} (h:cN f id=false):fG f id=[]:=by
 unfold fG
 split
 ·rw [aNp]
  intro t ht
  unfold cN at h
  rw [List.any_eq_false] at h
  simpa using h t ht
 ·rfl
theorem aM0 {f:bQ} {id:Int} (hb:bX f=true) (h:cN f id=true):fG f id≠[]:=by
 obtain ⟨t,ht,hti⟩:=List.any_eq_true.1 h
 have hti:=of_decide_eq_true hti
 have hr:=(tP hb (fun t=>decide (t.bZ=id))).rec_ t ht
 rw [decide_eq_true hti,Bool.true_or] at hr
 have e:fG f id=(wo (fun t=>decide (t.bZ=id)) f.aG).2:=by unfold fG;rw [if_pos hb]
 rw [e]
 intro e2
 rw [e2] at hr
 simp at hr
theorem aM2 {f:bQ} (id:Int) (hb:bX f=true):(fG f id).length<=120:=by
 have h1:=xO f id
 unfold bX at hb
 simp only [Bool.and_eq_true,decide_eq_true_eq] at hb
 omega
theorem aG4 (b:eO) (g:List Int):(mA b g).length<=b.aP.length:=List.length_filter_le _ _
theorem aFI (w:aS) (id:Int) (hf:aE6 w):
  aC PP GG 154 [.agg w.c,.d (.int .i64 id)] (.tup [.agg (ctW w id).o,.own 0 1 (bM (ctG w id))]) [none,none]:=by
 refine cv Tryz.func154 [.agg (ctW w id).o,.own 0 1 (bM (ctG w id))] ?_
 have cw:=uE w hf
 have ccp:=jV w hf
 have crv:=aCn w.aE id hf.1
 have hW:ctW w id=if ctB w id then jG (ctX w (fG w.aE id)) (mA w.bA (fG w.aE id)) else w:=rfl
 have hB:ctB w id=(fH w && cN w.aE id):=rfl
 have hG:ctG w id=if fH w then fG w.aE id else []:=rfl
 have hi1:=cB w.aE.aG
 have hi2:=bW w.bA.aP
 have hi3:=dH w.bT.bE
 have hi4:=fY w.bO.cF
 have hi5:=eI w.bI
 cases hWB:fH w with
 |false=>
  rw [hWB,Bool.false_and] at hB
  rw [hB] at hW
  rw [hWB] at hG
  simp only [Bool.false_eq_true,if_false] at hW hG
  rw [hW,hG]
  rw [hWB] at cw
  clear hW hB hG crv
  exact dO @bM.eq_1 (Z2 ccp cw)
 |true=>
  rw [hWB,Bool.true_and] at hB
  rw [hWB] at cw
  rw [hWB,if_pos rfl] at hG
  have hfb:=tY hWB
  have hg2:=aM2 id hfb
  cases hH:cN w.aE id with
  |false=>
   rw [hH] at hB
   rw [hB] at hW
   simp only [Bool.false_eq_true,if_false] at hW
   rw [aM1 hH] at hG crv
   rw [aGW] at crv
   rw [hW,hG]
   clear hW hB hG hg2
   exact dO @bM.eq_1 (Z3 ccp cw crv)
  |true=>
   rw [hH] at hB
   rw [hB] at hW
   simp only [if_true] at hW
   have hne:=aM0 hfb hH
   rw [hG]
   clear hG hB
   generalize fG w.aE id=G at *
   have hne2:((G.length:Int)==0)=false:=by
    cases G with
    |nil=>exact absurd rfl hne
    |cons x t=>simp;omega
   have hgl:=kV G
   have hig:=jE G
   obtain ⟨hL,hI,hbb⟩:=aCx hf hWB (gB w.aE G) (jX w.bA G)
   have cdo:=vZ w.bA G hf.2.1 hbb (by omega)
   have hgll:=aG4 w.bA G
   have hbl:=hf.2.1.1
   have cgo:=sO { w with aE:=gB w.aE G,bA:=jX w.bA G } (mA w.bA G) hL (by omega)
   rw [show jG { w with aE:=gB w.aE G,bA:=jX w.bA G } (mA w.bA G)=ctW w id from hW.symm] at cgo
   clear hW hL hI hne
   generalize jP (bC { w with aE:=gB w.aE G,bA:=jX w.bA G } (mA w.bA G))=R at *
   generalize ctW w id=Z at *
   generalize mA w.bA G=GL at *
   generalize jX w.bA G=KB at *
   generalize gB w.aE G=LF at *
   obtain ⟨lf⟩:=LF
   obtain ⟨kb⟩:=KB
   obtain ⟨Zn,Zx,Zl,⟨Zf⟩,⟨Zb⟩,⟨Zu,Zfl,Zfm⟩,⟨Zq⟩,Zo⟩:=Z
   have hi6:=bW kb
   have hi7:=cB lf
   have hi8:=bW GL
   have hj1:=cB Zf
   have hj2:=bW Zb
   have hj3:=dH Zu
   have hj4:=fY Zq
   have hj5:=eI Zo
   have hj6:=cC R.done
   have hj7:=cC R.failed
   exact dO (Y2 hne2 hgl) (Z5 ccp cw crv cdo cgo)
structure Cur where
 b:List UInt8
 i:Int
 h:Int
@[simp] abbrev Cur.o (c:Cur):List C:=[.d (.slc 1 (aB c.b)),.d (.int .i64 c.i),.d (.int .i64 c.h)]
def Cur.good (c:Cur):Prop:=0<=c.i/\c.i<=c.b.length/\c.b.length<=1048577
def yM (a b:Int):Int:=IntKind.i64.wrap ((BitVec.ofInt 64 a &&& BitVec.ofInt 64 b).toNat)
def aKe (a b:Int):Int:=IntKind.i64.wrap ((BitVec.ofInt 64 a ^^^ BitVec.ofInt 64 b).toNat)
theorem aFi (a b:Int):fX .and .i64 a b=some (.int .i64 (yM a b)):=rfl
theorem aKd (a b:Int):fX .xor .i64 a b=some (.int .i64 (aKe a b)):=rfl
theorem aCP (a:Int):0<=yM a 255/\yM a 255<=255:=by
 unfold yM
 have h:(BitVec.ofInt 64 a &&& BitVec.ofInt 64 255).toNat<=255:=by
  rw [BitVec.toNat_and]
  exact Nat.and_le_right
 rw [show IntKind.i64.wrap ((BitVec.ofInt 64 a &&& BitVec.ofInt 64 255).toNat:Int)=((BitVec.ofInt 64 a &&& BitVec.ofInt 64 255).toNat:Int) from aA (by omega) (by omega)]
 omega
def aCH (h:Int):Int:=IntKind.i64.wrap (IntKind.i64.wrap (h*6364136223846793005)+1442695040888963407)
def aHi (h:Int):Int:=yM (aKe (h.fdiv 8589934592) (h.fdiv 35184372088832)) 255
def aTj (l:List UInt8) (i:Int):Int:=((l.getD i.toNat 0).toNat:Nat)
def eY (c:Cur):Int×Cur:=
 if c.i<(c.b.length:Nat) then (yM (aHi (aCH c.h)+aTj c.b c.i) 255,⟨c.b,c.i+1,aCH c.h⟩) else (aHi (aCH c.h),⟨c.b,c.i,aCH c.h⟩)
theorem qX (c:Cur):0<=(eY c).1/\(eY c).1<=255:=by
 unfold eY
 split
 ·exact aCP _
 ·exact aCP _
theorem mZ {c:Cur} (h:c.good):(eY c).2.good:=by
 unfold eY
 split<;>(unfold Cur.good at *;dsimp only at *;omega)
def cK (c:Cur) (n:Int):Int×Cur:=
 if n<=0 then (0,c) else if n<=256 then ((eY c).1.tmod n,(eY c).2) else
  (((eY c).1*65536+(eY (eY c).2).1*256+(eY (eY (eY c).2).2).1).tmod n,(eY (eY (eY c).2).2).2)
theorem jM (c:Cur) {n:Int} (h:0<n):0<=(cK c n).1/\(cK c n).1<n:=by
 have h1:=qX c
 have h2:=qX (eY c).2
 have h3:=qX (eY (eY c).2).2
 unfold cK
 rw [if_neg (by omega)]
 split
 ·exact ⟨Int.tmod_nonneg _ h1.1,Int.tmod_lt_of_pos _ h⟩
 ·exact ⟨Int.tmod_nonneg _ (by omega),Int.tmod_lt_of_pos _ h⟩
theorem aLd (c:Cur) (n:Int):0<=(cK c n).1/\(cK c n).1<=(if n<=0 then 0 else n-1):=by
 by_cases h:n<=0
 ·unfold cK;rw [if_pos h,if_pos h];exact ⟨Int.le_refl _,Int.le_refl _⟩
 ·have:=jM c (n:=n) (by omega);rw [if_neg h];omega
theorem fE {c:Cur} (h:c.good) (n:Int):(cK c n).2.good:=by
 unfold cK
 split
 ·exact h
 ·split
  ·exact mZ h
  ·exact mZ (mZ (mZ h))
def gX (c:Cur) (n:Int):Bool×Cur:=(decide ((cK c n).1=0),(cK c n).2)
theorem iH {c:Cur} (h:c.good) (n:Int):(gX c n).2.good:=fE h n
def fW {α:Type} (c:Cur) (z:α) (l:List α):α×Cur:=(l.getD (cK c l.length).1.toNat z,(cK c l.length).2)
theorem jC {α:Type} {c:Cur} (h:c.good) (z:α) (l:List α):(fW c z l).2.good:=fE h _
theorem xH {α:Type} (c:Cur) (z:α) {l:List α} (h:l≠[]):∃ k:Nat,(cK c l.length).1=(k:Int)/\l[k]?=some (fW c z l).1:=by
 have hl:0<l.length:=List.length_pos_iff.2 h
 obtain ⟨h1,h2⟩:=jM c (n:=(l.length:Int)) (by omega)
 refine ⟨(cK c l.length).1.toNat,by omega,?_⟩
 unfold fW
 rw [List.getD_eq_getElem?_getD,List.getElem?_eq_getElem (by omega)]
 rfl
theorem kQ {α:Type} (c:Cur) (z:α) {l:List α} (h:l≠[]):(fW c z l).1∈l:=by
 obtain ⟨k,_,hk⟩:=xH c z h
 exact List.mem_of_getElem? hk
def aMf:List (List UInt8):=[[],[65],[97,47,98],[97,98,99,100,101,102,103,104,105,106,107,108,109,110,111,112],[97,98,99,100,101,102,103,104,105,106,107,108,109,110,111,112,113],[45],[97,32,98],[43,97],[42,42]]
def aMe:List (List UInt8):=[[97],[98],[99],[107,118],[100,98],[120,45,49],[57]]
def qE (c:Cur):List UInt8×Cur:=if (gX c 25).1=true then fW (gX c 25).2 [] aMf else fW (gX c 25).2 [] aMe
theorem aCz {c:Cur} (h:c.good):(qE c).2.good:=by
 unfold qE
 split
 ·exact jC (iH h _) _ _
 ·exact jC (iH h _) _ _
theorem aBy (c:Cur):(qE c).1.length<=17:=by
 unfold qE
 have ha:∀ x,x∈aMf->x.length<=17:=by decide
 have hb:∀ x,x∈aMe->x.length<=17:=by decide
 split
 ·exact ha _ (kQ _ _ (by decide))
 ·exact hb _ (kQ _ _ (by decide))
def jQ (s:List UInt8×Cur):Nat->List UInt8×Cur
 |0=>s
 |n+1=>((jQ s n).1++[47]++(qE (jQ s n).2).1,(qE (jQ s n).2).2)
theorem aDd {s:List UInt8×Cur} (h:s.2.good) (n:Nat):(jQ s n).2.good:=by
 induction n with
 |zero=>exact h
 |succ n ih=>exact aCz ih
theorem aEN (s:List UInt8×Cur) (n:Nat):(jQ s n).1.length<=s.1.length+18*n:=by
 induction n with
 |zero=>exact Nat.le_refl _
 |succ n ih=>
  have:=aBy (jQ s n).2
  show ((jQ s n).1++[47]++(qE (jQ s n).2).1).length<=_
  simp only [List.length_append,List.length_cons,List.length_nil]
  omega
def oR (c:Cur):Int×Cur:=
 if (gX (cK c 4).2 20).1=true then (7+(cK (gX (cK c 4).2 20).2 2).1,(cK (gX (cK c 4).2 20).2 2).2) else ((cK c 4).1,(gX (cK c 4).2 20).2)
def aDe (c:Cur):List UInt8×Cur:=jQ ((qE c).1,(oR (qE c).2).2) (oR (qE c).2).1.toNat
theorem aEM (c:Cur):0<=(oR c).1/\(oR c).1<=8:=by
 have h1:=jM c (n:=4) (by omega)
 have h2:=jM (gX (cK c 4).2 20).2 (n:=2) (by omega)
 unfold oR
 split
 ·dsimp only;omega
 ·dsimp only;omega
theorem aDc {c:Cur} (h:c.good):(oR c).2.good:=by
 unfold oR
 split
 ·exact fE (iH (fE h _) _) _
 ·exact iH (fE h _) _
theorem aML {c:Cur} (h:c.good):(aDe c).2.good:=aDd (aDc (aCz h)) _
theorem aO9 (c:Cur):(aDe c).1.length<=200:=by
 have h1:=aBy c
 have h2:=aEM (qE c).2
 have h3:=aEN ((qE c).1,(oR (qE c).2).2) (oR (qE c).2).1.toNat
 unfold aDe
 dsimp only at h3
 omega
def iU (c:Cur):Nat->List UInt8×Cur
 |0=>([],c)
 |n+1=>
  let s:=iU c n
  let x:=cK s.2 256
  let y:=cK x.2 256
  let p:=fW y.2 0 [0,1,255,128,x.1,y.1]
  (s.1++[UInt8.ofNat p.1.toNat],p.2)
theorem aDf {c:Cur} (h:c.good) (n:Nat):(iU c n).2.good:=by
 induction n with
 |zero=>exact h
 |succ n ih=>exact jC (α:=Int) (fE (fE ih 256) 256) 0 _
theorem uW (c:Cur) (n:Nat):(iU c n).1.length=n:=by
 induction n with
 |zero=>rfl
 |succ n ih=>
  show ((iU c n).1++[_]).length=_
  rw [List.length_append,ih];rfl
theorem aMM (c:Cur) (x y:Int) (hx:0<=x/\x<=255) (hy:0<=y/\y<=255):0<=(fW c 0 [0,1,255,128,x,y]).1/\(fW c 0 [0,1,255,128,x,y]).1<=255:=by
 have h:=kQ c 0 (l:=[0,1,255,128,x,y]) (by simp)
 generalize (fW c 0 [0,1,255,128,x,y]).1=z at *
 simp only [List.mem_cons,List.not_mem_nil,or_false] at h
 omega
def aDb (n:Nat) (most:Int):Int:=if most<2+((n / 16:Nat):Int) then most else 2+((n / 16:Nat):Int)
theorem aQm (a:Int) (x:cW):aX (aOs a x):=by
 have:=vB (aHz a x.nX x.fAt x.aDL x.sM x.dM x.vN)
 unfold aX aOs
 omega
theorem aTV {c:eB} {n:cW} (hc:c.ok) (hn:n.ok) (hcc:c.cost<=1048576) (hnc:n.cost<=1048576):(aLU c n).ok:=by
 unfold aLU
 split
 ·rename_i hb
  unfold aPL at hb
  rw [Bool.and_eq_true] at hb
  have hseq:=aFd hb.2 (i:=(qJ c (pL c n)).dY.length-1) (x:=pL c n) (by
   unfold qJ
   split
   ·simp
   ·simp)
  have hr:=uQ hseq
  obtain ⟨h1,h2,h3,h4⟩:=hc
  obtain ⟨n1,n2,n3,n4,n5,n6,n7⟩:=hn
  have hm:maxLen=9223372036854775807:=rfl
  have hnew:(pL c n).ok:=⟨by unfold aX;omega,n2,n3,n4,n5,n6,aQm _ _⟩
  have hlen:=aHg hb.1
  unfold qJ
  split
  ·refine ⟨?_,h2,?_,?_⟩
   ·dsimp only
    cases hl:c.dY with
    |nil=>show aX 0;unfold aX;omega
    |cons z t=>exact (h4 z (by rw [hl];simp)).2.2.2.2.2.2
   ·simp;omega
   ·intro y hy
    rcases List.mem_append.1 hy with hy|hy
    ·exact h4 y (List.mem_of_mem_drop hy)
    ·simp at hy;subst hy;exact hnew
  ·refine ⟨h1,h2,?_,?_⟩
   ·simp;omega
   ·intro y hy
    rcases List.mem_append.1 hy with hy|hy
    ·exact h4 y hy
    ·simp at hy;subst hy;exact hnew
 ·exact hc
theorem aPU (x:Int):aX (IntKind.i64.wrap x):=by
 unfold aX IntKind.wrap
 simp only [show IntKind.i64.signed=true from rfl,show IntKind.i64.bits=64 from rfl,Bool.true_and,decide_eq_true_eq]
 split<;>omega
def aRt (h:Int) (b:UInt8):Int:=yM (IntKind.i64.wrap (IntKind.i64.wrap (IntKind.i64.wrap (h*149)+(b.toNat:Nat))+11)) 1073741823
def aIp (h:Int) (l:List UInt8):Int:=l.foldl aRt h
def aLb (code:List UInt8):Cur:=⟨code,0,aIp (705705+(code.length:Nat)) (code.take 4000)⟩
theorem aGX {code:List UInt8} (h:code.length<=1048577):(aLb code).good:=⟨Int.le_refl _,by show (0:Int)<=_;omega,h⟩
theorem aIc (c:Cur) (hc:c.good):aC PP GG 34 [.box c.o] (.d (.int .i64 (eY c).1)) [some (.box (eY c).2.o)]:=by
 refine cv Tryz.func34 [.d (.int .i64 (eY c).1)] ?_
 obtain ⟨b,i,h⟩:=c
 obtain ⟨h1,h2,h3⟩:=hc
 dsimp only at h1 h2 h3
 obtain ⟨k,rfl⟩:=Int.eq_ofNat_of_zero_le h1
 have hx:=aCP (aKe ((aCH h).fdiv 8589934592) ((aCH h).fdiv 35184372088832))
 unfold aCH at hx
 by_cases hlt:k<b.length
 ·have hr:eY ⟨b,(k:Int),h⟩=(yM (aHi (aCH h)+aTj b k) 255,⟨b,k+1,aCH h⟩):=by unfold eY;rw [if_pos (by dsimp only;omega)]
  have hg:=List.getElem?_eq_getElem hlt
  have hn:aTj b k=((b[k].toNat:Nat):Int):=by unfold aTj;rw [List.getD_eq_getElem?_getD,Int.toNat_natCast,hg];rfl
  rw [hr,hn]
  unfold aCH aHi
  generalize b[k]=x at *
  have hxx:=x.toNat_lt
  have hw1:IntKind.i64.wrap ((k:Int)+1)=(k:Int)+1:=aA (by omega) (by omega)
  have hw2:IntKind.i64.wrap (x.toNat:Nat)=(x.toNat:Nat):=aA (by omega) (by omega)
  have hw3:IntKind.i64.wrap (yM (aKe ((IntKind.i64.wrap (IntKind.i64.wrap (h*6364136223846793005)+1442695040888963407)).fdiv 8589934592) ((IntKind.i64.wrap (IntKind.i64.wrap (h*6364136223846793005)+1442695040888963407)).fdiv 35184372088832)) 255+(x.toNat:Nat))=yM (aKe ((IntKind.i64.wrap (IntKind.i64.wrap (h*6364136223846793005)+1442695040888963407)).fdiv 8589934592) ((IntKind.i64.wrap (IntKind.i64.wrap (h*6364136223846793005)+1442695040888963407)).fdiv 35184372088832)) 255+(x.toNat:Nat):=aA (by omega) (by omega)
  exact fC (Y6 hg @aFi @aKd hw1 hw2 hw3)
 ·have hr:eY ⟨b,(k:Int),h⟩=(aHi (aCH h),⟨b,k,aCH h⟩):=by unfold eY;rw [if_neg (by dsimp only;omega)]
  rw [hr]
  unfold aCH aHi
  exact fC (Y2 @aFi @aKd)
theorem kR (c:Cur) (n:Int) (hc:c.good):aC PP GG 17 [.box c.o,.d (.int .i64 n)] (.d (.int .i64 (cK c n).1)) [some (.box (cK c n).2.o),none]:=by
 refine cv Tryz.func17 [.d (.int .i64 (cK c n).1)] ?_
 have c1:=aIc c hc
 have r1:=qX c
 have c2:=aIc (eY c).2 (mZ hc)
 have r2:=qX (eY c).2
 have c3:=aIc (eY (eY c).2).2 (mZ (mZ hc))
 have r3:=qX (eY (eY c).2).2
 have hr:cK c n=if n<=0 then (0,c) else if n<=256 then ((eY c).1.tmod n,(eY c).2) else
  (((eY c).1*65536+(eY (eY c).2).1*256+(eY (eY (eY c).2).2).1).tmod n,(eY (eY (eY c).2).2).2):=rfl
 by_cases h0:n<=0
 ·rw [if_pos h0] at hr
  rw [hr]
  clear hr c1 c2 c3
  exact fC h0
 rw [if_neg h0] at hr
 have hn0:¬n=0:=by omega
 by_cases h1:n<=256
 ·rw [if_pos h1] at hr
  rw [hr]
  clear hr c2 c3
  exact dO (Y3 h0 h1 hn0) (Z1 c1)
 ·rw [if_neg h1] at hr
  rw [hr]
  clear hr
  generalize (eY (eY (eY c).2).2)=p3 at *
  generalize (eY (eY c).2)=p2 at *
  generalize eY c=p1 at *
  have hw1:IntKind.i64.wrap (p1.1*65536)=p1.1*65536:=aA (by omega) (by omega)
  have hw2:IntKind.i64.wrap (p2.1*256)=p2.1*256:=aA (by omega) (by omega)
  have hw3:IntKind.i64.wrap (p1.1*65536+p2.1*256)=p1.1*65536+p2.1*256:=aA (by omega) (by omega)
  have hw4:IntKind.i64.wrap (p1.1*65536+p2.1*256+p3.1)=p1.1*65536+p2.1*256+p3.1:=aA (by omega) (by omega)
  exact dO (Y7 h0 h1 hn0 hw1 hw2 hw3 hw4) (Z3 c1 c2 c3)
theorem sL (c:Cur) (n:Int) (hc:c.good):aC PP GG 18 [.box c.o,.d (.int .i64 n)] (.d (.bool (gX c n).1)) [some (.box (gX c n).2.o),none]:=by
 refine cv Tryz.func18 [.d (.bool (gX c n).1)] ?_
 have c1:=kR c n hc
 have e:gX c n=(decide ((cK c n).1=0),(cK c n).2):=rfl
 rw [e]
 have hq:((cK c n).1==0)=decide ((cK c n).1=0):=rfl
 exact dO hq (Z1 c1)
theorem wO (c:Cur) (l:List Int) (hc:c.good) (hl:l≠[]) (hs:l.length<=100):aC PP GG 48 [.box c.o,.own 0 1 (bM l)] (.d (.int .i64 (fW c 0 l).1)) [some (.box (fW c 0 l).2.o),none]:=by
 refine cv Tryz.func48 [.d (.int .i64 (fW c 0 l).1)] ?_
 have c1:=kR c l.length hc
 obtain ⟨k,hk,hg⟩:=xH c (0:Int) hl
 have e:(fW c 0 l).2=(cK c l.length).2:=rfl
 rw [e]
 have hkl:=(List.getElem?_eq_some_iff.1 hg).1
 generalize (fW c 0 l).1=v at *
 generalize (cK c l.length).2=c2 at *
 rw [hk] at c1
 exact dO (Y3 @kV @aET hg) (Z1 c1)
theorem tM (c:Cur) (l:List (List UInt8)) (hc:c.good) (hl:l≠[]) (hs:l.length<=100):aC PP GG 19 [.box c.o,.own 0 1 (aK l)] (.d (.str (fW c [] l).1)) [some (.box (fW c [] l).2.o),none]:=by
 refine cv Tryz.func19 [.d (.str (fW c [] l).1)] ?_
 have c1:=kR c l.length hc
 obtain ⟨k,hk,hg⟩:=xH c ([]:List UInt8) hl
 have e:(fW c [] l).2=(cK c l.length).2:=rfl
 rw [e]
 have hkl:=(List.getElem?_eq_some_iff.1 hg).1
 generalize (fW c [] l).1=v at *
 generalize (cK c l.length).2=c2 at *
 rw [hk] at c1
 exact dO (Y3 @bV @eX hg) (Z1 c1)
theorem aTv (code:List UInt8) (most:Int) (hs:code.length<=1048577):aC PP GG 30 [.d (.slc 1 (aB code)),.d (.int .i64 most)] (.d (.int .i64 (aDb code.length most))) [none,none]:=by
 refine cv Tryz.func30 [.d (.int .i64 (aDb code.length most))] ?_
 have hl:(aB code).length=code.length:=mD code
 have ht:((code.length:Nat):Int).tdiv 16=((code.length / 16:Nat):Int):=rfl
 have hr:aDb code.length most=if most<2+((code.length / 16:Nat):Int) then most else 2+((code.length / 16:Nat):Int):=rfl
 have hb:code.length / 16<=65537:=by omega
 generalize code.length / 16=q at *
 have hw1:IntKind.i64.wrap (q:Int)=(q:Int):=aA (by omega) (by omega)
 have hw2:IntKind.i64.wrap (2+(q:Int))=2+(q:Int):=aA (by omega) (by omega)
 by_cases h:most<2+(q:Int)
 ·rw [if_pos h] at hr
  rw [hr]
  exact fC (Y4 hl ht hw1 hw2)
 ·rw [if_neg h] at hr
  rw [hr]
  exact fC (Y4 hl ht hw1 hw2)
theorem aQ9 (c:Cur) (hc:c.good):aC PP GG 76 [.box c.o] (.d (.str (qE c).1)) [some (.box (qE c).2.o)]:=by
 refine cv Tryz.func76 [.d (.str (qE c).1)] ?_
 have c1:=sL c 25 hc
 have c2:aC PP GG 19 [.box (gX c 25).2.o,.own 0 1 [[.str []],[.str [65]],[.str [97,47,98]],[.str [97,98,99,100,101,102,103,104,105,106,107,108,109,110,111,112]],[.str [97,98,99,100,101,102,103,104,105,106,107,108,109,110,111,112,113]],[.str [45]],[.str [97,32,98]],[.str [43,97]],[.str [42,42]]]] (.d (.str (fW (gX c 25).2 [] aMf).1)) [some (.box (fW (gX c 25).2 [] aMf).2.o),none]:=tM (gX c 25).2 aMf (iH hc _) (by decide) (by decide)
 have c3:aC PP GG 19 [.box (gX c 25).2.o,.own 0 1 [[.str [97]],[.str [98]],[.str [99]],[.str [107,118]],[.str [100,98]],[.str [120,45,49]],[.str [57]]]] (.d (.str (fW (gX c 25).2 [] aMe).1)) [some (.box (fW (gX c 25).2 [] aMe).2.o),none]:=tM (gX c 25).2 aMe (iH hc _) (by decide) (by decide)
 have hr:qE c=if (gX c 25).1=true then fW (gX c 25).2 [] aMf else fW (gX c 25).2 [] aMe:=rfl
 generalize fW (gX c 25).2 [] aMf=p at *
 generalize fW (gX c 25).2 [] aMe=q at *
 generalize gX c 25=o at *
 obtain ⟨ob,oc⟩:=o
 cases ob
 ·rw [if_neg (by simp)] at hr
  rw [hr]
  clear hr c2
  exact oE (Z2 c1 c3)
 ·rw [if_pos rfl] at hr
  rw [hr]
  clear hr c3
  exact oE (Z2 c1 c2)
theorem aPr {l:List UInt8} {i:Nat} {x:UInt8} (h:l[i]?=some x) (a:Int):aIp a (l.take (i+1))=aRt (aIp a (l.take i)) x:=by
 rw [List.take_add_one,h]
 unfold aIp
 rw [List.foldl_append]
 rfl
theorem aRa (code:List UInt8) (hl:code.length<=1048577):aC PP GG 15 [.d (.slc 1 (aB code))] (.box (aLb code).o) [none]:=by
 refine cv Tryz.func15 [.box (aLb code).o] ?_
 have hbl:(aB code).length=code.length:=mD code
 have hw0:IntKind.i64.wrap (705705+(code.length:Nat))=705705+(code.length:Nat):=aA (by omega) (by omega)
 refine eT (Y2 hbl hw0) ?_
 refine bH (fun n st=>∃ i:Nat,n=code.length-i/\i<=code.length/\i<=4000 ∧
  st=⟨[],[(0,.d (.slc 1 (aB code))),(3,.d (.int .i64 (aIp (705705+(code.length:Nat)) (code.take i)))),(4,.d (.int .i64 i))],[],0⟩) _ ⟨0,rfl,by omega,by omega,?_⟩ ?_
 ·exact gE @aIp.eq_1
 rintro n st ⟨i,rfl,hi,hi2,rfl⟩
 by_cases hlt:i<code.length
 ·by_cases h4:i<4000
  ·have ha:=List.getElem?_eq_getElem hlt
   generalize code[i]=x at ha
   have hs:=aPr ha (705705+(code.length:Nat))
   unfold aRt at hs
   have hx:=x.toNat_lt
   generalize aIp (705705+(code.length:Nat)) (code.take i)=H at *
   have hw1:IntKind.i64.wrap (x.toNat:Nat)=(x.toNat:Nat):=aA (by omega) (by omega)
   refine eT (Y4 ha hbl @aFi hw1) ?_
   refine ⟨code.length-(i+1),by omega,i+1,rfl,by omega,by omega,?_⟩
   rw [hs]
   refine kN ?_
   exact aA (by omega) (by omega)
  ·have hie:i=4000:=by omega
   subst hie
   have e:aLb code=⟨code,0,aIp (705705+(code.length:Nat)) (code.take 4000)⟩:=rfl
   rw [e]
   exact fC hbl
 ·have hie:i=code.length:=by omega
  subst hie
  have e:aLb code=⟨code,0,aIp (705705+(code.length:Nat)) (code.take code.length)⟩:=by
   unfold aLb
   rw [List.take_of_length_le (Nat.le_refl code.length),List.take_of_length_le hi2]
  rw [e]
  exact fC hbl
theorem aEO (c:Cur) (n:Int) (hc:c.good) (hn:n<=5000):aC PP GG 29 [.box c.o,.d (.int .i64 n)] (.own 0 1 (aB (iU c n.toNat).1)) [some (.box (iU c n.toNat).2.o),none]:=by
 refine cv Tryz.func29 [.own 0 1 (aB (iU c n.toNat).1)] ?_
 refine jJ ?_
 refine bH (fun m st=>∃ i:Nat,m=n.toNat-i/\i<=n.toNat ∧
  st=⟨[],[(0,.ptr 0 0),(1,.d (.int .i64 n)),(5,.sl 1),(6,.d (.int .i64 i))],[(0,.box [.d (.slc 1 (aB (iU c i).2.b)),.d (.int .i64 (iU c i).2.i),.d (.int .i64 (iU c i).2.h)]),(1,.arr 0 0 1 (aB (iU c i).1))],2⟩) _ ⟨0,rfl,by omega,?_⟩ ?_
 ·exact gE (Y3 @iU.eq_1 @iU.eq_2 @aB.eq_1)
 rintro m st ⟨i,rfl,hi,rfl⟩
 by_cases hlt:(i:Int)<n
 rotate_left
 ·have hie:n.toNat=i:=by omega
  rw [hie]
  generalize iU c i=s at *
  exact fC hlt
 have hs:iU c (i+1)=((iU c i).1++[UInt8.ofNat (fW (cK (cK (iU c i).2 256).2 256).2 0 [0,1,255,128,(cK (iU c i).2 256).1,(cK (cK (iU c i).2 256).2 256).1]).1.toNat],(fW (cK (cK (iU c i).2 256).2 256).2 0 [0,1,255,128,(cK (iU c i).2 256).1,(cK (cK (iU c i).2 256).2 256).1]).2):=rfl
 have g1:=aDf hc i
 have hlen:=uW c i
 generalize iU c i=s at *
 have c1:=kR s.2 256 g1
 have g2:=fE g1 256
 have r2:=jM s.2 (n:=256) (by omega)
 generalize cK s.2 256=x at *
 have c2:=kR x.2 256 g2
 have g3:=fE g2 256
 have r3:=jM x.2 (n:=256) (by omega)
 generalize cK x.2 256=y at *
 have c3:=wO y.2 [0,1,255,128,x.1,y.1] g3 (by simp) (by simp)
 have r4:=aMM y.2 x.1 y.1 (by omega) (by omega)
 generalize fW y.2 0 [0,1,255,128,x.1,y.1]=p at *
 simp only [bM,List.map_cons,List.map_nil] at c3
 have hw:IntKind.u8.wrap p.1=((UInt8.ofNat p.1.toNat).toNat:Nat):=by
  rw [UInt8.toNat_ofNat',Nat.mod_eq_of_lt (by omega)]
  rw [show ((p.1.toNat:Nat):Int)=p.1 by omega]
  rw [IntKind.wrap_u8]
  omega
 have hbs:aB (s.1++[UInt8.ofNat p.1.toNat])=aB s.1++[[.int .u8 ((UInt8.ofNat p.1.toNat).toNat:Nat)]]:=by simp [aB]
 generalize UInt8.ofNat p.1.toNat=pb at *
 have hbl:=mD s.1
 refine fV (Y4 hlt hw @aM.eq_1 hbl) (Z3 c1 c2 c3) ?_
 refine ⟨n.toNat-(i+1),by omega,i+1,rfl,by omega,?_⟩
 rw [hs]
 dsimp only
 rw [hbs]
 refine kN ?_
 exact aA (by omega) (by omega)
theorem aTw (c:Cur) (hc:c.good):aC PP GG 57 [.box c.o] (.d (.str (aDe c).1)) [some (.box (aDe c).2.o)]:=by
 refine cv Tryz.func57 [.d (.str (aDe c).1)] ?_
 have hr:aDe c=jQ ((qE c).1,(oR (qE c).2).2) (oR (qE c).2).1.toNat:=rfl
 have c1:=aQ9 c hc
 have g1:=aCz hc
 have l1:=aBy c
 generalize qE c=s at *
 have hN:oR s.2=if (gX (cK s.2 4).2 20).1=true then (7+(cK (gX (cK s.2 4).2 20).2 2).1,(cK (gX (cK s.2 4).2 20).2 2).2) else ((cK s.2 4).1,(gX (cK s.2 4).2 20).2):=rfl
 have rN:=aEM s.2
 have gN:=aDc g1
 have c2:=kR s.2 4 g1
 have g2:=fE g1 4
 have r2:=jM s.2 (n:=4) (by omega)
 generalize cK s.2 4=n at *
 have c3:=sL n.2 20 g2
 have g3:=iH g2 20
 generalize gX n.2 20=o at *
 obtain ⟨o1,o2⟩:=o
 dsimp only at g3 hN
 have c4:=kR o2 2 g3
 have r4:=jM o2 (n:=2) (by omega)
 generalize cK o2 2=m at *
 rw [hr]
 clear hr
 generalize oR s.2=N at *
 obtain ⟨N1,N2⟩:=N
 dsimp only at rN gN ⊢
 refine u_1 ?_
 refine oK (Z1 c1) ?_
 refine oK (Z1 c2) ?_
 refine qK [0,3,4] (fun st'=>st'=⟨[],[(0,.ptr 0 0),(3,.d (.str s.1)),(4,.d (.int .i64 N1))],[(0,.box [.d (.slc 1 (aB N2.b)),.d (.int .i64 N2.i),.d (.int .i64 N2.h)])],1⟩) ?_ ?_
 ·cases o1
  ·rw [if_neg (by simp)] at hN
   injection hN with e1 e2
   subst e1 e2
   clear c4
   refine aFq (Z1 c3) ?_
   exact oJ
  ·rw [if_pos rfl] at hN
   injection hN with e1 e2
   subst e1 e2
   have hw:IntKind.i64.wrap (7+m.1)=7+m.1:=aA (by omega) (by omega)
   refine fV hw (Z2 c3 c4) ?_
   exact oJ
 rintro st rfl
 clear hN c1 c2 c3 c4
 refine jJ ?_
 refine bH (fun k st=>∃ i:Nat,k=N1.toNat-i/\i<=N1.toNat ∧
  st=⟨[],[(0,.ptr 0 0),(3,.d (.str (jQ (s.1,N2) i).1)),(4,.d (.int .i64 N1)),(5,.d (.int .i64 i))],[(0,.box [.d (.slc 1 (aB (jQ (s.1,N2) i).2.b)),.d (.int .i64 (jQ (s.1,N2) i).2.i),.d (.int .i64 (jQ (s.1,N2) i).2.h)])],1⟩) _ ⟨0,rfl,by omega,?_⟩ ?_
 ·exact gE (Y2 @jQ.eq_1 @jQ.eq_2)
 rintro k st ⟨i,rfl,hi,rfl⟩
 by_cases hlt:(i:Int)<N1
 rotate_left
 ·have hie:N1.toNat=i:=by omega
  rw [hie]
  generalize jQ (s.1,N2) i=L at *
  exact fC hlt
 have hs:jQ (s.1,N2) (i+1)=((jQ (s.1,N2) i).1++[47]++(qE (jQ (s.1,N2) i).2).1,(qE (jQ (s.1,N2) i).2).2):=rfl
 have gL:=aDd (s:=(s.1,N2)) gN i
 have hL:=aEN (s.1,N2) i
 generalize jQ (s.1,N2) i=L at *
 have c5:=aQ9 L.2 gL
 have l5:=aBy L.2
 generalize qE L.2=S at *
 dsimp only at hL
 refine fV (Y2 hlt @dP.eq_1) (Z1 c5) ?_
 refine ⟨N1.toNat-(i+1),by omega,i+1,rfl,by omega,?_⟩
 rw [hs]
 refine kN ?_
 exact aA (by omega) (by omega)
theorem aVL (code:List UInt8) (h:code.length<=maxLen):aC PP GG 4 [.d (.slc 1 (aB code))] (.d (.bool (decide (1048576<code.length)))) [none]:=by
 refine cv Tryz.func4 [.d (.bool (decide (1048576<code.length)))] ?_
 have hbl:=mD code
 have hd:decide ((1048576:Int)<(code.length:Nat))=decide (1048576<code.length):=decide_eq_decide.2 (by omega)
 exact fC (Y2 hbl hd)
def aPJ (code:List UInt8) (k:Nat):List UInt8:=UInt8.ofNat k::code.take 3000
theorem aR4 (code:List UInt8) (k:Nat):(aPJ code k).length<=3001:=by
 unfold aPJ;simp;omega
theorem aVR (code:List UInt8) (k:Nat) (h:code.length<=1048577) (hk:k<=255):aC PP GG 10 [.d (.slc 1 (aB code)),.d (.int .i64 k)] (.own 0 1 (aB (aPJ code k))) [none,none]:=by
 refine cv Tryz.func10 [.own 0 1 (aB (aPJ code k))] ?_
 have hbl:=mD code
 have hw:IntKind.u8.wrap (k:Int)=((UInt8.ofNat k).toNat:Nat):=by
  rw [UInt8.toNat_ofNat',Nat.mod_eq_of_lt (by omega),IntKind.wrap_u8]
  omega
 have hE:∀ i,aB (UInt8.ofNat k::code.take i)=[.int .u8 ((UInt8.ofNat k).toNat:Nat)]::aB (code.take i):=fun i=>rfl
 have hA:aPJ code k=UInt8.ofNat k::code.take 3000:=rfl
 rw [hA]
 clear hA
 generalize UInt8.ofNat k=kb at *
 refine eT hw ?_
 refine bH (fun n st=>∃ i:Nat,n=code.length-i/\i<=code.length/\i<=3000 ∧
  st=⟨[],[(0,.d (.slc 1 (aB code))),(5,.sl 0),(6,.d (.int .i64 i))],[(0,.arr 0 0 1 (aB (kb::code.take i)))],1⟩) _ ⟨0,rfl,by omega,by omega,?_⟩ ?_
 ·exact gE @aB.eq_1
 rintro n st ⟨i,rfl,hi,hi2,rfl⟩
 by_cases hlt:i<code.length
 ·by_cases h3:i<3000
  ·have ha:=List.getElem?_eq_getElem hlt
   have htk:code.take (i+1)=code.take i++[code[i]]:=by rw [List.take_add_one,ha];rfl
   have hs:aB (kb::code.take (i+1))=aB (kb::code.take i)++[[.int .u8 (code[i].toNat:Nat)]]:=by rw [htk];show aB ((kb::code.take i)++[code[i]])=_;unfold aB;rw [List.map_append];rfl
   generalize code[i]=x at *
   have hx:=x.toNat_lt
   have hln:(aB (kb::code.take i)).length=i+1:=by rw [mD];simp;omega
   generalize aB (kb::code.take i)=L at *
   refine eT (Y3 ha hbl @aM.eq_1) ?_
   refine ⟨code.length-(i+1),by omega,i+1,rfl,by omega,by omega,?_⟩
   rw [hs]
   refine kN ?_
   exact aA (by omega) (by omega)
  ·have hie:i=3000:=by omega
   subst hie
   exact fC hbl
 ·have hie:i=code.length:=by omega
  subst hie
  rw [List.take_of_length_le (Nat.le_refl code.length),List.take_of_length_le hi2]
  exact fC hbl
def vA (now:Int) (x:dK):Bool:=decide (x.bS<=now)
def aBA (now:Int) (l:List dK):List dK:=l.filter fun x=>!vA now x
def aE1 (now:Int) (l:List dK):List Int:=(l.filter (vA now)).map dK.bZ
def qC (r:dZ) (now:Int):dZ×List Int:=if lE r=true then ({ jK:=r.jK,bJ:=r.bJ,cS:=aBA now r.cS },aE1 now r.cS) else (r,[])
theorem aMQ {now:Int} {l:List dK} {i:Nat} {x:dK} (h:l[i]?=some x):aBA now (l.take (i+1))=aBA now (l.take i)++(if x.bS<=now then [] else [x])/\aE1 now (l.take (i+1))=aE1 now (l.take i)++(if x.bS<=now then [x.bZ] else []):=by
 unfold aBA aE1
 rw [List.take_add_one,h,List.filter_append,List.filter_append,List.map_append]
 by_cases he:x.bS<=now
 ·rw [if_pos he,if_pos he];simp [vA,he]
 ·rw [if_neg he,if_neg he];simp [vA,he]
theorem aDy (r:dZ) (now:Int) (hc:r.cost<=1048576):aC PP GG 167 [.agg r.c,.d (.int .i64 now)] (.tup [.agg (qC r now).1.o,.own 0 1 (bM (qC r now).2)]) [none,none]:=by
 refine cv Tryz.func167 [.agg (qC r now).1.o,.own 0 1 (bM (qC r now).2)] ?_
 have cr:=vY r hc
 have cc:=zD r hc
 obtain ⟨t,ht⟩:∃ t,qC r now=t:=⟨_,rfl⟩
 rw [ht]
 unfold qC at ht
 cases hb:lE r with
 |false=>
  rw [hb] at cr ht
  rw [if_neg (by simp)] at ht
  subst ht
  exact dO @bM.eq_1 (Z2 cr cc)
 |true=>
  rw [hb] at cr ht
  rw [if_pos rfl] at ht
  subst ht
  clear cc hb
  obtain ⟨f,k,l⟩:=r
  have hco:(dZ.mk f k l).cost=l.length+dF dK.cost l:=rfl
  simp only
  refine u_1 ?_
  refine u_1 ?_
  refine aD4 (Z1 cr) ?_
  refine aO rfl (fun h=>?_) (fun h=>aQ ?_)
  ·cases h
  refine u_1 ?_
  refine kX 7 2 rfl rfl rfl ?_
  refine u_3 ?_
  refine aU (bH (fun n st=>∃ (i:Nat) (w:List dK) (g:List Int),n=l.length-i/\i<=l.length/\w=aBA now (l.take i)/\g=aE1 now (l.take i) ∧
   st=⟨[],[(1,.d (.int .i64 now)),(2,.ptr 0 0),(4,.ptr 1 0),(6,.sl 2),(7,.ptr 3 0),(8,.d (.int .i64 i))],[(0,.box [.d (.int .i64 f),.d (.int .i64 k),.d (.slc 6 (jA l))]),(1,.box [.d (.int .i64 0),.d (.int .i64 0),.nil 1 6]),(2,.arr 0 0 1 (bM g)),(3,.box [.d (.int .i64 f),.d (.int .i64 k),.sl 4]),(4,.arr 0 1 6 (jA w))],5⟩) _ ⟨0,[],[],rfl,by omega,rfl,rfl,rfl⟩ ?_)
  rintro n st ⟨i,w,g,rfl,hi,hw,hgg,rfl⟩
  refine u_3 ?_
  refine aO rfl (fun h=>aQ ?_) (fun h=>cR ?_)
  ·simp at h
   have ha:=List.getElem?_eq_getElem h
   generalize l[i]=x at ha
   have hg:=mI (f:=dK.cost) ha
   have cw:=nU x (by omega)
   obtain ⟨hs,hs2⟩:=aMQ (now:=now) ha
   have hwl:w.length<=l.length:=by rw [hw];have:=List.length_filter_le (fun x=>!vA now x) (l.take i);unfold aBA;rw [List.length_take] at this;omega
   have hgl:g.length<=l.length:=by rw [hgg];unfold aE1;rw [List.length_map];have:=List.length_filter_le (vA now) (l.take i);rw [List.length_take] at this;omega
   rw [<-hw] at hs
   rw [<-hgg] at hs2
   refine aN (aU (aN ?_))
   refine u_2 ha ?_
   refine aO rfl (fun h2=>?_) (fun h2=>?_)
   ·have h3:x.bS<=now:=by simpa using h2
    rw [if_pos h3] at hs hs2
    rw [List.append_nil] at hs
    refine u_2 (Y2 ha @aM.eq_1) ?_
    refine u_5 ?_
    refine ⟨l.length-(i+1),by omega,i+1,w,g++[x.bZ],rfl,h,hs.symm,hs2.symm,?_⟩
    rw [aEU]
    simp [gc,bP,cI,gcV,gcO,dS,cU,eH,aY,bR,bU,dU]
    exact aA (by omega) (by omega)
   ·have h3:¬x.bS<=now:=by simpa using h2
    rw [if_neg h3] at hs hs2
    rw [List.append_nil] at hs2
    refine aP5 (Y2 ha @aM.eq_1) (Z1 cw) ?_
    refine u_5 ?_
    refine ⟨l.length-(i+1),by omega,i+1,w++[x],g,rfl,h,hs.symm,hs2.symm,?_⟩
    rw [uK]
    simp [gc,bP,cI,gcV,gcO,dS,cU,eH,aY,bR,bU,dU]
    exact aA (by omega) (by omega)
  ·simp at h
   rw [List.take_of_length_le h] at hw hgg
   subst hw hgg
   rw [if_pos rfl]
   refine u_1 ?_
   exact u_7
theorem aDw {α:Type} (f:α->Nat) (p:α->Bool) (l:List α):dF f (l.filter p)<=dF f l:=by
 induction l with
 |nil=>simp [dF]
 |cons x l ih=>
  cases h:p x with
  |true=>simp only [List.filter_cons,h,if_true,dF];omega
  |false=>simp only [List.filter_cons,h,dF,Bool.false_eq_true,if_false];omega
theorem aKo (r:dZ) (now:Int):(qC r now).1.cost<=r.cost/\(qC r now).2.length<=r.cS.length:=by
 unfold qC
 by_cases h:lE r=true
 ·rw [if_pos h]
  have h1:=aDw dK.cost (fun x=>!vA now x) r.cS
  have h2:=List.length_filter_le (fun x=>!vA now x) r.cS
  have h3:=List.length_filter_le (vA now) r.cS
  refine ⟨?_,by simpa [aE1] using h3⟩
  show (aBA now r.cS).length+dF dK.cost (aBA now r.cS)<=r.cS.length+dF dK.cost r.cS
  unfold aBA
  omega
 ·rw [if_neg h]
  exact ⟨Nat.le_refl _,by simp⟩
theorem aM9 (a:List UInt8) (ha:a.length<=70368744177664):aC PP GG 13 [.d (.slc 1 (aB a))] (.own 0 1 (aB a)) [none]:=by
 refine cv Tryz.func13 [.own 0 1 (aB a)] ?_
 refine u_1 ?_
 refine u_6 @sP.eq_1 ?_
 refine u_3 ?_
 refine aU (bH (fun n st=>∃ i:Nat,n=a.length-i/\i<=a.length ∧
  st=⟨[],[(0,.d (.slc 1 (aB a))),(3,.sl 0),(4,.d (.int .i64 i))],[(0,.arr 0 0 1 (aB (a.take i)))],1⟩) _ ⟨0,rfl,by omega,rfl⟩ ?_)
 rintro n st ⟨i,rfl,hi,rfl⟩
 refine u_3 ?_
 refine aO rfl (fun h=>aQ ?_) (fun h=>cR ?_)
 ·simp at h
  have hx:=List.getElem?_eq_getElem h
  generalize a[i]=x at hx
  have hl:(a.take i).length<=a.length:=by rw [List.length_take];omega
  refine aN (aU ?_)
  refine u_2 (Y2 hx @aM.eq_1) ?_
  refine u_5 ?_
  exact ⟨a.length-(i+1),by omega,i+1,rfl,h,by simp [gc,bP,cI,gcV,gcO,dS,cU,eH,aY,bR,bU,dU,pW hx];exact aA (by omega) (by omega)⟩
 ·simp at h
  rw [if_pos rfl]
  refine u_6 (List.take_of_length_le h) ?_
  exact u_7
theorem aHF (a:List UInt8) (hsz:a.length<=281474976710656):aC PP GG 14 [.d (.slc 1 (aB a)),.d (.slc 1 (aB a))] (.d (.bool true)) [none,none]:=by
 refine cv Tryz.func14 [.d (.bool true)] ?_
 refine jJ ?_
 refine bH (fun n st=>∃ i:Nat,n=a.length-i/\i<=a.length/\st=⟨[],[(0,.d (.slc 1 (aB a))),(1,.d (.slc 1 (aB a))),(5,.d (.int .i64 i))],[],0⟩) _ ⟨0,rfl,by omega,?_⟩ ?_
 ·exact oJ
 rintro n st ⟨i,rfl,hi,rfl⟩
 by_cases hlt:i<a.length
 ·have ha:=List.getElem?_eq_getElem hlt
  generalize a[i]=x at ha
  refine eT ha ?_
  refine ⟨a.length-(i+1),by omega,i+1,rfl,hlt,?_⟩
  refine kN ?_
  exact aA (by omega) (by omega)
 ·have hie:i=a.length:=by omega
  subst hie
  exact nK
structure fM where
 aH:List UInt8
 iM:List UInt8
 rY:Int
 cX:Int
 deriving DecidableEq
@[simp] abbrev fM.row (x:fM):List D:=[.str x.aH,.str x.iM,.int .i64 x.rY,.int .i64 x.cX]
@[simp] abbrev fM.c (x:fM):List C:=[.d (.str x.aH),.d (.str x.iM),.d (.int .i64 x.rY),.d (.int .i64 x.cX)]
@[simp] abbrev fM.o (x:fM):List C:=[.d (.str x.aH),.d (.str x.iM),.d (.int .i64 x.rY),.d (.int .i64 x.cX)]
def kP (l:List fM):List (List D):=l.map fM.row
@[simp] theorem aWa (l:List fM):(kP l).length=l.length:=by simp [kP]
@[simp] theorem aWb (l:List fM) (i:Nat):(kP l)[i]?=(l[i]?).map fM.row:=by simp [kP]
def fM.cost (x:fM):Nat:=x.aH.length+x.iM.length
def fM.ok (x:fM):Prop:=x.aH.length<=maxLen/\x.iM.length<=maxLen/\aX x.rY/\aX x.cX
def pQ (r:fM):Bool:=fA r.aH && fA r.iM && decide (r.iM.length<=6) && inB r.cX 1 1000000 && inB r.rY 1 r.cX
theorem sH (r:fM) (h1:r.aH.length<=1048576) (h2:r.iM.length<=1048576):aC PP GG 161 [.agg r.c] (.d (.bool (pQ r))) [none]:=by
 refine cv Tryz.func161 [.d (.bool (pQ r))] ?_
 have c1:=lH r.aH (by omega)
 have c2:=lH r.iM (by omega)
 have c3:aC PP GG 20 [.d (.int .i64 r.cX),.d (.int .i64 1),.d (.int .i64 1000000)] (.d (.bool (inB r.cX 1 1000000))) [none,none,none]:=bD _ _ _
 have c4:aC PP GG 20 [.d (.int .i64 r.rY),.d (.int .i64 1),.d (.int .i64 r.cX)] (.d (.bool (inB r.rY 1 r.cX))) [none,none,none]:=bD _ _ _
 obtain ⟨t,ht⟩:∃ t,pQ r=t:=⟨_,rfl⟩
 rw [ht]
 unfold pQ at ht
 have hd:decide ((r.iM.length:Int)<=6)=decide (r.iM.length<=6):=decide_eq_decide.2 (by omega)
 generalize fA r.aH=a at *
 generalize fA r.iM=b at *
 generalize decide (r.iM.length<=6)=d at *
 generalize inB r.cX 1 1000000=x at *
 generalize inB r.rY 1 r.cX=y at *
 subst ht
 cases a
 ·exact oE (Z1 c1)
 cases b
 ·exact oE (Z2 c1 c2)
 cases d
 ·exact dO hd (Z2 c1 c2)
 cases x
 ·exact dO hd (Z3 c1 c2 c3)
 ·exact dO hd (Z4 c1 c2 c3 c4)
def zI (m:Nat) (i:Nat):UInt8:=UInt8.ofNat (48+m / 10 ^ i % 10)
def six (m:Nat):List UInt8:=[zI m 5,zI m 4,zI m 3,zI m 2,zI m 1,zI m 0]
def tL (m:Nat):Nat->List UInt8
 |0=>[]
 |i+1=>zI m i::tL m i
theorem aCy (m:Nat):∀ i,(tL m i).length=i
 |0=>rfl
 |i+1=>by rw [tL,List.length_cons,aCy m i]
def mS (r:fM) (n:Int):List UInt8:=r.iM++six n.toNat
theorem aWI (q:Nat):fX .rem .i64 (q:Int) 10=some (.int .i64 ((q % 10:Nat):Int)):=by
 rw [aMT _ _ _ (by omega),Int.tmod_eq_emod_of_nonneg (by omega)];rfl
theorem aWN (q:Nat) (hq:q<=9223372036854775807):fX .quo .i64 (q:Int) 10=some (.int .i64 ((q / 10:Nat):Int)):=by
 rw [aMU _ _ _ (by omega),Int.tdiv_eq_ediv_of_nonneg (by omega),show (q:Int) / 10=((q / 10:Nat):Int) from rfl,aA (by omega) (by omega)]
theorem aRQ (m i:Nat):IntKind.u8.wrap (48+((m / 10 ^ i % 10:Nat):Int))=((zI m i).toNat:Int):=by
 unfold zI
 rw [IntKind.wrap_u8,UInt8.toNat_ofNat'];omega
theorem aLP (b:UInt8) (l:List UInt8):aB (b::l)=[[.int .u8 b.toNat]]++aB l:=by simp [aB]
theorem aFA (r:fM) (n:Int) (h1:r.aH.length<=1048576) (h2:r.iM.length<=1048576) (hr:pQ r=true) (hn:inB n 0 1000000000=true):aC PP GG 231 [.agg r.c,.d (.int .i64 n)] (.d (.str (mS r n))) [none,none]:=by
 refine cv Tryz.func231 [.d (.str (mS r n))] ?_
 have c1:=sH r h1 h2
 have c2:aC PP GG 20 [.d (.int .i64 n),.d (.int .i64 0),.d (.int .i64 1000000000)] (.d (.bool (inB n 0 1000000000))) [none,none,none]:=bD _ _ _
 rw [hr] at c1
 rw [hn] at c2
 obtain ⟨h0,h9⟩:=cD hn
 obtain ⟨r1,r2,r3,r4⟩:=r
 have hU:mS ⟨r1,r2,r3,r4⟩ n=r2++six n.toNat:=rfl
 generalize mS ⟨r1,r2,r3,r4⟩ n=U at *
 obtain ⟨m,rfl⟩:∃ m:Nat,n=m:=⟨n.toNat,by omega⟩
 simp only [Int.toNat_natCast] at hU
 refine aFq (Z2 c1 c2) ?_
 refine bH (fun k st=>∃ i:Nat,k=6-i/\i<=6/\st=⟨[],[(1,.d (.int .i64 ((m / 10 ^ i:Nat):Int))),(2,.ptr 0 0),(5,.sl 1),(6,.d (.int .i64 i))],[(0,.box [.d (.str r1),.d (.str r2),.d (.int .i64 r3),.d (.int .i64 r4)]),(1,.arr 0 0 1 (aB (tL m i)))],2⟩) _ ⟨0,rfl,by omega,?_⟩ ?_
 ·exact gE (Y3 @tL.eq_1 @tL.eq_2 @aB.eq_1)
 rintro k st ⟨i,rfl,hi,rfl⟩
 by_cases hlt:i<6
 ·have hq:m / 10 ^ i<=m:=Nat.div_le_self _ _
  have f1:=aWI (m / 10 ^ i)
  have f2:IntKind.i64.wrap (48+((m / 10 ^ i % 10:Nat):Int))=48+((m / 10 ^ i % 10:Nat):Int):=aA (by omega) (by omega)
  have f3:=aRQ m i
  have f4:=aWN (m / 10 ^ i) (by omega)
  have f5:m / 10 ^ i / 10=m / 10 ^ (i+1):=by rw [Nat.div_div_eq_div_mul,Nat.pow_succ]
  have f6:aB (tL m (i+1))=[[.int .u8 (zI m i).toNat]]++aB (tL m i):=aLP _ _
  have f7:=aCy m i
  have f8:IntKind.i64.wrap ((i:Int)+1)=(i:Int)+1:=aA (by omega) (by omega)
  rw [f5] at f4
  generalize m / 10 ^ i=q at *
  generalize q % 10=q1 at *
  refine eT (Y6 f1 f2 f3 f4 f7 @aM.eq_1) ?_
  refine ⟨6-(i+1),by omega,i+1,rfl,hlt,?_⟩
  rw [f6]
  exact gE f8
 ·have hi6:i=6:=by omega
  subst hi6
  have hlen:(tL m 6).length=6:=aCy m 6
  rw [show six m=tL m 6 from rfl] at hU
  have hso:=eP (tL m 6)
  generalize aB (tL m 6)=BD at *
  generalize tL m 6=L at *
  subst hU
  dsimp only at h2
  exact fC (Y3 hso hlen @dP.eq_1)
def aGw (key:Int) (name:List UInt8):List UInt8:=Lib.itoa (rZ (nJ key++name))
theorem aFz (key:Int) (name:List UInt8) (hk:lT key=true) (hn:fA name=true) (hl:name.length<=1048576):aC PP GG 232 [.d (.int .i64 key),.d (.str name)] (.d (.str (aGw key name))) [none,none]:=by
 refine cv Tryz.func232 [.d (.str (aGw key name))] ?_
 have c1:=iI key
 have c2:=lH name (by omega)
 rw [hk] at c1
 rw [hn] at c2
 have c3:=uF key hk
 have hwl:=aD1 key
 have hU:aGw key name=Lib.itoa (rZ (nJ key++name)):=rfl
 generalize nJ key=wk at *
 have c4:=gD wk name (by omega)
 have hib:=aZ (wk++name)
 have c5:=tX (wk++name) (by rw [List.length_append];omega)
 have hd:aX (rZ (wk++name)):=by have:=vB (wk++name);unfold aX;omega
 generalize rZ (wk++name)=q at *
 have c6:=kT q hd
 rw [hU]
 exact oE (Z6 c1 c2 c3 c4 c5 c6)
theorem aDa {α:Type} {key:α->List UInt8} (s:List UInt8):∀ {l:List α},l.Pairwise (fun y x=>Go.Op.bytesLess (key y) (key x)=true) →
  nS key s l<=l.length/\(∀ (m:Nat) x,m<nS key s l->l[m]?=some x->Go.Op.bytesLess (key x) s=true)/\(∀ (m:Nat) x,nS key s l<=m->l[m]?=some x->Go.Op.bytesLess (key x) s=false):=by
 intro l
 induction l with
 |nil=>intro _;exact ⟨Nat.le_refl _,fun m x h=>by simp [nS] at h,fun m x _ h=>by simp at h⟩
 |cons a t ih=>
  intro h
  rw [List.pairwise_cons] at h
  obtain ⟨i1,i2,i3⟩:=ih h.2
  cases ha:Go.Op.bytesLess (key a) s with
  |true=>
   have e:nS key s (a::t)=nS key s t+1:=by simp [nS,ha]
   rw [e]
   refine ⟨by simpa using i1,fun m x hm hx=>?_,fun m x hm hx=>?_⟩
   ·cases m with
    |zero=>simp at hx;subst hx;exact ha
    |succ m=>exact i2 m x (by omega) (by simpa using hx)
   ·cases m with
    |zero=>omega
    |succ m=>exact i3 m x (by omega) (by simpa using hx)
  |false=>
   have hall:∀ x,x∈t->Go.Op.bytesLess (key x) s=false:=fun x hx=>by
    cases hb:Go.Op.bytesLess (key x) s with
    |false=>rfl
    |true=>have:=aFg (h.1 x hx) hb;rw [ha] at this;cases this
   have e:nS key s (a::t)=0:=by
    have:t.filter (fun x=>Go.Op.bytesLess (key x) s)=[]:=by rw [List.filter_eq_nil_iff];intro x hx;rw [hall x hx];simp
    simp [nS,ha,this]
   rw [e]
   refine ⟨by omega,fun m x hm=>by omega,fun m x _ hx=>?_⟩
   cases m with
   |zero=>simp at hx;subst hx;exact ha
   |succ m=>exact hall x (List.mem_of_getElem? (by simpa using hx))
def iV {α:Type} (l:List α) (k:Nat) (u:α) (i:Nat):List α:=if i<=k then l.take i else l.take k++u::(l.drop k).take (i-k)
theorem aMW {α:Type} (l:List α) (k:Nat) (u:α):iV l k u 0=[]:=by simp [iV]
theorem aRo {α:Type} {l:List α} {k:Nat} {u x:α} {i:Nat} (h:i<k) (hx:l[i]?=some x):iV l k u (i+1)=iV l k u i++[x]:=by
 unfold iV
 rw [if_pos (by omega),if_pos (by omega),List.take_add_one,hx];rfl
theorem aRq {α:Type} {l:List α} {k:Nat} {u x:α} (hx:l[k]?=some x):iV l k u (k+1)=iV l k u k++[u]++[x]:=by
 unfold iV
 rw [if_neg (by omega),if_pos (by omega),show k+1-k=1 by omega,List.take_one,List.head?_drop,hx]
 simp
theorem aRp {α:Type} {l:List α} {k:Nat} {u x:α} {i:Nat} (h:k<i) (hx:l[i]?=some x):iV l k u (i+1)=iV l k u i++[x]:=by
 unfold iV
 rw [if_neg (by omega),if_neg (by omega),show i+1-k=(i-k)+1 by omega,List.take_add_one,List.getElem?_drop,show k+(i-k)=i by omega,hx]
 simp
theorem aPn {α:Type} {l:List α} {k:Nat} {u:α} (h:k<l.length):iV l k u l.length=l.take k++u::l.drop k:=by
 unfold iV
 rw [if_neg (by omega)]
 rw [show (l.drop k).take (l.length-k)=l.drop k from List.take_of_length_le (by rw [List.length_drop];omega)]
theorem aPm {α:Type} {l:List α} {k:Nat} {u:α} (h:k=l.length):iV l k u l.length++[u]=l.take k++u::l.drop k:=by
 unfold iV
 subst h
 rw [if_pos (Nat.le_refl _)]
 simp
theorem aPl {α:Type} (l:List α) (k:Nat) (u:α) (i:Nat):(iV l k u i).length<=l.length+1:=by
 unfold iV
 split
 ·simp;omega
 ·simp;omega
theorem aMh (a:List dD) (ff fm:Int) (s:List UInt8) (hl:a.length<=1048576):aC PP GG 233 [.agg (jZ.mk a ff fm).c,.d (.str s)] (.d (.int .i64 (nA (fun u=>u.aH==s) a))) [none,none]:=by
 refine cv Tryz.func233 [.d (.int .i64 (nA (fun u=>u.aH==s) a))] ?_
 refine jJ ?_
 refine bH (fun n st=>∃ i:Nat,n=a.length-i/\i<=a.length/\(∀ x,x∈a.take i->(x.aH==s)=false)/\st=⟨[],[(1,.d (.str s)),(2,.ptr 0 0),(5,.d (.int .i64 i))],[(0,.box [.d (.slc 2 (dG a)),.d (.int .i64 ff),.d (.int .i64 fm)])],1⟩) _ ⟨0,rfl,by omega,by simp,?_⟩ ?_
 ·exact oJ
 rintro n st ⟨i,rfl,hi,hn,rfl⟩
 by_cases hlt:i<a.length
 ·have ha:=List.getElem?_eq_getElem hlt
  generalize a[i]=x at ha
  cases hx:(x.aH==s) with
  |true=>
   rw [aLn ha hn hx]
   exact fC (Y2 ha hx)
  |false=>
   refine eT (Y2 ha hx) ?_
   refine ⟨a.length-(i+1),by omega,i+1,rfl,hlt,fun y hy=>?_,?_⟩
   ·rw [List.take_add_one,ha,List.mem_append] at hy
    rcases hy with h|h
    ·exact hn y h
    ·simp at h;subst h;exact hx
   ·refine kN ?_
    exact aA (by omega) (by omega)
 ·have hie:i=a.length:=by omega
  subst hie
  rw [List.take_length] at hn
  rw [aG1 hn]
  exact nK
def qH:dD:=⟨[],[]⟩
def muC (f:jZ) (r:fM) (key:Int):Int:=if (pQ r && lT key && !decide (f.bF=1000000000))=false then 1 else if 0<f.gT then 2 else if (f.bE.any fun u=>u.aH==mS r (f.bF+1))=true then 3 else if f.bE.length=120 then 4 else 0
def muN (f:jZ) (r:fM) (key:Int):dD:=⟨mS r (f.bF+1),aGw key (mS r (f.bF+1))⟩
def muU (f:jZ) (r:fM) (key:Int):dD:=if muC f r key=0 then muN f r key else qH
def tD (l:List dD) (u:dD):List dD:=l.take (nS dD.aH u.aH l)++u::l.drop (nS dD.aH u.aH l)
def muF (f:jZ) (r:fM) (key:Int):jZ:=
 if muC f r key=2 then { f with gT:=f.gT-1 } else if muC f r key=3 then { f with bF:=f.bF+1 } else if muC f r key=0 then ⟨tD f.bE (muN f r key),f.gT,f.bF+1⟩ else f
theorem aPD (m i:Nat):aK6 (zI m i)=true:=by
 unfold aK6 zI
 have h:(UInt8.ofNat (48+m / 10 ^ i % 10)).toNat=48+m / 10 ^ i % 10:=by rw [UInt8.toNat_ofNat'];omega
 rw [h,decide_eq_true_iff]
 omega
theorem aKj {r:fM} (h:pQ r=true) (n:Int):fA (mS r n)=true/\(mS r n).length<=12:=by
 unfold pQ at h
 simp only [Bool.and_eq_true,decide_eq_true_eq] at h
 obtain ⟨⟨⟨⟨-,hp⟩,hl⟩,-⟩,-⟩:=h
 unfold fA at hp ⊢
 simp only [Bool.and_eq_true,decide_eq_true_eq] at hp ⊢
 have hlen:(mS r n).length=r.iM.length+6:=by simp [mS,six]
 refine ⟨⟨by omega,?_⟩,by omega⟩
 unfold mS six
 rw [List.all_append,hp.2]
 simp [aPD]
theorem aFF (f:jZ) (r:fM) (key:Int) (hf:rQ f) (hb:oV f=true) (h1:r.aH.length<=1048576) (h2:r.iM.length<=1048576):
  aC PP GG 205 [.agg f.c,.agg r.c,.d (.int .i64 key)] (.tup [.agg (muF f r key).o,.agg (muU f r key).o,.d (.int .i64 (muC f r key))]) [none,none,none]:=by
 refine cv Tryz.func205 [.agg (muF f r key).o,.agg (muU f r key).o,.d (.int .i64 (muC f r key))] ?_
 obtain ⟨q1,q2,q3,q4,q5⟩:=(mJ f).1 hb
 have cfo:=uG f hf
 rw [hb] at cfo
 have cro:=sH r h1 h2
 have cke:=iI key
 have hun:=fun h=>aKj (r:=r) h (f.bF+1)
 have cat:=fun s=>aMh f.bE f.gT f.bF s hf.1
 have hsp:=aDa (key:=dD.aH) (mS r (f.bF+1)) q5
 have cun:=fun h h'=>aFA r (f.bF+1) h1 h2 h h'
 have cup:=fun h h' h''=>aFz key (mS r (f.bF+1)) h h' h''
 have hC:muC f r key=if (pQ r && lT key && !decide (f.bF=1000000000))=false then 1 else if 0<f.gT then 2 else if (f.bE.any fun u=>u.aH==mS r (f.bF+1))=true then 3 else if f.bE.length=120 then 4 else 0:=rfl
 have hN:muN f r key=⟨mS r (f.bF+1),aGw key (mS r (f.bF+1))⟩:=rfl
 have hU:muU f r key=if muC f r key=0 then muN f r key else qH:=rfl
 have hF:muF f r key=if muC f r key=2 then { f with gT:=f.gT-1 } else if muC f r key=3 then { f with bF:=f.bF+1 } else if muC f r key=0 then ⟨tD f.bE (muN f r key),f.gT,f.bF+1⟩ else f:=rfl
 have hP:tD f.bE (muN f r key)=f.bE.take (nS dD.aH (mS r (f.bF+1)) f.bE)++muN f r key::f.bE.drop (nS dD.aH (mS r (f.bF+1)) f.bE):=rfl
 generalize muF f r key=F at *
 generalize muU f r key=U at *
 generalize muC f r key=CC at *
 generalize muN f r key=NN at *
 generalize mS r (f.bF+1)=nm at *
 generalize aGw key nm=pw at *
 obtain ⟨us,ff,fm⟩:=f
 have ccp:=qN us ff fm (by have:=hf.1;dsimp only at this;omega)
 have hff:=cD q2
 have hfm:=cD q3
 dsimp only at *
 have hnm:=fun h=>(hun h).1
 have hnl:=fun h=>(hun h).2
 generalize tD us NN=PU at *
 generalize hk:nS dD.aH nm us=k at *
 generalize pQ r=R at *
 generalize lT key=KB at *
 have hi3:=dH us
 obtain ⟨r1,r2,r3,r4⟩:=r
 cases R
 ·simp only [Bool.false_and,if_true] at hC
  subst hC
  simp only [Int.reduceEq,if_false] at hU hF
  subst hU hF
  exact dO @qH.eq_1 (Z3 cfo cro ccp)
 cases KB
 ·simp only [Bool.and_false,Bool.false_and,if_true] at hC
  subst hC
  simp only [Int.reduceEq,if_false] at hU hF
  subst hU hF
  exact dO @qH.eq_1 (Z4 cfo cro ccp cke)
 by_cases hmx:fm=1000000000
 ·rw [decide_eq_true hmx] at hC
  simp only [Bool.not_true,Bool.and_false,if_true] at hC
  subst hC
  simp only [Int.reduceEq,if_false] at hU hF
  subst hU hF hmx
  exact dO @qH.eq_1 (Z4 cfo cro ccp cke)
 rw [decide_eq_false hmx] at hC
 simp only [Bool.not_false,Bool.and_self,Bool.true_eq_false,if_false] at hC
 have hmx2:(fm==1000000000)=false:=by simpa using hmx
 by_cases hfp:0<ff
 ·rw [if_pos hfp] at hC
  subst hC
  simp only [Int.reduceEq,if_false,if_true] at hU hF
  subst hU hF
  have hw:IntKind.i64.wrap (ff-1)=ff-1:=aA (by omega) (by omega)
  exact dO (Y3 @qH.eq_1 hmx2 hw) (Z4 cfo cro ccp cke)
 rw [if_neg hfp] at hC
 have cun:=cun rfl (by unfold inB;simp;omega)
 have cup:=cup rfl (hnm rfl) (by have:=hnl rfl;omega)
 have cat:=cat nm
 have hw1:IntKind.i64.wrap (fm+1)=fm+1:=aA (by omega) (by omega)
 have hany:=tO (fun u:dD=>u.aH==nm) us
 have hge:∀ z:Int,(z>=0)=(0<=z):=fun z=>rfl
 generalize nA (fun u:dD=>u.aH==nm) us=ix at *
 by_cases hex:(us.any fun u=>u.aH==nm)=true
 ·rw [if_pos hex] at hC
  rw [hex] at hany
  subst hC
  simp only [Int.reduceEq,if_false,if_true] at hU hF
  subst hU hF
  exact dO (Y4 @qH.eq_1 hmx2 hw1 hany) (Z7 cfo cro ccp cke cun cup cat)
 rw [if_neg hex] at hC
 have hex2:(us.any fun u=>u.aH==nm)=false:=by simpa using hex
 rw [hex2] at hany
 by_cases hfull:us.length=120
 ·rw [if_pos hfull] at hC
  subst hC
  simp only [Int.reduceEq,if_false,if_true] at hU hF
  subst hU hF
  exact dO (Y5 @qH.eq_1 hmx2 hw1 hany hfull) (Z7 cfo cro ccp cke cun cup cat)
 rw [if_neg hfull] at hC
 subst hC
 simp only [Int.reduceEq,if_false,if_true] at hU hF
 subst hU hF
 refine fV (Y4 @qH.eq_1 hmx2 hw1 hany) (Z7 cfo cro ccp cke cun cup cat) ?_
 subst hN
 obtain ⟨hs1,hs2,hs3⟩:=hsp
 have hx1:∀ m x,m<k->us[m]?=some x->Go.Op.bytesLess nm x.aH=false:=fun m x h h'=>aRZ (hs2 m x h h')
 have hx2:∀ m x,k<=m->us[m]?=some x->Go.Op.bytesLess nm x.aH=true:=fun m x h h'=>by
  have hne:x.aH≠nm:=fun e=>by
   rw [List.any_eq_false] at hex2
   exact hex2 x (List.mem_of_getElem? h') (by simpa using e)
  rcases aLR hne with h2|h2
  ·rw [hs3 m x h h'] at h2;cases h2
  ·exact h2
 clear cfo cro cke cun cup cat hun hnm hnl hs2 hs3 hany hex2 hex
 have hl120:us.length<=120:=q1
 refine kX 9 0 rfl rfl rfl ?_
 refine bH (fun n st=>∃ i:Nat,n=us.length-i/\i<=us.length ∧
  st=⟨[],[(3,.ptr 0 0),(6,.ptr 1 0),(7,.ptr 2 0),(9,.ptr 3 0),(11,.ptr 4 0),(12,.d (.bool (decide (k<i)))),(13,.d (.int .i64 i))],
   [(0,.box [.d (.slc 2 (dG us)),.d (.int .i64 ff),.d (.int .i64 fm)]),(1,.box [.nil 0 2,.d (.int .i64 0),.d (.int .i64 0)]),(2,.box [.d (.str []),.d (.str [])]),(3,.box [.sl 5,.d (.int .i64 ff),.d (.int .i64 (fm+1))]),(4,.box [.d (.str nm),.d (.str pw)]),(5,.arr 0 0 2 (dG (iV us k ⟨nm,pw⟩ i)))],6⟩) _ ⟨0,rfl,by omega,?_⟩ ?_
 ·exact gE (Y2 @aMW @dG.eq_1)
 rintro n st ⟨i,rfl,hi,rfl⟩
 have hlen:=aPl us k ⟨nm,pw⟩ i
 have hil:=dH (iV us k ⟨nm,pw⟩ i)
 by_cases hlt:i<us.length
 ·have ha:=List.getElem?_eq_getElem hlt
  generalize us[i]=x at ha
  have hw:IntKind.i64.wrap ((i:Int)+1)=(i:Int)+1:=aA (by omega) (by omega)
  rcases Nat.lt_trichotomy i k with hik|hik|hik
  ·have e1:dG (iV us k ⟨nm,pw⟩ (i+1))=dG (iV us k ⟨nm,pw⟩ i)++[x.row]:=by rw [aRo hik ha,qV];rfl
   have hb:=hx1 i x hik ha
   have hll:=tC (iV us k ⟨nm,pw⟩ i)
   generalize dG (iV us k ⟨nm,pw⟩ i)=L at *
   rw [decide_eq_false (by omega:¬k<i)]
   refine eT (Y3 ha hb @aM.eq_1) ?_
   refine ⟨us.length-(i+1),by omega,i+1,rfl,hlt,?_⟩
   rw [e1,decide_eq_false (by omega:¬k<i+1)]
   exact gE hw
  ·subst hik
   have e1:dG (iV us i ⟨nm,pw⟩ (i+1))=dG (iV us i ⟨nm,pw⟩ i)++[[.str nm,.str pw]]++[x.row]:=by rw [aRq ha,qV,qV];rfl
   have hb:=hx2 i x (Nat.le_refl _) ha
   have hll:=tC (iV us i ⟨nm,pw⟩ i)
   generalize dG (iV us i ⟨nm,pw⟩ i)=L at *
   rw [decide_eq_false (by omega:¬i<i)]
   refine eT (Y3 ha hb @aM.eq_1) ?_
   refine ⟨us.length-(i+1),by omega,i+1,rfl,hlt,?_⟩
   rw [e1,decide_eq_true (by omega:i<i+1)]
   exact gE hw
  ·have e1:dG (iV us k ⟨nm,pw⟩ (i+1))=dG (iV us k ⟨nm,pw⟩ i)++[x.row]:=by rw [aRp hik ha,qV];rfl
   have hll:=tC (iV us k ⟨nm,pw⟩ i)
   generalize dG (iV us k ⟨nm,pw⟩ i)=L at *
   rw [decide_eq_true (by omega:k<i)]
   refine eT (Y2 ha @aM.eq_1) ?_
   refine ⟨us.length-(i+1),by omega,i+1,rfl,hlt,?_⟩
   rw [e1,decide_eq_true (by omega:k<i+1)]
   exact gE hw
 ·have hie:i=us.length:=by omega
  subst hie
  have hiP:=dH PU
  by_cases hkl:k<us.length
  ·have e1:iV us k ⟨nm,pw⟩ us.length=PU:=by rw [aPn hkl,hP]
   rw [decide_eq_true hkl]
   rw [e1] at hlen ⊢
   exact nK
  ·have e1:dG (iV us k ⟨nm,pw⟩ us.length)++[[.str nm,.str pw]]=dG PU:=by
    have h:=congrArg dG (aPm (l:=us) (k:=k) (u:=(⟨nm,pw⟩:dD)) (by omega))
    rw [qV,<-hP] at h
    exact h
   have hll:=tC (iV us k ⟨nm,pw⟩ us.length)
   generalize dG (iV us k ⟨nm,pw⟩ us.length)=L at *
   rw [decide_eq_false hkl]
   rw [<-e1] at hiP
   exact fC (Y2 @aM.eq_1 e1)
def aF0 (w:aS) (tok:Int) (r:fM) (key:Int) (path:List UInt8):Bool:=pQ r && lT key && lP w tok path r.rY r.cX && !decide (w.bT.bF=1000000000)
def guC (w:aS) (tok:Int) (r:fM) (key:Int) (path:List UInt8):Int:=if aF0 w tok r key path=false then 1 else if muC w.bT r key=0 then 0 else 2
def guU (w:aS) (tok:Int) (r:fM) (key:Int) (path:List UInt8):dD:=if guC w tok r key path=0 then muU w.bT r key else qH
def guI (w:aS) (tok:Int) (r:fM) (key:Int) (path:List UInt8):Int:=if guC w tok r key path=0 then w.bJ else 0
def guW (w:aS) (tok:Int) (r:fM) (key:Int) (path:List UInt8):aS:=
 if guC w tok r key path=1 then w else if guC w tok r key path=2 then { w with bT:=muF w.bT r key } else { nW w tok path r.rY r.cX with bT:=muF w.bT r key,bI:=w.bI++[⟨w.bJ,(muU w.bT r key).aH⟩] }
theorem aOe {w:aS} (h:fH w=true):oV w.bT=true:=by
 unfold fH at h;simp only [Bool.and_eq_true] at h;exact h.1.1.1.1.2
theorem aRw {w:aS} {tok:Int} {path:List UInt8} {ttl aM:Int}:(lP w tok path ttl aM=false/\uX w tok path ttl aM=0/\nW w tok path ttl aM=w) ∨
  (fH w=true/\lP w tok path ttl aM=true/\uX w tok path ttl aM=w.bJ/\1<=w.bJ/\nW w tok path ttl aM={ w with bA:=⟨w.bA.aP++[xT w tok path ttl aM]⟩,bJ:=w.bJ+1 }):=by
 cases h:lP w tok path ttl aM with
 |false=>exact .inl ⟨rfl,by unfold uX;rw [h];rfl,by unfold nW;rw [h];rfl⟩
 |true=>
  have hw:fH w=true:=by unfold lP at h;simp only [Bool.and_eq_true] at h;exact h.1.1
  exact .inr ⟨hw,rfl,by unfold uX;rw [h];rfl,(aD0 hw).2.1.1,by unfold nW;rw [h];rfl⟩
theorem aEh (w:aS) (tok:Int) (r:fM) (key:Int) (path:List UInt8) (hf:aE6 w) (hp:path.length<=1048576) (h1:r.aH.length<=1048576) (h2:r.iM.length<=1048576):
  aC PP GG 163 [.agg w.c,.d (.int .i64 tok),.agg r.c,.d (.int .i64 key),.d (.str path)] (.tup [.agg (guW w tok r key path).o,.agg (guU w tok r key path).o,.d (.int .i64 (guI w tok r key path)),.d (.int .i64 (guC w tok r key path))]) [none,none,none,none,none]:=by
 refine cv Tryz.func163 [.agg (guW w tok r key path).o,.agg (guU w tok r key path).o,.d (.int .i64 (guI w tok r key path)),.d (.int .i64 (guC w tok r key path))] ?_
 have cro:=sH r h1 h2
 have cke:=iI key
 have ccp:=jV w hf
 have cgl:=aDz w tok path r.rY r.cX hf hp
 have cmu:=fun h=>aFF w.bT r key hf.2.2.1 h h1 h2
 have hK:aF0 w tok r key path=(pQ r && lT key && lP w tok path r.rY r.cX && !decide (w.bT.bF=1000000000)):=rfl
 have hC:guC w tok r key path=if aF0 w tok r key path=false then 1 else if muC w.bT r key=0 then 0 else 2:=rfl
 have hU:guU w tok r key path=if guC w tok r key path=0 then muU w.bT r key else qH:=rfl
 have hI:guI w tok r key path=if guC w tok r key path=0 then w.bJ else 0:=rfl
 have hW:guW w tok r key path=if guC w tok r key path=1 then w else if guC w tok r key path=2 then { w with bT:=muF w.bT r key } else { nW w tok path r.rY r.cX with bT:=muF w.bT r key,bI:=w.bI++[⟨w.bJ,(muU w.bT r key).aH⟩] }:=rfl
 have hol:=hf.2.2.2.2.1
 have hgi:=aRw (w:=w) (tok:=tok) (path:=path) (ttl:=r.rY) (aM:=r.cX)
 have hfa:=fun h=>aOe (w:=w) h
 generalize guW w tok r key path=W at *
 generalize guU w tok r key path=U at *
 generalize guI w tok r key path=I at *
 generalize guC w tok r key path=CC at *
 generalize aF0 w tok r key path=OK at *
 generalize muF w.bT r key=F at *
 generalize muU w.bT r key=MU at *
 generalize muC w.bT r key=MC at *
 generalize xT w tok path r.rY r.cX=NL at *
 generalize nW w tok path r.rY r.cX=GW at *
 generalize uX w tok path r.rY r.cX=GI at *
 generalize lP w tok path r.rY r.cX=GB at *
 obtain ⟨now,next,lost,⟨tk⟩,⟨ls⟩,⟨us,ff,fm⟩,⟨js⟩,ow⟩:=w
 obtain ⟨r1,r2,r3,r4⟩:=r
 generalize pQ ⟨r1,r2,r3,r4⟩=R at *
 generalize lT key=KB at *
 dsimp only at *
 have hi1:=cB tk
 have hi2:=bW ls
 have hi3:=dH us
 have hi4:=fY js
 have hi5:=eI ow
 cases R
 ·simp only [Bool.false_and] at hK
  subst hK
  simp only [if_true] at hC
  subst hC
  simp only [Int.reduceEq,if_false,if_true] at hU hI hW
  subst hU hI hW
  exact dO @qH.eq_1 (Z2 cro ccp)
 cases KB
 ·simp only [Bool.and_false,Bool.false_and] at hK
  subst hK
  simp only [if_true] at hC
  subst hC
  simp only [Int.reduceEq,if_false,if_true] at hU hI hW
  subst hU hI hW
  exact dO @qH.eq_1 (Z3 cro cke ccp)
 rcases hgi with ⟨rfl,rfl,rfl⟩|⟨hwb,rfl,e1,hnx,rfl⟩
 ·simp only [Bool.and_false,Bool.false_and] at hK
  subst hK
  simp only [if_true] at hC
  subst hC
  simp only [Int.reduceEq,if_false,if_true] at hU hI hW
  subst hU hI hW
  exact dO @qH.eq_1 (Z4 cro cke ccp cgl)
 rw [e1] at cgl
 clear e1
 have hnz:(next==0)=false:=by simp;omega
 have cmu:=cmu (hfa hwb)
 by_cases hmx:fm=1000000000
 ·rw [decide_eq_true hmx] at hK
  simp only [Bool.not_true,Bool.and_false] at hK
  subst hK
  simp only [if_true] at hC
  subst hC
  simp only [Int.reduceEq,if_false,if_true] at hU hI hW
  subst hU hI hW hmx
  have hi6:=bW (ls++[NL])
  exact dO (Y2 @qH.eq_1 hnz) (Z4 cro cke ccp cgl)
 have hmx2:(fm==1000000000)=false:=by simpa using hmx
 rw [decide_eq_false hmx] at hK
 simp only [Bool.not_false,Bool.and_self] at hK
 subst hK
 simp only [Bool.true_eq_false,if_false] at hC
 have hi6:=bW (ls++[NL])
 obtain ⟨fu,f1,f2⟩:=F
 have hi7:=dH fu
 obtain ⟨mn,mp⟩:=MU
 by_cases hmc:MC=0
 ·rw [if_pos hmc] at hC
  subst hC hmc
  simp only [Int.reduceEq,if_false,if_true] at hU hI hW
  subst hU hW
  rw [hI]
  clear hI
  have hrl:=yQ ow
  refine fV (Y3 hnz hmx2 @aM.eq_1) (Z5 cro cke ccp cgl cmu) ?_
  rw [aEu];rfl
 ·rw [if_neg hmc] at hC
  subst hC
  simp only [Int.reduceEq,if_false,if_true] at hU hI hW
  subst hU hI hW
  have hmc2:(MC==0)=false:=by simpa using hmc
  exact dO (Y4 @qH.eq_1 hnz hmx2 hmc2) (Z5 cro cke ccp cgl cmu)
def sw2 {α:Type} (a:List α) (i j:Nat):List α:=match a[i]?,a[j]? with|some x,some y=>(a.set i y).set j x|_,_=>a
def swR {α:Type} (a b:Nat):Nat->Nat->List α->List α
 |0,_,l=>l
 |k+1,i,l=>swR a b k (i+1) (sw2 l (a+i) (b+i))
def aLl {α:Type} (lt:α->α->Bool) (a:Nat):Nat->List α->List α
 |0,l=>l
 |j+1,l=>if a<j+1 then (match l[j+1]?,l[j]? with|some x,some y=>if lt x y then aLl lt a j (sw2 l (j+1) j) else l|_,_=>l) else l
def aPk {α:Type} (lt:α->α->Bool) (a:Nat):Nat->Nat->List α->List α
 |0,_,l=>l
 |k+1,i,l=>aPk lt a k (i+1) (aLl lt a i l)
def aMV {α:Type} (lt:α->α->Bool) (a b:Nat) (l:List α):List α:=aPk lt a (b-(a+1)) (a+1) l
def aMm {α:Type} (m:Nat):Nat->Nat->Nat->List α->List α
 |0,_,_,l=>l
 |k+1,i,j,l=>if i=j then swR (m-i) m i 0 l else if j<i then aMm m k (i-j) j (swR (m-i) m j 0 l) else aMm m k i (j-i) (swR (m-i) (m+j-i) i 0 l)
def rot {α:Type} (a m b:Nat) (l:List α):List α:=aMm m (b-a) (m-a) (b-m) l
def bsG (f:Nat->Bool):Nat->Nat->Nat->Nat
 |0,i,_=>i
 |k+1,i,j=>if i<j then (if f ((i+j) / 2) then bsG f k ((i+j) / 2+1) j else bsG f k i ((i+j) / 2)) else i
def bs (f:Nat->Bool) (i j:Nat):Nat:=bsG f (j-i) i j
def ltA {α:Type} (lt:α->α->Bool) (l:List α) (i j:Nat):Bool:=match l[i]?,l[j]? with|some x,some y=>lt x y|_,_=>false
def upS {α:Type}:Nat->Nat->List α->List α
 |0,_,l=>l
 |k+1,i,l=>upS k (i+1) (sw2 l i (i+1))
def dnS {α:Type}:Nat->Nat->List α->List α
 |0,_,l=>l
 |k+1,i,l=>dnS k (i-1) (sw2 l i (i-1))
def xS {α:Type} (lt:α->α->Bool) (a m b:Nat) (l:List α):Nat:=
 if (a+b) / 2<m then bs (fun c=>!ltA lt l ((a+b) / 2+m-1-c) c) ((a+b) / 2+m-b) ((a+b) / 2) else bs (fun c=>!ltA lt l ((a+b) / 2+m-1-c) c) a m
def aHx {α:Type} (p:Prop) [Decidable p] (f:List α->List α) (l:List α):List α:=if p then f l else l
def aUK {α:Type} (f:Nat->Nat->Nat->List α->List α) (a m b s:Nat) (l:List α):List α:=
 aHx ((a+b) / 2<(a+b) / 2+m-s/\(a+b) / 2+m-s<b) (f ((a+b) / 2) ((a+b) / 2+m-s) b) (aHx (a<s/\s<(a+b) / 2) (f a s ((a+b) / 2)) (aHx (s<m/\m<(a+b) / 2+m-s) (rot s m ((a+b) / 2+m-s)) l))
def aDv {α:Type} (lt:α->α->Bool):Nat->Nat->Nat->Nat->List α->List α
 |0,_,_,_,l=>l
 |k+1,a,m,b,l=>
  if m-a=1 then upS (bs (fun h=>ltA lt l h a) m b-1-a) a l
  else if b-m=1 then dnS (m-bs (fun h=>!ltA lt l m h) a m) m l
  else aUK (aDv lt k) a m b (xS lt a m b l) l
def aEa {α:Type} (lt:α->α->Bool) (n:Nat):Nat->Nat->List α->List α
 |0,a,l=>aMV lt a n l
 |k+1,a,l=>if a+20<=n then aEa lt n k (a+20) (aMV lt a (a+20) l) else aMV lt a n l
def aGC {α:Type} (lt:α->α->Bool) (n s:Nat):Nat->Nat->List α->List α
 |0,_,l=>l
 |k+1,a,l=>if a+2*s<=n then aGC lt n s k (a+2*s) (aDv lt (2*s) a (a+s) (a+2*s) l) else if a+s<n then aDv lt (n-a) a (a+s) n l else l
def aMd {α:Type} (lt:α->α->Bool) (n:Nat):Nat->Nat->List α->List α
 |0,_,l=>l
 |k+1,s,l=>if s<n then aMd lt n k (2*s) (aGC lt n s n 0 l) else l
def yP {α:Type} (lt:α->α->Bool) (l:List α):List α:=aMd lt l.length l.length 20 (aEa lt l.length l.length 0 l)
theorem aDO {α:Type} (l:List α) (i j:Nat):(sw2 l i j).length=l.length:=by unfold sw2;split<;>simp
theorem aDN {α:Type} (a b:Nat):∀ (k i:Nat) (l:List α),(swR a b k i l).length=l.length
 |0,_,l=>rfl
 |k+1,i,l=>by rw [swR,aDN a b k,aDO]
theorem aLk {α:Type} (lt:α->α->Bool) (a:Nat):∀ (j:Nat) (l:List α),(aLl lt a j l).length=l.length
 |0,l=>rfl
 |j+1,l=>by
  rw [aLl]
  split
  ·split
   ·split
    ·rw [aLk lt a j,aDO]
    ·rfl
   ·rfl
  ·rfl
theorem aLj {α:Type} (lt:α->α->Bool) (a:Nat):∀ (k i:Nat) (l:List α),(aPk lt a k i l).length=l.length
 |0,_,l=>rfl
 |k+1,i,l=>by rw [aPk,aLj lt a k,aLk]
theorem aEV {α:Type} (lt:α->α->Bool) (a b:Nat) (l:List α):(aMV lt a b l).length=l.length:=aLj lt a _ _ l
theorem aEn {α:Type} (m:Nat):∀ (k i j:Nat) (l:List α),(aMm m k i j l).length=l.length
 |0,_,_,l=>rfl
 |k+1,i,j,l=>by
  rw [aMm]
  split
  ·rw [aDN]
  ·split
   ·rw [aEn m k,aDN]
   ·rw [aEn m k,aDN]
theorem aSV {α:Type} (a m b:Nat) (l:List α):(rot a m b l).length=l.length:=aEn m _ _ _ l
theorem aNq {α:Type}:∀ (k i:Nat) (l:List α),(upS k i l).length=l.length
 |0,_,l=>rfl
 |k+1,i,l=>by rw [upS,aNq k,aDO]
theorem aN4 {α:Type}:∀ (k i:Nat) (l:List α),(dnS k i l).length=l.length
 |0,_,l=>rfl
 |k+1,i,l=>by rw [dnS,aN4 k,aDO]
theorem aD7 {α:Type} (p:Prop) [Decidable p] (f:List α->List α) (l:List α) (h:∀ l,(f l).length=l.length):(aHx p f l).length=l.length:=by
 unfold aHx;split
 ·exact h l
 ·rfl
theorem aA7 {α:Type} (lt:α->α->Bool):∀ (k a m b:Nat) (l:List α),(aDv lt k a m b l).length=l.length
 |0,_,_,_,l=>rfl
 |k+1,a,m,b,l=>by
  rw [aDv]
  split
  ·rw [aNq]
  split
  ·rw [aN4]
  rw [aUK,aD7 _ _ _ (aA7 lt k _ _ _),aD7 _ _ _ (aA7 lt k _ _ _),aD7 _ _ _ (aSV _ _ _)]
theorem aGD {α:Type} (lt:α->α->Bool) (n:Nat):∀ (k a:Nat) (l:List α),(aEa lt n k a l).length=l.length
 |0,a,l=>by rw [aEa,aEV]
 |k+1,a,l=>by
  rw [aEa];split
  ·rw [aGD lt n k,aEV]
  ·rw [aEV]
theorem aGB {α:Type} (lt:α->α->Bool) (n s:Nat):∀ (k a:Nat) (l:List α),(aGC lt n s k a l).length=l.length
 |0,_,l=>rfl
 |k+1,a,l=>by
  rw [aGC];split
  ·rw [aGB lt n s k,aA7]
  ·split
   ·rw [aA7]
   ·rfl
theorem aKy {α:Type} (lt:α->α->Bool) (n:Nat):∀ (k s:Nat) (l:List α),(aMd lt n k s l).length=l.length
 |0,_,l=>rfl
 |k+1,s,l=>by
  rw [aMd];split
  ·rw [aKy lt n k,aGB]
  ·rfl
theorem aQl {α:Type} (Q U V:List α) (x y:α):sw2 (Q++x::(U++y::V)) Q.length (Q.length+(U.length+1))=Q++y::(U++x::V):=by
 unfold sw2
 have h1:(Q++x::(U++y::V))[Q.length]?=some x:=by simp
 have h2:(Q++x::(U++y::V))[Q.length+(U.length+1)]?=some y:=by
  rw [List.getElem?_append_right (by omega)];simp
 rw [h1,h2];simp only []
 rw [List.set_append_right _ _ (Nat.le_refl _),List.set_append_right _ _ (by omega)]
 simp
theorem aUL {α:Type} (Q V:List α) (x y:α):sw2 (Q++x::y::V) Q.length (Q.length+1)=Q++y::x::V:=by
 have:=aQl Q [] V x y;simpa using this
end Go.Proofs.YtiejbbcpihpgpaaGreatDoor.Ab
