/-
  A part of a proof about the given program; what is proved is said where each theorem stands.
-/
import Derived.Test.YtiejbbcpihpgpaaGreatFrameA
import Derived.Test.YtiejbbcpihpgpaaGreatFrameB
import Derived.Test.YtiejbbcpihpgpaaGreatFrameC
import Derived.Test.YtiejbbcpihpgpaaGreatFrameD
import Derived.Test.YtiejbbcpihpgpaaGreatHead
import Derived.Test.YtiejbbcpihpgpaaGreatCodes
import Derived.Test.YtiejbbcpihpgpaaGreatPartA
import Derived.Test.YtiejbbcpihpgpaaGreatPartB
namespace Go.Proofs
end Go.Proofs
set_option linter.unusedSimpArgs false
set_option linter.unusedVariables false
set_option maxRecDepth 100000
set_option maxHeartbeats 2000000
namespace Go.Proofs.YtiejbbcpihpgpaaGreat.Ab
open Go.Proofs
theorem aAr (a:List aQ) (hla:a.length<=1048577):aE PP GG 85 [.agg (dX.mk a).c] (.agg (dX.mk a).o) [none]:=by
 refine cv Tryz.func85 [.agg (dX.mk a).o] ?_
 refine lQ ?_
 refine jS 3 0 rfl rfl rfl ?_
 refine lQ ?_
 refine bQ (fun n st=>∃ i:Nat,n=a.length-i/\i<=a.length ∧
  st=⟨[],[(1,.ptr 0 0),(2,.ptr 1 0),(3,.ptr 2 0),(4,.d (.int .i64 i))],[(0,.box [.d (.slc 6 (bC a))]),(1,.box [.nil 0 6]),(2,.box [.sl 3]),(3,.arr 0 0 6 (bC (a.take i)))],4⟩) _ ⟨0,rfl,by omega,?_⟩ ?_
 ·exact iR @bC.eq_1
 rintro n st ⟨i,rfl,hi,rfl⟩
 by_cases hlt:i<a.length
 rotate_left
 ·have hie:i=a.length:=by omega
  subst hie
  rw [List.take_length]
  exact oI
 have ha:=List.getElem?_eq_getElem hlt
 have hm:=List.getElem_mem hlt
 generalize a[i]=x at ha hm
 have hsc:=uP ha
 have hlen:=oU a i
 have hir:=bP (a.take i)
 generalize bC (a.take i)=L at *
 refine iK (Y2 ha @aJ.eq_1) ?_
 refine ⟨a.length-(i+1),by omega,i+1,rfl,hlt,?_⟩
 rw [hsc]
 refine kT ?_
 exact aA (by omega) (by omega)
theorem qM (a:List gW) (hla:a.length<=1048577):aE PP GG 87 [.agg (eP.mk a).c] (.agg (eP.mk a).o) [none]:=by
 refine cv Tryz.func87 [.agg (eP.mk a).o] ?_
 refine lQ ?_
 refine jS 3 0 rfl rfl rfl ?_
 refine lQ ?_
 refine bQ (fun n st=>∃ i:Nat,n=a.length-i/\i<=a.length ∧
  st=⟨[],[(1,.ptr 0 0),(2,.ptr 1 0),(3,.ptr 2 0),(4,.d (.int .i64 i))],[(0,.box [.d (.slc 3 (fP a))]),(1,.box [.nil 0 3]),(2,.box [.sl 3]),(3,.arr 0 0 3 (fP (a.take i)))],4⟩) _ ⟨0,rfl,by omega,?_⟩ ?_
 ·exact iR @fP.eq_1
 rintro n st ⟨i,rfl,hi,rfl⟩
 by_cases hlt:i<a.length
 rotate_left
 ·have hie:i=a.length:=by omega
  subst hie
  rw [List.take_length]
  exact oI
 have ha:=List.getElem?_eq_getElem hlt
 have hm:=List.getElem_mem hlt
 generalize a[i]=x at ha hm
 have hsc:=aMs ha
 have hlen:=aEo a i
 have hir:=eZ (a.take i)
 generalize fP (a.take i)=L at *
 refine iK (Y2 ha @aJ.eq_1) ?_
 refine ⟨a.length-(i+1),by omega,i+1,rfl,hlt,?_⟩
 rw [hsc]
 refine kT ?_
 exact aA (by omega) (by omega)
theorem pG (a:List cV) (ff fm:Int) (hla:a.length<=1048577):aE PP GG 86 [.agg (jA.mk a ff fm).c] (.agg (jA.mk a ff fm).o) [none]:=by
 refine cv Tryz.func86 [.agg (jA.mk a ff fm).o] ?_
 refine lQ ?_
 refine jS 3 0 rfl rfl rfl ?_
 refine lQ ?_
 refine bQ (fun n st=>∃ i:Nat,n=a.length-i/\i<=a.length ∧
  st=⟨[],[(1,.ptr 0 0),(2,.ptr 1 0),(3,.ptr 2 0),(4,.d (.int .i64 i))],[(0,.box [.d (.slc 2 (cY a)),.d (.int .i64 ff),.d (.int .i64 fm)]),(1,.box [.nil 0 2,.d (.int .i64 0),.d (.int .i64 0)]),(2,.box [.sl 3,.d (.int .i64 ff),.d (.int .i64 fm)]),(3,.arr 0 0 2 (cY (a.take i)))],4⟩) _ ⟨0,rfl,by omega,?_⟩ ?_
 ·exact iR @cY.eq_1
 rintro n st ⟨i,rfl,hi,rfl⟩
 by_cases hlt:i<a.length
 rotate_left
 ·have hie:i=a.length:=by omega
  subst hie
  rw [List.take_length]
  exact oI
 have ha:=List.getElem?_eq_getElem hlt
 have hm:=List.getElem_mem hlt
 generalize a[i]=x at ha hm
 have hsc:=aKh ha
 have hlen:=aC8 a i
 have hir:=dC (a.take i)
 generalize cY (a.take i)=L at *
 refine iK (Y2 ha @aJ.eq_1) ?_
 refine ⟨a.length-(i+1),by omega,i+1,rfl,hlt,?_⟩
 rw [hsc]
 refine kT ?_
 exact aA (by omega) (by omega)
theorem iY (w:aP) (hf:aDO w):aE PP GG 61 [.agg w.c] (.agg w.o) [none]:=by
 refine cv Tryz.func61 [.agg w.o] ?_
 obtain ⟨now,next,lost,⟨tk⟩,⟨ls⟩,⟨us,ff,fm⟩,⟨js⟩,a⟩:=w
 obtain ⟨hf1,hf2,hf3,hf4,hol,hon⟩:=hf
 dsimp only at hf1 hf2 hf3 hf4 hol
 have c1:=mN tk hf1
 have c2:=aAr ls (by have:=hf2.1;dsimp only at this;omega)
 have c3:=pG us ff fm (by have:=hf3.1;dsimp only at this;omega)
 have c4:=qM js (by have:=hf4.1;dsimp only at this;omega)
 have hi1:=bT tk
 have hi2:=bP ls
 have hi3:=dC us
 have hi4:=eZ js
 refine aJ1 (Z4 c1 c2 c3 c4) ?_
 refine jS 3 9 rfl rfl rfl ?_
 refine lQ ?_
 refine bQ (fun n st=>∃ i:Nat,n=a.length-i/\i<=a.length ∧
  st=⟨[],[(1,.ptr 0 0),(2,.ptr 1 0),(3,.ptr 2 0),(4,.d (.int .i64 i))],[(0,.box [.d (.int .i64 now),.d (.int .i64 next),.d (.int .i64 lost),.d (.slc 7 (bS tk)),.d (.slc 6 (bC ls)),.d (.slc 2 (cY us)),.d (.int .i64 ff),.d (.int .i64 fm),.d (.slc 3 (fP js)),.d (.slc 2 (dK a))]),
   (1,.box [.d (.int .i64 0),.d (.int .i64 0),.d (.int .i64 0),.nil 1 7,.nil 0 6,.nil 0 2,.d (.int .i64 0),.d (.int .i64 0),.nil 0 3,.nil 0 2]),
   (2,.box [.d (.int .i64 now),.d (.int .i64 next),.d (.int .i64 lost),.sl 3,.sl 4,.sl 5,.d (.int .i64 ff),.d (.int .i64 fm),.sl 6,.sl 7]),(3,.arr 0 1 7 (bS tk)),(4,.arr 0 0 6 (bC ls)),(5,.arr 0 0 2 (cY us)),(6,.arr 0 0 3 (fP js)),(7,.arr 0 0 2 (dK (a.take i)))],8⟩) _ ⟨0,rfl,by omega,?_⟩ ?_
 ·exact iR @dK.eq_1
 rintro n st ⟨i,rfl,hi,rfl⟩
 by_cases hlt:i<a.length
 rotate_left
 ·have hie:i=a.length:=by omega
  subst hie
  rw [List.take_length]
  exact oI
 have ha:=List.getElem?_eq_getElem hlt
 generalize a[i]=x at ha
 have hsc:=aIU ha
 have hlen:=aCn a i
 generalize dK (a.take i)=L at *
 refine iK (Y2 ha @aJ.eq_1) ?_
 refine ⟨a.length-(i+1),by omega,i+1,rfl,hlt,?_⟩
 rw [hsc]
 refine kT ?_
 exact aA (by omega) (by omega)
def aFI:aO:=⟨0,0,[],0,0,0,0⟩
def jF (f:bK) (id:Int):aO:=if bR f then (f.aF.find? fun t=>decide (t.bU=id)).getD aFI else aFI
def kX (e now:Int):Bool:=!decide (e=0) && decide (e<=now)
theorem vW {α:Type} {p:α->Bool} {l:List α} (h:l.any p=true):∃ (k:Nat) (t:α),mA p l=k/\l[k]?=some t/\p t=true/\l.find? p=some t:=by
 unfold mA
 cases hf:l.findIdx? p with
 |none=>
  rw [List.findIdx?_eq_none_iff] at hf
  rw [List.any_eq_true] at h
  obtain ⟨x,hx,hp⟩:=h
  rw [hf x hx] at hp;cases hp
 |some i=>
  rw [List.findIdx?_eq_some_iff_getElem] at hf
  obtain ⟨h1,h2,h3⟩:=hf
  refine ⟨i,_,rfl,List.getElem?_eq_getElem h1,h2,?_⟩
  rw [List.find?_eq_some_iff_getElem]
  exact ⟨h2,i,h1,rfl,fun j hj=>by simpa using h3 j hj⟩
theorem mM (t:aO) (now:Int):aE PP GG 82 [.agg t.c,.d (.int .i64 now)] (.d (.bool (kX t.bM now))) [none,none]:=by
 refine cv Tryz.func82 [.d (.bool (kX t.bM now))] ?_
 have hr:kX t.bM now=(!decide (t.bM=0) && decide (t.bM<=now)):=rfl
 have q:(t.bM != 0)=!decide (t.bM=0):=rfl
 have hind:=cD t.eT
 generalize kX t.bM now=r at *
 obtain ⟨t1,t2,t3,t4,e,t6,t7⟩:=t
 dsimp only at q hr
 cases h0:decide (e=0)
 ·rw [h0] at hr q
  simp only [Bool.not_false,Bool.true_and] at hr q
  subst hr
  exact jI q
 ·rw [h0] at hr q
  simp only [Bool.not_true,Bool.false_and] at hr q
  subst hr
  exact jI q
theorem kV (f:bK) (id:Int) (hf:tP f):aE PP GG 59 [.agg f.c,.d (.int .i64 id)] (.tup [.agg (jF f id).o,.d (.bool (bR f && cJ f id))]) [none,none]:=by
 refine cv Tryz.func59 [.agg (jF f id).o,.d (.bool (bR f && cJ f id))] ?_
 have cf:=jB f hf
 have cat:=lY f id hf.1
 have hno:decide (mA (fun t=>decide (t.bU=id)) f.aF<0)=!cJ f id:=nS _ _
 have hF:jF f id=if bR f then (f.aF.find? fun t=>decide (t.bU=id)).getD aFI else aFI:=rfl
 have hfi:=fun (h:cJ f id=true)=>vW (p:=fun t:aO=>decide (t.bU=id)) (l:=f.aF) h
 have hft:=hf.2
 obtain ⟨a⟩:=f
 dsimp only at cf cat hno hF hfi hft
 generalize jF ⟨a⟩ id=F at *
 generalize cJ ⟨a⟩ id=H at *
 generalize bR ⟨a⟩=B at *
 cases B
 ·simp only [Bool.false_eq_true,if_false] at hF
  subst hF
  exact eJ (Y2 @aFI.eq_1 @aN.eq_1) (Z1 cf)
 simp only [if_true] at hF
 cases H
 ·simp only [Bool.not_false] at hno
  have hn:a.find? (fun t=>decide (t.bU=id))=none:=by
   rw [List.find?_eq_none]
   have h2:=nS (fun t:aO=>decide (t.bU=id)) a
   rw [hno] at h2
   intro x hx hp
   have:a.any (fun t=>decide (t.bU=id))=true:=List.any_eq_true.2 ⟨x,hx,hp⟩
   rw [this] at h2;cases h2
  rw [hn] at hF
  simp only [Option.getD_none] at hF
  subst hF
  exact eJ (Y3 @aFI.eq_1 @aN.eq_1 hno) (Z2 cf cat)
 ·obtain ⟨k,t,hk,ht,_,hfd⟩:=hfi rfl
  rw [hfd] at hF
  simp only [Option.getD_some] at hF
  simp only [Bool.not_true] at hno
  rw [hk] at cat hno
  have hkl:=(List.getElem?_eq_some_iff.1 ht).1
  have cc:=kO t (hft t (List.mem_of_getElem? ht))
  subst hF
  exact eJ ht (Z3 cf cat cc)
def aDZ (b:dX) (l:aQ):Bool:=eV b && eV ⟨b.aL++[l]⟩
def aFG (b:dX) (l:aQ):dX:=if aDZ b l then ⟨b.aL++[l]⟩ else b
theorem aO0 {b:dX} {l:aQ} (h:eV b=true) (hf:aDP b) (hl:l.fN.length<=1048576):aDP ⟨b.aL++[l]⟩:=by
 unfold eV at h
 simp only [Bool.and_eq_true,decide_eq_true_eq] at h
 refine ⟨by simp;omega,fun t ht=>?_⟩
 rcases List.mem_append.1 ht with ht|ht
 ·exact hf.2 t ht
 ·simp at ht;subst ht;exact hl
theorem aEm (b:dX) (l:aQ) (hf:aDP b) (hl:l.fN.length<=1048576):aE PP GG 156 [.agg b.c,.agg l.c] (.tup [.agg (aFG b l).o,.d (.bool (aDZ b l))]) [none,none]:=by
 refine cv Tryz.func156 [.agg (aFG b l).o,.d (.bool (aDZ b l))] ?_
 have cb:=mE b hf
 have hfo:=fun h=>mE ⟨b.aL++[l]⟩ (aO0 h hf hl)
 have ccp:=aAr b.aL (by have:=hf.1;omega)
 have hA:aDZ b l=(eV b && eV ⟨b.aL++[l]⟩):=rfl
 have hB:aFG b l=if aDZ b l then ⟨b.aL++[l]⟩ else b:=rfl
 have hbl:=hf.1
 obtain ⟨a⟩:=b
 dsimp only at cb hfo ccp hA hB hbl
 have hrl:=wT a [l]
 rw [show bC [l]=[l.row] from rfl] at hrl
 have hi1:=bP a
 generalize aDZ ⟨a⟩ l=AL at *
 generalize aFG ⟨a⟩ l=AB at *
 cases hb:eV ⟨a⟩ with
 |false=>
  rw [hb] at cb hA
  simp only [Bool.false_and] at hA
  subst hA
  simp only [Bool.false_eq_true,if_false] at hB
  subst hB
  exact eJ @aJ.eq_1 (Z2 cb ccp)
 |true=>
  rw [hb] at cb hA
  simp only [Bool.true_and] at hA
  have co:=hfo hb
  dsimp only [dX.c] at co
  rw [<-hA,hrl] at co
  cases AL
  ·simp only [Bool.false_eq_true,if_false] at hB
   subst hB
   exact eJ @aJ.eq_1 (Z3 cb ccp co)
  ·simp only [if_true] at hB
   subst hB
   exact eJ (Y2 @aJ.eq_1 hrl) (Z3 cb ccp co)
def aLi (w:aP) (tok:Int):Bool:=cJ w.aD tok && !kX (jF w.aD tok).bM w.cN
def wE (w:aP) (tok:Int) (path:List UInt8) (ttl aJ:Int):aQ:=⟨w.bG,tok,path,w.cN,w.cN+ttl,w.cN+aJ⟩
def aGB (w:aP) (tok ttl aJ:Int):Bool:=aLi w tok && !decide (w.bG=1000000000) && decide (aJ<=1000000000) && inB ttl 1 aJ
def kN (w:aP) (tok:Int) (path:List UInt8) (ttl aJ:Int):Bool:=eO w && aGB w tok ttl aJ && aDZ w.aV (wE w tok path ttl aJ)
def mY (w:aP) (tok:Int) (path:List UInt8) (ttl aJ:Int):aP:=if kN w tok path ttl aJ then { w with aV:=⟨w.aV.aL++[wE w tok path ttl aJ]⟩,bG:=w.bG+1 } else w
def tN (w:aP) (tok:Int) (path:List UInt8) (ttl aJ:Int):Int:=if kN w tok path ttl aJ then w.bG else 0
theorem aCL {w:aP} (h:eO w=true):(0<=w.cN/\w.cN<=1000000000)/\(1<=w.bG/\w.bG<=1000000000)/\(0<=w.eQ/\w.eQ<=1000000000):=by
 unfold eO at h
 simp only [Bool.and_eq_true] at h
 exact ⟨cC h.1.1.1.1.1.1.1.1.1,cC h.1.1.1.1.1.1.1.1.2,cC h.1.1.1.1.1.1.1.2⟩
theorem aCj (w:aP) (tok:Int) (path:List UInt8) (ttl aJ:Int) (hf:aDO w) (hp:path.length<=1048576):
  aE PP GG 134 [.agg w.c,.d (.int .i64 tok),.d (.str path),.d (.int .i64 ttl),.d (.int .i64 aJ)] (.tup [.agg (mY w tok path ttl aJ).o,.d (.int .i64 (tN w tok path ttl aJ))]) [none,none,none,none,none]:=by
 refine cv Tryz.func134 [.agg (mY w tok path ttl aJ).o,.d (.int .i64 (tN w tok path ttl aJ))] ?_
 have cw:=sW w hf
 have ccp:=iY w hf
 have cft:=kV w.aD tok hf.1
 have cov:=mM (jF w.aD tok) w.cN
 have cin:aE PP GG 12 [.d (.int .i64 ttl),.d (.int .i64 1),.d (.int .i64 aJ)] (.d (.bool (inB ttl 1 aJ))) [none,none,none]:=bA _ _ _
 have cad:=aEm w.aV (wE w tok path ttl aJ) hf.2.1 hp
 have hnum:=fun h=>aCL (w:=w) h
 have hfb:=fun h=>sQ (w:=w) h
 have hB:kN w tok path ttl aJ=(eO w && (cJ w.aD tok && !kX (jF w.aD tok).bM w.cN && !decide (w.bG=1000000000) && decide (aJ<=1000000000) && inB ttl 1 aJ) && aDZ w.aV (wE w tok path ttl aJ)):=rfl
 have hW:mY w tok path ttl aJ=if kN w tok path ttl aJ then { w with aV:=⟨w.aV.aL++[wE w tok path ttl aJ]⟩,bG:=w.bG+1 } else w:=rfl
 have hI:tN w tok path ttl aJ=if kN w tok path ttl aJ then w.bG else 0:=rfl
 have hAB:aFG w.aV (wE w tok path ttl aJ)=if aDZ w.aV (wE w tok path ttl aJ) then ⟨w.aV.aL++[wE w tok path ttl aJ]⟩ else w.aV:=rfl
 have hNL:wE w tok path ttl aJ=⟨w.bG,tok,path,w.cN,w.cN+ttl,w.cN+aJ⟩:=rfl
 obtain ⟨now,next,lost,⟨tk⟩,⟨ls⟩,⟨us,ff,fm⟩,⟨js⟩,ow⟩:=w
 dsimp only at cft cov cad hnum hfb hB hW hI hAB hNL
 have hi1:=bT tk
 have hi2:=bP ls
 have hi3:=dC us
 have hi4:=eZ js
 have hi5:=dR ow
 generalize mY ⟨now,next,lost,⟨tk⟩,⟨ls⟩,⟨us,ff,fm⟩,⟨js⟩,ow⟩ tok path ttl aJ=GW at *
 generalize tN ⟨now,next,lost,⟨tk⟩,⟨ls⟩,⟨us,ff,fm⟩,⟨js⟩,ow⟩ tok path ttl aJ=GI at *
 generalize kN ⟨now,next,lost,⟨tk⟩,⟨ls⟩,⟨us,ff,fm⟩,⟨js⟩,ow⟩ tok path ttl aJ=GB at *
 generalize wE ⟨now,next,lost,⟨tk⟩,⟨ls⟩,⟨us,ff,fm⟩,⟨js⟩,ow⟩ tok path ttl aJ=NL at *
 generalize hWB:eO ⟨now,next,lost,⟨tk⟩,⟨ls⟩,⟨us,ff,fm⟩,⟨js⟩,ow⟩=WB at *
 cases WB
 ·simp only [Bool.false_and] at hB
  subst hB
  simp only [Bool.false_eq_true,if_false] at hW hI
  subst hW hI
  exact qX (Z2 cw ccp)
 have hnum:=hnum rfl
 rw [hfb rfl,Bool.true_and] at cft
 simp only [Bool.true_and] at hB
 generalize cJ ⟨tk⟩ tok=H at *
 generalize kX (jF ⟨tk⟩ tok).bM now=O at *
 have hit:=cD (jF ⟨tk⟩ tok).eT
 generalize jF ⟨tk⟩ tok=T at *
 obtain ⟨t1,t2,t3,t4,t5,t6,t7⟩:=T
 dsimp only at hit
 have hN:(next==1000000000)=decide (next=1000000000):=rfl
 have hM:decide (1000000000<aJ)=!decide (aJ<=1000000000):=by rw [<-decide_not];exact decide_eq_decide.2 (by omega)
 generalize decide (next=1000000000)=N at *
 have hinl:inB ttl 1 aJ=true->1<=ttl/\ttl<=aJ:=cC
 generalize inB ttl 1 aJ=I at *
 by_cases hml:aJ<=1000000000
 rotate_left
 ·rw [decide_eq_false hml] at hB
  simp only [Bool.and_false,Bool.false_and] at hB
  subst hB
  simp only [Bool.false_eq_true,if_false] at hW hI
  subst hW hI
  have hlt:1000000000<aJ:=by omega
  cases H
  ·exact qX (Z3 cw ccp cft)
  ·cases O
   ·cases N
    ·exact eJ (Y2 hN hlt) (Z4 cw ccp cft cov)
    ·exact eJ hN (Z4 cw ccp cft cov)
   ·exact qX (Z4 cw ccp cft cov)
 have hnl:¬1000000000<aJ:=by omega
 rw [decide_eq_true hml,Bool.and_true] at hB
 cases H
 ·simp only [Bool.false_and] at hB
  subst hB
  simp only [Bool.false_eq_true,if_false] at hW hI
  subst hW hI
  exact qX (Z3 cw ccp cft)
 cases O
 rotate_left
 ·simp only [Bool.not_true,Bool.and_false,Bool.false_and] at hB
  subst hB
  simp only [Bool.false_eq_true,if_false] at hW hI
  subst hW hI
  exact qX (Z4 cw ccp cft cov)
 cases N
 rotate_left
 ·simp only [Bool.not_true,Bool.and_false,Bool.false_and] at hB
  subst hB
  simp only [Bool.false_eq_true,if_false] at hW hI
  subst hW hI
  exact eJ hN (Z4 cw ccp cft cov)
 cases I
 ·simp only [Bool.and_false,Bool.false_and] at hB
  subst hB
  simp only [Bool.false_eq_true,if_false] at hW hI
  subst hW hI
  exact eJ (Y2 hN hnl) (Z5 cw ccp cft cov cin)
 have hinl:=hinl rfl
 simp only [Bool.not_false,Bool.and_true,Bool.true_and] at hB
 subst hB
 have hw1:IntKind.i64.wrap (now+ttl)=now+ttl:=aA (by omega) (by omega)
 have hw2:IntKind.i64.wrap (now+aJ)=now+aJ:=aA (by omega) (by omega)
 have hw3:IntKind.i64.wrap (next+1)=next+1:=aA (by omega) (by omega)
 subst hNL
 generalize aFG ⟨ls⟩ ⟨next,tok,path,now,now+ttl,now+aJ⟩=AB at *
 obtain ⟨ab⟩:=AB
 have hi6:=bP ab
 cases hAL:aDZ ⟨ls⟩ ⟨next,tok,path,now,now+ttl,now+aJ⟩ with
 |false=>
  rw [hAL] at hAB hW hI cad
  simp only [Bool.false_eq_true,if_false] at hAB hW hI
  cases hAB
  subst hW hI
  exact eJ (Y4 hN hnl hw1 hw2) (Z6 cw ccp cft cov cin cad)
 |true=>
  rw [hAL] at hAB hW hI cad
  simp only [if_true] at hAB hW hI
  cases hAB
  subst hW hI
  exact eJ (Y5 hN hnl hw1 hw2 hw3) (Z6 cw ccp cft cov cin cad)
theorem aFF (a:List UInt8):Go.Op.bytesLess a a=false:=by
 induction a with
 |nil=>rfl
 |cons x a ih=>simp [Go.Op.bytesLess,ih]
theorem aDW {a b c:List UInt8}:Go.Op.bytesLess a b=true->Go.Op.bytesLess b c=true->Go.Op.bytesLess a c=true:=by
 induction a generalizing b c with
 |nil=>
  intro h1 h2
  cases b with
  |nil=>simp [Go.Op.bytesLess] at h1
  |cons y b=>
   cases c with
   |nil=>simp [Go.Op.bytesLess] at h2
   |cons z c=>rfl
 |cons x a ih=>
  intro h1 h2
  cases b with
  |nil=>simp [Go.Op.bytesLess] at h1
  |cons y b=>
   cases c with
   |nil=>simp [Go.Op.bytesLess] at h2
   |cons z c=>
    simp only [Go.Op.bytesLess,Bool.or_eq_true,decide_eq_true_eq,Bool.and_eq_true,beq_iff_eq] at h1 h2 ⊢
    rcases h1 with h1|⟨rfl,h1⟩
    ·rcases h2 with h2|⟨rfl,h2⟩
     ·exact .inl (UInt8.lt_trans h1 h2)
     ·exact .inl h1
    ·rcases h2 with h2|⟨rfl,h2⟩
     ·exact .inl h2
     ·exact .inr ⟨rfl,ih h1 h2⟩
theorem aJO {a b:List UInt8} (h:a≠b):Go.Op.bytesLess a b=true\/Go.Op.bytesLess b a=true:=by
 induction a generalizing b with
 |nil=>
  cases b with
  |nil=>exact absurd rfl h
  |cons y b=>exact .inl rfl
 |cons x a ih=>
  cases b with
  |nil=>exact .inr rfl
  |cons y b=>
   simp only [Go.Op.bytesLess,Bool.or_eq_true,decide_eq_true_eq,Bool.and_eq_true,beq_iff_eq]
   by_cases hxy:x=y
   ·subst hxy
    rcases ih (b:=b) (fun e=>h (by rw [e])) with h1|h1
    ·exact .inl (.inr ⟨rfl,h1⟩)
    ·exact .inr (.inr ⟨rfl,h1⟩)
   ·have hn:x.toNat≠y.toNat:=fun e=>hxy (UInt8.toNat_inj.1 e)
    rcases Nat.lt_or_gt_of_ne hn with h1|h1
    ·exact .inl (.inl (UInt8.lt_iff_toNat_lt.2 h1))
    ·exact .inr (.inl (UInt8.lt_iff_toNat_lt.2 h1))
theorem aPi {a b:List UInt8} (h:Go.Op.bytesLess a b=true):Go.Op.bytesLess b a=false:=by
 cases h2:Go.Op.bytesLess b a with
 |false=>rfl
 |true=>have:=aDW h h2;rw [aFF] at this;cases this
def mU {α:Type} (key:α->List UInt8) (s:List UInt8) (l:List α):Nat:=(l.filter fun x=>Go.Op.bytesLess (key x) s).length
theorem aLQ {f:jA} (h:nT f=true):f.aY.Pairwise (fun y x=>Go.Op.bytesLess y.aG x.aG=true):=by
 unfold nT at h
 simp only [Bool.and_eq_true] at h
 have h:=h.2
 have hs:∀ (i:Nat) x y,f.aY[i]?=some y->f.aY[i+1]?=some x->Go.Op.bytesLess y.aG x.aG=true:=by
  intro i x y hy hx
  have:=oE h hx
  unfold aED at this
  rw [Bool.and_eq_true,qF _ hy] at this
  exact this.2
 rw [List.pairwise_iff_getElem]
 intro i j hi hj hij
 obtain ⟨d,rfl⟩:∃ d,j=i+1+d:=⟨j-i-1,by omega⟩
 induction d with
 |zero=>exact hs i _ _ (List.getElem?_eq_getElem hi) (List.getElem?_eq_getElem hj)
 |succ d ih=>
  have h1:=ih (by omega) (by omega)
  have h2:=hs (i+1+d) _ _ (List.getElem?_eq_getElem (show i+1+d<f.aY.length by omega)) (List.getElem?_eq_getElem hj)
  exact aDW h1 h2
theorem aKk {α:Type} {R:α->α->Prop} {l:List α} (h:l.Pairwise R) {i j:Nat} {x y:α} (hij:i<j) (hx:l[i]?=some x) (hy:l[j]?=some y):R x y:=by
 rw [List.pairwise_iff_getElem] at h
 obtain ⟨h1,rfl⟩:=List.getElem?_eq_some_iff.1 hx
 obtain ⟨h2,rfl⟩:=List.getElem?_eq_some_iff.1 hy
 exact h i j h1 h2 hij
def kP (f:jA) (s:List UInt8):jA:=if 0<f.fU then { f with fU:=f.fU-1 } else { f with aY:=f.aY.filter fun u=>!(u.aG==s) }
def sH (f:jA):Int:=if 0<f.fU then 2 else 0
theorem aGk {α:Type} {q:List α->α->Bool} {l:List α} (h:∀ (i:Nat) x,l[i]?=some x->q (l.take i) x=true):okP q [] l=true:=by
 have:∀ n,n<=l.length->okP q [] (l.take n)=true:=by
  intro n
  induction n with
  |zero=>intro _;rfl
  |succ n ih=>
   intro hn
   have hx:=List.getElem?_eq_getElem (show n<l.length by omega)
   rw [pT hx,ih (by omega),h n _ hx];rfl
 have:=this l.length (Nat.le_refl _)
 rwa [List.take_length] at this
theorem lK (f:jA):nT f=true ↔ f.aY.length<=120/\inB f.fU 0 1000=true/\inB f.aZ 0 1000000000=true/\(∀ u,u∈f.aY->eG u.aG=true)/\f.aY.Pairwise (fun y x=>Go.Op.bytesLess y.aG x.aG=true):=by
 constructor
 ·intro h
  have hp:=aLQ h
  unfold nT at h
  simp only [Bool.and_eq_true,decide_eq_true_eq] at h
  refine ⟨h.1.1.1,h.1.1.2,h.1.2,fun u hu=>?_,hp⟩
  obtain ⟨i,hi⟩:=List.getElem?_of_mem hu
  have:=oE h.2 hi
  unfold aED at this
  rw [Bool.and_eq_true] at this
  exact this.1
 ·rintro ⟨h1,h2,h3,h4,h5⟩
  unfold nT
  rw [h2,h3,decide_eq_true h1]
  simp only [Bool.and_self,Bool.true_and]
  refine aGk fun i x hx=>?_
  unfold aED
  rw [h4 x (List.mem_of_getElem? hx),Bool.true_and]
  cases i with
  |zero=>exact qE _ _ _
  |succ j=>
   have hlt:=(List.getElem?_eq_some_iff.1 hx).1
   have hy:=List.getElem?_eq_getElem (show j<f.aY.length by omega)
   rw [qF _ hy]
   exact aKk h5 (Nat.lt_succ_self j) hy hx
theorem aO1 {f:jA} (h:nT f=true) (s:List UInt8):nT (kP f s)=true:=by
 rw [lK] at h ⊢
 obtain ⟨h1,h2,h3,h4,h5⟩:=h
 unfold kP
 split
 ·rename_i hp
  refine ⟨h1,?_,h3,h4,h5⟩
  have:=cC h2
  unfold inB;simp only [Bool.and_eq_true,decide_eq_true_eq];omega
 ·exact ⟨Nat.le_trans (List.length_filter_le _ _) h1,h2,h3,fun u hu=>h4 u ((List.mem_filter.1 hu).1),h5.filter _⟩
theorem aOZ {f:jA} (h:pZ f) (s:List UInt8):pZ (kP f s):=by
 unfold kP
 split
 ·exact h
 ·exact ⟨Nat.le_trans (List.length_filter_le _ _) h.1,fun u hu=>h.2 u ((List.mem_filter.1 hu).1)⟩
theorem aEj (f:jA) (s:List UInt8) (hf:pZ f) (hb:nT f=true):aE PP GG 151 [.agg f.c,.d (.str s)] (.tup [.agg (kP f s).o,.d (.int .i64 (sH f))]) [none,none]:=by
 refine cv Tryz.func151 [.agg (kP f s).o,.d (.int .i64 (sH f))] ?_
 have hD:kP f s=if 0<f.fU then { f with fU:=f.fU-1 } else { f with aY:=f.aY.filter fun u=>!(u.aG==s) }:=rfl
 have hC:sH f=if 0<f.fU then 2 else 0:=rfl
 have ccp:=pG f.aY f.fU f.aZ (by have:=hf.1;omega)
 have cfo:=sY f hf
 rw [hb] at cfo
 have hi:=lK f |>.1 hb
 have hl:=hf.1
 obtain ⟨a,ff,fm⟩:=f
 dsimp only at hD hC ccp cfo hi hl
 have hin:=cC hi.2.1
 have hi3:=dC a
 generalize kP ⟨a,ff,fm⟩ s=DF at *
 generalize sH ⟨a,ff,fm⟩=DC at *
 by_cases hff:0<ff
 ·rw [if_pos hff] at hD hC
  subst hD hC
  have hw:IntKind.i64.wrap (ff-1)=ff-1:=aA (by omega) (by omega)
  exact eJ (Y2 hff hw) (Z2 cfo ccp)
 ·rw [if_neg hff] at hD hC
  subst hD hC
  refine u_1 ?_
  refine u_8 (Z1 ccp) ?_
  refine aK (aK ?_)
  refine aPK (Z1 cfo) ?_
  refine aR rfl (fun h=>by simp at h) (fun h=>aU ?_)
  refine aK (aK ?_)
  refine jJ hff ?_
  refine aR rfl (fun h=>by simp at h) (fun h=>aU ?_)
  refine u_1 ?_
  refine jS 6 0 rfl rfl rfl ?_
  refine lQ ?_
  refine bQ (fun n st=>∃ i:Nat,n=a.length-i/\i<=a.length ∧
   st=⟨[],[(1,.d (.str s)),(2,.ptr 0 0),(4,.ptr 1 0),(6,.ptr 2 0),(7,.d (.int .i64 i))],[(0,.box [.d (.slc 2 (cY a)),.d (.int .i64 ff),.d (.int .i64 fm)]),(1,.box [.nil 0 2,.d (.int .i64 0),.d (.int .i64 0)]),(2,.box [.sl 3,.d (.int .i64 ff),.d (.int .i64 fm)]),(3,.arr 0 0 2 (cY ((a.take i).filter fun u=>!(u.aG==s))))],4⟩) _ ⟨0,rfl,by omega,?_⟩ ?_
  ·exact iR @cY.eq_1
  rintro n st ⟨i,rfl,hi',rfl⟩
  by_cases hlt:i<a.length
  rotate_left
  ·have hie:i=a.length:=by omega
   subst hie
   rw [List.take_length]
   have hi4:=dC (a.filter fun u=>!(u.aG==s))
   generalize (a.filter fun u=>!(u.aG==s))=b at *
   exact oI
  have ha:=List.getElem?_eq_getElem hlt
  generalize a[i]=x at ha
  have hsc:=mH (p:=fun u:cV=>!(u.aG==s)) (f:=cV.row) ha
  have hlen:=iX (fun u:cV=>!(u.aG==s)) cV.row a i
  rw [show ∀ l:List cV,(l.filter fun u=>!(u.aG==s)).map cV.row=cY (l.filter fun u=>!(u.aG==s)) from fun l=>rfl] at hsc hlen
  rw [show ∀ l:List cV,(l.filter fun u=>!(u.aG==s)).map cV.row=cY (l.filter fun u=>!(u.aG==s)) from fun l=>rfl] at hsc
  generalize cY ((a.take i).filter fun u=>!(u.aG==s))=L at *
  obtain ⟨xn,xp⟩:=x
  dsimp only at hsc
  cases hx:(xn==s) with
  |false=>
   rw [hx] at hsc
   simp only [Bool.not_false,if_true] at hsc
   refine iK (Y3 ha hx @aJ.eq_1) ?_
   refine ⟨a.length-(i+1),by omega,i+1,rfl,hlt,?_⟩
   rw [hsc]
   refine kT ?_
   exact aA (by omega) (by omega)
  |true=>
   rw [hx] at hsc
   simp only [Bool.not_true,Bool.false_eq_true,if_false,List.append_nil] at hsc
   refine iK (Y2 ha hx) ?_
   refine ⟨a.length-(i+1),by omega,i+1,rfl,hlt,?_⟩
   rw [hsc]
   refine kT ?_
   exact aA (by omega) (by omega)
def jK (q:eP) (s:List UInt8) (now:Int):eP:=⟨q.bX++[⟨s,now,0⟩]⟩
def aIY (q:eP) (s:List UInt8):Bool:=q.bX.any fun t=>t.aG==s
def uQ (q:eP) (s:List UInt8) (now:Int):Bool:=aIY q s || gS (jK q s now)
def jX (q:eP) (s:List UInt8) (now:Int):eP:=if aIY q s then q else if gS (jK q s now) then jK q s now else q
theorem aJs {q:eP} {s:List UInt8} (now:Int) (h:gS q=true) (hf:aEC q) (hs:s.length<=1048576):aEC (jK q s now):=by
 unfold gS at h
 simp only [Bool.and_eq_true,decide_eq_true_eq] at h
 refine ⟨by unfold jK;simp;omega,fun t ht=>?_⟩
 rcases List.mem_append.1 ht with ht|ht
 ·exact hf.2 t ht
 ·simp at ht;subst ht;exact hs
theorem aCZ (q:eP) (s:List UInt8) (now:Int) (hf:aEC q) (hs:s.length<=1048576) (hb:gS q=true):
  aE PP GG 120 [.agg q.c,.d (.str s),.d (.int .i64 now)] (.tup [.agg (jX q s now).o,.d (.bool (uQ q s now))]) [none,none,none]:=by
 refine cv Tryz.func120 [.agg (jX q s now).o,.d (.bool (uQ q s now))] ?_
 have ccp:=qM q.bX (by have:=hf.1;omega)
 have cq0:=pH q hf
 rw [hb] at cq0
 have cq:=pH (jK q s now) (aJs now hb hf hs)
 have hB:uQ q s now=(aIY q s || gS (jK q s now)):=rfl
 have hQ:jX q s now=if aIY q s then q else if gS (jK q s now) then jK q s now else q:=rfl
 have hH:aIY q s=q.bX.any fun t=>t.aG==s:=rfl
 have hl:=hf.1
 obtain ⟨a⟩:=q
 dsimp only at ccp cq0 hB hQ hl hH
 have hi1:=eZ a
 have hro:fP (jK ⟨a⟩ s now).bX=fP a++[[.str s,.int .i64 now,.int .i64 0]]:=by
  unfold jK;dsimp only;rw [aIW];rfl
 dsimp only [eP.c] at cq
 rw [hro] at cq
 generalize aIY ⟨a⟩ s=H at *
 generalize hqo:gS (jK ⟨a⟩ s now)=Q at *
 have hoq:(jK ⟨a⟩ s now).o=[.own 0 3 (fP a++[[.str s,.int .i64 now,.int .i64 0]])]:=by rw [<-hro]
 generalize jK ⟨a⟩ s now=OQ at *
 generalize uQ ⟨a⟩ s now=DB at *
 generalize jX ⟨a⟩ s now=DQ at *
 refine aJ1 (Z2 ccp cq0) ?_
 refine bQ (fun n st=>∃ i:Nat,n=a.length-i/\i<=a.length/\(∀ y,y∈a.take i->(y.aG==s)=false) ∧
  st=⟨[],[(1,.d (.str s)),(2,.d (.int .i64 now)),(3,.ptr 0 0),(6,.ptr 1 0),(8,.ptr 2 0),(9,.d (.int .i64 i))],[(0,.box [.d (.slc 3 (fP a))]),(1,.box [.nil 0 3]),(2,.box [.sl 3]),(3,.arr 0 0 3 (fP a))],4⟩) _ ⟨0,rfl,by omega,fun x hx=>by simp at hx,?_⟩ ?_
 ·exact qW
 rintro n st ⟨i,rfl,hi,hn,rfl⟩
 by_cases hlt:i<a.length
 ·have ha:=List.getElem?_eq_getElem hlt
  generalize a[i]=x at ha
  obtain ⟨xn,xa,xt⟩:=x
  cases hx:(xn==s) with
  |true=>
   have e:=(aAN (p:=fun t:gW=>t.aG==s) ha hn hx).2
   rw [e] at hH
   subst hH
   simp only [Bool.true_or,if_true] at hB hQ
   subst hB hQ
   exact jI (Y2 ha hx)
  |false=>
   have hn2:=lI (p:=fun t:gW=>t.aG==s) ha hn hx
   refine iK (Y2 ha hx) ?_
   refine ⟨a.length-(i+1),by omega,i+1,rfl,hlt,hn2,?_⟩
   refine kT ?_
   exact aA (by omega) (by omega)
 ·have hie:i=a.length:=by omega
  subst hie
  rw [List.take_length] at hn
  rw [(vZ hn).2] at hH
  subst hH
  simp only [Bool.false_or,Bool.false_eq_true,if_false] at hB hQ
  subst hB
  cases DB
  ·simp only [Bool.false_eq_true,if_false] at hQ
   subst hQ
   exact eJ @aJ.eq_1 (Z2 ccp cq)
  ·simp only [if_true] at hQ
   subst hQ
   rw [hoq]
   exact eJ @aJ.eq_1 (Z2 ccp cq)
structure RQ where
 jobs:List gW
 far:jA
 done:List (List UInt8)
 failed:List (List UInt8)
def kW (now:Int) (s:RQ) (j:gW):RQ:=
 if now<j.fAt then { s with jobs:=s.jobs++[j] }
 else if sH s.far=0 then { s with far:=kP s.far j.aG,done:=s.done++[j.aG] }
 else if j.iU+1=6 then { s with far:=kP s.far j.aG,failed:=s.failed++[j.aG] }
 else { s with jobs:=s.jobs++[⟨j.aG,now+2 ^ (j.iU+1).toNat,j.iU+1⟩],far:=kP s.far j.aG }
def rq (now:Int) (q:List gW) (f:jA):RQ:=q.foldl (kW now) ⟨[],f,[],[]⟩
theorem aP1 {now:Int} {q:List gW} {f:jA} {i:Nat} {j:gW} (h:q[i]?=some j):rq now (q.take (i+1)) f=kW now (rq now (q.take i) f) j:=by
 unfold rq;rw [List.take_add_one,h,List.foldl_append];rfl
theorem aKc (now:Int) (q:List gW) (f:jA):(rq now q f).jobs.length<=q.length/\(rq now q f).done.length<=q.length/\(rq now q f).failed.length<=q.length:=by
 induction q using kU with
 |h0=>exact ⟨Nat.le_refl _,Nat.le_refl _,Nat.le_refl _⟩
 |h1 l x ih=>
  have e:rq now (l++[x]) f=kW now (rq now l f) x:=by unfold rq;rw [List.foldl_append];rfl
  rw [e,List.length_append]
  simp only [List.length_cons,List.length_nil]
  unfold kW
  repeat' split
  all_goals (simp only [List.length_append,List.length_cons,List.length_nil];omega)
theorem aKd {now:Int} {f:jA} (hb:nT f=true) (hf:pZ f) (q:List gW):nT (rq now q f).far=true/\pZ (rq now q f).far:=by
 induction q using kU with
 |h0=>exact ⟨hb,hf⟩
 |h1 l x ih=>
  have e:rq now (l++[x]) f=kW now (rq now l f) x:=by unfold rq;rw [List.foldl_append];rfl
  rw [e]
  unfold kW
  repeat' split
  ·exact ih
  all_goals exact ⟨aO1 ih.1 _,aOZ ih.2 _⟩
theorem aMe (l:List (List UInt8)) (x:List UInt8):aN l++[[.str x]]=aN (l++[x]):=by simp [aN]
theorem aN4 (l:List gW) (x:gW):fP l++[x.row]=fP (l++[x]):=by simp [fP]
theorem aMV {q:eP} (h:gS q=true) {i:Nat} {j:gW} (hi:q.bX[i]?=some j):0<=j.iU/\j.iU<=5:=by
 unfold gS at h
 rw [Bool.and_eq_true] at h
 have:=oE h.2 hi
 unfold aGt aGu at this
 simp only [Bool.and_eq_true] at this
 exact cC this.1.2
theorem aPV {t:Int} (h1:1<=t) (h2:t<=5):IntKind.i64.wrap (1*2 ^ (min t.toNat 64))=2 ^ t.toNat/\0<=(2:Int) ^ t.toNat/\(2:Int) ^ t.toNat<=32:=by
 obtain ⟨n,rfl⟩:∃ n:Nat,t=n:=⟨t.toNat,by omega⟩
 have:n=1\/n=2\/n=3\/n=4\/n=5:=by omega
 rcases this with rfl|rfl|rfl|rfl|rfl<;>decide
theorem aEf (q:eP) (f:jA) (now:Int) (hq:aEC q) (hf:pZ f) (hqb:gS q=true) (hfb:nT f=true) (hnow:0<=now/\now<=1000000000):
  aE PP GG 122 [.agg q.c,.agg f.c,.d (.int .i64 now)] (.tup [.agg (eP.mk (rq now q.bX f).jobs).o,.agg (rq now q.bX f).far.o,.own 0 1 (aN (rq now q.bX f).done),.own 0 1 (aN (rq now q.bX f).failed)]) [none,none,none]:=by
 refine cv Tryz.func122 [.agg (eP.mk (rq now q.bX f).jobs).o,.agg (rq now q.bX f).far.o,.own 0 1 (aN (rq now q.bX f).done),.own 0 1 (aN (rq now q.bX f).failed)] ?_
 have ccp:=pG f.aY f.fU f.aZ (by have:=hf.1;omega)
 have cqo:=pH q hq
 have cfo:=sY f hf
 have cin:=bA now 0 1000000000
 rw [hqb] at cqo
 rw [hfb] at cfo
 rw [decide_eq_true hnow.1,decide_eq_true hnow.2,Bool.and_self] at cin
 have hfa:=fun l=>aKd (now:=now) hfb hf l
 have htr:=fun (i:Nat) (j:gW) h=>aMV (q:=q) hqb (i:=i) (j:=j) h
 have hl:=hq.1
 have hi3:=dC f.aY
 obtain ⟨a⟩:=q
 obtain ⟨us,ff,fm⟩:=f
 dsimp only at ccp cqo cfo htr hl hi3
 refine u_1 ?_
 refine u_8 (Z1 ccp) ?_
 refine aK (aK ?_)
 refine aPK (Z3 cqo cfo cin) ?_
 refine aR rfl (fun h=>by simp at h) (fun h=>aU ?_)
 refine u_1 ?_
 refine jS 11 0 rfl rfl rfl ?_
 refine lQ ?_
 refine bQ (fun n st=>∃ i:Nat,n=a.length-i/\i<=a.length ∧
  st=⟨[],[(2,.d (.int .i64 now)),(3,.ptr 0 0),(6,.ptr 1 0),(7,.ptr 2 0),(10,.ptr 3 0),(11,.ptr 4 0),(12,.sl 5),(13,.sl 6),(14,.d (.int .i64 i))],
   [(0,.box [.d (.slc 3 (fP a))]),(1,.box [.nil 0 3]),(2,.box [.nil 0 2,.d (.int .i64 0),.d (.int .i64 0)]),(3,.box [.sl 7,.d (.int .i64 (rq now (a.take i) ⟨us,ff,fm⟩).far.fU),.d (.int .i64 (rq now (a.take i) ⟨us,ff,fm⟩).far.aZ)]),(4,.box [.sl 8]),
    (5,.arr 0 0 1 (aN (rq now (a.take i) ⟨us,ff,fm⟩).done)),(6,.arr 0 0 1 (aN (rq now (a.take i) ⟨us,ff,fm⟩).failed)),(7,.arr 0 0 2 (cY (rq now (a.take i) ⟨us,ff,fm⟩).far.aY)),(8,.arr 0 0 3 (fP (rq now (a.take i) ⟨us,ff,fm⟩).jobs))],9⟩) _ ⟨0,rfl,by omega,?_⟩ ?_
 ·exact iR (Y3 @rq.eq_1 @aN.eq_1 @fP.eq_1)
 rintro n st ⟨i,rfl,hi,rfl⟩
 by_cases hlt:i<a.length
 rotate_left
 ·have hie:i=a.length:=by omega
  subst hie
  rw [List.take_length]
  exact oI
 have ha:=List.getElem?_eq_getElem hlt
 generalize a[i]=x at ha
 have hsu:=aP1 (now:=now) (f:=⟨us,ff,fm⟩) ha
 have hlen:=aKc now (a.take i) ⟨us,ff,fm⟩
 rw [List.length_take] at hlen
 obtain ⟨hfb2,hff2⟩:=hfa (a.take i)
 have ht:=htr i x ha
 generalize rq now (a.take i) ⟨us,ff,fm⟩=R at *
 obtain ⟨rj,rf,rd,rl⟩:=R
 dsimp only at hlen hfb2 hff2
 have cd:=aEj rf x.aG hff2 hfb2
 unfold kW at hsu
 dsimp only at hsu
 obtain ⟨xn,xa,xt⟩:=x
 dsimp only at cd hsu ht
 have hi4:=dC (kP rf xn).aY
 have hdc:sH rf=0\/sH rf=2:=by unfold sH;split<;>simp
 have hi5:=dC rf.aY
 have hl1:(aN rd).length<=i:=by rw [bO];omega
 have hl2:(aN rl).length<=i:=by rw [bO];omega
 have hl3:(fP rj).length<=i:=by rw [aIV];omega
 by_cases hat:now<xa
 ·rw [if_pos hat] at hsu
  refine iK (Y3 ha hat @aJ.eq_1) ?_
  refine ⟨a.length-(i+1),by omega,i+1,rfl,hlt,?_⟩
  rw [hsu]
  refine aTu ?_
  exact aA (by omega) (by omega)
 ·rw [if_neg hat] at hsu
  generalize sH rf=DC at *
  generalize kP rf xn=DF at *
  obtain ⟨du,df,dm⟩:=DF
  obtain ⟨ru,rff,rfm⟩:=rf
  dsimp only at hi4 hi5
  rcases hdc with rfl|rfl
  ·rw [if_pos rfl] at hsu
   refine jH (Y3 ha hat @aJ.eq_1) (Z1 cd) ?_
   refine ⟨a.length-(i+1),by omega,i+1,rfl,hlt,?_⟩
   rw [hsu]
   refine aTt ?_
   exact aA (by omega) (by omega)
  ·rw [if_neg (by omega)] at hsu
   have hw1:IntKind.i64.wrap (xt+1)=xt+1:=aA (by omega) (by omega)
   by_cases h6:xt+1=6
   ·rw [if_pos h6] at hsu
    have hq6:(xt+1==6)=true:=by simpa using h6
    refine jH (Y5 ha hat @aJ.eq_1 hw1 hq6) (Z1 cd) ?_
    refine ⟨a.length-(i+1),by omega,i+1,rfl,hlt,?_⟩
    rw [hsu]
    refine aTt ?_
    exact aA (by omega) (by omega)
   ·rw [if_neg h6] at hsu
    have hq6:(xt+1==6)=false:=by simpa using h6
    obtain ⟨hs1,hs2,hs3⟩:=aPV (t:=xt+1) (by omega) (by omega)
    have hw2:IntKind.i64.wrap (now+2 ^ (xt+1).toNat)=now+2 ^ (xt+1).toNat:=aA (by omega) (by omega)
    have hnn:0<=xt+1:=by omega
    have hwu:IntKind.u64.wrap (xt+1)=xt+1:=by rw [IntKind.wrap_u64];omega
    refine jH (Y10 ha hat @aJ.eq_1 hw1 hq6 hwu @aMg hnn hs1 hw2) (Z1 cd) ?_
    refine ⟨a.length-(i+1),by omega,i+1,rfl,hlt,?_⟩
    rw [hsu]
    refine aTu ?_
    refine ⟨aA (by omega) (by omega),?_⟩
    rw [Nat.min_eq_left (by omega),aA (n:=2 ^ (xt+1).toNat) (by omega) (by omega)]
    exact hw2
def oZ (w:aP) (n:Int):aP:={ w with eQ:=if 1000000000<w.eQ+n then 1000000000 else w.eQ+n }
def xB (w:aP) (o:cK):aP:=
 if uQ w.bJ o.aG w.cN then { w with bJ:=jX w.bJ o.aG w.cN } else oZ { w with bJ:=jX w.bJ o.aG w.cN } 1
def mT (id:Int) (s:aP×List cK) (o:cK):aP×List cK:=
 if o.dS=id then (xB s.1 o,s.2) else (s.1,s.2++[o])
def fR (w:aP) (id:Int) (os:List cK):aP×List cK:=os.foldl (mT id) (w,[])
def jC (w:aP) (l:aQ):aP:={ (fR w l.bU w.bD).1 with bD:=(fR w l.bU w.bD).2 }
def aX (w:aP) (ls:List aQ):aP:=ls.foldl jC w
def iS (w:aP):RQ:=rq w.cN w.bJ.bX w.bL
def iH (w:aP) (ls:List aQ):aP:=
 oZ { aX w ls with bJ:=⟨(iS (aX w ls)).jobs⟩,bL:=(iS (aX w ls)).far } (iS (aX w ls)).failed.length
structure pE (w:aP):Prop where
 now:0<=w.cN/\w.cN<=1000000000
 lost:0<=w.eQ/\w.eQ<=1000000000
 qb:gS w.bJ=true
 qf:aEC w.bJ
 fb:nT w.bL=true
 ff:pZ w.bL
 ol:w.bD.length<=1048576
 on:∀ o,o∈w.bD->o.aG.length<=1048576
theorem aN5 {q:eP} {s:List UInt8} (now:Int) (h:gS q=true) (hf:aEC q) (hs:s.length<=1048576):gS (jX q s now)=true/\aEC (jX q s now):=by
 unfold jX
 split
 ·exact ⟨h,hf⟩
 ·split
  ·next h2=>exact ⟨h2,aJs now h hf hs⟩
  ·exact ⟨h,hf⟩
theorem aQq {w:aP} {n:Int} (h:pE w) (hn:0<=n):pE (oZ w n):=by
 obtain ⟨h1,h2,h3,h4,h5,h6,h7,h8⟩:=h
 refine ⟨h1,?_,h3,h4,h5,h6,h7,h8⟩
 unfold oZ
 dsimp only
 split<;>omega
theorem aSx {w:aP} {o:cK} (h:pE w) (ho:o.aG.length<=1048576):pE (xB w o):=by
 have hq:=aN5 w.cN h.qb h.qf ho
 have h':pE { w with bJ:=jX w.bJ o.aG w.cN }:=⟨h.now,h.lost,hq.1,hq.2,h.fb,h.ff,h.ol,h.on⟩
 unfold xB
 split
 ·exact h'
 ·exact aQq h' (by omega)
theorem aGn {w:aP} {id:Int} {os:List cK} {i:Nat} {o:cK} (h:os[i]?=some o):fR w id (os.take (i+1))=mT id (fR w id (os.take i)) o:=by
 unfold fR;rw [List.take_add_one,h,List.foldl_append];rfl
theorem tK (w:aP) (id:Int) (l:List cK) (x:cK):fR w id (l++[x])=mT id (fR w id l) x:=by
 unfold fR;rw [List.foldl_append];rfl
theorem aDp {w:aP} (id:Int) (h:pE w) (os:List cK) (ho:∀ o,o∈os->o.aG.length<=1048576):pE (fR w id os).1/\(fR w id os).2.length<=os.length/\∀ o,o∈(fR w id os).2->o∈os:=by
 induction os using kU with
 |h0=>exact ⟨h,Nat.le_refl _,fun o ho=>ho⟩
 |h1 l x ih=>
  obtain ⟨i1,i2,i3⟩:=ih fun o h=>ho o (List.mem_append_left _ h)
  rw [tK,List.length_append]
  unfold mT
  split
  ·exact ⟨aSx i1 (ho x (by simp)),by simp;omega,fun o h=>List.mem_append_left _ (i3 o h)⟩
  ·refine ⟨i1,by simp;omega,fun o h=>?_⟩
   rcases List.mem_append.1 h with h|h
   ·exact List.mem_append_left _ (i3 o h)
   ·exact List.mem_append_right _ h
theorem aMF {w:aP} (l:aQ) (h:pE w):pE (jC w l):=by
 obtain ⟨h1,h2,h3⟩:=aDp l.bU h w.bD h.on
 exact ⟨h1.now,h1.lost,h1.qb,h1.qf,h1.fb,h1.ff,by unfold jC;dsimp only;have:=h.ol;omega,fun o ho=>h.on o (h3 o ho)⟩
theorem vS {w:aP} (h:pE w) (ls:List aQ):pE (aX w ls):=by
 unfold aX
 induction ls generalizing w with
 |nil=>exact h
 |cons l r ih=>exact ih (aMF l h)
theorem aI9 {w:aP} {ls:List aQ} {i:Nat} {l:aQ} (h:ls[i]?=some l):aX w (ls.take (i+1))=jC (aX w (ls.take i)) l:=by
 unfold aX;rw [List.take_add_one,h,List.foldl_append];rfl
theorem aAq (w:aP) (n:Int) (h:0<=w.eQ/\w.eQ<=1000000000) (hn:0<=n/\n<=1000000000):
  aE PP GG 121 [.agg w.o,.d (.int .i64 n)] (.agg (oZ w n).o) [none,none]:=by
 refine cv Tryz.func121 [.agg (oZ w n).o] ?_
 have hL:oZ w n={ w with eQ:=if 1000000000<w.eQ+n then 1000000000 else w.eQ+n }:=rfl
 obtain ⟨a,b,c,⟨tk⟩,⟨bk⟩,⟨us,ff,fm⟩,⟨jb⟩,ow⟩:=w
 dsimp only at hL h
 have hi1:=bT tk
 have hi2:=bP bk
 have hi3:=dC us
 have hi4:=eZ jb
 have hi5:=dR ow
 have hw:IntKind.i64.wrap (c+n)=c+n:=aA (by omega) (by omega)
 by_cases hc:1000000000<c+n
 ·rw [if_pos hc] at hL
  rw [hL]
  exact jI (Y2 hw hc)
 ·rw [if_neg hc] at hL
  rw [hL]
  exact jI (Y2 hw hc)
theorem aKi (l:List cK) (x:cK):dK l++[x.row]=dK (l++[x]):=by simp [dK]
abbrev aTO (ls:List aQ) (i:Nat):List (Nat×A):=[(1,.d (.slc 6 (bC ls))),(2,.ptr 0 0),(4,.ptr 1 0),(7,.d (.int .i64 i))]
abbrev aUt (W:aP):List (Nat×O):=[(0,.box [.d (.int .i64 W.cN),.d (.int .i64 W.bG),.d (.int .i64 W.eQ),.sl 2,.sl 3,.sl 4,.d (.int .i64 W.bL.fU),.d (.int .i64 W.bL.aZ),.sl 5,.sl 6]),(1,.box [.d (.int .i64 0),.d (.int .i64 0),.d (.int .i64 0),.nil 1 7,.nil 0 6,.nil 0 2,.d (.int .i64 0),.d (.int .i64 0),.nil 0 3,.nil 0 2]),(2,.arr 0 1 7 (bS W.aD.aF)),(3,.arr 0 0 6 (bC W.aV.aL)),(4,.arr 0 0 2 (cY W.bL.aY)),(5,.arr 0 0 3 (fP W.bJ.bX)),(6,.arr 0 0 2 (dK W.bD))]
abbrev aUs (W:aP) (r:List cK):List (Nat×O):=[(0,.box [.d (.int .i64 W.cN),.d (.int .i64 W.bG),.d (.int .i64 W.eQ),.sl 3,.sl 4,.sl 5,.d (.int .i64 W.bL.fU),.d (.int .i64 W.bL.aZ),.sl 6,.sl 7]),(1,.box [.d (.int .i64 0),.d (.int .i64 0),.d (.int .i64 0),.nil 1 7,.nil 0 6,.nil 0 2,.d (.int .i64 0),.d (.int .i64 0),.nil 0 3,.nil 0 2]),(2,.arr 0 0 2 (dK r)),(3,.arr 0 1 7 (bS W.aD.aF)),(4,.arr 0 0 6 (bC W.aV.aL)),(5,.arr 0 0 2 (cY W.bL.aY)),(6,.arr 0 0 3 (fP W.bJ.bX)),(7,.arr 0 0 2 (dK W.bD))]
theorem qZ (w:aP) (ls:List aQ) (h:pE w) (hls:ls.length<=1048576):
  aE PP GG 90 [.agg w.o,.d (.slc 6 (bC ls))] (.tup [.agg (iH w ls).o,.own 0 1 (aN (iS (aX w ls)).done),.own 0 1 (aN (iS (aX w ls)).failed)]) [none,none]:=by
 refine cv Tryz.func90 [.agg (iH w ls).o,.own 0 1 (aN (iS (aX w ls)).done),.own 0 1 (aN (iS (aX w ls)).failed)] ?_
 refine lQ ?_
 refine bQ (fun n st=>∃ i:Nat,n=ls.length-i/\i<=ls.length/\st=⟨[],aTO ls i,aUt (aX w (ls.take i)),7⟩) _ ⟨0,rfl,by omega,?_⟩ ?_
 ·obtain ⟨a,b,c,⟨tk⟩,⟨bk⟩,⟨us,ff,fm⟩,⟨jb⟩,ow⟩:=w
  exact iR @aX.eq_1
 rintro n st ⟨i,rfl,hi,rfl⟩
 by_cases hlt:i<ls.length
 ·have hli:=List.getElem?_eq_getElem hlt
  generalize ls[i]=l at hli
  have hsu:=aI9 (w:=w) hli
  have hW:=vS h (ls.take i)
  generalize aX w (ls.take i)=W at *
  unfold jC at hsu
  have hfo:=fun os=>aDp (w:=W) l.bU hW os
  refine iK @rD.eq_1 ?_
  refine bQ (fun n st=>∃ j:Nat,n=W.bD.length-j/\j<=W.bD.length/\st=⟨[],aTO ls i++[(8,.sl 2),(9,.d (.int .i64 j))],aUs { (fR W l.bU (W.bD.take j)).1 with bD:=W.bD } (fR W l.bU (W.bD.take j)).2,8⟩) _ ⟨0,rfl,by omega,?_⟩ ?_
  ·exact iR (Y2 @fR.eq_1 @dK.eq_1)
  rintro n st ⟨j,rfl,hj,rfl⟩
  by_cases hjt:j<W.bD.length
  ·have hoj:=List.getElem?_eq_getElem hjt
   have hom:=List.getElem_mem hjt
   generalize W.bD[j]=o at hoj hom
   have hsj:=aGn (w:=W) (id:=l.bU) hoj
   obtain ⟨hV,hrl,-⟩:=hfo (W.bD.take j) fun o ho=>hW.on o (List.mem_of_mem_take ho)
   rw [List.length_take] at hrl
   have hol:=hW.ol
   have hon:=hW.on o hom
   have hi5:=dR W.bD
   generalize fR W l.bU (W.bD.take j)=S at *
   obtain ⟨V,r⟩:=S
   dsimp only at hV hrl
   unfold mT at hsj
   dsimp only at hsj
   have hr2:(dK r).length<=j:=by rw [wS];omega
   have hi6:=dR r
   obtain ⟨on,ol⟩:=o
   by_cases hne:on=l.bU
   ·rw [if_pos hne] at hsj
    have cqd:=aCZ V.bJ ol V.cN hV.qf hon hV.qb
    have clo:=aAq { V with bJ:=jX V.bJ ol V.cN,bD:=W.bD } 1 hV.lost ⟨by omega,by omega⟩
    unfold xB at hsj
    dsimp only at hsj
    subst hne
    obtain ⟨Vn,Vx,Vl,⟨Vf⟩,⟨Vb⟩,⟨Vu,Vfl,Vfm⟩,⟨Vq⟩,Vo⟩:=V
    dsimp only at cqd clo hsj
    have hi1:=bT Vf
    have hi2:=bP Vb
    have hi3:=dC Vu
    generalize uQ ⟨Vq⟩ ol Vn=DB at *
    generalize jX ⟨Vq⟩ ol Vn=DQ at *
    obtain ⟨dj⟩:=DQ
    have hi4:=eZ dj
    cases DB
    ·simp only [Bool.false_eq_true,if_false] at hsj
     refine jH (Y4 hli hoj @aJ.eq_1 @oZ.eq_1) (Z2 cqd clo) ?_
     refine ⟨W.bD.length-(j+1),by omega,j+1,rfl,hjt,?_⟩
     rw [hsj]
     refine aCQ @oZ.eq_1 ?_
     exact aA (by omega) (by omega)
    ·simp only [if_true] at hsj
     refine jH (Y3 hli hoj @aJ.eq_1) (Z1 cqd) ?_
     refine ⟨W.bD.length-(j+1),by omega,j+1,rfl,hjt,?_⟩
     rw [hsj]
     refine kT ?_
     exact aA (by omega) (by omega)
   ·rw [if_neg hne] at hsj
    refine iK (Y4 hli hoj hne @aJ.eq_1) ?_
    refine ⟨W.bD.length-(j+1),by omega,j+1,rfl,hjt,?_⟩
    rw [hsj]
    simp [gc,bW,cZ,gcV,gcO,dZ,dI,fJ,bF,cB,cR,eC,<-aKi]
    exact aA (by omega) (by omega)
  ·have hje:j=W.bD.length:=by omega
   subst hje
   rw [List.take_length]
   generalize fR W l.bU W.bD=S at *
   obtain ⟨V,r⟩:=S
   dsimp only at hsu
   have hi6:=dR r
   refine lQ ?_
   refine ⟨ls.length-(i+1),by omega,i+1,rfl,hlt,?_⟩
   rw [hsu]
   refine kT ?_
   exact aA (by omega) (by omega)
 ·have hie:i=ls.length:=by omega
  subst hie
  rw [List.take_length]
  have hW:=vS h ls
  have hgo:iH w ls=oZ { aX w ls with bJ:=⟨(iS (aX w ls)).jobs⟩,bL:=(iS (aX w ls)).far } (iS (aX w ls)).failed.length:=rfl
  have cru:=aEf (aX w ls).bJ (aX w ls).bL (aX w ls).cN hW.qf hW.ff hW.qb hW.fb hW.now
  have hlr:iS (aX w ls)=rq (aX w ls).cN (aX w ls).bJ.bX (aX w ls).bL:=rfl
  have hln:=(aKc (aX w ls).cN (aX w ls).bJ.bX (aX w ls).bL).2.2
  have hql:=hW.qf.1
  rw [<-hlr] at cru hln
  generalize aX w ls=W at *
  generalize iS W=R at *
  obtain ⟨rj,⟨ru,rfl',rfm⟩,rd,rf⟩:=R
  obtain ⟨Wn,Wx,Wl,⟨Wf⟩,⟨Wb⟩,⟨Wu,Wfl,Wfm⟩,⟨Wq⟩,Wo⟩:=W
  dsimp only at *
  have clo:=aAq ⟨Wn,Wx,Wl,⟨Wf⟩,⟨Wb⟩,⟨ru,rfl',rfm⟩,⟨rj⟩,Wo⟩ rf.length hW.lost ⟨by omega,by omega⟩
  rw [<-hgo] at clo
  generalize iH w ls=Z at *
  obtain ⟨Zn,Zx,Zl,⟨Zf⟩,⟨Zb⟩,⟨Zu,Zfl,Zfm⟩,⟨Zq⟩,Zo⟩:=Z
  have hi1:=bT Wf
  have hi2:=bP Wb
  have hi3:=dC ru
  have hi4:=eZ rj
  have hi5:=dR Wo
  have hj1:=bT Zf
  have hj2:=bP Zb
  have hj3:=dC Zu
  have hj4:=eZ Zq
  have hj5:=dR Zo
  have hj6:=cD rd
  have hj7:=cD rf
  exact qX (Z2 cru clo)
def aKl (w:aP):Prop:=w.bD.Pairwise (fun y x=>y.dS<x.dS)
theorem aOt {w:aP} (hf:aDO w) (hb:eO w=true) (b:dX):pE { w with aV:=b }/\aKl { w with aV:=b }/\eV w.aV=true:=by
 unfold eO at hb
 simp only [Bool.and_eq_true] at hb
 obtain ⟨⟨⟨⟨⟨⟨⟨⟨⟨h1,h2⟩,h3⟩,h4⟩,h5⟩,h6⟩,h7⟩,h8⟩,h9⟩,h10⟩:=hb
 obtain ⟨f1,f2,f3,f4,f5,f6⟩:=hf
 exact ⟨⟨cC h1,cC h3,h7,f4,h6,f3,f5,f6⟩,aLq h10,h5⟩
def fB (f:bK) (g:List Int):bK:=⟨f.aF.filter fun t=>!g.contains t.bU⟩
theorem sV (a:List aO) (g:List Int) (hf:tP ⟨a⟩) (hg:g.length<=1048576):
  aE PP GG 83 [.agg (bK.mk a).c,.d (.slc 1 (bB g))] (.agg (fB ⟨a⟩ g).o) [none,none]:=by
 refine cv Tryz.func83 [.agg (fB ⟨a⟩ g).o] ?_
 have hL:fB ⟨a⟩ g=⟨a.filter fun t=>!g.contains t.bU⟩:=rfl
 rw [hL]
 clear hL
 have chas:=fun x=>nQ g x (by omega)
 refine lQ ?_
 refine jS 5 0 rfl rfl rfl ?_
 refine lQ ?_
 refine bQ (fun n st=>∃ i:Nat,n=a.length-i/\i<=a.length ∧
  st=⟨[],[(1,.d (.slc 1 (bB g))),(2,.ptr 0 0),(4,.ptr 1 0),(5,.ptr 2 0),(6,.d (.int .i64 i))],[(0,.box [.d (.slc 7 (bS a))]),(1,.box [.nil 1 7]),(2,.box [.sl 3]),(3,.arr 0 1 7 (bS ((a.take i).filter fun t=>!g.contains t.bU)))],4⟩) _ ⟨0,rfl,by omega,?_⟩ ?_
 ·exact iR @bS.eq_1
 rintro n st ⟨i,rfl,hi,rfl⟩
 by_cases hlt:i<a.length
 rotate_left
 ·have hie:i=a.length:=by omega
  subst hie
  rw [List.take_length]
  have hi4:=bT (a.filter fun t=>!g.contains t.bU)
  generalize (a.filter fun t=>!g.contains t.bU)=b at *
  exact oI
 have ha:=List.getElem?_eq_getElem hlt
 have hm:=List.getElem_mem hlt
 generalize a[i]=x at ha hm
 have hsc:=mH (p:=fun t:aO=>!g.contains t.bU) (f:=aO.row) ha
 have hlen:=iX (fun t:aO=>!g.contains t.bU) aO.row a i
 rw [show ∀ l:List aO,(l.filter fun t=>!g.contains t.bU).map aO.row=bS (l.filter fun t=>!g.contains t.bU) from fun l=>rfl] at hsc hlen
 rw [show ∀ l:List aO,(l.filter fun t=>!g.contains t.bU).map aO.row=bS (l.filter fun t=>!g.contains t.bU) from fun l=>rfl] at hsc
 have hir:=bT ((a.take i).filter fun t=>!g.contains t.bU)
 have ct:=kO x (hf.2 x hm)
 have hla:a.length<=1048576:=hf.1
 generalize bS ((a.take i).filter fun t=>!g.contains t.bU)=L at *
 have ch:=chas x.bU
 obtain ⟨xi,xp,xn,xm,xe,xl,xu⟩:=x
 dsimp only at hsc ch
 cases hc:g.contains xi with
 |true=>
  rw [hc] at hsc ch
  simp only [Bool.not_true,Bool.false_eq_true,if_false,List.append_nil] at hsc
  refine jH ha (Z1 ch) ?_
  refine ⟨a.length-(i+1),by omega,i+1,rfl,hlt,?_⟩
  rw [hsc]
  refine kT ?_
  exact aA (by omega) (by omega)
 |false=>
  rw [hc] at hsc ch
  simp only [Bool.not_false,if_true] at hsc
  refine jH (Y2 ha @aJ.eq_1) (Z2 ch ct) ?_
  refine ⟨a.length-(i+1),by omega,i+1,rfl,hlt,?_⟩
  rw [hsc]
  refine kT ?_
  exact aA (by omega) (by omega)
theorem aFk (f:bK):fB f []=f:=by
 obtain ⟨a⟩:=f
 unfold fB
 congr 1
 rw [List.filter_eq_self]
 intro t _
 rfl
theorem aBo (f:bK) (id:Int) (hf:tP f):
  aE PP GG 127 [.agg f.c,.d (.int .i64 id)] (.tup [.agg (fB f (eN f id)).o,.own 0 1 (bB (eN f id))]) [none,none]:=by
 refine cv Tryz.func127 [.agg (fB f (eN f id)).o,.own 0 1 (bB (eN f id))] ?_
 have cb:=aC3 f id hf
 have hgl:=vY f id
 have hl:=hf.1
 have ccp:=mN f.aF hf
 have cle:=sV f.aF (eN f id) hf (by omega)
 have hnil:=aFk f
 obtain ⟨a⟩:=f
 dsimp only at hgl hl ccp cle
 generalize eN ⟨a⟩ id=G at *
 have hi1:=bT a
 have hig:=gU G
 cases G with
 |nil=>
  rw [hnil]
  clear hnil cle
  exact eJ @bB.eq_1 (Z2 cb ccp)
 |cons x t=>
  have hne:(((x::t).length:Int)==0)=false:=by simp;omega
  have hle:=jR (x::t)
  generalize (x::t)=G at *
  generalize fB ⟨a⟩ G=R at *
  obtain ⟨r⟩:=R
  have hi2:=bT r
  clear hnil
  exact eJ (Y2 hne hle) (Z2 cb cle)
def iZ (b:dX) (g:List Int):dX:=⟨b.aL.filter fun l=>!g.contains l.dG⟩
def lA (b:dX) (g:List Int):List aQ:=b.aL.filter fun l=>g.contains l.dG
theorem uK (b:dX) (g:List Int) (hf:aDP b) (hb:eV b=true) (hg:g.length<=200):
  aE PP GG 89 [.agg b.c,.d (.slc 1 (bB g))] (.tup [.agg (iZ b g).o,.own 0 6 (bC (lA b g))]) [none,none]:=by
 refine cv Tryz.func89 [.agg (iZ b g).o,.own 0 6 (bC (lA b g))] ?_
 have hK:iZ b g=⟨b.aL.filter fun l=>!g.contains l.dG⟩:=rfl
 have hG:lA b g=b.aL.filter fun l=>g.contains l.dG:=rfl
 have cbo:=mE b hf
 rw [hb] at cbo
 rw [hK,hG]
 clear hK hG
 have chas:=fun x=>nQ g x (by omega)
 have hl:=hf.1
 obtain ⟨a⟩:=b
 dsimp only at hl
 have hgl:=jR g
 have hng:((200:Int)<(g.length:Int))=False:=by simp;omega
 refine jH (Y2 hgl hng) (Z1 cbo) ?_
 refine jS 6 0 rfl rfl rfl ?_
 refine lQ ?_
 refine bQ (fun n st=>∃ i:Nat,n=a.length-i/\i<=a.length ∧
  st=⟨[],[(1,.d (.slc 1 (bB g))),(2,.ptr 0 0),(4,.ptr 1 0),(6,.ptr 2 0),(7,.sl 3),(8,.d (.int .i64 i))],[(0,.box [.d (.slc 6 (bC a))]),(1,.box [.nil 0 6]),(2,.box [.sl 4]),(3,.arr 0 0 6 (bC ((a.take i).filter fun l=>g.contains l.dG))),(4,.arr 0 0 6 (bC ((a.take i).filter fun l=>!g.contains l.dG)))],5⟩) _ ⟨0,rfl,by omega,?_⟩ ?_
 ·exact iR @bC.eq_1
 rintro n st ⟨i,rfl,hi,rfl⟩
 by_cases hlt:i<a.length
 rotate_left
 ·have hie:i=a.length:=by omega
  subst hie
  rw [List.take_length]
  have hi4:=bP (a.filter fun l=>g.contains l.dG)
  have hi5:=bP (a.filter fun l=>!g.contains l.dG)
  generalize (a.filter fun l=>g.contains l.dG)=b1 at *
  generalize (a.filter fun l=>!g.contains l.dG)=b2 at *
  exact oI
 have ha:=List.getElem?_eq_getElem hlt
 generalize a[i]=x at ha
 have hsc:=mH (p:=fun l:aQ=>g.contains l.dG) (f:=aQ.row) ha
 have hlen:=iX (fun l:aQ=>g.contains l.dG) aQ.row a i
 rw [show ∀ l:List aQ,(l.filter fun l=>g.contains l.dG).map aQ.row=bC (l.filter fun l=>g.contains l.dG) from fun l=>rfl] at hsc hlen
 rw [show ∀ l:List aQ,(l.filter fun l=>g.contains l.dG).map aQ.row=bC (l.filter fun l=>g.contains l.dG) from fun l=>rfl] at hsc
 have hsc2:=mH (p:=fun l:aQ=>!g.contains l.dG) (f:=aQ.row) ha
 have hlen2:=iX (fun l:aQ=>!g.contains l.dG) aQ.row a i
 rw [show ∀ l:List aQ,(l.filter fun l=>!g.contains l.dG).map aQ.row=bC (l.filter fun l=>!g.contains l.dG) from fun l=>rfl] at hsc2 hlen2
 rw [show ∀ l:List aQ,(l.filter fun l=>!g.contains l.dG).map aQ.row=bC (l.filter fun l=>!g.contains l.dG) from fun l=>rfl] at hsc2
 generalize bC ((a.take i).filter fun l=>g.contains l.dG)=L at *
 generalize bC ((a.take i).filter fun l=>!g.contains l.dG)=L2 at *
 have ch:=chas x.dG
 obtain ⟨x1,x2,x3,x4,x5,x6⟩:=x
 dsimp only at hsc hsc2 ch
 cases hc:g.contains x2 with
 |true=>
  rw [hc] at hsc hsc2 ch
  simp only [if_true] at hsc
  simp only [Bool.not_true,Bool.false_eq_true,if_false,List.append_nil] at hsc2
  refine jH (Y2 ha @aJ.eq_1) (Z1 ch) ?_
  refine ⟨a.length-(i+1),by omega,i+1,rfl,hlt,?_⟩
  rw [hsc,hsc2]
  refine kT ?_
  exact aA (by omega) (by omega)
 |false=>
  rw [hc] at hsc hsc2 ch
  simp only [Bool.not_false,if_true] at hsc2
  simp only [Bool.false_eq_true,if_false,List.append_nil] at hsc
  refine jH (Y2 ha @aJ.eq_1) (Z1 ch) ?_
  refine ⟨a.length-(i+1),by omega,i+1,rfl,hlt,?_⟩
  rw [hsc,hsc2]
  refine kT ?_
  exact aA (by omega) (by omega)
def ctB (w:aP) (id:Int):Bool:=eO w && cJ w.aD id
def ctG (w:aP) (id:Int):List Int:=if eO w then eN w.aD id else []
def ctX (w:aP) (g:List Int):aP:={ w with aD:=fB w.aD g,aV:=iZ w.aV g }
def ctW (w:aP) (id:Int):aP:=if ctB w id then iH (ctX w (eN w.aD id)) (lA w.aV (eN w.aD id)) else w
theorem aBx {w:aP} (hf:aDO w) (hb:eO w=true) (f:bK) (b:dX):pE { w with aD:=f,aV:=b }/\aKl { w with aD:=f,aV:=b }/\eV w.aV=true:=by
 obtain ⟨hL,hI,hbb⟩:=aOt hf hb b
 obtain ⟨a1,a2,a3,a4,a5,a6,a7,a8⟩:=hL
 exact ⟨⟨a1,a2,a3,a4,a5,a6,a7,a8⟩,hI,hbb⟩
theorem aKU {f:bK} {id:Int} (h:cJ f id=false):eN f id=[]:=by
 unfold eN
 split
 ·rw [aLf]
  intro t ht
  unfold cJ at h
  rw [List.any_eq_false] at h
  simpa using h t ht
 ·rfl
theorem aKT {f:bK} {id:Int} (hb:bR f=true) (h:cJ f id=true):eN f id≠[]:=by
 obtain ⟨t,ht,hti⟩:=List.any_eq_true.1 h
 have hti:=of_decide_eq_true hti
 have hr:=(sF hb (fun t=>decide (t.bU=id))).rec_ t ht
 rw [decide_eq_true hti,Bool.true_or] at hr
 have e:eN f id=(wo (fun t=>decide (t.bU=id)) f.aF).2:=by unfold eN;rw [if_pos hb]
 rw [e]
 intro e2
 rw [e2] at hr
 simp at hr
theorem aKV {f:bK} (id:Int) (hb:bR f=true):(eN f id).length<=120:=by
 have h1:=vY f id
 unfold bR at hb
 simp only [Bool.and_eq_true,decide_eq_true_eq] at hb
 omega
theorem aFr (b:dX) (g:List Int):(lA b g).length<=b.aL.length:=List.length_filter_le _ _
theorem aEl (w:aP) (id:Int) (hf:aDO w):
  aE PP GG 95 [.agg w.c,.d (.int .i64 id)] (.tup [.agg (ctW w id).o,.own 0 1 (bB (ctG w id))]) [none,none]:=by
 refine cv Tryz.func95 [.agg (ctW w id).o,.own 0 1 (bB (ctG w id))] ?_
 have cw:=sW w hf
 have ccp:=iY w hf
 have crv:=aBo w.aD id hf.1
 have hW:ctW w id=if ctB w id then iH (ctX w (eN w.aD id)) (lA w.aV (eN w.aD id)) else w:=rfl
 have hB:ctB w id=(eO w && cJ w.aD id):=rfl
 have hG:ctG w id=if eO w then eN w.aD id else []:=rfl
 have hi1:=bT w.aD.aF
 have hi2:=bP w.aV.aL
 have hi3:=dC w.bL.aY
 have hi4:=eZ w.bJ.bX
 have hi5:=dR w.bD
 cases hWB:eO w with
 |false=>
  rw [hWB,Bool.false_and] at hB
  rw [hB] at hW
  rw [hWB] at hG
  simp only [Bool.false_eq_true,if_false] at hW hG
  rw [hW,hG]
  rw [hWB] at cw
  clear hW hB hG crv
  exact eJ @bB.eq_1 (Z2 ccp cw)
 |true=>
  rw [hWB,Bool.true_and] at hB
  rw [hWB] at cw
  rw [hWB,if_pos rfl] at hG
  have hfb:=sQ hWB
  have hg2:=aKV id hfb
  cases hH:cJ w.aD id with
  |false=>
   rw [hH] at hB
   rw [hB] at hW
   simp only [Bool.false_eq_true,if_false] at hW
   rw [aKU hH] at hG crv
   rw [aFk] at crv
   rw [hW,hG]
   clear hW hB hG hg2
   exact eJ @bB.eq_1 (Z3 ccp cw crv)
  |true=>
   rw [hH] at hB
   rw [hB] at hW
   simp only [if_true] at hW
   have hne:=aKT hfb hH
   rw [hG]
   clear hG hB
   generalize eN w.aD id=G at *
   have hne2:((G.length:Int)==0)=false:=by
    cases G with
    |nil=>exact absurd rfl hne
    |cons x t=>simp;omega
   have hgl:=jR G
   have hig:=gU G
   obtain ⟨hL,hI,hbb⟩:=aBx hf hWB (fB w.aD G) (iZ w.aV G)
   have cdo:=uK w.aV G hf.2.1 hbb (by omega)
   have hgll:=aFr w.aV G
   have hbl:=hf.2.1.1
   have cgo:=qZ { w with aD:=fB w.aD G,aV:=iZ w.aV G } (lA w.aV G) hL (by omega)
   rw [show iH { w with aD:=fB w.aD G,aV:=iZ w.aV G } (lA w.aV G)=ctW w id from hW.symm] at cgo
   clear hW hL hI hne
   generalize iS (aX { w with aD:=fB w.aD G,aV:=iZ w.aV G } (lA w.aV G))=R at *
   generalize ctW w id=Z at *
   generalize lA w.aV G=GL at *
   generalize iZ w.aV G=KB at *
   generalize fB w.aD G=LF at *
   obtain ⟨lf⟩:=LF
   obtain ⟨kb⟩:=KB
   obtain ⟨Zn,Zx,Zl,⟨Zf⟩,⟨Zb⟩,⟨Zu,Zfl,Zfm⟩,⟨Zq⟩,Zo⟩:=Z
   have hi6:=bP kb
   have hi7:=bT lf
   have hi8:=bP GL
   have hj1:=bT Zf
   have hj2:=bP Zb
   have hj3:=dC Zu
   have hj4:=eZ Zq
   have hj5:=dR Zo
   have hj6:=cD R.done
   have hj7:=cD R.failed
   exact eJ (Y2 hne2 hgl) (Z5 ccp cw crv cdo cgo)
structure Cur where
 b:List UInt8
 i:Int
 h:Int
@[simp] abbrev Cur.o (c:Cur):List C:=[.d (.slc 1 (aB c.b)),.d (.int .i64 c.i),.d (.int .i64 c.h)]
def Cur.good (c:Cur):Prop:=0<=c.i/\c.i<=c.b.length/\c.b.length<=1048577
def wP (a b:Int):Int:=IntKind.i64.wrap ((BitVec.ofInt 64 a &&& BitVec.ofInt 64 b).toNat)
def aIn (a b:Int):Int:=IntKind.i64.wrap ((BitVec.ofInt 64 a ^^^ BitVec.ofInt 64 b).toNat)
theorem aDY (a b:Int):eY .and .i64 a b=some (.int .i64 (wP a b)):=rfl
theorem aIm (a b:Int):eY .xor .i64 a b=some (.int .i64 (aIn a b)):=rfl
theorem aBO (a:Int):0<=wP a 255/\wP a 255<=255:=by
 unfold wP
 have h:(BitVec.ofInt 64 a &&& BitVec.ofInt 64 255).toNat<=255:=by
  rw [BitVec.toNat_and]
  exact Nat.and_le_right
 rw [show IntKind.i64.wrap ((BitVec.ofInt 64 a &&& BitVec.ofInt 64 255).toNat:Int)=((BitVec.ofInt 64 a &&& BitVec.ofInt 64 255).toNat:Int) from aA (by omega) (by omega)]
 omega
def aBG (h:Int):Int:=IntKind.i64.wrap (IntKind.i64.wrap (h*6364136223846793005)+1442695040888963407)
def aFD (h:Int):Int:=wP (aIn (h.fdiv 8589934592) (h.fdiv 35184372088832)) 255
def aQm (l:List UInt8) (i:Int):Int:=((l.getD i.toNat 0).toNat:Nat)
def eD (c:Cur):Int×Cur:=
 if c.i<(c.b.length:Nat) then (wP (aFD (aBG c.h)+aQm c.b c.i) 255,⟨c.b,c.i+1,aBG c.h⟩) else (aFD (aBG c.h),⟨c.b,c.i,aBG c.h⟩)
theorem pM (c:Cur):0<=(eD c).1/\(eD c).1<=255:=by
 unfold eD
 split
 ·exact aBO _
 ·exact aBO _
theorem lZ {c:Cur} (h:c.good):(eD c).2.good:=by
 unfold eD
 split<;>(unfold Cur.good at *;dsimp only at *;omega)
def cF (c:Cur) (n:Int):Int×Cur:=
 if n<=0 then (0,c) else if n<=256 then ((eD c).1.tmod n,(eD c).2) else
  (((eD c).1*65536+(eD (eD c).2).1*256+(eD (eD (eD c).2).2).1).tmod n,(eD (eD (eD c).2).2).2)
theorem iM (c:Cur) {n:Int} (h:0<n):0<=(cF c n).1/\(cF c n).1<n:=by
 have h1:=pM c
 have h2:=pM (eD c).2
 have h3:=pM (eD (eD c).2).2
 unfold cF
 rw [if_neg (by omega)]
 split
 ·exact ⟨Int.tmod_nonneg _ h1.1,Int.tmod_lt_of_pos _ h⟩
 ·exact ⟨Int.tmod_nonneg _ (by omega),Int.tmod_lt_of_pos _ h⟩
theorem aJb (c:Cur) (n:Int):0<=(cF c n).1/\(cF c n).1<=(if n<=0 then 0 else n-1):=by
 by_cases h:n<=0
 ·unfold cF;rw [if_pos h,if_pos h];exact ⟨Int.le_refl _,Int.le_refl _⟩
 ·have:=iM c (n:=n) (by omega);rw [if_neg h];omega
theorem eL {c:Cur} (h:c.good) (n:Int):(cF c n).2.good:=by
 unfold cF
 split
 ·exact h
 ·split
  ·exact lZ h
  ·exact lZ (lZ (lZ h))
def fY (c:Cur) (n:Int):Bool×Cur:=(decide ((cF c n).1=0),(cF c n).2)
theorem gI {c:Cur} (h:c.good) (n:Int):(fY c n).2.good:=eL h n
def fC {α:Type} (c:Cur) (z:α) (l:List α):α×Cur:=(l.getD (cF c l.length).1.toNat z,(cF c l.length).2)
theorem iL {α:Type} {c:Cur} (h:c.good) (z:α) (l:List α):(fC c z l).2.good:=eL h _
theorem vT {α:Type} (c:Cur) (z:α) {l:List α} (h:l≠[]):∃ k:Nat,(cF c l.length).1=(k:Int)/\l[k]?=some (fC c z l).1:=by
 have hl:0<l.length:=List.length_pos_iff.2 h
 obtain ⟨h1,h2⟩:=iM c (n:=(l.length:Int)) (by omega)
 refine ⟨(cF c l.length).1.toNat,by omega,?_⟩
 unfold fC
 rw [List.getD_eq_getElem?_getD,List.getElem?_eq_getElem (by omega)]
 rfl
theorem rY {α:Type} (c:Cur) (z:α) {l:List α} (h:l≠[]):(fC c z l).1∈l:=by
 obtain ⟨k,_,hk⟩:=vT c z h
 exact List.mem_of_getElem? hk
def aJ7:List (List UInt8):=[[],[65],[97,47,98],[97,98,99,100,101,102,103,104,105,106,107,108,109,110,111,112],[97,98,99,100,101,102,103,104,105,106,107,108,109,110,111,112,113],[45],[97,32,98],[43,97],[42,42]]
def aJ6:List (List UInt8):=[[97],[98],[99],[107,118],[100,98],[120,45,49],[57]]
def rG (c:Cur):List UInt8×Cur:=if (fY c 25).1=true then fC (fY c 25).2 [] aJ7 else fC (fY c 25).2 [] aJ6
theorem aBz {c:Cur} (h:c.good):(rG c).2.good:=by
 unfold rG
 split
 ·exact iL (gI h _) _ _
 ·exact iL (gI h _) _ _
theorem aDu (c:Cur):(rG c).1.length<=17:=by
 unfold rG
 have ha:∀ x,x∈aJ7->x.length<=17:=by decide
 have hb:∀ x,x∈aJ6->x.length<=17:=by decide
 split
 ·exact ha _ (rY _ _ (by decide))
 ·exact hb _ (rY _ _ (by decide))
def iT (s:List UInt8×Cur):Nat->List UInt8×Cur
 |0=>s
 |n+1=>((iT s n).1++[47]++(rG (iT s n).2).1,(rG (iT s n).2).2)
theorem aB5 {s:List UInt8×Cur} (h:s.2.good) (n:Nat):(iT s n).2.good:=by
 induction n with
 |zero=>exact h
 |succ n ih=>exact aBz ih
theorem aKC (s:List UInt8×Cur) (n:Nat):(iT s n).1.length<=s.1.length+18*n:=by
 induction n with
 |zero=>exact Nat.le_refl _
 |succ n ih=>
  have:=aDu (iT s n).2
  show ((iT s n).1++[47]++(rG (iT s n).2).1).length<=_
  simp only [List.length_append,List.length_cons,List.length_nil]
  omega
def pV (c:Cur):Int×Cur:=
 if (fY (cF c 4).2 20).1=true then (7+(cF (fY (cF c 4).2 20).2 2).1,(cF (fY (cF c 4).2 20).2 2).2) else ((cF c 4).1,(fY (cF c 4).2 20).2)
def aFl (c:Cur):List UInt8×Cur:=iT ((rG c).1,(pV (rG c).2).2) (pV (rG c).2).1.toNat
theorem aKB (c:Cur):0<=(pV c).1/\(pV c).1<=8:=by
 have h1:=iM c (n:=4) (by omega)
 have h2:=iM (fY (cF c 4).2 20).2 (n:=2) (by omega)
 unfold pV
 split
 ·dsimp only;omega
 ·dsimp only;omega
theorem aB4 {c:Cur} (h:c.good):(pV c).2.good:=by
 unfold pV
 split
 ·exact eL (gI (eL h _) _) _
 ·exact gI (eL h _) _
theorem aKA {c:Cur} (h:c.good):(aFl c).2.good:=aB5 (aB4 (aBz h)) _
def iE (c:Cur):Nat->List UInt8×Cur
 |0=>([],c)
 |n+1=>
  let s:=iE c n
  let x:=cF s.2 256
  let y:=cF x.2 256
  let p:=fC y.2 0 [0,1,255,128,x.1,y.1]
  (s.1++[UInt8.ofNat p.1.toNat],p.2)
theorem aB6 {c:Cur} (h:c.good) (n:Nat):(iE c n).2.good:=by
 induction n with
 |zero=>exact h
 |succ n ih=>exact iL (α:=Int) (eL (eL ih 256) 256) 0 _
theorem aKF (c:Cur) (n:Nat):(iE c n).1.length=n:=by
 induction n with
 |zero=>rfl
 |succ n ih=>
  show ((iE c n).1++[_]).length=_
  rw [List.length_append,ih];rfl
theorem aKE (c:Cur) (x y:Int) (hx:0<=x/\x<=255) (hy:0<=y/\y<=255):0<=(fC c 0 [0,1,255,128,x,y]).1/\(fC c 0 [0,1,255,128,x,y]).1<=255:=by
 have h:=rY c 0 (l:=[0,1,255,128,x,y]) (by simp)
 generalize (fC c 0 [0,1,255,128,x,y]).1=z at *
 simp only [List.mem_cons,List.not_mem_nil,or_false] at h
 omega
theorem aNO (a:Int) (x:cO):cH (aMc a x):=by
 have:=tR (aFP a x.nA x.fAt x.aCu x.qU x.fN x.uA)
 unfold cH aMc
 omega
theorem aQW {c:dO} {n:cO} (hc:c.ok) (hn:n.ok) (hcc:c.cost<=1048576) (hnc:n.cost<=1048576):(aJQ c n).ok:=by
 unfold aJQ
 split
 ·rename_i hb
  unfold aNk at hb
  rw [Bool.and_eq_true] at hb
  have hseq:=aDT hb.2 (i:=(pD c (oF c n)).dM.length-1) (x:=oF c n) (by
   unfold pD
   split
   ·simp
   ·simp)
  have hr:=tH hseq
  obtain ⟨h1,h2,h3,h4⟩:=hc
  obtain ⟨n1,n2,n3,n4,n5,n6,n7⟩:=hn
  have hm:maxLen=9223372036854775807:=rfl
  have hnew:(oF c n).ok:=⟨by unfold cH;omega,n2,n3,n4,n5,n6,aNO _ _⟩
  have hlen:=aFB hb.1
  unfold pD
  split
  ·refine ⟨?_,h2,?_,?_⟩
   ·dsimp only
    cases hl:c.dM with
    |nil=>show cH 0;unfold cH;omega
    |cons z t=>exact (h4 z (by rw [hl];simp)).2.2.2.2.2.2
   ·simp;omega
   ·intro y hy
    rcases List.mem_append.1 hy with hy|hy
    ·exact h4 y (List.mem_of_mem_drop hy)
    ·simp at hy;subst hy;exact hnew
  ·refine ⟨h1,h2,?_,?_⟩
   ·simp;omega
   ·intro y hy
    rcases List.mem_append.1 hy with hy|hy
    ·exact h4 y hy
    ·simp at hy;subst hy;exact hnew
 ·exact hc
def aOQ (h:Int) (b:UInt8):Int:=wP (IntKind.i64.wrap (IntKind.i64.wrap (IntKind.i64.wrap (h*149)+(b.toNat:Nat))+11)) 1073741823
def aGA (h:Int) (l:List UInt8):Int:=l.foldl aOQ h
def aKD (code:List UInt8):Cur:=⟨code,0,aGA (705705+(code.length:Nat)) (code.take 4000)⟩
theorem aML {code:List UInt8} (h:code.length<=1048577):(aKD code).good:=⟨Int.le_refl _,by show (0:Int)<=_;omega,h⟩
theorem aGr (c:Cur) (hc:c.good):aE PP GG 31 [.box c.o] (.d (.int .i64 (eD c).1)) [some (.box (eD c).2.o)]:=by
 refine cv Tryz.func31 [.d (.int .i64 (eD c).1)] ?_
 obtain ⟨b,i,h⟩:=c
 obtain ⟨h1,h2,h3⟩:=hc
 dsimp only at h1 h2 h3
 obtain ⟨k,rfl⟩:=Int.eq_ofNat_of_zero_le h1
 have hx:=aBO (aIn ((aBG h).fdiv 8589934592) ((aBG h).fdiv 35184372088832))
 unfold aBG at hx
 by_cases hlt:k<b.length
 ·have hr:eD ⟨b,(k:Int),h⟩=(wP (aFD (aBG h)+aQm b k) 255,⟨b,k+1,aBG h⟩):=by unfold eD;rw [if_pos (by dsimp only;omega)]
  have hg:=List.getElem?_eq_getElem hlt
  have hn:aQm b k=((b[k].toNat:Nat):Int):=by unfold aQm;rw [List.getD_eq_getElem?_getD,Int.toNat_natCast,hg];rfl
  rw [hr,hn]
  unfold aBG aFD
  generalize b[k]=x at *
  have hxx:=x.toNat_lt
  have hw1:IntKind.i64.wrap ((k:Int)+1)=(k:Int)+1:=aA (by omega) (by omega)
  have hw2:IntKind.i64.wrap (x.toNat:Nat)=(x.toNat:Nat):=aA (by omega) (by omega)
  have hw3:IntKind.i64.wrap (wP (aIn ((IntKind.i64.wrap (IntKind.i64.wrap (h*6364136223846793005)+1442695040888963407)).fdiv 8589934592) ((IntKind.i64.wrap (IntKind.i64.wrap (h*6364136223846793005)+1442695040888963407)).fdiv 35184372088832)) 255+(x.toNat:Nat))=wP (aIn ((IntKind.i64.wrap (IntKind.i64.wrap (h*6364136223846793005)+1442695040888963407)).fdiv 8589934592) ((IntKind.i64.wrap (IntKind.i64.wrap (h*6364136223846793005)+1442695040888963407)).fdiv 35184372088832)) 255+(x.toNat:Nat):=aA (by omega) (by omega)
  exact jI (Y6 hg @aDY @aIm hw1 hw2 hw3)
 ·have hr:eD ⟨b,(k:Int),h⟩=(aFD (aBG h),⟨b,k,aBG h⟩):=by unfold eD;rw [if_neg (by dsimp only;omega)]
  rw [hr]
  unfold aBG aFD
  exact jI (Y2 @aDY @aIm)
theorem jP (c:Cur) (n:Int) (hc:c.good):aE PP GG 11 [.box c.o,.d (.int .i64 n)] (.d (.int .i64 (cF c n).1)) [some (.box (cF c n).2.o),none]:=by
 refine cv Tryz.func11 [.d (.int .i64 (cF c n).1)] ?_
 have c1:=aGr c hc
 have r1:=pM c
 have c2:=aGr (eD c).2 (lZ hc)
 have r2:=pM (eD c).2
 have c3:=aGr (eD (eD c).2).2 (lZ (lZ hc))
 have r3:=pM (eD (eD c).2).2
 have hr:cF c n=if n<=0 then (0,c) else if n<=256 then ((eD c).1.tmod n,(eD c).2) else
  (((eD c).1*65536+(eD (eD c).2).1*256+(eD (eD (eD c).2).2).1).tmod n,(eD (eD (eD c).2).2).2):=rfl
 by_cases h0:n<=0
 ·rw [if_pos h0] at hr
  rw [hr]
  clear hr c1 c2 c3
  exact jI h0
 rw [if_neg h0] at hr
 have hn0:¬n=0:=by omega
 by_cases h1:n<=256
 ·rw [if_pos h1] at hr
  rw [hr]
  clear hr c2 c3
  exact eJ (Y3 h0 h1 hn0) (Z1 c1)
 ·rw [if_neg h1] at hr
  rw [hr]
  clear hr
  generalize (eD (eD (eD c).2).2)=p3 at *
  generalize (eD (eD c).2)=p2 at *
  generalize eD c=p1 at *
  have hw1:IntKind.i64.wrap (p1.1*65536)=p1.1*65536:=aA (by omega) (by omega)
  have hw2:IntKind.i64.wrap (p2.1*256)=p2.1*256:=aA (by omega) (by omega)
  have hw3:IntKind.i64.wrap (p1.1*65536+p2.1*256)=p1.1*65536+p2.1*256:=aA (by omega) (by omega)
  have hw4:IntKind.i64.wrap (p1.1*65536+p2.1*256+p3.1)=p1.1*65536+p2.1*256+p3.1:=aA (by omega) (by omega)
  exact eJ (Y7 h0 h1 hn0 hw1 hw2 hw3 hw4) (Z3 c1 c2 c3)
theorem qS (c:Cur) (n:Int) (hc:c.good):aE PP GG 21 [.box c.o,.d (.int .i64 n)] (.d (.bool (fY c n).1)) [some (.box (fY c n).2.o),none]:=by
 refine cv Tryz.func21 [.d (.bool (fY c n).1)] ?_
 have c1:=jP c n hc
 have e:fY c n=(decide ((cF c n).1=0),(cF c n).2):=rfl
 rw [e]
 have hq:((cF c n).1==0)=decide ((cF c n).1=0):=rfl
 exact eJ hq (Z1 c1)
theorem uZ (c:Cur) (l:List Int) (hc:c.good) (hl:l≠[]) (hs:l.length<=100):aE PP GG 20 [.box c.o,.own 0 1 (bB l)] (.d (.int .i64 (fC c 0 l).1)) [some (.box (fC c 0 l).2.o),none]:=by
 refine cv Tryz.func20 [.d (.int .i64 (fC c 0 l).1)] ?_
 have c1:=jP c l.length hc
 obtain ⟨k,hk,hg⟩:=vT c (0:Int) hl
 have e:(fC c 0 l).2=(cF c l.length).2:=rfl
 rw [e]
 have hkl:=(List.getElem?_eq_some_iff.1 hg).1
 generalize (fC c 0 l).1=v at *
 generalize (cF c l.length).2=c2 at *
 rw [hk] at c1
 exact eJ (Y3 @jR @aDC hg) (Z1 c1)
theorem uY (c:Cur) (l:List (List UInt8)) (hc:c.good) (hl:l≠[]) (hs:l.length<=100):aE PP GG 22 [.box c.o,.own 0 1 (aN l)] (.d (.str (fC c [] l).1)) [some (.box (fC c [] l).2.o),none]:=by
 refine cv Tryz.func22 [.d (.str (fC c [] l).1)] ?_
 have c1:=jP c l.length hc
 obtain ⟨k,hk,hg⟩:=vT c ([]:List UInt8) hl
 have e:(fC c [] l).2=(cF c l.length).2:=rfl
 rw [e]
 have hkl:=(List.getElem?_eq_some_iff.1 hg).1
 generalize (fC c [] l).1=v at *
 generalize (cF c l.length).2=c2 at *
 rw [hk] at c1
 exact eJ (Y3 @bO @eB hg) (Z1 c1)
theorem aOx (c:Cur) (hc:c.good):aE PP GG 40 [.box c.o] (.d (.str (rG c).1)) [some (.box (rG c).2.o)]:=by
 refine cv Tryz.func40 [.d (.str (rG c).1)] ?_
 have c1:=qS c 25 hc
 have c2:aE PP GG 22 [.box (fY c 25).2.o,.own 0 1 [[.str []],[.str [65]],[.str [97,47,98]],[.str [97,98,99,100,101,102,103,104,105,106,107,108,109,110,111,112]],[.str [97,98,99,100,101,102,103,104,105,106,107,108,109,110,111,112,113]],[.str [45]],[.str [97,32,98]],[.str [43,97]],[.str [42,42]]]] (.d (.str (fC (fY c 25).2 [] aJ7).1)) [some (.box (fC (fY c 25).2 [] aJ7).2.o),none]:=uY (fY c 25).2 aJ7 (gI hc _) (by decide) (by decide)
 have c3:aE PP GG 22 [.box (fY c 25).2.o,.own 0 1 [[.str [97]],[.str [98]],[.str [99]],[.str [107,118]],[.str [100,98]],[.str [120,45,49]],[.str [57]]]] (.d (.str (fC (fY c 25).2 [] aJ6).1)) [some (.box (fC (fY c 25).2 [] aJ6).2.o),none]:=uY (fY c 25).2 aJ6 (gI hc _) (by decide) (by decide)
 have hr:rG c=if (fY c 25).1=true then fC (fY c 25).2 [] aJ7 else fC (fY c 25).2 [] aJ6:=rfl
 generalize fC (fY c 25).2 [] aJ7=p at *
 generalize fC (fY c 25).2 [] aJ6=q at *
 generalize fY c 25=o at *
 obtain ⟨ob,oc⟩:=o
 cases ob
 ·rw [if_neg (by simp)] at hr
  rw [hr]
  clear hr c2
  exact qX (Z2 c1 c3)
 ·rw [if_pos rfl] at hr
  rw [hr]
  clear hr c3
  exact qX (Z2 c1 c2)
theorem aM3 {l:List UInt8} {i:Nat} {x:UInt8} (h:l[i]?=some x) (a:Int):aGA a (l.take (i+1))=aOQ (aGA a (l.take i)) x:=by
 rw [List.take_add_one,h]
 unfold aGA
 rw [List.foldl_append]
 rfl
theorem aSm (code:List UInt8) (hl:code.length<=1048577):aE PP GG 9 [.d (.slc 1 (aB code))] (.box (aKD code).o) [none]:=by
 refine cv Tryz.func9 [.box (aKD code).o] ?_
 have hbl:(aB code).length=code.length:=qC code
 have hw0:IntKind.i64.wrap (705705+(code.length:Nat))=705705+(code.length:Nat):=aA (by omega) (by omega)
 refine iK (Y2 hbl hw0) ?_
 refine bQ (fun n st=>∃ i:Nat,n=code.length-i/\i<=code.length/\i<=4000 ∧
  st=⟨[],[(0,.d (.slc 1 (aB code))),(3,.d (.int .i64 (aGA (705705+(code.length:Nat)) (code.take i)))),(4,.d (.int .i64 i))],[],0⟩) _ ⟨0,rfl,by omega,by omega,?_⟩ ?_
 ·exact iR @aGA.eq_1
 rintro n st ⟨i,rfl,hi,hi2,rfl⟩
 by_cases hlt:i<code.length
 ·by_cases h4:i<4000
  ·have ha:=List.getElem?_eq_getElem hlt
   generalize code[i]=x at ha
   have hs:=aM3 ha (705705+(code.length:Nat))
   unfold aOQ at hs
   have hx:=x.toNat_lt
   generalize aGA (705705+(code.length:Nat)) (code.take i)=H at *
   have hw1:IntKind.i64.wrap (x.toNat:Nat)=(x.toNat:Nat):=aA (by omega) (by omega)
   refine iK (Y4 ha hbl @aDY hw1) ?_
   refine ⟨code.length-(i+1),by omega,i+1,rfl,by omega,by omega,?_⟩
   rw [hs]
   refine kT ?_
   exact aA (by omega) (by omega)
  ·have hie:i=4000:=by omega
   subst hie
   have e:aKD code=⟨code,0,aGA (705705+(code.length:Nat)) (code.take 4000)⟩:=rfl
   rw [e]
   exact jI hbl
 ·have hie:i=code.length:=by omega
  subst hie
  have e:aKD code=⟨code,0,aGA (705705+(code.length:Nat)) (code.take code.length)⟩:=by
   unfold aKD
   rw [List.take_of_length_le (Nat.le_refl code.length),List.take_of_length_le hi2]
  rw [e]
  exact jI hbl
theorem aOy (c:Cur) (n:Int) (hc:c.good) (hn:n<=5000):aE PP GG 27 [.box c.o,.d (.int .i64 n)] (.own 0 1 (aB (iE c n.toNat).1)) [some (.box (iE c n.toNat).2.o),none]:=by
 refine cv Tryz.func27 [.own 0 1 (aB (iE c n.toNat).1)] ?_
 refine lQ ?_
 refine bQ (fun m st=>∃ i:Nat,m=n.toNat-i/\i<=n.toNat ∧
  st=⟨[],[(0,.ptr 0 0),(1,.d (.int .i64 n)),(5,.sl 1),(6,.d (.int .i64 i))],[(0,.box [.d (.slc 1 (aB (iE c i).2.b)),.d (.int .i64 (iE c i).2.i),.d (.int .i64 (iE c i).2.h)]),(1,.arr 0 0 1 (aB (iE c i).1))],2⟩) _ ⟨0,rfl,by omega,?_⟩ ?_
 ·exact iR (Y3 @iE.eq_1 @iE.eq_2 @aB.eq_1)
 rintro m st ⟨i,rfl,hi,rfl⟩
 by_cases hlt:(i:Int)<n
 rotate_left
 ·have hie:n.toNat=i:=by omega
  rw [hie]
  generalize iE c i=s at *
  exact jI hlt
 have hs:iE c (i+1)=((iE c i).1++[UInt8.ofNat (fC (cF (cF (iE c i).2 256).2 256).2 0 [0,1,255,128,(cF (iE c i).2 256).1,(cF (cF (iE c i).2 256).2 256).1]).1.toNat],(fC (cF (cF (iE c i).2 256).2 256).2 0 [0,1,255,128,(cF (iE c i).2 256).1,(cF (cF (iE c i).2 256).2 256).1]).2):=rfl
 have g1:=aB6 hc i
 have hlen:=aKF c i
 generalize iE c i=s at *
 have c1:=jP s.2 256 g1
 have g2:=eL g1 256
 have r2:=iM s.2 (n:=256) (by omega)
 generalize cF s.2 256=x at *
 have c2:=jP x.2 256 g2
 have g3:=eL g2 256
 have r3:=iM x.2 (n:=256) (by omega)
 generalize cF x.2 256=y at *
 have c3:=uZ y.2 [0,1,255,128,x.1,y.1] g3 (by simp) (by simp)
 have r4:=aKE y.2 x.1 y.1 (by omega) (by omega)
 generalize fC y.2 0 [0,1,255,128,x.1,y.1]=p at *
 simp only [bB,List.map_cons,List.map_nil] at c3
 have hw:IntKind.u8.wrap p.1=((UInt8.ofNat p.1.toNat).toNat:Nat):=by
  rw [UInt8.toNat_ofNat',Nat.mod_eq_of_lt (by omega)]
  rw [show ((p.1.toNat:Nat):Int)=p.1 by omega]
  rw [IntKind.wrap_u8]
  omega
 have hbs:aB (s.1++[UInt8.ofNat p.1.toNat])=aB s.1++[[.int .u8 ((UInt8.ofNat p.1.toNat).toNat:Nat)]]:=by simp [aB]
 generalize UInt8.ofNat p.1.toNat=pb at *
 have hbl:=qC s.1
 refine jH (Y4 hlt hw @aJ.eq_1 hbl) (Z3 c1 c2 c3) ?_
 refine ⟨n.toNat-(i+1),by omega,i+1,rfl,by omega,?_⟩
 rw [hs]
 dsimp only
 rw [hbs]
 refine kT ?_
 exact aA (by omega) (by omega)
theorem aQv (c:Cur) (hc:c.good):aE PP GG 29 [.box c.o] (.d (.str (aFl c).1)) [some (.box (aFl c).2.o)]:=by
 refine cv Tryz.func29 [.d (.str (aFl c).1)] ?_
 have hr:aFl c=iT ((rG c).1,(pV (rG c).2).2) (pV (rG c).2).1.toNat:=rfl
 have c1:=aOx c hc
 have g1:=aBz hc
 have l1:=aDu c
 generalize rG c=s at *
 have hN:pV s.2=if (fY (cF s.2 4).2 20).1=true then (7+(cF (fY (cF s.2 4).2 20).2 2).1,(cF (fY (cF s.2 4).2 20).2 2).2) else ((cF s.2 4).1,(fY (cF s.2 4).2 20).2):=rfl
 have rN:=aKB s.2
 have gN:=aB4 g1
 have c2:=jP s.2 4 g1
 have g2:=eL g1 4
 have r2:=iM s.2 (n:=4) (by omega)
 generalize cF s.2 4=n at *
 have c3:=qS n.2 20 g2
 have g3:=gI g2 20
 generalize fY n.2 20=o at *
 obtain ⟨o1,o2⟩:=o
 dsimp only at g3 hN
 have c4:=jP o2 2 g3
 have r4:=iM o2 (n:=2) (by omega)
 generalize cF o2 2=m at *
 rw [hr]
 clear hr
 generalize pV s.2=N at *
 obtain ⟨N1,N2⟩:=N
 dsimp only at rN gN ⊢
 refine u_1 ?_
 refine u_8 (Z1 c1) ?_
 refine u_8 (Z1 c2) ?_
 refine aPo [0,3,4] (fun st'=>st'=⟨[],[(0,.ptr 0 0),(3,.d (.str s.1)),(4,.d (.int .i64 N1))],[(0,.box [.d (.slc 1 (aB N2.b)),.d (.int .i64 N2.i),.d (.int .i64 N2.h)])],1⟩) ?_ ?_
 ·cases o1
  ·rw [if_neg (by simp)] at hN
   injection hN with e1 e2
   subst e1 e2
   clear c4
   refine aJ1 (Z1 c3) ?_
   exact qW
  ·rw [if_pos rfl] at hN
   injection hN with e1 e2
   subst e1 e2
   have hw:IntKind.i64.wrap (7+m.1)=7+m.1:=aA (by omega) (by omega)
   refine jH hw (Z2 c3 c4) ?_
   exact qW
 rintro st rfl
 clear hN c1 c2 c3 c4
 refine lQ ?_
 refine bQ (fun k st=>∃ i:Nat,k=N1.toNat-i/\i<=N1.toNat ∧
  st=⟨[],[(0,.ptr 0 0),(3,.d (.str (iT (s.1,N2) i).1)),(4,.d (.int .i64 N1)),(5,.d (.int .i64 i))],[(0,.box [.d (.slc 1 (aB (iT (s.1,N2) i).2.b)),.d (.int .i64 (iT (s.1,N2) i).2.i),.d (.int .i64 (iT (s.1,N2) i).2.h)])],1⟩) _ ⟨0,rfl,by omega,?_⟩ ?_
 ·exact iR (Y2 @iT.eq_1 @iT.eq_2)
 rintro k st ⟨i,rfl,hi,rfl⟩
 by_cases hlt:(i:Int)<N1
 rotate_left
 ·have hie:N1.toNat=i:=by omega
  rw [hie]
  generalize iT (s.1,N2) i=L at *
  exact jI hlt
 have hs:iT (s.1,N2) (i+1)=((iT (s.1,N2) i).1++[47]++(rG (iT (s.1,N2) i).2).1,(rG (iT (s.1,N2) i).2).2):=rfl
 have gL:=aB5 (s:=(s.1,N2)) gN i
 have hL:=aKC (s.1,N2) i
 generalize iT (s.1,N2) i=L at *
 have c5:=aOx L.2 gL
 have l5:=aDu L.2
 generalize rG L.2=S at *
 dsimp only at hL
 refine jH (Y2 hlt @jN.eq_1) (Z1 c5) ?_
 refine ⟨N1.toNat-(i+1),by omega,i+1,rfl,by omega,?_⟩
 rw [hs]
 refine kT ?_
 exact aA (by omega) (by omega)
theorem aSP (code:List UInt8) (h:code.length<=maxLen):aE PP GG 4 [.d (.slc 1 (aB code))] (.d (.bool (decide (1048576<code.length)))) [none]:=by
 refine cv Tryz.func4 [.d (.bool (decide (1048576<code.length)))] ?_
 have hbl:=qC code
 have hd:decide ((1048576:Int)<(code.length:Nat))=decide (1048576<code.length):=decide_eq_decide.2 (by omega)
 exact jI (Y2 hbl hd)
def tQ (now:Int) (x:dE):Bool:=decide (x.bM<=now)
def aAH (now:Int) (l:List dE):List dE:=l.filter fun x=>!tQ now x
def aDJ (now:Int) (l:List dE):List Int:=(l.filter (tQ now)).map dE.bU
def qY (r:dV) (now:Int):dV×List Int:=if kM r=true then ({ iP:=r.iP,bG:=r.bG,cP:=aAH now r.cP },aDJ now r.cP) else (r,[])
theorem aKJ {now:Int} {l:List dE} {i:Nat} {x:dE} (h:l[i]?=some x):aAH now (l.take (i+1))=aAH now (l.take i)++(if x.bM<=now then [] else [x])/\aDJ now (l.take (i+1))=aDJ now (l.take i)++(if x.bM<=now then [x.bU] else []):=by
 unfold aAH aDJ
 rw [List.take_add_one,h,List.filter_append,List.filter_append,List.map_append]
 by_cases he:x.bM<=now
 ·rw [if_pos he,if_pos he];simp [tQ,he]
 ·rw [if_neg he,if_neg he];simp [tQ,he]
theorem aCi (r:dV) (now:Int) (hc:r.cost<=1048576):aE PP GG 108 [.agg r.c,.d (.int .i64 now)] (.tup [.agg (qY r now).1.o,.own 0 1 (bB (qY r now).2)]) [none,none]:=by
 refine cv Tryz.func108 [.agg (qY r now).1.o,.own 0 1 (bB (qY r now).2)] ?_
 have cr:=uJ r hc
 have cc:=xE r hc
 obtain ⟨t,ht⟩:∃ t,qY r now=t:=⟨_,rfl⟩
 rw [ht]
 unfold qY at ht
 cases hb:kM r with
 |false=>
  rw [hb] at cr ht
  rw [if_neg (by simp)] at ht
  subst ht
  exact eJ @bB.eq_1 (Z2 cr cc)
 |true=>
  rw [hb] at cr ht
  rw [if_pos rfl] at ht
  subst ht
  clear cc hb
  obtain ⟨f,k,l⟩:=r
  have hco:(dV.mk f k l).cost=l.length+cX dE.cost l:=rfl
  simp only
  refine u_1 ?_
  refine u_1 ?_
  refine aCf (Z1 cr) ?_
  refine aR rfl (fun h=>?_) (fun h=>aU ?_)
  ·cases h
  refine u_1 ?_
  refine jS 7 2 rfl rfl rfl ?_
  refine u_4 ?_
  refine bE (bQ (fun n st=>∃ (i:Nat) (w:List dE) (g:List Int),n=l.length-i/\i<=l.length/\w=aAH now (l.take i)/\g=aDJ now (l.take i) ∧
   st=⟨[],[(1,.d (.int .i64 now)),(2,.ptr 0 0),(4,.ptr 1 0),(6,.sl 2),(7,.ptr 3 0),(8,.d (.int .i64 i))],[(0,.box [.d (.int .i64 f),.d (.int .i64 k),.d (.slc 6 (gX l))]),(1,.box [.d (.int .i64 0),.d (.int .i64 0),.nil 1 6]),(2,.arr 0 0 1 (bB g)),(3,.box [.d (.int .i64 f),.d (.int .i64 k),.sl 4]),(4,.arr 0 1 6 (gX w))],5⟩) _ ⟨0,[],[],rfl,by omega,rfl,rfl,rfl⟩ ?_)
  rintro n st ⟨i,w,g,rfl,hi,hw,hgg,rfl⟩
  refine u_4 ?_
  refine aR rfl (fun h=>aU ?_) (fun h=>dN ?_)
  ·simp at h
   have ha:=List.getElem?_eq_getElem h
   generalize l[i]=x at ha
   have hg:=lJ (f:=dE.cost) ha
   have cw:=mW x (by omega)
   obtain ⟨hs,hs2⟩:=aKJ (now:=now) ha
   have hwl:w.length<=l.length:=by rw [hw];have:=List.length_filter_le (fun x=>!tQ now x) (l.take i);unfold aAH;rw [List.length_take] at this;omega
   have hgl:g.length<=l.length:=by rw [hgg];unfold aDJ;rw [List.length_map];have:=List.length_filter_le (tQ now) (l.take i);rw [List.length_take] at this;omega
   rw [<-hw] at hs
   rw [<-hgg] at hs2
   refine aK (bE (aK ?_))
   refine jJ ha ?_
   refine aR rfl (fun h2=>?_) (fun h2=>?_)
   ·have h3:x.bM<=now:=by simpa using h2
    rw [if_pos h3] at hs hs2
    rw [List.append_nil] at hs
    refine jJ (Y2 ha @aJ.eq_1) ?_
    refine u_5 ?_
    refine ⟨l.length-(i+1),by omega,i+1,w,g++[x.bU],rfl,h,hs.symm,hs2.symm,?_⟩
    rw [aDD]
    simp [gc,bW,cZ,gcV,gcO,dZ,dI,fJ,bF,cB,cR,eC]
    exact aA (by omega) (by omega)
   ·have h3:¬x.bM<=now:=by simpa using h2
    rw [if_neg h3] at hs hs2
    rw [List.append_nil] at hs2
    refine aL7 (Y2 ha @aJ.eq_1) (Z1 cw) ?_
    refine u_5 ?_
    refine ⟨l.length-(i+1),by omega,i+1,w++[x],g,rfl,h,hs.symm,hs2.symm,?_⟩
    rw [tB]
    simp [gc,bW,cZ,gcV,gcO,dZ,dI,fJ,bF,cB,cR,eC]
    exact aA (by omega) (by omega)
  ·simp at h
   rw [List.take_of_length_le h] at hw hgg
   subst hw hgg
   rw [if_pos rfl]
   refine u_1 ?_
   exact u_3
theorem aCh {α:Type} (f:α->Nat) (p:α->Bool) (l:List α):cX f (l.filter p)<=cX f l:=by
 induction l with
 |nil=>simp [cX]
 |cons x l ih=>
  cases h:p x with
  |true=>simp only [List.filter_cons,h,if_true,cX];omega
  |false=>simp only [List.filter_cons,h,cX,Bool.false_eq_true,if_false];omega
theorem aIw (r:dV) (now:Int):(qY r now).1.cost<=r.cost/\(qY r now).2.length<=r.cP.length:=by
 unfold qY
 by_cases h:kM r=true
 ·rw [if_pos h]
  have h1:=aCh dE.cost (fun x=>!tQ now x) r.cP
  have h2:=List.length_filter_le (fun x=>!tQ now x) r.cP
  have h3:=List.length_filter_le (tQ now) r.cP
  refine ⟨?_,by simpa [aDJ] using h3⟩
  show (aAH now r.cP).length+cX dE.cost (aAH now r.cP)<=r.cP.length+cX dE.cost r.cP
  unfold aAH
  omega
 ·rw [if_neg h]
  exact ⟨Nat.le_refl _,by simp⟩
structure eS where
 aG:List UInt8
 gO:List UInt8
 qJ:Int
 cQ:Int
 deriving DecidableEq
@[simp] abbrev eS.row (x:eS):List D:=[.str x.aG,.str x.gO,.int .i64 x.qJ,.int .i64 x.cQ]
@[simp] abbrev eS.c (x:eS):List C:=[.d (.str x.aG),.d (.str x.gO),.d (.int .i64 x.qJ),.d (.int .i64 x.cQ)]
@[simp] abbrev eS.o (x:eS):List C:=[.d (.str x.aG),.d (.str x.gO),.d (.int .i64 x.qJ),.d (.int .i64 x.cQ)]
def jM (l:List eS):List (List D):=l.map eS.row
@[simp] theorem aTd (l:List eS):(jM l).length=l.length:=by simp [jM]
@[simp] theorem aTe (l:List eS) (i:Nat):(jM l)[i]?=(l[i]?).map eS.row:=by simp [jM]
def eS.cost (x:eS):Nat:=x.aG.length+x.gO.length
def eS.ok (x:eS):Prop:=x.aG.length<=maxLen/\x.gO.length<=maxLen/\cH x.qJ/\cH x.cQ
def oK (r:eS):Bool:=eG r.aG && eG r.gO && decide (r.gO.length<=6) && inB r.cQ 1 1000000 && inB r.qJ 1 r.cQ
theorem qN (r:eS) (h1:r.aG.length<=1048576) (h2:r.gO.length<=1048576):aE PP GG 102 [.agg r.c] (.d (.bool (oK r))) [none]:=by
 refine cv Tryz.func102 [.d (.bool (oK r))] ?_
 have c1:=jZ r.aG (by omega)
 have c2:=jZ r.gO (by omega)
 have c3:aE PP GG 12 [.d (.int .i64 r.cQ),.d (.int .i64 1),.d (.int .i64 1000000)] (.d (.bool (inB r.cQ 1 1000000))) [none,none,none]:=bA _ _ _
 have c4:aE PP GG 12 [.d (.int .i64 r.qJ),.d (.int .i64 1),.d (.int .i64 r.cQ)] (.d (.bool (inB r.qJ 1 r.cQ))) [none,none,none]:=bA _ _ _
 obtain ⟨t,ht⟩:∃ t,oK r=t:=⟨_,rfl⟩
 rw [ht]
 unfold oK at ht
 have hd:decide ((r.gO.length:Int)<=6)=decide (r.gO.length<=6):=decide_eq_decide.2 (by omega)
 generalize eG r.aG=a at *
 generalize eG r.gO=b at *
 generalize decide (r.gO.length<=6)=d at *
 generalize inB r.cQ 1 1000000=x at *
 generalize inB r.qJ 1 r.cQ=y at *
 subst ht
 cases a
 ·exact qX (Z1 c1)
 cases b
 ·exact qX (Z2 c1 c2)
 cases d
 ·exact eJ hd (Z2 c1 c2)
 cases x
 ·exact eJ hd (Z3 c1 c2 c3)
 ·exact eJ hd (Z4 c1 c2 c3 c4)
def xJ (m:Nat) (i:Nat):UInt8:=UInt8.ofNat (48+m / 10 ^ i % 10)
def six (m:Nat):List UInt8:=[xJ m 5,xJ m 4,xJ m 3,xJ m 2,xJ m 1,xJ m 0]
def rX (m:Nat):Nat->List UInt8
 |0=>[]
 |i+1=>xJ m i::rX m i
theorem aBy (m:Nat):∀ i,(rX m i).length=i
 |0=>rfl
 |i+1=>by rw [rX,List.length_cons,aBy m i]
def lT (r:eS) (n:Int):List UInt8:=r.gO++six n.toNat
theorem aTD (q:Nat):eY .rem .i64 (q:Int) 10=some (.int .i64 ((q % 10:Nat):Int)):=by
 rw [aKM _ _ _ (by omega),Int.tmod_eq_emod_of_nonneg (by omega)];rfl
theorem aTJ (q:Nat) (hq:q<=9223372036854775807):eY .quo .i64 (q:Int) 10=some (.int .i64 ((q / 10:Nat):Int)):=by
 rw [aKN _ _ _ (by omega),Int.tdiv_eq_ediv_of_nonneg (by omega),show (q:Int) / 10=((q / 10:Nat):Int) from rfl,aA (by omega) (by omega)]
theorem aPa (m i:Nat):IntKind.u8.wrap (48+((m / 10 ^ i % 10:Nat):Int))=((xJ m i).toNat:Int):=by
 unfold xJ
 rw [IntKind.wrap_u8,UInt8.toNat_ofNat'];omega
theorem aJM (b:UInt8) (l:List UInt8):aB (b::l)=[[.int .u8 b.toNat]]++aB l:=by simp [aB]
theorem aEe (r:eS) (n:Int) (h1:r.aG.length<=1048576) (h2:r.gO.length<=1048576) (hr:oK r=true) (hn:inB n 0 1000000000=true):aE PP GG 157 [.agg r.c,.d (.int .i64 n)] (.d (.str (lT r n))) [none,none]:=by
 refine cv Tryz.func157 [.d (.str (lT r n))] ?_
 have c1:=qN r h1 h2
 have c2:aE PP GG 12 [.d (.int .i64 n),.d (.int .i64 0),.d (.int .i64 1000000000)] (.d (.bool (inB n 0 1000000000))) [none,none,none]:=bA _ _ _
 rw [hr] at c1
 rw [hn] at c2
 obtain ⟨h0,h9⟩:=cC hn
 obtain ⟨r1,r2,r3,r4⟩:=r
 have hU:lT ⟨r1,r2,r3,r4⟩ n=r2++six n.toNat:=rfl
 generalize lT ⟨r1,r2,r3,r4⟩ n=U at *
 obtain ⟨m,rfl⟩:∃ m:Nat,n=m:=⟨n.toNat,by omega⟩
 simp only [Int.toNat_natCast] at hU
 refine aJ1 (Z2 c1 c2) ?_
 refine bQ (fun k st=>∃ i:Nat,k=6-i/\i<=6/\st=⟨[],[(1,.d (.int .i64 ((m / 10 ^ i:Nat):Int))),(2,.ptr 0 0),(5,.sl 1),(6,.d (.int .i64 i))],[(0,.box [.d (.str r1),.d (.str r2),.d (.int .i64 r3),.d (.int .i64 r4)]),(1,.arr 0 0 1 (aB (rX m i)))],2⟩) _ ⟨0,rfl,by omega,?_⟩ ?_
 ·exact iR (Y3 @rX.eq_1 @rX.eq_2 @aB.eq_1)
 rintro k st ⟨i,rfl,hi,rfl⟩
 by_cases hlt:i<6
 ·have hq:m / 10 ^ i<=m:=Nat.div_le_self _ _
  have f1:=aTD (m / 10 ^ i)
  have f2:IntKind.i64.wrap (48+((m / 10 ^ i % 10:Nat):Int))=48+((m / 10 ^ i % 10:Nat):Int):=aA (by omega) (by omega)
  have f3:=aPa m i
  have f4:=aTJ (m / 10 ^ i) (by omega)
  have f5:m / 10 ^ i / 10=m / 10 ^ (i+1):=by rw [Nat.div_div_eq_div_mul,Nat.pow_succ]
  have f6:aB (rX m (i+1))=[[.int .u8 (xJ m i).toNat]]++aB (rX m i):=aJM _ _
  have f7:=aBy m i
  have f8:IntKind.i64.wrap ((i:Int)+1)=(i:Int)+1:=aA (by omega) (by omega)
  rw [f5] at f4
  generalize m / 10 ^ i=q at *
  generalize q % 10=q1 at *
  refine iK (Y6 f1 f2 f3 f4 f7 @aJ.eq_1) ?_
  refine ⟨6-(i+1),by omega,i+1,rfl,hlt,?_⟩
  rw [f6]
  exact iR f8
 ·have hi6:i=6:=by omega
  subst hi6
  have hlen:(rX m 6).length=6:=aBy m 6
  rw [show six m=rX m 6 from rfl] at hU
  have hso:=fA (rX m 6)
  generalize aB (rX m 6)=BD at *
  generalize rX m 6=L at *
  subst hU
  dsimp only at h2
  exact jI (Y3 hso hlen @jN.eq_1)
def aEZ (key:Int) (name:List UInt8):List UInt8:=Lib.itoa (qK (mK key++name))
theorem aEd (key:Int) (name:List UInt8) (hk:kR key=true) (hn:eG name=true) (hl:name.length<=1048576):aE PP GG 158 [.d (.int .i64 key),.d (.str name)] (.d (.str (aEZ key name))) [none,none]:=by
 refine cv Tryz.func158 [.d (.str (aEZ key name))] ?_
 have c1:=gJ key
 have c2:=jZ name (by omega)
 rw [hk] at c1
 rw [hn] at c2
 have c3:=sX key hk
 have hwl:=aCM key
 have hU:aEZ key name=Lib.itoa (qK (mK key++name)):=rfl
 generalize mK key=wk at *
 have c4:=fE wk name (by omega)
 have hib:=aW (wk++name)
 have c5:=sP (wk++name) (by rw [List.length_append];omega)
 have hd:cH (qK (wk++name)):=by have:=tR (wk++name);unfold cH;omega
 generalize qK (wk++name)=q at *
 have c6:=mG q hd
 rw [hU]
 exact qX (Z6 c1 c2 c3 c4 c5 c6)
theorem aB3 {α:Type} {key:α->List UInt8} (s:List UInt8):∀ {l:List α},l.Pairwise (fun y x=>Go.Op.bytesLess (key y) (key x)=true) →
  mU key s l<=l.length/\(∀ (m:Nat) x,m<mU key s l->l[m]?=some x->Go.Op.bytesLess (key x) s=true)/\(∀ (m:Nat) x,mU key s l<=m->l[m]?=some x->Go.Op.bytesLess (key x) s=false):=by
 intro l
 induction l with
 |nil=>intro _;exact ⟨Nat.le_refl _,fun m x h=>by simp [mU] at h,fun m x _ h=>by simp at h⟩
 |cons a t ih=>
  intro h
  rw [List.pairwise_cons] at h
  obtain ⟨i1,i2,i3⟩:=ih h.2
  cases ha:Go.Op.bytesLess (key a) s with
  |true=>
   have e:mU key s (a::t)=mU key s t+1:=by simp [mU,ha]
   rw [e]
   refine ⟨by simpa using i1,fun m x hm hx=>?_,fun m x hm hx=>?_⟩
   ·cases m with
    |zero=>simp at hx;subst hx;exact ha
    |succ m=>exact i2 m x (by omega) (by simpa using hx)
   ·cases m with
    |zero=>omega
    |succ m=>exact i3 m x (by omega) (by simpa using hx)
  |false=>
   have hall:∀ x,x∈t->Go.Op.bytesLess (key x) s=false:=fun x hx=>by
    cases hb:Go.Op.bytesLess (key x) s with
    |false=>rfl
    |true=>have:=aDW (h.1 x hx) hb;rw [ha] at this;cases this
   have e:mU key s (a::t)=0:=by
    have:t.filter (fun x=>Go.Op.bytesLess (key x) s)=[]:=by rw [List.filter_eq_nil_iff];intro x hx;rw [hall x hx];simp
    simp [mU,ha,this]
   rw [e]
   refine ⟨by omega,fun m x hm=>by omega,fun m x _ hx=>?_⟩
   cases m with
   |zero=>simp at hx;subst hx;exact ha
   |succ m=>exact hall x (List.mem_of_getElem? (by simpa using hx))
def gT {α:Type} (l:List α) (k:Nat) (u:α) (i:Nat):List α:=if i<=k then l.take i else l.take k++u::(l.drop k).take (i-k)
theorem aKP {α:Type} (l:List α) (k:Nat) (u:α):gT l k u 0=[]:=by simp [gT]
theorem aOM {α:Type} {l:List α} {k:Nat} {u x:α} {i:Nat} (h:i<k) (hx:l[i]?=some x):gT l k u (i+1)=gT l k u i++[x]:=by
 unfold gT
 rw [if_pos (by omega),if_pos (by omega),List.take_add_one,hx];rfl
theorem aOO {α:Type} {l:List α} {k:Nat} {u x:α} (hx:l[k]?=some x):gT l k u (k+1)=gT l k u k++[u]++[x]:=by
 unfold gT
 rw [if_neg (by omega),if_pos (by omega),show k+1-k=1 by omega,List.take_one,List.head?_drop,hx]
 simp
theorem aON {α:Type} {l:List α} {k:Nat} {u x:α} {i:Nat} (h:k<i) (hx:l[i]?=some x):gT l k u (i+1)=gT l k u i++[x]:=by
 unfold gT
 rw [if_neg (by omega),if_neg (by omega),show i+1-k=(i-k)+1 by omega,List.take_add_one,List.getElem?_drop,show k+(i-k)=i by omega,hx]
 simp
theorem aMZ {α:Type} {l:List α} {k:Nat} {u:α} (h:k<l.length):gT l k u l.length=l.take k++u::l.drop k:=by
 unfold gT
 rw [if_neg (by omega)]
 rw [show (l.drop k).take (l.length-k)=l.drop k from List.take_of_length_le (by rw [List.length_drop];omega)]
theorem aMY {α:Type} {l:List α} {k:Nat} {u:α} (h:k=l.length):gT l k u l.length++[u]=l.take k++u::l.drop k:=by
 unfold gT
 subst h
 rw [if_pos (Nat.le_refl _)]
 simp
theorem aMX {α:Type} (l:List α) (k:Nat) (u:α) (i:Nat):(gT l k u i).length<=l.length+1:=by
 unfold gT
 split
 ·simp;omega
 ·simp;omega
theorem aJ9 (a:List cV) (ff fm:Int) (s:List UInt8) (hl:a.length<=1048576):aE PP GG 159 [.agg (jA.mk a ff fm).c,.d (.str s)] (.d (.int .i64 (mA (fun u=>u.aG==s) a))) [none,none]:=by
 refine cv Tryz.func159 [.d (.int .i64 (mA (fun u=>u.aG==s) a))] ?_
 refine lQ ?_
 refine bQ (fun n st=>∃ i:Nat,n=a.length-i/\i<=a.length/\(∀ x,x∈a.take i->(x.aG==s)=false)/\st=⟨[],[(1,.d (.str s)),(2,.ptr 0 0),(5,.d (.int .i64 i))],[(0,.box [.d (.slc 2 (cY a)),.d (.int .i64 ff),.d (.int .i64 fm)])],1⟩) _ ⟨0,rfl,by omega,by simp,?_⟩ ?_
 ·exact qW
 rintro n st ⟨i,rfl,hi,hn,rfl⟩
 by_cases hlt:i<a.length
 ·have ha:=List.getElem?_eq_getElem hlt
  generalize a[i]=x at ha
  cases hx:(x.aG==s) with
  |true=>
   rw [aJm ha hn hx]
   exact jI (Y2 ha hx)
  |false=>
   refine iK (Y2 ha hx) ?_
   refine ⟨a.length-(i+1),by omega,i+1,rfl,hlt,fun y hy=>?_,?_⟩
   ·rw [List.take_add_one,ha,List.mem_append] at hy
    rcases hy with h|h
    ·exact hn y h
    ·simp at h;subst h;exact hx
   ·refine kT ?_
    exact aA (by omega) (by omega)
 ·have hie:i=a.length:=by omega
  subst hie
  rw [List.take_length] at hn
  rw [aFp hn]
  exact oI
def oY:cV:=⟨[],[]⟩
def muC (f:jA) (r:eS) (key:Int):Int:=if (oK r && kR key && !decide (f.aZ=1000000000))=false then 1 else if 0<f.fU then 2 else if (f.aY.any fun u=>u.aG==lT r (f.aZ+1))=true then 3 else if f.aY.length=120 then 4 else 0
def muN (f:jA) (r:eS) (key:Int):cV:=⟨lT r (f.aZ+1),aEZ key (lT r (f.aZ+1))⟩
def muU (f:jA) (r:eS) (key:Int):cV:=if muC f r key=0 then muN f r key else oY
def rS (l:List cV) (u:cV):List cV:=l.take (mU cV.aG u.aG l)++u::l.drop (mU cV.aG u.aG l)
def muF (f:jA) (r:eS) (key:Int):jA:=
 if muC f r key=2 then { f with fU:=f.fU-1 } else if muC f r key=3 then { f with aZ:=f.aZ+1 } else if muC f r key=0 then ⟨rS f.aY (muN f r key),f.fU,f.aZ+1⟩ else f
theorem aNd (m i:Nat):aI6 (xJ m i)=true:=by
 unfold aI6 xJ
 have h:(UInt8.ofNat (48+m / 10 ^ i % 10)).toNat=48+m / 10 ^ i % 10:=by rw [UInt8.toNat_ofNat'];omega
 rw [h,decide_eq_true_iff]
 omega
theorem aIq {r:eS} (h:oK r=true) (n:Int):eG (lT r n)=true/\(lT r n).length<=12:=by
 unfold oK at h
 simp only [Bool.and_eq_true,decide_eq_true_eq] at h
 obtain ⟨⟨⟨⟨-,hp⟩,hl⟩,-⟩,-⟩:=h
 unfold eG at hp ⊢
 simp only [Bool.and_eq_true,decide_eq_true_eq] at hp ⊢
 have hlen:(lT r n).length=r.gO.length+6:=by simp [lT,six]
 refine ⟨⟨by omega,?_⟩,by omega⟩
 unfold lT six
 rw [List.all_append,hp.2]
 simp [aNd]
theorem aEi (f:jA) (r:eS) (key:Int) (hf:pZ f) (hb:nT f=true) (h1:r.aG.length<=1048576) (h2:r.gO.length<=1048576):
  aE PP GG 135 [.agg f.c,.agg r.c,.d (.int .i64 key)] (.tup [.agg (muF f r key).o,.agg (muU f r key).o,.d (.int .i64 (muC f r key))]) [none,none,none]:=by
 refine cv Tryz.func135 [.agg (muF f r key).o,.agg (muU f r key).o,.d (.int .i64 (muC f r key))] ?_
 obtain ⟨q1,q2,q3,q4,q5⟩:=(lK f).1 hb
 have cfo:=sY f hf
 rw [hb] at cfo
 have cro:=qN r h1 h2
 have cke:=gJ key
 have hun:=fun h=>aIq (r:=r) h (f.aZ+1)
 have cat:=fun s=>aJ9 f.aY f.fU f.aZ s hf.1
 have hsp:=aB3 (key:=cV.aG) (lT r (f.aZ+1)) q5
 have cun:=fun h h'=>aEe r (f.aZ+1) h1 h2 h h'
 have cup:=fun h h' h''=>aEd key (lT r (f.aZ+1)) h h' h''
 have hC:muC f r key=if (oK r && kR key && !decide (f.aZ=1000000000))=false then 1 else if 0<f.fU then 2 else if (f.aY.any fun u=>u.aG==lT r (f.aZ+1))=true then 3 else if f.aY.length=120 then 4 else 0:=rfl
 have hN:muN f r key=⟨lT r (f.aZ+1),aEZ key (lT r (f.aZ+1))⟩:=rfl
 have hU:muU f r key=if muC f r key=0 then muN f r key else oY:=rfl
 have hF:muF f r key=if muC f r key=2 then { f with fU:=f.fU-1 } else if muC f r key=3 then { f with aZ:=f.aZ+1 } else if muC f r key=0 then ⟨rS f.aY (muN f r key),f.fU,f.aZ+1⟩ else f:=rfl
 have hP:rS f.aY (muN f r key)=f.aY.take (mU cV.aG (lT r (f.aZ+1)) f.aY)++muN f r key::f.aY.drop (mU cV.aG (lT r (f.aZ+1)) f.aY):=rfl
 generalize muF f r key=F at *
 generalize muU f r key=U at *
 generalize muC f r key=CC at *
 generalize muN f r key=NN at *
 generalize lT r (f.aZ+1)=nm at *
 generalize aEZ key nm=pw at *
 obtain ⟨us,ff,fm⟩:=f
 have ccp:=pG us ff fm (by have:=hf.1;dsimp only at this;omega)
 have hff:=cC q2
 have hfm:=cC q3
 dsimp only at *
 have hnm:=fun h=>(hun h).1
 have hnl:=fun h=>(hun h).2
 generalize rS us NN=PU at *
 generalize hk:mU cV.aG nm us=k at *
 generalize oK r=R at *
 generalize kR key=KB at *
 have hi3:=dC us
 obtain ⟨r1,r2,r3,r4⟩:=r
 cases R
 ·simp only [Bool.false_and,if_true] at hC
  subst hC
  simp only [Int.reduceEq,if_false] at hU hF
  subst hU hF
  exact eJ @oY.eq_1 (Z3 cfo cro ccp)
 cases KB
 ·simp only [Bool.and_false,Bool.false_and,if_true] at hC
  subst hC
  simp only [Int.reduceEq,if_false] at hU hF
  subst hU hF
  exact eJ @oY.eq_1 (Z4 cfo cro ccp cke)
 by_cases hmx:fm=1000000000
 ·rw [decide_eq_true hmx] at hC
  simp only [Bool.not_true,Bool.and_false,if_true] at hC
  subst hC
  simp only [Int.reduceEq,if_false] at hU hF
  subst hU hF hmx
  exact eJ @oY.eq_1 (Z4 cfo cro ccp cke)
 rw [decide_eq_false hmx] at hC
 simp only [Bool.not_false,Bool.and_self,Bool.true_eq_false,if_false] at hC
 have hmx2:(fm==1000000000)=false:=by simpa using hmx
 by_cases hfp:0<ff
 ·rw [if_pos hfp] at hC
  subst hC
  simp only [Int.reduceEq,if_false,if_true] at hU hF
  subst hU hF
  have hw:IntKind.i64.wrap (ff-1)=ff-1:=aA (by omega) (by omega)
  exact eJ (Y3 @oY.eq_1 hmx2 hw) (Z4 cfo cro ccp cke)
 rw [if_neg hfp] at hC
 have cun:=cun rfl (by unfold inB;simp;omega)
 have cup:=cup rfl (hnm rfl) (by have:=hnl rfl;omega)
 have cat:=cat nm
 have hw1:IntKind.i64.wrap (fm+1)=fm+1:=aA (by omega) (by omega)
 have hany:=sE (fun u:cV=>u.aG==nm) us
 have hge:∀ z:Int,(z>=0)=(0<=z):=fun z=>rfl
 generalize mA (fun u:cV=>u.aG==nm) us=ix at *
 by_cases hex:(us.any fun u=>u.aG==nm)=true
 ·rw [if_pos hex] at hC
  rw [hex] at hany
  subst hC
  simp only [Int.reduceEq,if_false,if_true] at hU hF
  subst hU hF
  exact eJ (Y4 @oY.eq_1 hmx2 hw1 hany) (Z7 cfo cro ccp cke cun cup cat)
 rw [if_neg hex] at hC
 have hex2:(us.any fun u=>u.aG==nm)=false:=by simpa using hex
 rw [hex2] at hany
 by_cases hfull:us.length=120
 ·rw [if_pos hfull] at hC
  subst hC
  simp only [Int.reduceEq,if_false,if_true] at hU hF
  subst hU hF
  exact eJ (Y5 @oY.eq_1 hmx2 hw1 hany hfull) (Z7 cfo cro ccp cke cun cup cat)
 rw [if_neg hfull] at hC
 subst hC
 simp only [Int.reduceEq,if_false,if_true] at hU hF
 subst hU hF
 refine jH (Y4 @oY.eq_1 hmx2 hw1 hany) (Z7 cfo cro ccp cke cun cup cat) ?_
 subst hN
 obtain ⟨hs1,hs2,hs3⟩:=hsp
 have hx1:∀ m x,m<k->us[m]?=some x->Go.Op.bytesLess nm x.aG=false:=fun m x h h'=>aPi (hs2 m x h h')
 have hx2:∀ m x,k<=m->us[m]?=some x->Go.Op.bytesLess nm x.aG=true:=fun m x h h'=>by
  have hne:x.aG≠nm:=fun e=>by
   rw [List.any_eq_false] at hex2
   exact hex2 x (List.mem_of_getElem? h') (by simpa using e)
  rcases aJO hne with h2|h2
  ·rw [hs3 m x h h'] at h2;cases h2
  ·exact h2
 clear cfo cro cke cun cup cat hun hnm hnl hs2 hs3 hany hex2 hex
 have hl120:us.length<=120:=q1
 refine jS 9 0 rfl rfl rfl ?_
 refine bQ (fun n st=>∃ i:Nat,n=us.length-i/\i<=us.length ∧
  st=⟨[],[(3,.ptr 0 0),(6,.ptr 1 0),(7,.ptr 2 0),(9,.ptr 3 0),(11,.ptr 4 0),(12,.d (.bool (decide (k<i)))),(13,.d (.int .i64 i))],
   [(0,.box [.d (.slc 2 (cY us)),.d (.int .i64 ff),.d (.int .i64 fm)]),(1,.box [.nil 0 2,.d (.int .i64 0),.d (.int .i64 0)]),(2,.box [.d (.str []),.d (.str [])]),(3,.box [.sl 5,.d (.int .i64 ff),.d (.int .i64 (fm+1))]),(4,.box [.d (.str nm),.d (.str pw)]),(5,.arr 0 0 2 (cY (gT us k ⟨nm,pw⟩ i)))],6⟩) _ ⟨0,rfl,by omega,?_⟩ ?_
 ·exact iR (Y2 @aKP @cY.eq_1)
 rintro n st ⟨i,rfl,hi,rfl⟩
 have hlen:=aMX us k ⟨nm,pw⟩ i
 have hil:=dC (gT us k ⟨nm,pw⟩ i)
 by_cases hlt:i<us.length
 ·have ha:=List.getElem?_eq_getElem hlt
  generalize us[i]=x at ha
  have hw:IntKind.i64.wrap ((i:Int)+1)=(i:Int)+1:=aA (by omega) (by omega)
  rcases Nat.lt_trichotomy i k with hik|hik|hik
  ·have e1:cY (gT us k ⟨nm,pw⟩ (i+1))=cY (gT us k ⟨nm,pw⟩ i)++[x.row]:=by rw [aOM hik ha,pL];rfl
   have hb:=hx1 i x hik ha
   have hll:=rR (gT us k ⟨nm,pw⟩ i)
   generalize cY (gT us k ⟨nm,pw⟩ i)=L at *
   rw [decide_eq_false (by omega:¬k<i)]
   refine iK (Y3 ha hb @aJ.eq_1) ?_
   refine ⟨us.length-(i+1),by omega,i+1,rfl,hlt,?_⟩
   rw [e1,decide_eq_false (by omega:¬k<i+1)]
   exact iR hw
  ·subst hik
   have e1:cY (gT us i ⟨nm,pw⟩ (i+1))=cY (gT us i ⟨nm,pw⟩ i)++[[.str nm,.str pw]]++[x.row]:=by rw [aOO ha,pL,pL];rfl
   have hb:=hx2 i x (Nat.le_refl _) ha
   have hll:=rR (gT us i ⟨nm,pw⟩ i)
   generalize cY (gT us i ⟨nm,pw⟩ i)=L at *
   rw [decide_eq_false (by omega:¬i<i)]
   refine iK (Y3 ha hb @aJ.eq_1) ?_
   refine ⟨us.length-(i+1),by omega,i+1,rfl,hlt,?_⟩
   rw [e1,decide_eq_true (by omega:i<i+1)]
   exact iR hw
  ·have e1:cY (gT us k ⟨nm,pw⟩ (i+1))=cY (gT us k ⟨nm,pw⟩ i)++[x.row]:=by rw [aON hik ha,pL];rfl
   have hll:=rR (gT us k ⟨nm,pw⟩ i)
   generalize cY (gT us k ⟨nm,pw⟩ i)=L at *
   rw [decide_eq_true (by omega:k<i)]
   refine iK (Y2 ha @aJ.eq_1) ?_
   refine ⟨us.length-(i+1),by omega,i+1,rfl,hlt,?_⟩
   rw [e1,decide_eq_true (by omega:k<i+1)]
   exact iR hw
 ·have hie:i=us.length:=by omega
  subst hie
  have hiP:=dC PU
  by_cases hkl:k<us.length
  ·have e1:gT us k ⟨nm,pw⟩ us.length=PU:=by rw [aMZ hkl,hP]
   rw [decide_eq_true hkl]
   rw [e1] at hlen ⊢
   exact oI
  ·have e1:cY (gT us k ⟨nm,pw⟩ us.length)++[[.str nm,.str pw]]=cY PU:=by
    have h:=congrArg cY (aMY (l:=us) (k:=k) (u:=(⟨nm,pw⟩:cV)) (by omega))
    rw [pL,<-hP] at h
    exact h
   have hll:=rR (gT us k ⟨nm,pw⟩ us.length)
   generalize cY (gT us k ⟨nm,pw⟩ us.length)=L at *
   rw [decide_eq_false hkl]
   rw [<-e1] at hiP
   exact jI (Y2 @aJ.eq_1 e1)
def aEA (w:aP) (tok:Int) (r:eS) (key:Int) (path:List UInt8):Bool:=oK r && kR key && kN w tok path r.qJ r.cQ && !decide (w.bL.aZ=1000000000)
def guC (w:aP) (tok:Int) (r:eS) (key:Int) (path:List UInt8):Int:=if aEA w tok r key path=false then 1 else if muC w.bL r key=0 then 0 else 2
def guU (w:aP) (tok:Int) (r:eS) (key:Int) (path:List UInt8):cV:=if guC w tok r key path=0 then muU w.bL r key else oY
def guI (w:aP) (tok:Int) (r:eS) (key:Int) (path:List UInt8):Int:=if guC w tok r key path=0 then w.bG else 0
def guW (w:aP) (tok:Int) (r:eS) (key:Int) (path:List UInt8):aP:=
 if guC w tok r key path=1 then w else if guC w tok r key path=2 then { w with bL:=muF w.bL r key } else { mY w tok path r.qJ r.cQ with bL:=muF w.bL r key,bD:=w.bD++[⟨w.bG,(muU w.bL r key).aG⟩] }
theorem aL1 {w:aP} (h:eO w=true):nT w.bL=true:=by
 unfold eO at h;simp only [Bool.and_eq_true] at h;exact h.1.1.1.1.2
theorem aOT {w:aP} {tok:Int} {path:List UInt8} {ttl aJ:Int}:(kN w tok path ttl aJ=false/\tN w tok path ttl aJ=0/\mY w tok path ttl aJ=w) ∨
  (eO w=true/\kN w tok path ttl aJ=true/\tN w tok path ttl aJ=w.bG/\1<=w.bG/\mY w tok path ttl aJ={ w with aV:=⟨w.aV.aL++[wE w tok path ttl aJ]⟩,bG:=w.bG+1 }):=by
 cases h:kN w tok path ttl aJ with
 |false=>exact .inl ⟨rfl,by unfold tN;rw [h];rfl,by unfold mY;rw [h];rfl⟩
 |true=>
  have hw:eO w=true:=by unfold kN at h;simp only [Bool.and_eq_true] at h;exact h.1.1
  exact .inr ⟨hw,rfl,by unfold tN;rw [h];rfl,(aCL hw).2.1.1,by unfold mY;rw [h];rfl⟩
theorem aC1 (w:aP) (tok:Int) (r:eS) (key:Int) (path:List UInt8) (hf:aDO w) (hp:path.length<=1048576) (h1:r.aG.length<=1048576) (h2:r.gO.length<=1048576):
  aE PP GG 104 [.agg w.c,.d (.int .i64 tok),.agg r.c,.d (.int .i64 key),.d (.str path)] (.tup [.agg (guW w tok r key path).o,.agg (guU w tok r key path).o,.d (.int .i64 (guI w tok r key path)),.d (.int .i64 (guC w tok r key path))]) [none,none,none,none,none]:=by
 refine cv Tryz.func104 [.agg (guW w tok r key path).o,.agg (guU w tok r key path).o,.d (.int .i64 (guI w tok r key path)),.d (.int .i64 (guC w tok r key path))] ?_
 have cro:=qN r h1 h2
 have cke:=gJ key
 have ccp:=iY w hf
 have cgl:=aCj w tok path r.qJ r.cQ hf hp
 have cmu:=fun h=>aEi w.bL r key hf.2.2.1 h h1 h2
 have hK:aEA w tok r key path=(oK r && kR key && kN w tok path r.qJ r.cQ && !decide (w.bL.aZ=1000000000)):=rfl
 have hC:guC w tok r key path=if aEA w tok r key path=false then 1 else if muC w.bL r key=0 then 0 else 2:=rfl
 have hU:guU w tok r key path=if guC w tok r key path=0 then muU w.bL r key else oY:=rfl
 have hI:guI w tok r key path=if guC w tok r key path=0 then w.bG else 0:=rfl
 have hW:guW w tok r key path=if guC w tok r key path=1 then w else if guC w tok r key path=2 then { w with bL:=muF w.bL r key } else { mY w tok path r.qJ r.cQ with bL:=muF w.bL r key,bD:=w.bD++[⟨w.bG,(muU w.bL r key).aG⟩] }:=rfl
 have hol:=hf.2.2.2.2.1
 have hgi:=aOT (w:=w) (tok:=tok) (path:=path) (ttl:=r.qJ) (aJ:=r.cQ)
 have hfa:=fun h=>aL1 (w:=w) h
 generalize guW w tok r key path=W at *
 generalize guU w tok r key path=U at *
 generalize guI w tok r key path=I at *
 generalize guC w tok r key path=CC at *
 generalize aEA w tok r key path=OK at *
 generalize muF w.bL r key=F at *
 generalize muU w.bL r key=MU at *
 generalize muC w.bL r key=MC at *
 generalize wE w tok path r.qJ r.cQ=NL at *
 generalize mY w tok path r.qJ r.cQ=GW at *
 generalize tN w tok path r.qJ r.cQ=GI at *
 generalize kN w tok path r.qJ r.cQ=GB at *
 obtain ⟨now,next,lost,⟨tk⟩,⟨ls⟩,⟨us,ff,fm⟩,⟨js⟩,ow⟩:=w
 obtain ⟨r1,r2,r3,r4⟩:=r
 generalize oK ⟨r1,r2,r3,r4⟩=R at *
 generalize kR key=KB at *
 dsimp only at *
 have hi1:=bT tk
 have hi2:=bP ls
 have hi3:=dC us
 have hi4:=eZ js
 have hi5:=dR ow
 cases R
 ·simp only [Bool.false_and] at hK
  subst hK
  simp only [if_true] at hC
  subst hC
  simp only [Int.reduceEq,if_false,if_true] at hU hI hW
  subst hU hI hW
  exact eJ @oY.eq_1 (Z2 cro ccp)
 cases KB
 ·simp only [Bool.and_false,Bool.false_and] at hK
  subst hK
  simp only [if_true] at hC
  subst hC
  simp only [Int.reduceEq,if_false,if_true] at hU hI hW
  subst hU hI hW
  exact eJ @oY.eq_1 (Z3 cro cke ccp)
 rcases hgi with ⟨rfl,rfl,rfl⟩|⟨hwb,rfl,e1,hnx,rfl⟩
 ·simp only [Bool.and_false,Bool.false_and] at hK
  subst hK
  simp only [if_true] at hC
  subst hC
  simp only [Int.reduceEq,if_false,if_true] at hU hI hW
  subst hU hI hW
  exact eJ @oY.eq_1 (Z4 cro cke ccp cgl)
 rw [e1] at cgl
 clear e1
 have hnz:(next==0)=false:=by simp;omega
 have cmu:=cmu (hfa hwb)
 by_cases hmx:fm=1000000000
 ·rw [decide_eq_true hmx] at hK
  simp only [Bool.not_true,Bool.and_false] at hK
  subst hK
  simp only [if_true] at hC
  subst hC
  simp only [Int.reduceEq,if_false,if_true] at hU hI hW
  subst hU hI hW hmx
  have hi6:=bP (ls++[NL])
  exact eJ (Y2 @oY.eq_1 hnz) (Z4 cro cke ccp cgl)
 have hmx2:(fm==1000000000)=false:=by simpa using hmx
 rw [decide_eq_false hmx] at hK
 simp only [Bool.not_false,Bool.and_self] at hK
 subst hK
 simp only [Bool.true_eq_false,if_false] at hC
 have hi6:=bP (ls++[NL])
 obtain ⟨fu,f1,f2⟩:=F
 have hi7:=dC fu
 obtain ⟨mn,mp⟩:=MU
 by_cases hmc:MC=0
 ·rw [if_pos hmc] at hC
  subst hC hmc
  simp only [Int.reduceEq,if_false,if_true] at hU hI hW
  subst hU hW
  rw [hI]
  clear hI
  have hrl:=wS ow
  refine jH (Y3 hnz hmx2 @aJ.eq_1) (Z5 cro cke ccp cgl cmu) ?_
  rw [aDc];rfl
 ·rw [if_neg hmc] at hC
  subst hC
  simp only [Int.reduceEq,if_false,if_true] at hU hI hW
  subst hU hI hW
  have hmc2:(MC==0)=false:=by simpa using hmc
  exact eJ (Y4 @oY.eq_1 hnz hmx2 hmc2) (Z5 cro cke ccp cgl cmu)
def sw2 {α:Type} (a:List α) (i j:Nat):List α:=match a[i]?,a[j]? with|some x,some y=>(a.set i y).set j x|_,_=>a
def swR {α:Type} (a b:Nat):Nat->Nat->List α->List α
 |0,_,l=>l
 |k+1,i,l=>swR a b k (i+1) (sw2 l (a+i) (b+i))
def aJj {α:Type} (lt:α->α->Bool) (a:Nat):Nat->List α->List α
 |0,l=>l
 |j+1,l=>if a<j+1 then (match l[j+1]?,l[j]? with|some x,some y=>if lt x y then aJj lt a j (sw2 l (j+1) j) else l|_,_=>l) else l
def aMW {α:Type} (lt:α->α->Bool) (a:Nat):Nat->Nat->List α->List α
 |0,_,l=>l
 |k+1,i,l=>aMW lt a k (i+1) (aJj lt a i l)
def aKO {α:Type} (lt:α->α->Bool) (a b:Nat) (l:List α):List α:=aMW lt a (b-(a+1)) (a+1) l
def aKe {α:Type} (m:Nat):Nat->Nat->Nat->List α->List α
 |0,_,_,l=>l
 |k+1,i,j,l=>if i=j then swR (m-i) m i 0 l else if j<i then aKe m k (i-j) j (swR (m-i) m j 0 l) else aKe m k i (j-i) (swR (m-i) (m+j-i) i 0 l)
def rot {α:Type} (a m b:Nat) (l:List α):List α:=aKe m (b-a) (m-a) (b-m) l
def bsG (f:Nat->Bool):Nat->Nat->Nat->Nat
 |0,i,_=>i
 |k+1,i,j=>if i<j then (if f ((i+j) / 2) then bsG f k ((i+j) / 2+1) j else bsG f k i ((i+j) / 2)) else i
def bs (f:Nat->Bool) (i j:Nat):Nat:=bsG f (j-i) i j
def ltA {α:Type} (lt:α->α->Bool) (l:List α) (i j:Nat):Bool:=match l[i]?,l[j]? with|some x,some y=>lt x y|_,_=>false
def upS {α:Type}:Nat->Nat->List α->List α
 |0,_,l=>l
 |k+1,i,l=>upS k (i+1) (sw2 l i (i+1))
def dnS {α:Type}:Nat->Nat->List α->List α
 |0,_,l=>l
 |k+1,i,l=>dnS k (i-1) (sw2 l i (i-1))
def wC {α:Type} (lt:α->α->Bool) (a m b:Nat) (l:List α):Nat:=
 if (a+b) / 2<m then bs (fun c=>!ltA lt l ((a+b) / 2+m-1-c) c) ((a+b) / 2+m-b) ((a+b) / 2) else bs (fun c=>!ltA lt l ((a+b) / 2+m-1-c) c) a m
def aFN {α:Type} (p:Prop) [Decidable p] (f:List α->List α) (l:List α):List α:=if p then f l else l
def aRO {α:Type} (f:Nat->Nat->Nat->List α->List α) (a m b s:Nat) (l:List α):List α:=
 aFN ((a+b) / 2<(a+b) / 2+m-s/\(a+b) / 2+m-s<b) (f ((a+b) / 2) ((a+b) / 2+m-s) b) (aFN (a<s/\s<(a+b) / 2) (f a s ((a+b) / 2)) (aFN (s<m/\m<(a+b) / 2+m-s) (rot s m ((a+b) / 2+m-s)) l))
def aCg {α:Type} (lt:α->α->Bool):Nat->Nat->Nat->Nat->List α->List α
 |0,_,_,_,l=>l
 |k+1,a,m,b,l=>
  if m-a=1 then upS (bs (fun h=>ltA lt l h a) m b-1-a) a l
  else if b-m=1 then dnS (m-bs (fun h=>!ltA lt l m h) a m) m l
  else aRO (aCg lt k) a m b (wC lt a m b l) l
def aCV {α:Type} (lt:α->α->Bool) (n:Nat):Nat->Nat->List α->List α
 |0,a,l=>aKO lt a n l
 |k+1,a,l=>if a+20<=n then aCV lt n k (a+20) (aKO lt a (a+20) l) else aKO lt a n l
def aE4 {α:Type} (lt:α->α->Bool) (n s:Nat):Nat->Nat->List α->List α
 |0,_,l=>l
 |k+1,a,l=>if a+2*s<=n then aE4 lt n s k (a+2*s) (aCg lt (2*s) a (a+s) (a+2*s) l) else if a+s<n then aCg lt (n-a) a (a+s) n l else l
def aJ5 {α:Type} (lt:α->α->Bool) (n:Nat):Nat->Nat->List α->List α
 |0,_,l=>l
 |k+1,s,l=>if s<n then aJ5 lt n k (2*s) (aE4 lt n s n 0 l) else l
def wR {α:Type} (lt:α->α->Bool) (l:List α):List α:=aJ5 lt l.length l.length 20 (aCV lt l.length l.length 0 l)
theorem aCz {α:Type} (l:List α) (i j:Nat):(sw2 l i j).length=l.length:=by unfold sw2;split<;>simp
theorem aCy {α:Type} (a b:Nat):∀ (k i:Nat) (l:List α),(swR a b k i l).length=l.length
 |0,_,l=>rfl
 |k+1,i,l=>by rw [swR,aCy a b k,aCz]
theorem aJi {α:Type} (lt:α->α->Bool) (a:Nat):∀ (j:Nat) (l:List α),(aJj lt a j l).length=l.length
 |0,l=>rfl
 |j+1,l=>by
  rw [aJj]
  split
  ·split
   ·split
    ·rw [aJi lt a j,aCz]
    ·rfl
   ·rfl
  ·rfl
theorem aJh {α:Type} (lt:α->α->Bool) (a:Nat):∀ (k i:Nat) (l:List α),(aMW lt a k i l).length=l.length
 |0,_,l=>rfl
 |k+1,i,l=>by rw [aMW,aJh lt a k,aJi]
theorem aDE {α:Type} (lt:α->α->Bool) (a b:Nat) (l:List α):(aKO lt a b l).length=l.length:=aJh lt a _ _ l
theorem aC7 {α:Type} (m:Nat):∀ (k i j:Nat) (l:List α),(aKe m k i j l).length=l.length
 |0,_,_,l=>rfl
 |k+1,i,j,l=>by
  rw [aKe]
  split
  ·rw [aCy]
  ·split
   ·rw [aC7 m k,aCy]
   ·rw [aC7 m k,aCy]
theorem aP2 {α:Type} (a m b:Nat) (l:List α):(rot a m b l).length=l.length:=aC7 m _ _ _ l
theorem aLg {α:Type}:∀ (k i:Nat) (l:List α),(upS k i l).length=l.length
 |0,_,l=>rfl
 |k+1,i,l=>by rw [upS,aLg k,aCz]
theorem aLR {α:Type}:∀ (k i:Nat) (l:List α),(dnS k i l).length=l.length
 |0,_,l=>rfl
 |k+1,i,l=>by rw [dnS,aLR k,aCz]
theorem aCS {α:Type} (p:Prop) [Decidable p] (f:List α->List α) (l:List α) (h:∀ l,(f l).length=l.length):(aFN p f l).length=l.length:=by
 unfold aFN;split
 ·exact h l
 ·rfl
theorem aAj {α:Type} (lt:α->α->Bool):∀ (k a m b:Nat) (l:List α),(aCg lt k a m b l).length=l.length
 |0,_,_,_,l=>rfl
 |k+1,a,m,b,l=>by
  rw [aCg]
  split
  ·rw [aLg]
  split
  ·rw [aLR]
  rw [aRO,aCS _ _ _ (aAj lt k _ _ _),aCS _ _ _ (aAj lt k _ _ _),aCS _ _ _ (aP2 _ _ _)]
theorem aE5 {α:Type} (lt:α->α->Bool) (n:Nat):∀ (k a:Nat) (l:List α),(aCV lt n k a l).length=l.length
 |0,a,l=>by rw [aCV,aDE]
 |k+1,a,l=>by
  rw [aCV];split
  ·rw [aE5 lt n k,aDE]
  ·rw [aDE]
theorem aE3 {α:Type} (lt:α->α->Bool) (n s:Nat):∀ (k a:Nat) (l:List α),(aE4 lt n s k a l).length=l.length
 |0,_,l=>rfl
 |k+1,a,l=>by
  rw [aE4];split
  ·rw [aE3 lt n s k,aAj]
  ·split
   ·rw [aAj]
   ·rfl
theorem aIF {α:Type} (lt:α->α->Bool) (n:Nat):∀ (k s:Nat) (l:List α),(aJ5 lt n k s l).length=l.length
 |0,_,l=>rfl
 |k+1,s,l=>by
  rw [aJ5];split
  ·rw [aIF lt n k,aE3]
  ·rfl
theorem aNN {α:Type} (Q U V:List α) (x y:α):sw2 (Q++x::(U++y::V)) Q.length (Q.length+(U.length+1))=Q++y::(U++x::V):=by
 unfold sw2
 have h1:(Q++x::(U++y::V))[Q.length]?=some x:=by simp
 have h2:(Q++x::(U++y::V))[Q.length+(U.length+1)]?=some y:=by
  rw [List.getElem?_append_right (by omega)];simp
 rw [h1,h2];simp only []
 rw [List.set_append_right _ _ (Nat.le_refl _),List.set_append_right _ _ (by omega)]
 simp
theorem aRP {α:Type} (Q V:List α) (x y:α):sw2 (Q++x::y::V) Q.length (Q.length+1)=Q++y::x::V:=by
 have:=aNN Q [] V x y;simpa using this
theorem aNM {α:Type} (Q V:List α) (x y:α):sw2 (Q++x::y::V) (Q.length+1) Q.length=Q++y::x::V:=by
 unfold sw2
 have h1:(Q++x::y::V)[Q.length]?=some x:=by simp
 have h2:(Q++x::y::V)[Q.length+1]?=some y:=by
  rw [List.getElem?_append_right (by omega)];simp
 rw [h1,h2];simp only []
 rw [List.set_append_right _ _ (by omega),List.set_append_right _ _ (by omega)]
 simp
theorem aNL {α:Type} (a b:Nat):∀ (X Y Q N S:List α) (i:Nat),X.length=Y.length->a+i=Q.length->b+i=Q.length+X.length+N.length →
  swR a b X.length i (Q++(X++(N++(Y++S))))=Q++(Y++(N++(X++S)))
 |[],[],Q,N,S,i,_,_,_=>rfl
 |x::X,y::Y,Q,N,S,i,h,ha,hb=>by
  simp only [List.length_cons] at h hb ⊢
  rw [swR]
  have e:sw2 (Q++(x::X++(N++(y::Y++S)))) (a+i) (b+i)=(Q++[y])++(X++((N++[x])++(Y++S))):=by
   have:=aNN Q (X++N) (Y++S) x y
   rw [ha,hb]
   have e2:Q.length+(X.length+1)+N.length=Q.length+((X++N).length+1):=by simp<;>omega
   rw [e2]
   simpa using this
  rw [e,aNL a b X Y (Q++[y]) (N++[x]) S (i+1) (by omega) (by simp<;>omega) (by simp<;>omega)]
  simp
theorem aFO {α:Type} (X N Y Q S:List α) (h:X.length=Y.length):swR Q.length (Q.length+X.length+N.length) X.length 0 (Q++(X++(N++(Y++S))))=Q++(Y++(N++(X++S))):=
 aNL _ _ X Y Q N S 0 h rfl rfl
theorem pR {α:Type} (l:List α) (n:Nat) (h:n<=l.length):∃ A B,l=A++B/\A.length=n:=⟨l.take n,l.drop n,by simp,by simp<;>omega⟩
theorem aF5 {α:Type}:∀ (k:Nat) (P A B S:List α),A.length+B.length<=k->0<A.length->0<B.length->aKe (P.length+A.length) k A.length B.length (P++(A++(B++S)))=P++(B++(A++S))
 |0,P,A,B,S,h,h1,_=>by omega
 |k+1,P,A,B,S,h,h1,h2=>by
  rw [aKe]
  split
  ·rename_i e
   have:=aFO A [] B P S e
   simpa using this
  ·split
   ·rename_i hne hlt
    obtain ⟨A1,A2,rfl,hl⟩:=pR A B.length (by omega)
    have hs:=aFO A1 A2 B P S hl
    simp only [List.length_append] at hne hlt h h1 ⊢
    rw [show P.length+(A1.length+A2.length)-(A1.length+A2.length)=P.length by omega]
    have e1:swR P.length (P.length+(A1.length+A2.length)) B.length 0 (P++(A1++A2++(B++S)))=(P++B)++(A2++(A1++S)):=by
     rw [<-hl,show P.length+(A1.length+A2.length)=P.length+A1.length+A2.length by omega];simpa using hs
    rw [e1]
    have:=aF5 k (P++B) A2 A1 S (by omega) (by omega) (by omega)
    simp only [List.length_append] at this
    rw [show P.length+B.length+A2.length=P.length+(A1.length+A2.length) by omega,] at this
    rw [show A1.length+A2.length-B.length=A2.length by omega,<-hl]
    rw [this];simp
   ·rename_i hne hlt
    obtain ⟨B1,B2,rfl,hl⟩:=pR B (B.length-A.length) (by omega)
    simp only [List.length_append] at hne hlt h h2 hl ⊢
    have hs:=aFO A B1 B2 P S (by omega)
    rw [show P.length+A.length-A.length=P.length by omega,show P.length+A.length+(B1.length+B2.length)-A.length=P.length+A.length+B1.length by omega]
    have e1:swR P.length (P.length+A.length+B1.length) A.length 0 (P++(A++(B1++B2++S)))=P++(B2++(B1++(A++S))):=by simpa using hs
    rw [e1]
    have:=aF5 k P B2 B1 (A++S) (by omega) (by omega) (by omega)
    rw [show A.length=B2.length by omega,show B1.length+B2.length-B2.length=B1.length by omega,this];simp
end Go.Proofs.YtiejbbcpihpgpaaGreat.Ab
