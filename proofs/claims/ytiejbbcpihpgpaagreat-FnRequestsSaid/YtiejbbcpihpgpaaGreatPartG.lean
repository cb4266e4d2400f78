/-
  A part of a proof about the given program; what is proved is said where each theorem stands.
-/
import Derived.Test.YtiejbbcpihpgpaaGreatFrameA
import Derived.Test.YtiejbbcpihpgpaaGreatFrameB
import Derived.Test.YtiejbbcpihpgpaaGreatFrameC
import Derived.Test.YtiejbbcpihpgpaaGreatFrameD
import Derived.Test.YtiejbbcpihpgpaaGreatHead
import Derived.Test.YtiejbbcpihpgpaaGreatCodes
import Derived.Test.YtiejbbcpihpgpaaGreatPartA
import Derived.Test.YtiejbbcpihpgpaaGreatPartB
import Derived.Test.YtiejbbcpihpgpaaGreatPartC
import Derived.Test.YtiejbbcpihpgpaaGreatPartD
import Derived.Test.YtiejbbcpihpgpaaGreatPartE
import Derived.Test.YtiejbbcpihpgpaaGreatPartF
namespace Go.Proofs
end Go.Proofs
set_option linter.unusedSimpArgs false
set_option linter.unusedVariables false
set_option maxRecDepth 100000
set_option maxHeartbeats 2000000
namespace Go.Proofs.YtiejbbcpihpgpaaGreat.Ab
open Go.Proofs
theorem aOI (n:Nat) (s:aT) (t m:Int) (nm p d:List UInt8) (hs:dQ n s) (hv:gH s.aC) (hn:n<=400) (h1:nm.length<=300) (h2:p.length<=300) (h3:d.length<=300):∃ a:kK,gB (n+1) a/\aE PP GG 64 [.agg (aT.q s),.agg (lU 0 t nm p d m)] (.tup (kY a)) [none,none]:=by
 refine fV (α:=kK) 2 _ kY _ (fun _=>rfl) (by kernel_rfl) ?_
 have hw:=(cS s.aC).1 hv.ok
 have hfit:=fT hv.ok
 have hno:∀ c:Int,0<=c->c<=100->gB (n+1) (s,c,0,[],[],[]):=fun c h1 h2=>⟨dQ.up hs (by omega),h1,h2⟩
 have cno:=fun c:Int=>gD s c
 have e0:aN []=[]:=rfl
 obtain ⟨⟨pw,path⟩,hpl,cpw⟩:=fD 0 t m nm p d (by omega) (by omega)
 dsimp only at hpl cpw
 obtain ⟨⟨pp,ok⟩,hpp,cp⟩:=aET nm d (by omega) (by omega)
 dsimp only at hpp cp
 have hpl2:=hs.pl
 obtain ⟨r,⟨hr1,hr2⟩,cr⟩:=aJd s.gK pp (by omega)
 have cn1:=cno 1
 have cn6:=cno 6
 cases ok
 ·refine dJ (Z3 cpw cp cn1) ?_
  exact ⟨(s,1,0,[],[],[]),hno 1 (by omega) (by omega),by simp [Fin,e0]⟩
 by_cases hr:nm=[114,111,111,116]
 ·have hr':(nm=[114,111,111,116])=True:=by simp [hr]
  refine cI hr' (Z3 cpw cp cn1) ?_
  exact ⟨(s,1,0,[],[],[]),hno 1 (by omega) (by omega),by simp [Fin,e0]⟩
 have hr':(nm=[114,111,111,116])=False:=by simp [hr]
 have fin:gB (n+1) ({ s with gK:=r },0,((r.length:Nat):Int),[],[],[]):=by
  obtain ⟨q1,q2,q3,q4,q5,q6,q7,q8,q9,q10,q11,q12⟩:=dQ.up hs (show n<=n+1 by omega)
  exact ⟨⟨q1,q2,by dsimp only;omega,fun x hx=>by
   rcases hr2 x hx with rfl|hx
   ·exact hpp
   ·exact q4 x hx,q5,q6,q7,q8,q9,q10,q11,q12⟩,by dsimp only;omega,by dsimp only;omega⟩
 repeat' (first|refine lF ?_|refine gZ ?_|refine iG ?_|refine iA ?_|refine kE ?_|refine cG rfl ?_|refine cU rfl ?_|((first|refine jD fun K hK=>?_|refine gQ fun K hK=>?_|with_reducible refine aI (cpw) ?_|with_reducible refine aI (cp) ?_|with_reducible refine aI (cr) ?_|with_reducible refine aI (cn6) ?_);simp [Fin,hr'])|(with_reducible refine hK _ ?_;clear hK K)|(with_reducible refine aM (fun h=>?_) (fun h=>?_)<;>first|(exfalso;simp at h;first|done|omega|contradiction)|((try simp at h);simp [hr']))|with_reducible refine And.intro ?_ ?_|with_reducible exact aS rfl|with_reducible assumption|(refine fH rfl (fun h=>?_) (fun h=>?_)<;>first|(exfalso;simp at h;first|done|omega|contradiction)|(exfalso;simp_all;done)|(try simp at h))|omega)
 all_goals first
  |(simp only [Fin];done)
  |skip
 ·exact ⟨(s,6,0,[],[],[]),hno 6 (by omega) (by omega),by simp [Fin,e0]⟩
 ·exact ⟨_,fin,by simp [Fin,e0]⟩
 ·exact ⟨_,fin,by simp [Fin,e0]⟩
theorem aOH (n:Nat) (s:aT) (t m:Int) (nm p d:List UInt8) (hs:dQ n s) (hv:gH s.aC) (hn:n<=400) (h1:nm.length<=300) (h2:p.length<=300) (h3:d.length<=300):∃ a:kK,gB (n+1) a/\aE PP GG 64 [.agg (aT.q s),.agg (lU 1 t nm p d m)] (.tup (kY a)) [none,none]:=by
 refine fV (α:=kK) 2 _ kY _ (fun _=>rfl) (by kernel_rfl) ?_
 have hw:=(cS s.aC).1 hv.ok
 have hfit:=fT hv.ok
 have hno:∀ c:Int,0<=c->c<=100->gB (n+1) (s,c,0,[],[],[]):=fun c h1 h2=>⟨dQ.up hs (by omega),h1,h2⟩
 have cno:=fun c:Int=>gD s c
 have e0:aN []=[]:=rfl
 obtain ⟨⟨pw,path⟩,hpl,cpw⟩:=fD 1 t m nm p d (by omega) (by omega)
 dsimp only at hpl cpw
 obtain ⟨a,ha,ct⟩:=aKG n s 1 t m nm p d hs hv (by omega)
 refine dJ (Z2 cpw ct) ?_
 exact ⟨a,ha,by simp [Fin]⟩
theorem aOG (n:Nat) (s:aT) (t m:Int) (nm p d:List UInt8) (hs:dQ n s) (hv:gH s.aC) (hn:n<=400) (h1:nm.length<=300) (h2:p.length<=300) (h3:d.length<=300):∃ a:kK,gB (n+1) a/\aE PP GG 64 [.agg (aT.q s),.agg (lU 2 t nm p d m)] (.tup (kY a)) [none,none]:=by
 refine fV (α:=kK) 2 _ kY _ (fun _=>rfl) (by kernel_rfl) ?_
 have hw:=(cS s.aC).1 hv.ok
 have hfit:=fT hv.ok
 have hno:∀ c:Int,0<=c->c<=100->gB (n+1) (s,c,0,[],[],[]):=fun c h1 h2=>⟨dQ.up hs (by omega),h1,h2⟩
 have cno:=fun c:Int=>gD s c
 have e0:aN []=[]:=rfl
 obtain ⟨⟨pw,path⟩,hpl,cpw⟩:=fD 2 t m nm p d (by omega) (by omega)
 dsimp only at hpl cpw
 have cc:=aEl s.aC m hfit
 have hl:=aOs hv m
 have hm:=aQN s.aC m
 have hg:(ctG s.aC m).length<=4096/\∀ x,x∈ctG s.aC m->cH x:=by
  unfold ctG
  split
  ·refine ⟨by have:=vY s.aC.aD m;have:=((fF s.aC.aD).1 hw.fo).1;omega,fun x hx=>?_⟩
   unfold eN at hx
   rw [if_pos hw.fo] at hx
   obtain ⟨y,hy,rfl⟩:=aNu _ _ x hx
   exact aIs (((fF s.aC.aD).1 hw.fo).2.1 y hy).1
  ·exact ⟨by simp,by simp⟩
 generalize ctW s.aC m=W at *
 generalize ctG s.aC m=G at *
 obtain ⟨ids,-,ci⟩:=aJe G hg.1 hg.2
 have j1:=bT W.aD.aF
 have j2:=bP W.aV.aL
 have j3:=dC W.bL.aY
 have j4:=eZ W.bJ.bX
 have j5:=dR W.bD
 have j6:=gU G
 have j7:=cD ids
 have cn:=cno 4
 by_cases h0:G=[]
 ·subst h0
  refine cI @fX (Z3 cpw cc cn) ?_
  exact ⟨(s,4,0,[],[],[]),hno 4 (by omega) (by omega),by simp [Fin,e0]⟩
 ·have h0':(((G.length:Nat):Int)=0)=False:=by simp [h0]
  refine cI (Y2 @fX h0') (Z3 cpw cc ci) ?_
  exact ⟨({ s with aC:=W },0,0,[],[],ids),⟨dQ.w hs (by omega) (.inl hl) (by have:=hs.md;omega),by dsimp only;omega,by dsimp only;omega⟩,by simp [Fin]⟩
theorem aOF (n:Nat) (s:aT) (t m:Int) (nm p d:List UInt8) (hs:dQ n s) (hv:gH s.aC) (hn:n<=400) (h1:nm.length<=300) (h2:p.length<=300) (h3:d.length<=300):∃ a:kK,gB (n+1) a/\aE PP GG 64 [.agg (aT.q s),.agg (lU 3 t nm p d m)] (.tup (kY a)) [none,none]:=by
 refine fV (α:=kK) 2 _ kY _ (fun _=>rfl) (by kernel_rfl) ?_
 have hw:=(cS s.aC).1 hv.ok
 have hfit:=fT hv.ok
 have hno:∀ c:Int,0<=c->c<=100->gB (n+1) (s,c,0,[],[],[]):=fun c h1 h2=>⟨dQ.up hs (by omega),h1,h2⟩
 have cno:=fun c:Int=>gD s c
 have e0:aN []=[]:=rfl
 obtain ⟨⟨pw,path⟩,hpl,cpw⟩:=fD 3 t m nm p d (by omega) (by omega)
 dsimp only at hpl cpw
 obtain ⟨⟨F,c⟩,⟨hF1,hF2⟩,cr⟩:=aIj s.aC.aD t s.aC.cN m hfit.1 hw.fo
 dsimp only at hF1 hF2 cr
 have cf1:=kV s.aC.aD t hfit.1
 have cf2:=kV F t hF1
 have cw:=iY s.aC hfit
 have hL:c=0->gH { s.aC with aD:=F }:=by
  intro h
  obtain ⟨k,x,e,g1,g2,g3,g4,rfl⟩:=hF2 h
  have htb:=(((fF s.aC.aD).1 hw.fo).2.1 x (List.mem_of_getElem? g1)).1
  exact aFi hv g1 rfl rfl (aNF htb g2 g3 g4)
 generalize jF s.aC.aD t=o1 at *
 generalize jF F t=o2 at *
 generalize (bR s.aC.aD && cJ s.aC.aD t)=k1 at *
 generalize (bR F && cJ F t)=k2 at *
 have j1:=bT s.aC.aD.aF
 have j2:=bP s.aC.aV.aL
 have j3:=dC s.aC.bL.aY
 have j4:=eZ s.aC.bJ.bX
 have j5:=dR s.aC.bD
 have j6:=bT F.aF
 have j7:=cD o1.eT
 have j8:=cD o2.eT
 have cn1:=cno 1
 have cn2:=cno 2
 have cn3:=cno 3
 by_cases hc1:c=1
 ·subst hc1
  refine dJ (Z4 cpw cf1 cr cn1) ?_
  exact ⟨(s,1,0,[],[],[]),hno 1 (by omega) (by omega),by simp [Fin,e0]⟩
 by_cases hc4:c=4
 ·subst hc4
  refine dJ (Z4 cpw cf1 cr cn1) ?_
  exact ⟨(s,1,0,[],[],[]),hno 1 (by omega) (by omega),by simp [Fin,e0]⟩
 have hc1':(c=1)=False:=by simp [hc1]
 have hc4':(c=4)=False:=by simp [hc4]
 by_cases hc0:c=0
 rotate_left
 ·have hc0':(c=0)=False:=by simp [hc0]
  refine cI (Y3 hc1' hc4' hc0') (Z4 cpw cf1 cr cn2) ?_
  exact ⟨(s,2,0,[],[],[]),hno 2 (by omega) (by omega),by simp [Fin,e0]⟩
 subst hc0
 have hL:=hL rfl
 by_cases he:o1.bM=0
 ·have he':(o1.bM=0)=True:=by simp [he]
  refine cI he' (Z4 cpw cf1 cr cn3) ?_
  exact ⟨(s,3,0,[],[],[]),hno 3 (by omega) (by omega),by simp [Fin,e0]⟩
 ·have he':(o1.bM=0)=False:=by simp [he]
  refine cI he' (Z5 cpw cf1 cr cw cf2) ?_
  exact ⟨({ s with aC:={ s.aC with aD:=F } },0,o2.bM,[],[],[]),⟨dQ.w hs (by omega) (.inl hL) (by have:=hs.md;dsimp only;omega),by dsimp only;omega,by dsimp only;omega⟩,by simp [Fin,e0]⟩
theorem aOE (n:Nat) (s:aT) (t m:Int) (nm p d:List UInt8) (hs:dQ n s) (hv:gH s.aC) (hn:n<=400) (h1:nm.length<=300) (h2:p.length<=300) (h3:d.length<=300):∃ a:kK,gB (n+1) a/\aE PP GG 64 [.agg (aT.q s),.agg (lU 4 t nm p d m)] (.tup (kY a)) [none,none]:=by
 refine fV (α:=kK) 2 _ kY _ (fun _=>rfl) (by kernel_rfl) ?_
 have hw:=(cS s.aC).1 hv.ok
 have hfit:=fT hv.ok
 have hno:∀ c:Int,0<=c->c<=100->gB (n+1) (s,c,0,[],[],[]):=fun c h1 h2=>⟨dQ.up hs (by omega),h1,h2⟩
 have cno:=fun c:Int=>gD s c
 have e0:aN []=[]:=rfl
 obtain ⟨⟨pw,path⟩,hpl,cpw⟩:=fD 4 t m nm p d (by omega) (by omega)
 dsimp only at hpl cpw
 obtain ⟨⟨es,c,v⟩,hes,cp⟩:=aQ0 s.mB.gF n p d m s.aC.cN (by omega) hs.en (by omega) (by omega)
 dsimp only at hes cp
 have cn1:=cno 1
 have cn5:=cno 5
 have cn6:=cno 6
 have fin:gB (n+1) ({ s with mB:=⟨es⟩ },0,v,[],[],[]):=by
  obtain ⟨q1,q2,q3,q4,q5,q6,q7,q8,q9,q10,q11,q12⟩:=dQ.up hs (show n<=n+1 by omega)
  exact ⟨⟨q1,q2,q3,q4,q5,q6,hes,q8,q9,q10,q11,q12⟩,by dsimp only;omega,by dsimp only;omega⟩
 by_cases hc1:c=1
 ·subst hc1
  refine dJ (Z3 cpw cp cn1) ?_
  exact ⟨(s,1,0,[],[],[]),hno 1 (by omega) (by omega),by simp [Fin,e0]⟩
 have hc1':(c=1)=False:=by simp [hc1]
 by_cases hc5:c=5
 ·subst hc5
  refine dJ (Z3 cpw cp cn5) ?_
  exact ⟨(s,5,0,[],[],[]),hno 5 (by omega) (by omega),by simp [Fin,e0]⟩
 have hc5':(c=5)=False:=by simp [hc5]
 by_cases hc6:c=6
 ·subst hc6
  refine dJ (Z3 cpw cp cn6) ?_
  exact ⟨(s,6,0,[],[],[]),hno 6 (by omega) (by omega),by simp [Fin,e0]⟩
 have hc6':(c=6)=False:=by simp [hc6]
 refine cI (Y3 hc1' hc5' hc6') (Z2 cpw cp) ?_
 exact ⟨_,fin,by simp [Fin,e0]⟩
theorem aOD (n:Nat) (s:aT) (t m:Int) (nm p d:List UInt8) (hs:dQ n s) (hv:gH s.aC) (hn:n<=400) (h1:nm.length<=300) (h2:p.length<=300) (h3:d.length<=300):∃ a:kK,gB (n+1) a/\aE PP GG 64 [.agg (aT.q s),.agg (lU 5 t nm p d m)] (.tup (kY a)) [none,none]:=by
 refine fV (α:=kK) 2 _ kY _ (fun _=>rfl) (by kernel_rfl) ?_
 have hw:=(cS s.aC).1 hv.ok
 have hfit:=fT hv.ok
 have hno:∀ c:Int,0<=c->c<=100->gB (n+1) (s,c,0,[],[],[]):=fun c h1 h2=>⟨dQ.up hs (by omega),h1,h2⟩
 have cno:=fun c:Int=>gD s c
 have e0:aN []=[]:=rfl
 obtain ⟨⟨pw,path⟩,hpl,cpw⟩:=fD 5 t m nm p d (by omega) (by omega)
 dsimp only at hpl cpw
 obtain ⟨⟨dt,c,v⟩,hdt,cg⟩:=aL0 s.mB.gF n p m (by omega) hs.en
 dsimp only at hdt cg
 have cn:=cno 4
 have jd:=aW dt
 by_cases hc0:c=0
 ·subst hc0
  refine cI @fA (Z2 cpw cg) ?_
  exact ⟨(s,0,v,[],dt,[]),⟨dQ.up hs (by omega),by dsimp only;omega,by dsimp only;omega⟩,by simp [Fin,e0]⟩
 ·have hc0':(c=0)=False:=by simp [hc0]
  refine cI hc0' (Z3 cpw cg cn) ?_
  exact ⟨(s,4,0,[],[],[]),hno 4 (by omega) (by omega),by simp [Fin,e0]⟩
theorem aOC (n:Nat) (s:aT) (t m:Int) (nm p d:List UInt8) (hs:dQ n s) (hv:gH s.aC) (hn:n<=400) (h1:nm.length<=300) (h2:p.length<=300) (h3:d.length<=300):∃ a:kK,gB (n+1) a/\aE PP GG 64 [.agg (aT.q s),.agg (lU 6 t nm p d m)] (.tup (kY a)) [none,none]:=by
 refine fV (α:=kK) 2 _ kY _ (fun _=>rfl) (by kernel_rfl) ?_
 have hw:=(cS s.aC).1 hv.ok
 have hfit:=fT hv.ok
 have hno:∀ c:Int,0<=c->c<=100->gB (n+1) (s,c,0,[],[],[]):=fun c h1 h2=>⟨dQ.up hs (by omega),h1,h2⟩
 have cno:=fun c:Int=>gD s c
 have e0:aN []=[]:=rfl
 obtain ⟨⟨pw,path⟩,hpl,cpw⟩:=fD 6 t m nm p d (by omega) (by omega)
 dsimp only at hpl cpw
 obtain ⟨⟨es,c⟩,hes,cp⟩:=aPr s.mB.gF n p [m] (by omega) hs.en (by simp)
 dsimp only at hes
 simp only [bB,List.map_cons,List.map_nil] at cp
 have cn:=cno 4
 by_cases hc0:c=0
 ·subst hc0
  refine cI @aJ.eq_1 (Z2 cpw cp) ?_
  refine ⟨({ s with mB:=⟨es⟩ },0,0,[],[],[]),⟨?_,by dsimp only;omega,by dsimp only;omega⟩,by simp [Fin,e0]⟩
  obtain ⟨q1,q2,q3,q4,q5,q6,q7,q8,q9,q10,q11,q12⟩:=dQ.up hs (show n<=n+1 by omega)
  exact ⟨q1,q2,q3,q4,q5,q6,rH.mono hes (by omega),q8,q9,q10,q11,q12⟩
 ·have hc0':(c=0)=False:=by simp [hc0]
  refine cI (Y2 hc0' @aJ.eq_1) (Z3 cpw cp cn) ?_
  exact ⟨(s,4,0,[],[],[]),hno 4 (by omega) (by omega),by simp [Fin,e0]⟩
theorem aOB (n:Nat) (s:aT) (t m:Int) (nm p d:List UInt8) (hs:dQ n s) (hv:gH s.aC) (hn:n<=400) (h1:nm.length<=300) (h2:p.length<=300) (h3:d.length<=300):∃ a:kK,gB (n+1) a/\aE PP GG 64 [.agg (aT.q s),.agg (lU 7 t nm p d m)] (.tup (kY a)) [none,none]:=by
 refine fV (α:=kK) 2 _ kY _ (fun _=>rfl) (by kernel_rfl) ?_
 have hw:=(cS s.aC).1 hv.ok
 have hfit:=fT hv.ok
 have hno:∀ c:Int,0<=c->c<=100->gB (n+1) (s,c,0,[],[],[]):=fun c h1 h2=>⟨dQ.up hs (by omega),h1,h2⟩
 have cno:=fun c:Int=>gD s c
 have e0:aN []=[]:=rfl
 obtain ⟨⟨pw,path⟩,hpl,cpw⟩:=fD 7 t m nm p d (by omega) (by omega)
 dsimp only at hpl cpw
 obtain ⟨⟨l,ok⟩,hl,cl⟩:=aPv s.mB.gF n p (by omega) hs.en (by omega)
 dsimp only at hl cl
 have cn:=cno 1
 have jl:=cD l
 cases ok
 ·refine dJ (Z3 cpw cl cn) ?_
  exact ⟨(s,1,0,[],[],[]),hno 1 (by omega) (by omega),by simp [Fin,e0]⟩
 ·refine dJ (Z2 cpw cl) ?_
  exact ⟨(s,0,0,[],[],l),⟨dQ.up hs (by omega),by dsimp only;omega,by dsimp only;omega⟩,by simp [Fin]⟩
theorem aOA (n:Nat) (s:aT) (t m:Int) (nm p d:List UInt8) (hs:dQ n s) (hv:gH s.aC) (hn:n<=400) (h1:nm.length<=300) (h2:p.length<=300) (h3:d.length<=300):∃ a:kK,gB (n+1) a/\aE PP GG 64 [.agg (aT.q s),.agg (lU 8 t nm p d m)] (.tup (kY a)) [none,none]:=by
 refine fV (α:=kK) 2 _ kY _ (fun _=>rfl) (by kernel_rfl) ?_
 have hw:=(cS s.aC).1 hv.ok
 have hfit:=fT hv.ok
 have hno:∀ c:Int,0<=c->c<=100->gB (n+1) (s,c,0,[],[],[]):=fun c h1 h2=>⟨dQ.up hs (by omega),h1,h2⟩
 have cno:=fun c:Int=>gD s c
 have e0:aN []=[]:=rfl
 obtain ⟨⟨pw,path⟩,hpl,cpw⟩:=fD 8 t m nm p d (by omega) (by omega)
 dsimp only at hpl cpw
 have cro:=qN ⟨nm,d,m,IntKind.i64.wrap (4*m)⟩ (by dsimp only;omega) (by dsimp only;omega)
 generalize oK ⟨nm,d,m,IntKind.i64.wrap (4*m)⟩=ok at cro
 have hrl:=hs.rl
 obtain ⟨r,⟨hr1,hr2⟩,cr⟩:=aMN s.kA ⟨nm,d,m,IntKind.i64.wrap (4*m)⟩ (by omega)
 have cn1:=cno 1
 have cn6:=cno 6
 have fin:gB (n+1) ({ s with kA:=r },0,0,[],[],[]):=by
  obtain ⟨q1,q2,q3,q4,q5,q6,q7,q8,q9,q10,q11,q12⟩:=dQ.up hs (show n<=n+1 by omega)
  exact ⟨⟨q1,q2,q3,q4,by dsimp only;omega,fun x hx=>by
   rcases hr2 x hx with rfl|hx
   ·exact ⟨by dsimp only;omega,by dsimp only;omega⟩
   ·exact q6 x hx,q7,q8,q9,q10,q11,q12⟩,by dsimp only;omega,by dsimp only;omega⟩
 cases ok
 ·repeat' (first|refine lF ?_|refine gZ ?_|refine iG ?_|refine iA ?_|refine kE ?_|refine cG rfl ?_|refine cU rfl ?_|((first|refine jD fun K hK=>?_|refine gQ fun K hK=>?_|with_reducible refine aI (cpw) ?_|with_reducible refine aI (cro) ?_|with_reducible refine aI (cn1) ?_);simp [Fin])|(with_reducible refine hK _ ?_;clear hK K)|(with_reducible refine aM (fun h=>?_) (fun h=>?_)<;>first|(exfalso;simp at h;first|done|omega|contradiction)|((try simp at h);simp))|with_reducible refine And.intro ?_ ?_|with_reducible exact aS rfl|with_reducible assumption|(refine fH rfl (fun h=>?_) (fun h=>?_)<;>first|(exfalso;simp at h;first|done|omega|contradiction)|(exfalso;simp_all;done)|(try simp at h))|omega)
  exact ⟨(s,1,0,[],[],[]),hno 1 (by omega) (by omega),by simp [Fin,e0]⟩
 ·repeat' (first|refine lF ?_|refine gZ ?_|refine iG ?_|refine iA ?_|refine kE ?_|refine cG rfl ?_|refine cU rfl ?_|((first|refine jD fun K hK=>?_|refine gQ fun K hK=>?_|with_reducible refine aI (cpw) ?_|with_reducible refine aI (cro) ?_|with_reducible refine aI (cr) ?_|with_reducible refine aI (cn6) ?_);simp [Fin])|(with_reducible refine hK _ ?_;clear hK K)|(with_reducible refine aM (fun h=>?_) (fun h=>?_)<;>first|(exfalso;simp at h;first|done|omega|contradiction)|((try simp at h);simp))|with_reducible refine And.intro ?_ ?_|with_reducible exact aS rfl|with_reducible assumption|(refine fH rfl (fun h=>?_) (fun h=>?_)<;>first|(exfalso;simp at h;first|done|omega|contradiction)|(exfalso;simp_all;done)|(try simp at h))|omega)
  ·exact ⟨(s,6,0,[],[],[]),hno 6 (by omega) (by omega),by simp [Fin,e0]⟩
  ·exact ⟨_,fin,by simp [Fin,e0]⟩
theorem aOz (n:Nat) (s:aT) (t m:Int) (nm p d:List UInt8) (hs:dQ n s) (hv:gH s.aC) (hn:n<=400) (h1:nm.length<=300) (h2:p.length<=300) (h3:d.length<=300):∃ a:kK,gB (n+1) a/\aE PP GG 64 [.agg (aT.q s),.agg (lU 9 t nm p d m)] (.tup (kY a)) [none,none]:=by
 refine fV (α:=kK) 2 _ kY _ (fun _=>rfl) (by kernel_rfl) ?_
 have hw:=(cS s.aC).1 hv.ok
 have hfit:=fT hv.ok
 have hno:∀ c:Int,0<=c->c<=100->gB (n+1) (s,c,0,[],[],[]):=fun c h1 h2=>⟨dQ.up hs (by omega),h1,h2⟩
 have cno:=fun c:Int=>gD s c
 have e0:aN []=[]:=rfl
 obtain ⟨⟨pw,path⟩,hpl,cpw⟩:=fD 9 t m nm p d (by omega) (by omega)
 dsimp only at hpl cpw
 have cn4:=cno 4
 refine dJ (Z1 cpw) ?_
 refine fG (fun j st=>∃ i:Nat,j=s.kA.length-i/\i<=s.kA.length/\st=⟨[],[(2,.ptr 0 0),(3,.ptr 1 0),(4,.ptr 2 0),(5,.ptr 3 0),(7,.d (.str path)),(31,.d (.int .i64 i))],[(0,.box (aT.bx s 4)),(1,.box (rqA 9 t m nm p d)),(2,.box zS),(3,.box zR)]++aT.ob s 4,13⟩) _ ⟨0,rfl,by omega,?_⟩ ?_
 ·exact eI
 clear cpw
 rintro j st ⟨i,rfl,hi,rfl⟩
 have hrl:=hs.rl
 by_cases hlt:i<s.kA.length
 rotate_left
 ·have hie:i=s.kA.length:=by omega
  subst hie
  refine dJ (Z1 cn4) ?_
  exact ⟨(s,4,0,[],[],[]),hno 4 (by omega) (by omega),by simp [Fin,e0]⟩
 have ha:=List.getElem?_eq_getElem hlt
 have hm:=hs.rf _ (List.getElem_mem hlt)
 generalize s.kA[i]=x at ha hm
 have hw1:IntKind.i64.wrap ((i:Int)+1)=(i:Int)+1:=aA (by omega) (by omega)
 by_cases hnm:x.aG=nm
 rotate_left
 ·have hnm':(x.aG=nm)=False:=by simp [hnm]
  refine iD (Y2 ha hnm') ?_
  refine ⟨s.kA.length-(i+1),by omega,i+1,rfl,hlt,?_⟩
  exact dL hw1
 have hnm':(x.aG=nm)=True:=by simp [hnm]
 have cg:=aC1 s.aC t x s.iP path hfit (by omega) (by omega) (by omega)
 obtain ⟨g1,g2,g3,g4⟩:=aOr hv (by have:=hs.md;omega) t x s.iP path
 have hmd:=hs.md
 have hgc:guC s.aC t x s.iP path=0\/guC s.aC t x s.iP path=1\/guC s.aC t x s.iP path=2:=by
  unfold guC;split
  ·exact .inr (.inl rfl)
  ·split
   ·exact .inl rfl
   ·exact .inr (.inr rfl)
 generalize guW s.aC t x s.iP path=W at *
 generalize guU s.aC t x s.iP path=U at *
 generalize guI s.aC t x s.iP path=I at *
 generalize guC s.aC t x s.iP path=c at *
 have j1:=bT W.aD.aF
 have j2:=bP W.aV.aL
 have j3:=dC W.bL.aY
 have j4:=eZ W.bJ.bX
 have j5:=dR W.bD
 have cn1:=cno 1
 have cn5:=gD { s with aC:=W } 5
 rcases hgc with rfl|rfl|rfl
 ·refine cI (Y2 ha hnm') (Z1 cg) ?_
  exact ⟨({ s with aC:=W },0,I,U.aG,U.aFx,[]),⟨dQ.w hs (by omega) (.inl g1) (by omega),by dsimp only;omega,by dsimp only;omega⟩,by simp [Fin,e0]⟩
 ·refine cI (Y2 ha hnm') (Z2 cg cn1) ?_
  exact ⟨(s,1,0,[],[],[]),hno 1 (by omega) (by omega),by simp [Fin,e0]⟩
 ·refine cI (Y2 ha hnm') (Z2 cg cn5) ?_
  exact ⟨({ s with aC:=W },5,0,[],[],[]),⟨dQ.w hs (by omega) (.inl g1) (by omega),by dsimp only;omega,by dsimp only;omega⟩,by simp [Fin,e0]⟩
theorem aMR (n:Nat) (s:aT) (t m:Int) (nm p d:List UInt8) (hs:dQ n s) (hv:gH s.aC) (hn:n<=400) (h1:nm.length<=300) (h2:p.length<=300) (h3:d.length<=300):∃ a:kK,gB (n+1) a/\aE PP GG 64 [.agg (aT.q s),.agg (lU 10 t nm p d m)] (.tup (kY a)) [none,none]:=by
 refine fV (α:=kK) 2 _ kY _ (fun _=>rfl) (by kernel_rfl) ?_
 have hw:=(cS s.aC).1 hv.ok
 have hfit:=fT hv.ok
 have hno:∀ c:Int,0<=c->c<=100->gB (n+1) (s,c,0,[],[],[]):=fun c h1 h2=>⟨dQ.up hs (by omega),h1,h2⟩
 have cno:=fun c:Int=>gD s c
 have e0:aN []=[]:=rfl
 obtain ⟨⟨pw,path⟩,hpl,cpw⟩:=fD 10 t m nm p d (by omega) (by omega)
 dsimp only at hpl cpw
 obtain ⟨⟨dt,c,v⟩,hdt,cg⟩:=aL0 s.mB.gF n p 0 (by omega) hs.en
 dsimp only at hdt cg
 have cn1:=cno 1
 have cn4:=cno 4
 have cn6:=cno 6
 have jd:=aW dt
 have hrk:=hs.rk
 by_cases hc0:c=0
 rotate_left
 ·have hc0':(c=0)=False:=by simp [hc0]
  refine cI hc0' (Z3 cpw cg cn4) ?_
  exact ⟨(s,4,0,[],[],[]),hno 4 (by omega) (by omega),by simp [Fin,e0]⟩
 subst hc0
 have cp:=aFX s.fZ path dt s.aC.cN m (by omega) (by omega) (by omega)
 have hco:=aN6 s.fZ path dt s.aC.cN m
 generalize aEq s.fZ path dt s.aC.cN m=R at *
 generalize aIZ s.fZ path dt s.aC.cN m=I at *
 generalize aI0 s.fZ path dt s.aC.cN m=c at *
 have j1:=vV R.cP
 by_cases hc5:c=5
 ·subst hc5
  refine dJ (Z4 cpw cg cp cn6) ?_
  exact ⟨(s,6,0,[],[],[]),hno 6 (by omega) (by omega),by simp [Fin,e0]⟩
 have hc5':(c=5)=False:=by simp [hc5]
 by_cases hc0:c=0
 rotate_left
 ·have hc0':(c=0)=False:=by simp [hc0]
  refine cI (Y2 hc5' hc0') (Z4 cpw cg cp cn1) ?_
  exact ⟨(s,1,0,[],[],[]),hno 1 (by omega) (by omega),by simp [Fin,e0]⟩
 subst hc0
 refine dJ (Z3 cpw cg cp) ?_
 refine ⟨({ s with fZ:=R },0,I,[],[],[]),⟨?_,by dsimp only;omega,by dsimp only;omega⟩,by simp [Fin,e0]⟩
 obtain ⟨q1,q2,q3,q4,q5,q6,q7,q8,q9,q10,q11,q12⟩:=dQ.up hs (show n<=n+1 by omega)
 exact ⟨q1,q2,q3,q4,q5,q6,q7,by dsimp only;omega,q9,q10,q11,q12⟩
theorem aMQ (n:Nat) (s:aT) (t m:Int) (nm p d:List UInt8) (hs:dQ n s) (hn:n<=400) (h1:nm.length<=300) (h2:p.length<=300) (h3:d.length<=300):∃ a:kK,gB (n+1) a/\aE PP GG 64 [.agg (aT.q s),.agg (lU 11 t nm p d m)] (.tup (kY a)) [none,none]:=by
 refine fV (α:=kK) 2 _ kY _ (fun _=>rfl) (by kernel_rfl) ?_
 have hfit:=WI.fit hs.lv
 have hno:∀ c:Int,0<=c->c<=100->gB (n+1) (s,c,0,[],[],[]):=fun c h1 h2=>⟨dQ.up hs (by omega),h1,h2⟩
 have cno:=fun c:Int=>gD s c
 have e0:aN []=[]:=rfl
 obtain ⟨⟨pw,path⟩,hpl,cpw⟩:=fD 11 t m nm p d (by omega) (by omega)
 dsimp only at hpl cpw
 have hrk:=hs.rk
 have co:=aEh s.fZ m s.aC.cN (by omega)
 have hco:=aKo s.fZ m s.aC.cN
 generalize uS s.fZ m s.aC.cN=O at *
 obtain ⟨R,dt,c⟩:=O
 dsimp only at co hco
 have j1:=vV R.cP
 have jd:=aW dt
 have cn:=gD { s with fZ:=R } 4
 have hst:dQ (n+1) { s with fZ:=R }:=by
  obtain ⟨q1,q2,q3,q4,q5,q6,q7,q8,q9,q10,q11,q12⟩:=dQ.up hs (show n<=n+1 by omega)
  exact ⟨q1,q2,q3,q4,q5,q6,q7,by dsimp only;omega,q9,q10,q11,q12⟩
 by_cases hc0:c=0
 ·subst hc0
  refine cI @fA (Z2 cpw co) ?_
  exact ⟨({ s with fZ:=R },0,0,[],dt,[]),⟨hst,by dsimp only;omega,by dsimp only;omega⟩,by simp [Fin,e0]⟩
 ·have hc0':(c=0)=False:=by simp [hc0]
  refine cI hc0' (Z3 cpw co cn) ?_
  exact ⟨({ s with fZ:=R },4,0,[],[],[]),⟨hst,by dsimp only;omega,by dsimp only;omega⟩,by simp [Fin,e0]⟩
theorem aMP (n:Nat) (s:aT) (t m:Int) (nm p d:List UInt8) (hs:dQ n s) (hn:n<=400) (h1:nm.length<=300) (h2:p.length<=300) (h3:d.length<=300):∃ a:kK,gB (n+1) a/\aE PP GG 64 [.agg (aT.q s),.agg (lU 12 t nm p d m)] (.tup (kY a)) [none,none]:=by
 refine fV (α:=kK) 2 _ kY _ (fun _=>rfl) (by kernel_rfl) ?_
 have hfit:=WI.fit hs.lv
 have hno:∀ c:Int,0<=c->c<=100->gB (n+1) (s,c,0,[],[],[]):=fun c h1 h2=>⟨dQ.up hs (by omega),h1,h2⟩
 have cno:=fun c:Int=>gD s c
 have e0:aN []=[]:=rfl
 obtain ⟨⟨pw,path⟩,hpl,cpw⟩:=fD 12 t m nm p d (by omega) (by omega)
 dsimp only at hpl cpw
 have cn1:=cno 1
 have hrk:=hs.rk
 have ci:aE PP GG 12 [.d (.int .i64 m),.d (.int .i64 0),.d (.int .i64 1000000000)] (.d (.bool (inB m 0 1000000000))) [none,none,none]:=bA _ _ _
 generalize inB m 0 1000000000=b at ci
 cases b
 ·refine dJ (Z3 cpw ci cn1) ?_
  exact ⟨(s,1,0,[],[],[]),hno 1 (by omega) (by omega),by simp [Fin,e0]⟩
 have cp:=aEg s.aC (IntKind.i64.wrap (s.aC.cN+m)) hfit
 obtain ⟨hl,hm⟩:=WI.pt hs.lv (IntKind.i64.wrap (s.aC.cN+m))
 have hT:(ptT s.aC (IntKind.i64.wrap (s.aC.cN+m))).aF.length<=4096/\∀ x,x∈(ptT s.aC (IntKind.i64.wrap (s.aC.cN+m))).aF->cH x:=by
  unfold ptT
  split
  ·have hf:=(fF s.aC.aD).1 (WI.fo hs.lv)
   refine ⟨?_,fun x hx=>?_⟩
   ·have:=aFK (fun t=>kX t.bM (IntKind.i64.wrap (s.aC.cN+m))) s.aC.aD.aF
    unfold fM;dsimp only;omega
   ·unfold fM at hx
    obtain ⟨y,hy,rfl⟩:=aNu _ _ x hx
    exact aIs (hf.2.1 y hy).1
  ·exact ⟨by simp,by simp⟩
 generalize ptW s.aC (IntKind.i64.wrap (s.aC.cN+m))=W at *
 generalize ptT s.aC (IntKind.i64.wrap (s.aC.cN+m))=T at *
 generalize ptB s.aC (IntKind.i64.wrap (s.aC.cN+m))=b at *
 obtain ⟨T1,T2,T3,T4⟩:=T
 dsimp only at hT
 have cs:=aCi s.fZ W.cN (by omega)
 have hsw:=aIw s.fZ W.cN
 generalize qY s.fZ W.cN=S at *
 obtain ⟨R,G⟩:=S
 dsimp only at cs hsw
 obtain ⟨ids,-,cid⟩:=aJe T1 hT.1 hT.2
 have j1:=bT W.aD.aF
 have j2:=bP W.aV.aL
 have j3:=dC W.bL.aY
 have j4:=eZ W.bJ.bX
 have j5:=dR W.bD
 have j6:=gU T1
 have j7:=gU T2
 have j8:=cD T3
 have j9:=cD T4
 have j10:=vV R.cP
 have j11:=gU G
 have j12:=cD ids
 cases b
 ·refine dJ (Z4 cpw ci cp cn1) ?_
  exact ⟨(s,1,0,[],[],[]),hno 1 (by omega) (by omega),by simp [Fin,e0]⟩
 ·refine cI @fX (Z5 cpw ci cp cs cid) ?_
  refine ⟨({ s with aC:=W,fZ:=R },0,((T2.length:Nat):Int),[],[],ids),⟨?_,by dsimp only;omega,by dsimp only;omega⟩,by simp [Fin]⟩
  obtain ⟨q1,q2,q3,q4,q5,q6,q7,q8,q9,q10,q11,q12⟩:=dQ.up hs (show n<=n+1 by omega)
  exact ⟨hl,by dsimp only;have:=hs.md;omega,q3,q4,q5,q6,q7,by dsimp only;omega,q9,q10,q11,q12⟩
theorem aMO (n:Nat) (s:aT) (t m:Int) (nm p d:List UInt8) (hs:dQ n s) (hn:n<=400) (h1:nm.length<=300) (h2:p.length<=300) (h3:d.length<=300):∃ a:kK,gB (n+1) a/\aE PP GG 64 [.agg (aT.q s),.agg (lU 13 t nm p d m)] (.tup (kY a)) [none,none]:=by
 refine fV (α:=kK) 2 _ kY _ (fun _=>rfl) (by kernel_rfl) ?_
 have hfit:=WI.fit hs.lv
 have hno:∀ c:Int,0<=c->c<=100->gB (n+1) (s,c,0,[],[],[]):=fun c h1 h2=>⟨dQ.up hs (by omega),h1,h2⟩
 have cno:=fun c:Int=>gD s c
 have e0:aN []=[]:=rfl
 obtain ⟨⟨pw,path⟩,hpl,cpw⟩:=fD 13 t m nm p d (by omega) (by omega)
 dsimp only at hpl cpw
 have cn1:=cno 1
 have ci:aE PP GG 12 [.d (.int .i64 m),.d (.int .i64 0),.d (.int .i64 1000)] (.d (.bool (inB m 0 1000))) [none,none,none]:=bA _ _ _
 cases hb:inB m 0 1000
 ·rw [hb] at ci
  refine dJ (Z3 cpw ci cn1) ?_
  exact ⟨(s,1,0,[],[],[]),hno 1 (by omega) (by omega),by simp [Fin,e0]⟩
 rw [hb] at ci
 have hm:=cC hb
 have cw:=iY s.aC hfit
 have hl:WI { s.aC with bL:=⟨s.aC.bL.aY,m,s.aC.bL.aZ⟩ }:=by
  rcases hs.lv with h|h
  ·exact .inl (aKv h hm.1 hm.2)
  ·exact .inr ⟨h.now,h.next,h.tk,h.bk,h.us,h.md,h.jb,h.ow⟩
 have j1:=bT s.aC.aD.aF
 have j2:=bP s.aC.aV.aL
 have j3:=dC s.aC.bL.aY
 have j4:=eZ s.aC.bJ.bX
 have j5:=dR s.aC.bD
 refine dJ (Z3 cpw ci cw) ?_
 exact ⟨({ s with aC:={ s.aC with bL:=⟨s.aC.bL.aY,m,s.aC.bL.aZ⟩ } },0,0,[],[],[]),⟨dQ.w hs (by omega) hl (by have:=hs.md;dsimp only;omega),by dsimp only;omega,by dsimp only;omega⟩,by simp [Fin,e0]⟩
theorem aQx (n:Nat) (s:aT) (k t m:Int) (nm p d:List UInt8) (hk:0<=k/\k<=13) (hs:dQ n s) (hv:k<11->gH s.aC) (hn:n<=400) (h1:nm.length<=300) (h2:p.length<=300) (h3:d.length<=300):∃ a:kK,gB (n+1) a/\aE PP GG 64 [.agg (aT.q s),.agg (lU k t nm p d m)] (.tup (kY a)) [none,none]:=by
 obtain h|h|h|h|h|h|h|h|h|h|h|h|h|h:k=0\/k=1\/k=2\/k=3\/k=4\/k=5\/k=6\/k=7\/k=8\/k=9\/k=10\/k=11\/k=12\/k=13:=by omega
 all_goals subst h
 ·exact aOI n s t m nm p d hs (hv (by omega)) hn h1 h2 h3
 ·exact aOH n s t m nm p d hs (hv (by omega)) hn h1 h2 h3
 ·exact aOG n s t m nm p d hs (hv (by omega)) hn h1 h2 h3
 ·exact aOF n s t m nm p d hs (hv (by omega)) hn h1 h2 h3
 ·exact aOE n s t m nm p d hs (hv (by omega)) hn h1 h2 h3
 ·exact aOD n s t m nm p d hs (hv (by omega)) hn h1 h2 h3
 ·exact aOC n s t m nm p d hs (hv (by omega)) hn h1 h2 h3
 ·exact aOB n s t m nm p d hs (hv (by omega)) hn h1 h2 h3
 ·exact aOA n s t m nm p d hs (hv (by omega)) hn h1 h2 h3
 ·exact aOz n s t m nm p d hs (hv (by omega)) hn h1 h2 h3
 ·exact aMR n s t m nm p d hs (hv (by omega)) hn h1 h2 h3
 ·exact aMQ n s t m nm p d hs hn h1 h2 h3
 ·exact aMP n s t m nm p d hs hn h1 h2 h3
 ·exact aMO n s t m nm p d hs hn h1 h2 h3
theorem aQX {c:dO} {n:cO}:(aJQ c n).cost<=c.cost+1+n.cost:=by
 unfold aJQ
 split
 ·have:=aDI c (oF c n)
  have e:(oF c n).cost=n.cost:=rfl
  omega
 ·omega
theorem aFm (n:Nat) (s:aT) (k t m:Int) (nm p d:List UInt8) (hk:0<=k/\k<=13) (hs:dQ n s) (hn:n<=400) (h1:nm.length<=300) (h2:p.length<=300) (h3:d.length<=300):∃ a:kK,gB (n+2) a/\aE PP GG 43 [.agg (aT.q s),.agg (lU k t nm p d m)] (.tup (kY a)) [none,none]:=by
 refine cvD Tryz.func43 (α:=kK) 2 _ kY _ (fun _=>rfl) ?_
 have hfit:=WI.fit hs.lv
 have hfo:=WI.fo hs.lv
 have e0:aN []=[]:=rfl
 have hnow:=WI.now hs.lv
 obtain ⟨⟨pw,path⟩,hpl,cpw⟩:=fD k t m nm p d (by omega) (by omega)
 dsimp only at hpl cpw
 refine oS ?_
 refine oS ?_
 refine aCP (Z1 cpw) ?_
 refine oS ?_
 refine oB [2,3,4,5,6,7,8,9] (s1:=⟨[],[(2,.ptr 0 0),(3,.ptr 1 0),(4,.ptr 2 0),(5,.ptr 3 0),(6,.d (.int .i64 s.aC.cN)),(7,.d (.int .i64 pw)),(8,.d (.str path)),(9,.ptr 4 0)],[(0,.box (aT.bx s 5)),(1,.box (rqA k t m nm p d)),(2,.box zS),(3,.box zR),(4,.box zR)]++aT.ob s 5,14⟩) ?_ ?_
 ·exact eI
 clear cpw
 refine nM [2,3,4,5,6,8,9] (fun st'=>∃ (s1:aT) (c:Int),dQ n s1/\(0<=c/\c<=100)/\(c=0->k<11->gH s1.aC)/\st'=⟨[],[(2,.ptr 0 0),(3,.ptr 1 0),(4,.ptr 2 0),(5,.ptr 3 0),(6,.d (.int .i64 s.aC.cN)),(8,.d (.str path)),(9,.ptr 4 0)],[(0,.box (aT.bx s1 5)),(1,.box (rqA k t m nm p d)),(2,.box zS),(3,.box zR),(4,.box [.d (.int .i64 c),.d (.int .i64 0),.d (.str []),.d (.str []),.nil 0 1])]++aT.ob s1 5,14⟩) ?_ ?_
 ·by_cases hk11:k<11
  rotate_left
  ·have hk':(k<11)=False:=by simp [hk11]
   refine iD hk' ?_
   refine ⟨s,0,hs,by omega,fun _ h=>absurd h hk11,?_⟩
   exact eI
  have hk':(k<11)=True:=by simp [hk11]
  have hpf:=hs.pf
  have hpl2:=hs.pl
  obtain ⟨⟨pws,ok⟩,⟨hp1,hp2⟩,cpo⟩:=aLa s.aC.aD t s.gK hfit.1 (by omega) (fun p hp=>sG.up (hpf p hp))
  dsimp only at hp1 hp2 cpo
  have cfi:=kV s.aC.aD t hfit.1
  obtain ⟨⟨F,c⟩,⟨hF1,hF2⟩,cus⟩:=aK8 s.aC.aD t s.aC.cN hfit.1 hfo
  dsimp only at hF1 hF2 cus
  have cw:=iY s.aC hfit
  obtain ⟨al,-,cal⟩:=aNr pws path pw hp1 (fun p hp=>hpf p (hp2 p hp)) (by omega)
  have i1:=aCb pws
  have i2:=bT F.aF
  have j1:=bT s.aC.aD.aF
  have j2:=bP s.aC.aV.aL
  have j3:=dC s.aC.bL.aY
  have j4:=eZ s.aC.bJ.bX
  have j5:=dR s.aC.bD
  have hofi:jF s.aC.aD t=jF s.aC.aD t:=rfl
  generalize (bR s.aC.aD && cJ s.aC.aD t)=k1 at cfi
  by_cases hc:c=0
  rotate_left
  ·have hc':(c=0)=False:=by simp [hc]
   generalize jF s.aC.aD t=o at *
   have i3:=cD o.eT
   refine cI (Y2 hk' hc') (Z3 cpo cfi cus) ?_
   refine ⟨s,2,hs,by omega,fun h=>by omega,?_⟩
   exact eI
  subst hc
  obtain ⟨kk,x,g1,g2,g3,g4⟩:=hF2 rfl
  have hv:gH s.aC:=by
   rcases hs.lv with h|h
   ·exact h
   ·rw [h.tk] at g1;simp at g1
  have htb:=(((fF s.aC.aD).1 hfo).2.1 x (List.mem_of_getElem? g1)).1
  rw [g3] at cfi
  have i3:=cD x.eT
  have hmd:=hs.md
  rcases g4 with ⟨g4,rfl⟩|⟨g4,u,u1,u2,rfl⟩
  ·have hu':(x.jG=1)=True:=by simp [g4]
   obtain ⟨W,⟨hW1,hW2⟩,cuse⟩:=aMM s.aC { s with aC:={ s.aC with aD:=fB s.aC.aD (eN s.aC.aD t) } } t x hv rfl
   have hFl:=hF1.1
   generalize fB s.aC.aD (eN s.aC.aD t)=F at *
   have hst:dQ n { s with aC:=W }:=dQ.w hs (Nat.le_refl _) (.inl hW1) (by omega)
   by_cases hpw:pw=0
   ·have hpw':(pw=0)=True:=by simp [hpw]
    refine cI (Y4 hk' hu' hpw' @aJ.eq_1) (Z5 cpo cfi cus cw cuse) ?_
    refine ⟨_,0,hst,by omega,fun _ _=>hW1,?_⟩
    exact eI
   ·have hpw':(pw=0)=False:=by simp [hpw]
    cases al
    ·refine cI (Y4 hk' hu' hpw' @aJ.eq_1) (Z6 cpo cfi cus cw cuse cal) ?_
     refine ⟨_,3,hst,by omega,fun h=>by omega,?_⟩
     exact eI
    ·refine cI (Y4 hk' hu' hpw' @aJ.eq_1) (Z6 cpo cfi cus cw cuse cal) ?_
     refine ⟨_,0,hst,by omega,fun _ _=>hW1,?_⟩
     exact eI
  ·have hu':(x.jG=1)=False:=by simp [g4]
   have hL:=aFi (y:={ x with jG:=u }) hv g1 rfl rfl (aNE htb u1 u2)
   generalize s.aC.aD.aF.set kk { x with jG:=u }=T at *
   have hst:dQ n { s with aC:={ s.aC with aD:=⟨T⟩ } }:=dQ.w hs (Nat.le_refl _) (.inl hL) (by dsimp only;omega)
   by_cases hpw:pw=0
   ·have hpw':(pw=0)=True:=by simp [hpw]
    refine cI (Y3 hk' hu' hpw') (Z4 cpo cfi cus cw) ?_
    refine ⟨_,0,hst,by omega,fun _ _=>hL,?_⟩
    exact eI
   ·have hpw':(pw=0)=False:=by simp [hpw]
    cases al
    ·refine cI (Y3 hk' hu' hpw') (Z5 cpo cfi cus cw cal) ?_
     refine ⟨_,3,hst,by omega,fun h=>by omega,?_⟩
     exact eI
    ·refine cI (Y3 hk' hu' hpw') (Z5 cpo cfi cus cw cal) ?_
     refine ⟨_,0,hst,by omega,fun _ _=>hL,?_⟩
     exact eI
 rintro st ⟨s1,c,hs1,hc,hlc,rfl⟩
 refine lS 9 4 rfl rfl rfl ?_
 refine oB [2,3,4,5,6,8,9] (s1:=⟨[],[(2,.ptr 0 0),(3,.ptr 1 0),(4,.ptr 2 0),(5,.ptr 3 0),(6,.d (.int .i64 s.aC.cN)),(8,.d (.str path)),(9,.ptr 4 0)],[(0,.box (aT.bx s1 5)),(1,.box (rqA k t m nm p d)),(2,.box zS),(3,.box zR),(4,.box [.d (.int .i64 c),.d (.int .i64 0),.d (.str []),.d (.str []),.sl 14])]++aT.ob s1 5++[(14,.arr 0 0 1 [])],15⟩) ?_ ?_
 ·exact eI
 refine nM [2,3,4,5,6,8,9] (fun st'=>∃ a:kK,gB (n+1) a/\st'=⟨[],[(2,.ptr 0 0),(3,.ptr 1 0),(4,.ptr 2 0),(5,.ptr 3 0),(6,.d (.int .i64 s.aC.cN)),(8,.d (.str path)),(9,.ptr 4 0)],[(0,.box (aT.bx a.1 5)),(1,.box (rqA k t m nm p d)),(2,.box zS),(3,.box zR),(4,.box [.d (.int .i64 a.2.1),.d (.int .i64 a.2.2.1),.d (.str a.2.2.2.1),.d (.str a.2.2.2.2.1),.sl 14])]++aT.ob a.1 5++[(14,.arr 0 0 1 (aN a.2.2.2.2.2))],15⟩) ?_ ?_
 ·by_cases hc0:c=0
  ·subst hc0
   obtain ⟨a,ha,cdo⟩:=aQx n s1 k t m nm p d hk hs1 (hlc rfl) hn h1 h2 h3
   refine dJ (Z1 cdo) ?_
   refine ⟨a,ha,?_⟩
   exact eI
  ·have hc0':(c=0)=False:=by simp [hc0]
   refine iD hc0' ?_
   refine ⟨(s1,c,0,[],[],[]),⟨dQ.up hs1 (by omega),hc.1,hc.2⟩,?_⟩
   exact dL e0
 rintro st ⟨⟨s2,c2,rn,rm,rd,rl⟩,⟨hs2,hc1,hc2⟩,rfl⟩
 dsimp only at hs2 hc1 hc2 ⊢
 have ck:=mG k (by unfold cH;omega)
 have hkl:(Lib.itoa k).length<=22:=by have:=Lib.itoa_length_le k (by omega) (by omega);omega
 generalize Lib.itoa k=kt at *
 have ci:aE PP GG 12 [.d (.int .i64 t),.d (.int .i64 0),.d (.int .i64 1000000000)] (.d (.bool (inB t 0 1000000000))) [none,none,none]:=bA _ _ _
 have cpt:=fI path (by omega)
 have key:∀ (who:Int) (pt:List UInt8),0<=who->who<=1000000000->pt.length<=700->∃ C:dO,dQ (n+2) { s2 with gC:=C }/\(∀ row,row∈eK C.dM->∀ d,d∈row->nG 0 d)/\∃ b:Bool,aE PP GG 67 [.agg s2.gC.c,.agg (cO.c ⟨0,s.aC.cN,who,107::kt,pt,c2,0⟩)] (.tup [.agg C.o,.d (.bool b)]) [none,none]:=by
  intro who pt w1 w2 w3
  have hch:=hs2.ch
  have hok:cO.ok ⟨0,s.aC.cN,who,107::kt,pt,c2,0⟩:=by
   refine ⟨by unfold cH;dsimp only;omega,by unfold cH;dsimp only;omega,by unfold cH;dsimp only;omega,?_,?_,by unfold cH;dsimp only;omega,by unfold cH;dsimp only;omega⟩
   ·show (107::kt).length<=maxLen
    simp [maxLen];omega
   ·show pt.length<=maxLen
    simp [maxLen];omega
  have hnc:cO.cost ⟨0,s.aC.cN,who,107::kt,pt,c2,0⟩<=723:=by unfold cO.cost;simp;omega
  have ca:=aFZ s2.gC ⟨0,s.aC.cN,who,107::kt,pt,c2,0⟩ hs2.co hok (by omega)
  have hle:=aQX (c:=s2.gC) (n:=⟨0,s.aC.cN,who,107::kt,pt,c2,0⟩)
  have hco:=aQW hs2.co hok (by omega) (by omega)
  refine ⟨aJQ s2.gC ⟨0,s.aC.cN,who,107::kt,pt,c2,0⟩,?_,aFo _,_,ca⟩
  obtain ⟨q1,q2,q3,q4,q5,q6,q7,q8,q9,q10,q11,q12⟩:=dQ.up hs2 (show n+1<=n+2 by omega)
  exact ⟨q1,q2,q3,q4,q5,q6,q7,q8,by dsimp only;omega,hco,q11,q12⟩
 have hrl:=cD rl
 cases hwho:inB t 0 1000000000
 ·rw [hwho] at ci
  cases hpo:fQ path
  ·rw [hpo] at cpt
   obtain ⟨C,hC,iC,b,ca⟩:=key 0 [115,121,115] (by omega) (by omega) (by simp)
   refine cI @jN.eq_1 (Z4 ck ci cpt ca) ?_
   exact ⟨({ s2 with gC:=C },c2,rn,rm,rd,rl),⟨hC,hc1,hc2⟩,by simp [Fin]⟩
  ·rw [hpo] at cpt
   obtain ⟨C,hC,iC,b,ca⟩:=key 0 path (by omega) (by omega) (by omega)
   refine cI @jN.eq_1 (Z4 ck ci cpt ca) ?_
   exact ⟨({ s2 with gC:=C },c2,rn,rm,rd,rl),⟨hC,hc1,hc2⟩,by simp [Fin]⟩
 ·rw [hwho] at ci
  have ht:=cC hwho
  cases hpo:fQ path
  ·rw [hpo] at cpt
   obtain ⟨C,hC,iC,b,ca⟩:=key t [115,121,115] ht.1 ht.2 (by simp)
   refine cI @jN.eq_1 (Z4 ck ci cpt ca) ?_
   exact ⟨({ s2 with gC:=C },c2,rn,rm,rd,rl),⟨hC,hc1,hc2⟩,by simp [Fin]⟩
  ·rw [hpo] at cpt
   obtain ⟨C,hC,iC,b,ca⟩:=key t path ht.1 ht.2 (by omega)
   refine cI @jN.eq_1 (Z4 ck ci cpt ca) ?_
   exact ⟨({ s2 with gC:=C },c2,rn,rm,rd,rl),⟨hC,hc1,hc2⟩,by simp [Fin]⟩
theorem aJc (l:List Rec) (s:aT) (hl:l.length<=150) (hr:∀ r,r∈l->r.2.1.length<=40/\r.2.2.length<=40) (hs:dQ 0 s):∃ a:aT×Bool,dQ 300 a.1 ∧
  aE PP GG 71 [.agg (aT.q s),.own 1 3 (uF l)] (.tup [.agg (aT.q a.1),.d (.bool a.2)]) [none,some (.own 1 3 (uF l))]:=by
 refine cvD Tryz.func71 (α:=aT×Bool) 2 _ (fun a=>[.agg (aT.q a.1),.d (.bool a.2)]) _ (fun _=>rfl) ?_
 have hir:=aAK l
 refine lH ?_
 refine fG (fun n st=>∃ i:Nat,n=l.length-i/\i<=l.length/\∃ s1:aT,dQ (2*i) s1/\st=⟨[],[(1,.sl 0),(2,.ptr 1 0),(4,.ptr 2 0),(6,.d (.int .i64 i))],[(0,.arr 0 1 3 (uF l)),(1,.box (aT.bx s1 3)),(2,.box zS)]++aT.ob s1 3,12⟩) _ ⟨0,rfl,by omega,s,hs,?_⟩ ?_
 ·exact eI
 rintro n st ⟨i,rfl,hi,s1,hs1,rfl⟩
 by_cases hlt:i<l.length
 rotate_left
 ·have hie:i=l.length:=by omega
  subst hie
  refine lH ?_
  exact ⟨(s1,true),dQ.up hs1 (by omega),by simp [Fin]⟩
 have ha:=List.getElem?_eq_getElem hlt
 have hm:=hr _ (List.getElem_mem hlt)
 generalize l[i]=x at ha hm
 obtain ⟨k,ns,ts⟩:=x
 have hax:(uF l)[i]?=some [.int .i64 k,.slc 1 (bB ns),.slc 1 (aN ts)]:=by simp [uF,aF7,ha]
 dsimp only at hm
 have hw:IntKind.i64.wrap ((i:Int)+1)=(i:Int)+1:=aA (by omega) (by omega)
 obtain ⟨c1,c2⟩:=aCY k ns ts (by omega) (by omega)
 cases hq:qP k ns ts
 ·have c1:=c1 hq
  refine cI hax (Z1 c1) ?_
  exact ⟨(s1,false),dQ.up hs1 (by omega),by simp [Fin]⟩
 ·obtain ⟨t,m,nm,p,d,rfl,rfl⟩:=aIQ hq
  have c2:=c2 t m nm p d rfl rfl hq
  have hk:(0<=k/\k<=13)/\nm.length<=300/\p.length<=300/\d.length<=300:=by
   simp only [qP,Bool.and_eq_true,decide_eq_true_eq] at hq
   obtain ⟨q1,q2,q3,_,_⟩:=hq
   have:=(qQ q1).2.2.2
   exact ⟨⟨q2,q3⟩,this nm (by simp),this p (by simp),this d (by simp)⟩
  obtain ⟨⟨s2,q1,q2,q3,q4,q5⟩,⟨hs2,-,-⟩,cst⟩:=aFm (2*i) s1 k t m nm p d hk.1 hs1 (by omega) hk.2.1 hk.2.2.1 hk.2.2.2
  dsimp only at hs2 cst
  have hrl:=cD q5
  refine cI hax (Z2 c2 cst) ?_
  refine ⟨l.length-(i+1),by omega,i+1,rfl,hlt,s2,dQ.up hs2 (by omega),?_⟩
  exact dL hw
end Go.Proofs.YtiejbbcpihpgpaaGreat.Ab
