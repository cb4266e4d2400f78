/-
  A part of a proof about the given program; what is proved is said where each theorem stands.
-/
import Derived.Test.YtiejbbcpihpgpaaGreatFrameA
import Derived.Test.YtiejbbcpihpgpaaGreatFrameB
import Derived.Test.YtiejbbcpihpgpaaGreatFrameC
import Derived.Test.YtiejbbcpihpgpaaGreatFrameD
import Derived.Test.YtiejbbcpihpgpaaGreatHead
import Derived.Test.YtiejbbcpihpgpaaGreatCodes
import Derived.Test.YtiejbbcpihpgpaaGreatPartA
import Derived.Test.YtiejbbcpihpgpaaGreatPartB
import Derived.Test.YtiejbbcpihpgpaaGreatPartC
import Derived.Test.YtiejbbcpihpgpaaGreatPartD
import Derived.Test.YtiejbbcpihpgpaaGreatPartE
import Derived.Test.YtiejbbcpihpgpaaGreatPartF
import Derived.Test.YtiejbbcpihpgpaaGreatPartG
namespace Go.Proofs
end Go.Proofs
set_option linter.unusedSimpArgs false
set_option linter.unusedVariables false
set_option maxRecDepth 100000
set_option maxHeartbeats 2000000
namespace Go.Proofs.YtiejbbcpihpgpaaGreat.Ab
open Go.Proofs
theorem aPs (key:Int) (a b:List UInt8) (hab:a.length+b.length<=40000) (hk:cH key):∃ r:aT×Int×Bool,dQ 300 r.1 ∧
  aE PP GG 45 [.d (.int .i64 key),.agg [.own 0 1 (aB a),.own 0 1 (aB b)]] (.tup [.agg (aT.q r.1),.d (.int .i64 r.2.1),.d (.bool r.2.2)]) [none,none]:=by
 refine cvD Tryz.func45 (α:=aT×Int×Bool) 3 _ (fun r=>[.agg (aT.q r.1),.d (.int .i64 r.2.1),.d (.bool r.2.2)]) _ (fun _=>rfl) ?_
 obtain ⟨⟨ra,rb,ok⟩,hrab,cre⟩:=aJS a b hab
 dsimp only at hrab cre
 have ckey:=gJ key
 have i1:=aW ra
 have i2:=aW rb
 have i3:=aW a
 have i4:=aW b
 have hz0:dQ 300 kF:=dQ.up aPA (by omega)
 refine oS ?_
 refine aCP (Z1 cre) ?_
 cases hkb:kR key
 ·rw [hkb] at ckey
  refine aRD (Z1 ckey) ?_
  refine fH rfl (fun _=>?_) (fun h=>by cases h)
  refine oS ?_
  refine oB [4,5,6] (s1:=⟨[],[(4,.ptr 0 0),(5,.d (.int .i64 0)),(6,.d (.bool false))],[(0,.box zS)],1⟩) ?_ ?_
  ·exact eI
  refine lS 4 10 rfl rfl rfl ?_
  refine nH 0 10 rfl rfl rfl ?_
  refine lS 4 11 rfl rfl rfl ?_
  refine nH 0 11 rfl rfl rfl ?_
  refine lS 4 12 rfl rfl rfl ?_
  refine nH 0 12 rfl rfl rfl ?_
  refine lF ?_
  exact ⟨(kF,0,false),hz0,by simp [Fin,kF,bS,bC,cY,fP,dK,cM,jM,bI,gX,eK,aB]⟩
 rw [hkb] at ckey
 cases ok
 ·refine aRD (Z1 ckey) ?_
  refine fH rfl (fun _=>?_) (fun h=>by cases h)
  refine oS ?_
  refine oB [4,5,6] (s1:=⟨[],[(4,.ptr 0 0),(5,.d (.int .i64 0)),(6,.d (.bool false))],[(0,.box zS)],1⟩) ?_ ?_
  ·exact eI
  refine lS 4 10 rfl rfl rfl ?_
  refine nH 0 10 rfl rfl rfl ?_
  refine lS 4 11 rfl rfl rfl ?_
  refine nH 0 11 rfl rfl rfl ?_
  refine lS 4 12 rfl rfl rfl ?_
  refine nH 0 12 rfl rfl rfl ?_
  refine lF ?_
  exact ⟨(kF,0,false),hz0,by simp [Fin,kF,bS,bC,cY,fP,dK,cM,jM,bI,gX,eK,aB]⟩
 refine aRD (Z1 ckey) ?_
 refine fH rfl (fun h=>by cases h) (fun _=>iG ?_)
 obtain ⟨⟨l,c⟩,hl⟩:∃ q,aQr ra rb=q:=⟨_,rfl⟩
 have crl:=aFW ra rb l c hl (by omega)
 have hlo:∀ r,r∈l->r.2.1.length<=40/\r.2.2.length<=40:=by
  unfold aQr at hl
  split at hl
  ·cases hl;exact (aII (ra++rb)).2
  ·rename_i hx
   exact absurd hrab hx
 have hir:=aAK l
 refine aCP (Z1 crl) ?_
 by_cases hll:l.length<=150
 rotate_left
 ·have hll':((150:Int)<((l.length:Nat):Int))=True:=by simp;omega
  refine aRC hll' ?_
  refine fH rfl (fun _=>?_) (fun h=>by cases h)
  refine oS ?_
  refine oB [4,5,6] (s1:=⟨[],[(4,.ptr 0 0),(5,.d (.int .i64 0)),(6,.d (.bool false))],[(0,.box zS)],1⟩) ?_ ?_
  ·exact eI
  refine lS 4 10 rfl rfl rfl ?_
  refine nH 0 10 rfl rfl rfl ?_
  refine lS 4 11 rfl rfl rfl ?_
  refine nH 0 11 rfl rfl rfl ?_
  refine lS 4 12 rfl rfl rfl ?_
  refine nH 0 12 rfl rfl rfl ?_
  refine lF ?_
  exact ⟨(kF,0,false),hz0,by simp [Fin,kF,bS,bC,cY,fP,dK,cM,jM,bI,gX,eK,aB]⟩
 have hll':((150:Int)<((l.length:Nat):Int))=False:=by simp;omega
 refine aRC hll' ?_
 refine fH rfl (fun h=>by cases h) (fun _=>iG ?_)
 have cst:=aB7 key
 obtain ⟨⟨s1,ok⟩,hs1,crp⟩:=aJc l (iB key) hll hlo (aIA hk)
 dsimp only at hs1 crp
 refine aCP (Z2 cst crp) ?_
 cases ok
 ·refine aTm ?_
  refine fH rfl (fun _=>?_) (fun h=>by cases h)
  refine oS ?_
  refine oB [4,5,6] (s1:=⟨[],[(4,.ptr 0 0),(5,.d (.int .i64 0)),(6,.d (.bool false))],[(0,.box zS)],1⟩) ?_ ?_
  ·exact eI
  refine lS 4 10 rfl rfl rfl ?_
  refine nH 0 10 rfl rfl rfl ?_
  refine lS 4 11 rfl rfl rfl ?_
  refine nH 0 11 rfl rfl rfl ?_
  refine lS 4 12 rfl rfl rfl ?_
  refine nH 0 12 rfl rfl rfl ?_
  refine lF ?_
  exact ⟨(kF,0,false),hz0,by simp [Fin,kF,bS,bC,cY,fP,dK,cM,jM,bI,gX,eK,aB]⟩
 refine aTm ?_
 refine fH rfl (fun h=>by cases h) (fun _=>iG ?_)
 refine lH ?_
 refine ⟨({ s1 with gA:=⟨ra,rb⟩ },((l.length:Nat):Int),true),?_,by simp [Fin]⟩
 obtain ⟨q1,q2,q3,q4,q5,q6,q7,q8,q9,q10,q11,q12⟩:=hs1
 exact ⟨q1,q2,q3,q4,q5,q6,q7,q8,q9,q10,hrab,q12⟩
theorem aOJ (n:Nat) (s:aT) (k t m:Int) (nm p d:List UInt8) (hs:dQ n s) (hn0:300<=n) (hn:n<=398):∃ a:kK,gB (n+2) a/\aE PP GG 30 [.agg (aT.q s),.agg (lU k t nm p d m)] (.tup (kY a)) [none,none]:=by
 refine cvD Tryz.func30 (α:=kK) 2 _ kY _ (fun _=>rfl) ?_
 have hno:∀ c:Int,0<=c->c<=100->gB (n+2) (s,c,0,[],[],[]):=fun c h1 h2=>⟨dQ.up hs (by omega),h1,h2⟩
 have cno:=fun c:Int=>gD s c
 have e0:aN []=[]:=rfl
 have ci:aE PP GG 12 [.d (.int .i64 k),.d (.int .i64 0),.d (.int .i64 13)] (.d (.bool (inB k 0 13))) [none,none,none]:=bA _ _ _
 cases hk:inB k 0 13
 rotate_left
 ·rw [hk] at ci
  have hk2:=cC hk
  have crr:=pS k t m nm p d _ rfl
  have cn:=cno 7
  cases hb:aF1 k t m nm p d
  ·rw [hb] at crr
   simp only [rrK,rrN,rrT,aIS,bB,aN,List.map_nil,if_neg,Bool.false_eq_true] at crr
   refine dJ (Z3 ci crr cn) ?_
   exact ⟨(s,7,0,[],[],[]),hno 7 (by omega) (by omega),by simp [Fin,e0]⟩
  have hrp:=(qQ (by unfold aF1 at hb;rw [Bool.and_eq_true] at hb;exact hb.2:jE k [t,m] [nm,p,d]=true)).2.2.2
  rw [hb] at crr
  simp only [rrK,rrN,rrT,if_pos] at crr
  obtain ⟨⟨da,db,ok⟩,hd,cap⟩:=aJV s.gA.nK s.gA.iF k [t,m] [nm,p,d] hs.dk (by simp) (by simp)
  dsimp only at hd cap
  have i1:=aW da
  have i2:=aW db
  have i3:=gU [t,m]
  have i4:=cD [nm,p,d]
  generalize bB [t,m]=nsD at *
  generalize aN [nm,p,d]=tsD at *
  cases ok
  ·refine dJ (Z4 ci crr cap cn) ?_
   exact ⟨(s,7,0,[],[],[]),hno 7 (by omega) (by omega),by simp [Fin,e0]⟩
  ·have hs2:dQ n { s with gA:=⟨da,db⟩ }:=by
    obtain ⟨q1,q2,q3,q4,q5,q6,q7,q8,q9,q10,q11,q12⟩:=hs
    exact ⟨q1,q2,q3,q4,q5,q6,q7,q8,q9,q10,hd,q12⟩
   obtain ⟨a,ha,cst⟩:=aFm n { s with gA:=⟨da,db⟩ } k t m nm p d hk2 hs2 (by omega) (hrp nm (by simp)) (hrp p (by simp)) (hrp d (by simp))
   refine dJ (Z4 ci crr cap cst) ?_
   exact ⟨a,ha,by simp [Fin]⟩
 rw [hk] at ci
 by_cases h14:k=14
 ·subst h14
  have csy:=aK9 s.gA.nK s.gA.iF hs.dk
  have i1:=aW (s.gA.nK++s.gA.iF)
  have hal:(s.gA.nK++s.gA.iF).length=s.gA.nK.length+s.gA.iF.length:=by simp
  have hbl:(aB s.gA.iF).length=s.gA.iF.length:=by simp [aB]
  have i2:=aW []
  generalize s.gA.nK++s.gA.iF=ab at *
  refine cI hbl (Z2 ci csy) ?_
  refine ⟨({ s with gA:=⟨ab,[]⟩ },0,((s.gA.iF.length:Nat):Int),[],[],[]),⟨?_,by dsimp only;omega,by dsimp only;omega⟩,by simp [Fin,e0]⟩
  obtain ⟨q1,q2,q3,q4,q5,q6,q7,q8,q9,q10,q11,q12⟩:=dQ.up hs (show n<=n+2 by omega)
  exact ⟨q1,q2,q3,q4,q5,q6,q7,q8,q9,q10,by dsimp only;simp;omega,q12⟩
 have h14':(k=14)=False:=by simp [h14]
 by_cases h15:k=15
 ·subst h15
  obtain ⟨cr,hcr,ccr⟩:=aLc s.gA.nK s.gA.iF m hs.dk
  obtain ⟨⟨s2,v,ok⟩,hs2,crb⟩:=aPs s.iP cr [] (by simpa using hcr) hs.ky
  dsimp only at hs2 crb
  have i1:=aW cr
  have i2:=aW []
  refine dJ (Z3 ci ccr crb) ?_
  exact ⟨(s2,0,v,[],[],[]),⟨dQ.up hs2 (by omega),by dsimp only;omega,by dsimp only;omega⟩,by simp [Fin,e0]⟩
 have h15':(k=15)=False:=by simp [h15]
 have cn:=cno 1
 refine cI (Y2 h14' h15') (Z2 ci cn) ?_
 exact ⟨(s,1,0,[],[],[]),hno 1 (by omega) (by omega),by simp [Fin,e0]⟩
theorem aMK (c:Cur) (l:List (List UInt8)) (hc:c.good) (hl:l≠[]) (hs:l.length<=100):aE PP GG 22 [.box c.o,.d (.slc 1 (aN l))] (.d (.str (fC c [] l).1)) [some (.box (fC c [] l).2.o),none]:=by
 refine cv Tryz.func22 [.d (.str (fC c [] l).1)] ?_
 have c1:=jP c l.length hc
 obtain ⟨k,hk,hg⟩:=vT c ([]:List UInt8) hl
 have e:(fC c [] l).2=(cF c l.length).2:=rfl
 rw [e]
 have hkl:=(List.getElem?_eq_some_iff.1 hg).1
 generalize (fC c [] l).1=v at *
 generalize (cF c l.length).2=c2 at *
 rw [hk] at c1
 exact eJ (Y3 @bO @eB hg) (Z1 c1)
theorem aJf (c:Cur) (r:dV) (hc:c.good) (hl:r.cP.length<=1048576):∃ a:Int×Cur,a.2.good/\aE PP GG 28 [.box c.o,.agg r.o] (.d (.int .i64 a.1)) [some (.box a.2.o),some (.agg r.o)]:=by
 refine cvD Tryz.func28 (α:=Int×Cur) 1 _ (fun a=>[.d (.int .i64 a.1)]) _ (fun _=>rfl) ?_
 obtain ⟨tk,nx,ws⟩:=r
 dsimp only at hl ⊢
 have hi0:=vV ws
 have hpk:∀ u:Cur,u.good->∃ q:Int×Cur,q.2.good/\aE PP GG 20 [.box u.o,.own 0 1 [[.int .i64 0],[.int .i64 1],[.int .i64 nx],[.int .i64 (-1)]]] (.d (.int .i64 q.1)) [some (.box q.2.o),none]:=fun u hu=>
  ⟨_,iL hu (0:Int) [0,1,nx,-1],uZ u [0,1,nx,-1] hu (by simp) (by simp)⟩
 by_cases h0:ws.length=0
 ·obtain ⟨q,hq,cq⟩:=hpk c hc
  have h0':((0:Int)<((ws.length:Nat):Int))=False:=by rw [h0];simp
  refine cI h0' (Z1 cq) ?_
  exact ⟨q,hq,by simp [Fin]⟩
 have h0':((0:Int)<((ws.length:Nat):Int))=True:=by simp;omega
 have c1:=qS c 6 hc
 have g1:=gI hc 6
 generalize fY c 6=o at *
 obtain ⟨o1,o2⟩:=o
 cases o1
 ·have c2:=jP o2 ws.length g1
  have g2:=eL g1 ws.length
  have r2:=iM o2 (n:=(ws.length:Nat)) (by omega)
  generalize cF o2 ws.length=b at *
  obtain ⟨b1,b2⟩:=b
  obtain ⟨k,rfl⟩:=Int.eq_ofNat_of_zero_le r2.1
  have hk:k<ws.length:=by dsimp only at r2;omega
  have hg:=List.getElem?_eq_getElem hk
  generalize ws[k]=t at hg
  obtain ⟨t1,t2,t3,t4,t5⟩:=t
  dsimp only at *
  refine cI (Y2 h0' hg) (Z2 c1 c2) ?_
  exact ⟨(t1,b2),g2,by simp [Fin]⟩
 ·obtain ⟨q,hq,cq⟩:=hpk o2 g1
  refine cI h0' (Z2 c1 cq) ?_
  exact ⟨q,hq,by simp [Fin]⟩
theorem aEx (c:Cur) (hc:c.good):∃ a:Int×Cur,a.2.good/\aE PP GG 24 [.box c.o] (.d (.int .i64 a.1)) [some (.box a.2.o)]:=by
 refine cvD Tryz.func24 (α:=Int×Cur) 1 _ (fun a=>[.d (.int .i64 a.1)]) _ (fun _=>rfl) ?_
 have c1:=jP c 64 hc
 have g1:=eL hc 64
 generalize cF c 64=x at *
 obtain ⟨x,c⟩:=x
 dsimp only at *
 have c2:=jP c 32 g1
 have g2:=eL g1 32
 generalize cF c 32=y at *
 obtain ⟨y,c⟩:=y
 dsimp only at *
 have c3:=uZ c [1,3,7,15,31,0,2,x,y,33] g2 (by simp) (by simp)
 have g3:=iL g2 (0:Int) [1,3,7,15,31,0,2,x,y,33]
 simp only [bB,List.map_cons,List.map_nil] at c3
 generalize fC c 0 [1,3,7,15,31,0,2,x,y,33]=q at *
 refine dJ (Z3 c1 c2 c3) ?_
 exact ⟨q,g3,by simp [Fin]⟩
def aMw:List (List UInt8):=[[111,112,115],[100,101,118],[114,111,111,116,49],[97]]
def aMx:List (List UInt8):=[[],[79,112,115],[97,98,99,100,101,102,103,104,105,106,107,108,109]]
theorem aCq (c:Cur) (hc:c.good):∃ a:List UInt8×Cur,(a.2.good/\a.1.length<=20)/\aE PP GG 23 [.box c.o,.d (.int .i64 0)] (.agg [.d (.str a.1),.own 0 2 []]) [some (.box a.2.o),none]:=by
 refine cvD Tryz.func23 (α:=List UInt8×Cur) 1 _ (fun a=>[.agg [.d (.str a.1),.own 0 2 []]]) _ (fun _=>rfl) ?_
 have c1:=uY c aMw hc (by decide) (by decide)
 have g1:=iL hc ([]:List UInt8) aMw
 have m1:=rY c ([]:List UInt8) (l:=aMw) (by decide)
 generalize fC c [] aMw=q1 at *
 obtain ⟨nm,u1⟩:=q1
 dsimp only at *
 have l1:nm.length<=20:=by
  simp only [aMw,List.mem_cons,List.not_mem_nil,or_false] at m1
  rcases m1 with rfl|rfl|rfl|rfl<;>decide
 simp only [aN,aMw,List.map_cons,List.map_nil] at c1
 have c2:=qS u1 25 g1
 have g2:=gI g1 25
 generalize fY u1 25=o at *
 obtain ⟨o,u2⟩:=o
 dsimp only at *
 have c3:=uY u2 aMx g2 (by decide) (by decide)
 have g3:=iL g2 ([]:List UInt8) aMx
 have m3:=rY u2 ([]:List UInt8) (l:=aMx) (by decide)
 generalize fC u2 [] aMx=q3 at *
 obtain ⟨nb,u3⟩:=q3
 dsimp only at *
 have l3:nb.length<=20:=by
  simp only [aMx,List.mem_cons,List.not_mem_nil,or_false] at m3
  rcases m3 with rfl|rfl|rfl<;>decide
 simp only [aN,aMx,List.map_cons,List.map_nil] at c3
 have c4:=qS u2 25 g2
 have g4:=gI g2 25
 generalize fY u2 25=o4 at *
 obtain ⟨o4,u4⟩:=o4
 have c5:=qS u3 25 g3
 have g5:=gI g3 25
 generalize fY u3 25=o5 at *
 obtain ⟨o5,u5⟩:=o5
 dsimp only at *
 refine dJ (Z1 c1) ?_
 refine fG (fun n st=>n=0/\st=⟨[],[(0,.ptr 0 0),(1,.d (.int .i64 0)),(4,.ptr 1 0),(5,.ptr 2 0),(6,.sl 3),(7,.d (.int .i64 0))],[(0,.box (aKZ u1)),(1,.box [.d (.str []),.nil 0 2]),(2,.box [.d (.str nm),.nil 0 2]),(3,.arr 0 0 1 [])],4⟩) _ ⟨rfl,?_⟩ ?_
 ·exact eI
 rintro n st ⟨rfl,rfl⟩
 refine lH ?_
 refine fG (fun n st=>n=0/\st=⟨[],[(0,.ptr 0 0),(4,.ptr 1 0),(5,.ptr 2 0),(6,.sl 3),(13,.d (.int .i64 0))],[(0,.box (aKZ u1)),(1,.box [.d (.str []),.nil 0 2]),(2,.box [.d (.str nm),.nil 0 2]),(3,.arr 0 0 1 [])],4⟩) _ ⟨rfl,?_⟩ ?_
 ·exact eI
 rintro n st ⟨rfl,rfl⟩
 cases o
 ·cases o4
  ·refine dJ (Z2 c2 c4) ?_
   exact ⟨(nm,u4),⟨g4,l1⟩,by simp [Fin]⟩
  ·refine dJ (Z2 c2 c4) ?_
   exact ⟨(nm,u4),⟨g4,l1⟩,by simp [Fin]⟩
 ·cases o5
  ·refine dJ (Z3 c2 c3 c5) ?_
   exact ⟨(nb,u5),⟨g5,l3⟩,by simp [Fin]⟩
  ·refine dJ (Z3 c2 c3 c5) ?_
   exact ⟨(nb,u5),⟨g5,l3⟩,by simp [Fin]⟩
theorem aJk (l:List rI):∀ row,row∈wD l->∀ d,d∈row->nG 0 d:=by
 intro row h d hd
 simp only [wD,List.mem_map] at h
 obtain ⟨x,_,rfl⟩:=h
 simp at hd
 rcases hd with rfl|rfl|rfl|rfl|rfl|rfl<;>trivial
theorem kJ (c:Cur) (n:Int) (hc:c.good):∃ a:Int×Cur,(a.2.good/\0<=a.1/\(0<n->a.1<n))/\aE PP GG 11 [.box c.o,.d (.int .i64 n)] (.d (.int .i64 a.1)) [some (.box a.2.o),none]:=
 ⟨cF c n,⟨eL hc n,(aJb c n).1,fun h=>(iM c h).2⟩,jP c n hc⟩
theorem aCE (c:Cur) (n:Int) (hc:c.good):∃ a:Bool×Cur,a.2.good/\aE PP GG 21 [.box c.o,.d (.int .i64 n)] (.d (.bool a.1)) [some (.box a.2.o),none]:=
 ⟨fY c n,gI hc n,qS c n hc⟩
theorem mV (c:Cur) (l:List Int) (hc:c.good) (hl:l≠[]) (hs:l.length<=100):∃ a:Int×Cur,a.2.good/\aE PP GG 20 [.box c.o,.own 0 1 (bB l)] (.d (.int .i64 a.1)) [some (.box a.2.o),none]:=
 ⟨fC c 0 l,iL hc _ _,uZ c l hc hl hs⟩
theorem rZ (c:Cur) (l:List (List UInt8)) (hc:c.good) (hl:l≠[]) (hs:l.length<=100):∃ a:List UInt8×Cur,a.2.good/\aE PP GG 22 [.box c.o,.own 0 1 (aN l)] (.d (.str a.1)) [some (.box a.2.o),none]:=
 ⟨fC c [] l,iL hc _ _,uY c l hc hl hs⟩
theorem vU (c:Cur) (l:List (List UInt8)) (hc:c.good) (hl:l≠[]) (hs:l.length<=100):∃ a:List UInt8×Cur,a.2.good/\aE PP GG 22 [.box c.o,.d (.slc 1 (aN l))] (.d (.str a.1)) [some (.box a.2.o),none]:=
 ⟨fC c [] l,iL hc _ _,aMK c l hc hl hs⟩
theorem aJa (c:Cur) (n:Int) (hc:c.good) (hn:n<=5000):∃ a:List UInt8×Cur,a.2.good/\aE PP GG 27 [.box c.o,.d (.int .i64 n)] (.own 0 1 (aB a.1)) [some (.box a.2.o),none]:=
 ⟨iE c n.toNat,aB6 hc _,aOy c n hc hn⟩
theorem aQw (c:Cur) (hc:c.good):∃ a:List UInt8×Cur,a.2.good/\aE PP GG 29 [.box c.o] (.d (.str a.1)) [some (.box a.2.o)]:=
 ⟨aFl c,aKA hc,aQv c hc⟩
def rqP:List (List UInt8):=[[97],[97,47,98],[98],[120,45,49,47,99]]
def rqG:List (List UInt8):=[[100,98,47,42],[107,118,47,42],[107,118,47,43],[107,118,47,97,47,42],[115,121,115,47,42]]
theorem aEv (c:Cur) (n:Nat) (hc:c.good) (hn:n<=4):∃ a:List rI×Cur,(a.2.good/\a.1.length=n)/\aE PP GG 10 [.box c.o,.d (.int .i64 7),.d (.int .i64 (n:Nat))] (.own 0 6 (wD a.1)) [some (.box a.2.o),none,none]:=by
 refine aBE (α:=List rI×Cur) 1 _ (fun a=>[.own 0 6 (wD a.1)]) _ (fun _=>rfl) (by kernel_rfl) ?_
 have cst:=aB7 7
 have hs0:dQ 0 (iB 7):=aIA (by simp [cH])
 generalize iB 7=s0 at cst hs0
 refine oS ?_
 refine oS ?_
 refine aCP (Z1 cst) ?_
 refine aPH @aJ.eq_1 ?_
 refine aS4 9 rfl rfl ?_
 refine lH ?_
 refine fG (fun q st=>∃ i:Nat,q=n-i/\i<=n/\∃ (s:aT) (u:Cur) (out:List rI),dQ (300+2*i) s/\u.good/\out.length=i/\st=⟨[],[(0,.ptr 0 0),(2,.d (.int .i64 (n:Nat))),(7,.sl 1),(8,.ptr 2 0),(9,.d (.slc 1 (aN rqP))),(10,.d (.int .i64 (i:Nat)))],[(0,.box (aKZ u)),(1,.arr 0 0 6 (wD out)),(2,.box (aT.bx s 3))]++aT.ob s 3,12⟩) _ ⟨0,rfl,by omega,s0,c,[],dQ.up hs0 (by omega),hc,rfl,?_⟩ ?_
 ·exact dL (Y3 @aN.eq_1 @rqP.eq_1 @wD.eq_1)
 clear cst
 rintro q st ⟨i,rfl,hi,s,u,out,hs,hu,ho,rfl⟩
 have hfit:=WI.fit hs.lv
 have hiq:=aJk out
 have hwi:IntKind.i64.wrap ((i:Int)+1)=(i:Int)+1:=aA (by omega) (by omega)
 by_cases hlt:i<n
 rotate_left
 ·have hlt2:((i:Int)<((n:Nat):Int))=False:=by simp;omega
  refine iD hlt2 ?_
  exact ⟨(out,u),⟨hu,by dsimp only;omega⟩,by simp [Fin]⟩
 have hlt2:((i:Int)<((n:Nat):Int))=True:=by simp;omega
 obtain ⟨⟨k,v1⟩,h1,e1⟩:=mV u [0,1,1,2,3,4,4,4,5,5,6,7,8,9,9,9,10,11,12,12,13,14,15] hu (by simp) (by simp)
 simp only [bB,List.map_cons,List.map_nil] at e1
 dsimp only at h1
 refine aRC hlt2 ?_
 refine fH rfl (fun _=>iG ?_) (fun h=>by cases h)
 refine gZ (?_)
 refine iA ?_
 refine aCP (Z1 e1) ?_
 refine nM [0,2,7,8,9,10,11] (fun st'=>∃ (t:Int) (u2:Cur),u2.good/\st'=⟨[],[(0,.ptr 0 0),(2,.d (.int .i64 (n:Nat))),(7,.sl 1),(8,.ptr 2 0),(9,.d (.slc 1 (aN rqP))),(10,.d (.int .i64 (i:Nat))),(11,.ptr 3 0)],[(0,.box (aKZ u2)),(1,.arr 0 0 6 (wD out)),(2,.box (aT.bx s 4)),(3,.box (rqA k t 0 [] [] []))]++aT.ob s 4,13⟩) ?_ ?_
 ·by_cases hk:1<s.aC.aD.aF.length
  rotate_left
  ·have hk':((1:Int)<((s.aC.aD.aF.length:Nat):Int))=False:=by simp;omega
   refine iD hk' ?_
   refine ⟨1,v1,h1,?_⟩
   exact eI
  have hk':((1:Int)<((s.aC.aD.aF.length:Nat):Int))=True:=by simp;omega
  have hfl:=hfit.1.1
  obtain ⟨⟨o,v2⟩,h2,e2⟩:=aCE v1 2 h1
  dsimp only at h2 e2
  cases o
  ·refine cI hk' (Z1 e2) ?_
   refine ⟨1,v2,h2,?_⟩
   exact eI
  obtain ⟨⟨b,v3⟩,⟨h3,h3a,h3b⟩,e3⟩:=kJ v2 ((s.aC.aD.aF.length:Nat):Int) h2
  dsimp only at h3 h3a h3b e3
  have h3c:=h3b (by omega)
  obtain ⟨j,rfl⟩:=Int.eq_ofNat_of_zero_le h3a
  have hj:j<s.aC.aD.aF.length:=by omega
  have hg:=List.getElem?_eq_getElem hj
  generalize s.aC.aD.aF[j]=tk at hg
  refine cI (Y2 hk' hg) (Z2 e2 e3) ?_
  refine ⟨tk.bU,v3,h3,?_⟩
  exact eI
 rintro st ⟨t,u2,g2,rfl⟩
 refine nM [0,2,7,8,9,10,11] (fun st'=>∃ (nm p d:List UInt8) (m:Int) (u3:Cur),u3.good/\st'=⟨[],[(0,.ptr 0 0),(2,.d (.int .i64 (n:Nat))),(7,.sl 1),(8,.ptr 2 0),(9,.d (.slc 1 (aN rqP))),(10,.d (.int .i64 (i:Nat))),(11,.ptr 3 0)],[(0,.box (aKZ u3)),(1,.arr 0 0 6 (wD out)),(2,.box (aT.bx s 4)),(3,.box (rqA k t m nm p d))]++aT.ob s 4,13⟩) ?_ ?_
 ·clear e1
  by_cases k0:k=0
  ·subst k0
   obtain ⟨⟨nm,v1⟩,h1,e1⟩:=rZ u2 [[100,101,118],[111,112,115],[119,101,98],[122,122],[114,111,111,116]] g2 (by simp) (by simp)
   simp only [aN,List.map_cons,List.map_nil] at e1
   dsimp only at h1
   obtain ⟨⟨pn,v2⟩,⟨h2,hpn⟩,e2⟩:=aCq v1 h1
   dsimp only at h2 hpn e2
   refine dJ (Z2 e1 e2) ?_
   refine fG (fun q st=>∃ j:Nat,q=5-j/\j<=5/\∃ (rs:List kQ) (v:Cur),v.good/\rs.length<=j/\(∀ r,r∈rs->r.aAP.length<=6) ∧
    st=⟨[],[(0,.ptr 0 0),(2,.d (.int .i64 (n:Nat))),(7,.sl 1),(8,.ptr 2 0),(9,.d (.slc 1 (aN rqP))),(10,.d (.int .i64 (i:Nat))),(11,.ptr 3 0),(13,.ptr 4 0),(14,.sl 5),(15,.d (.int .i64 (j:Nat)))],[(0,.box (aKZ v)),(1,.arr 0 0 6 (wD out)),(2,.box (aT.bx s 6)),(3,.box (rqA 0 t 0 nm [] [])),(4,.box [.d (.str pn),.sl 15]),(5,.arr 0 0 1 (aN rqG))]++aT.ob s 6++[(15,.arr 0 0 2 (gM rs))],16⟩) _ ⟨0,rfl,by omega,[],v2,h2,by simp,by simp,?_⟩ ?_
   ·exact dL (Y3 @gM.eq_1 @aN.eq_1 @rqG.eq_1)
   rintro q st ⟨j,rfl,hj,rs,v,hv,h3,h4,rfl⟩
   have hwj:IntKind.i64.wrap ((j:Int)+1)=(j:Int)+1:=aA (by omega) (by omega)
   have hir:=pO rs
   have hgl:(aN rqG).length=5:=rfl
   by_cases hlt:j<5
   rotate_left
   ·have hie:j=5:=by omega
    subst hie
    obtain ⟨⟨dt,ok⟩,-,ept⟩:=aBa ⟨pn,rs⟩ ⟨by dsimp only;omega,by dsimp only;omega,fun r hr=>by have:=h4 r hr;omega⟩
    dsimp only at ept
    have hq:((5:Int)<5)=False:=by simp
    refine cI (Y2 hgl hq) (Z1 ept) ?_
    refine ⟨nm,[],dt,0,v,hv,?_⟩
    exact eI
   have hlt2:((j:Int)<5)=True:=by simp;omega
   obtain ⟨gl,hgj,hgll⟩:∃ gl:List UInt8,(aN rqG)[j]?=some [.str gl]/\gl.length<=6:=by
    match j,hlt with
    |0,_=>exact ⟨_,rfl,by decide⟩
    |1,_=>exact ⟨_,rfl,by decide⟩
    |2,_=>exact ⟨_,rfl,by decide⟩
    |3,_=>exact ⟨_,rfl,by decide⟩
    |4,_=>exact ⟨_,rfl,by decide⟩
   obtain ⟨⟨oo,v3⟩,h5,e3⟩:=aCE v 2 hv
   dsimp only at h5 e3
   cases oo
   ·refine cI (Y2 hgl hlt2) (Z1 e3) ?_
    refine ⟨5-(j+1),by omega,j+1,rfl,hlt,rs,v3,h5,by omega,h4,?_⟩
    exact dL hwj
   ·obtain ⟨⟨cp,v4⟩,h6,e4⟩:=aEx v3 h5
    dsimp only at h6 e4
    refine cI (Y4 hgl hlt2 hgj @aJ.eq_1) (Z2 e3 e4) ?_
    refine ⟨5-(j+1),by omega,j+1,rfl,hlt,rs++[⟨gl,cp⟩],v4,h6,by simp;omega,fun r hr=>?_,?_⟩
    ·rcases List.mem_append.1 hr with hr|hr
     ·exact h4 r hr
     ·simp at hr;subst hr;exact hgll
    ·exact dL (Y2 hwj @gM.eq_1)
  have k0':(k=0)=False:=by simp [k0]
  by_cases k1:k=1
  ·subst k1
   obtain ⟨⟨dt,v1⟩,h1,e1⟩:=rZ u2 [[100,101,118],[100,101,118,44,111,112,115],[111,112,115,44,119,101,98],[114,111,111,116],[],[100,101,118,44,114,111,111,116],[119,101,98],[111,112,115,44,100,101,118]] g2 (by simp) (by simp)
   simp only [aN,List.map_cons,List.map_nil] at e1
   dsimp only at h1
   obtain ⟨⟨a,v2⟩,⟨h2,h2a,h2b⟩,e2⟩:=kJ v1 30 h1
   dsimp only at h2 h2a h2b e2
   obtain ⟨⟨b,v3⟩,⟨h3,h3a,h3b⟩,e3⟩:=kJ v2 30 h2
   dsimp only at h3 h3a h3b e3
   have hwa:IntKind.i64.wrap (1+a)=1+a:=aA (by omega) (by have:=h2b (by omega);omega)
   have hwb:IntKind.i64.wrap (1+b)=1+b:=aA (by omega) (by have:=h3b (by omega);omega)
   obtain ⟨⟨m,v4⟩,h4,e4⟩:=mV v3 [0,1+a,1+b] h3 (by simp) (by simp)
   simp only [bB,List.map_cons,List.map_nil] at e4
   dsimp only at h4
   refine cI (Y2 hwa hwb) (Z4 e1 e2 e3 e4) ?_
   refine ⟨[],[],dt,m,v4,h4,?_⟩
   exact dL (Y2 hwa hwb)
  have k1':(k=1)=False:=by simp [k1]
  by_cases k2:k=2
  ·subst k2
   obtain ⟨⟨m,v1⟩,h1,e1⟩:=aJg u2 s.aC.aD g2 hfit.1.1
   dsimp only at h1 e1
   by_cases hm:m=1
   rotate_left
   ·have hm':(m=1)=False:=by simp [hm]
    refine cI hm' (Z1 e1) ?_
    refine ⟨[],[],[],m,v1,h1,?_⟩
    exact eI
   subst hm
   obtain ⟨⟨o,v2⟩,h2,e2⟩:=aCE v1 8 h1
   dsimp only at h2 e2
   cases o
   ·refine dJ (Z2 e1 e2) ?_
    refine ⟨[],[],[],0,v2,h2,?_⟩
    exact eI
   ·refine dJ (Z2 e1 e2) ?_
    refine ⟨[],[],[],1,v2,h2,?_⟩
    exact eI
  have k2':(k=2)=False:=by simp [k2]
  by_cases k3:k=3
  ·subst k3
   obtain ⟨⟨m,v1⟩,⟨h1,h1a,h1b⟩,e1⟩:=kJ u2 30 g2
   dsimp only at h1 h1a h1b e1
   refine dJ (Z1 e1) ?_
   refine ⟨[],[],[],m,v1,h1,?_⟩
   exact eI
  have k3':(k=3)=False:=by simp [k3]
  by_cases k4:k=4
  ·subst k4
   obtain ⟨⟨p,v1⟩,h1,e1⟩:=vU u2 rqP g2 (by simp [rqP]) (by simp [rqP])
   dsimp only at h1 e1
   obtain ⟨⟨q,v2⟩,⟨h2,h2a,h2b⟩,e2⟩:=kJ v1 6 h1
   dsimp only at h2 h2a h2b e2
   obtain ⟨⟨dt,v3⟩,h3,e3⟩:=aJa v2 q h2 (by have:=h2b (by omega);omega)
   dsimp only at h3 e3
   have jv3:=aW dt
   obtain ⟨⟨m,v4⟩,h4,e4⟩:=mV v3 [(-1),(-1),0,1] h3 (by simp) (by simp)
   simp only [bB,List.map_cons,List.map_nil] at e4
   dsimp only at h4
   refine cI @fA (Z4 e1 e2 e3 e4) ?_
   refine ⟨[],p,dt,m,v4,h4,?_⟩
   exact dL @fA
  have k4':(k=4)=False:=by simp [k4]
  by_cases k5:k=5
  ·subst k5
   obtain ⟨⟨p,v1⟩,h1,e1⟩:=vU u2 rqP g2 (by simp [rqP]) (by simp [rqP])
   dsimp only at h1 e1
   obtain ⟨⟨m,v2⟩,h2,e2⟩:=mV v1 [0,0,1,2] h1 (by simp) (by simp)
   simp only [bB,List.map_cons,List.map_nil] at e2
   dsimp only at h2
   refine dJ (Z2 e1 e2) ?_
   refine ⟨[],p,[],m,v2,h2,?_⟩
   exact eI
  have k5':(k=5)=False:=by simp [k5]
  by_cases k6:k=6
  ·subst k6
   obtain ⟨⟨p,v1⟩,h1,e1⟩:=vU u2 rqP g2 (by simp [rqP]) (by simp [rqP])
   dsimp only at h1 e1
   obtain ⟨⟨m,v2⟩,h2,e2⟩:=mV v1 [0,0,1,2] h1 (by simp) (by simp)
   simp only [bB,List.map_cons,List.map_nil] at e2
   dsimp only at h2
   refine dJ (Z2 e1 e2) ?_
   refine ⟨[],p,[],m,v2,h2,?_⟩
   exact eI
  have k6':(k=6)=False:=by simp [k6]
  by_cases k7:k=7
  ·subst k7
   obtain ⟨⟨p,v1⟩,h1,e1⟩:=rZ u2 [[],[97],[120,45,49],[97,47,42]] g2 (by simp) (by simp)
   simp only [aN,List.map_cons,List.map_nil] at e1
   dsimp only at h1
   refine dJ (Z1 e1) ?_
   refine ⟨[],p,[],0,v1,h1,?_⟩
   exact eI
  have k7':(k=7)=False:=by simp [k7]
  by_cases k8:k=8
  ·subst k8
   obtain ⟨⟨nm,v1⟩,h1,e1⟩:=rZ u2 [[100,98],[119,101,98]] g2 (by simp) (by simp)
   simp only [aN,List.map_cons,List.map_nil] at e1
   dsimp only at h1
   obtain ⟨⟨dt,v2⟩,h2,e2⟩:=rZ v1 [[117],[115,118,99],[],[116,111,111,108,111,110,103,112,114,101,102,105,120]] h1 (by simp) (by simp)
   simp only [aN,List.map_cons,List.map_nil] at e2
   dsimp only at h2
   obtain ⟨⟨a,v3⟩,⟨h3,h3a,h3b⟩,e3⟩:=kJ v2 20 h2
   dsimp only at h3 h3a h3b e3
   have hwa:IntKind.i64.wrap (1+a)=1+a:=aA (by omega) (by have:=h3b (by omega);omega)
   refine cI hwa (Z3 e1 e2 e3) ?_
   refine ⟨nm,[],dt,(1+a),v3,h3,?_⟩
   exact dL hwa
  have k8':(k=8)=False:=by simp [k8]
  by_cases k9:k=9
  ·subst k9
   obtain ⟨⟨nm,v1⟩,h1,e1⟩:=rZ u2 [[100,98],[100,98],[119,101,98]] g2 (by simp) (by simp)
   simp only [aN,List.map_cons,List.map_nil] at e1
   dsimp only at h1
   refine dJ (Z1 e1) ?_
   refine ⟨nm,[],[],0,v1,h1,?_⟩
   exact eI
  have k9':(k=9)=False:=by simp [k9]
  by_cases k10:k=10
  ·subst k10
   obtain ⟨⟨p,v1⟩,h1,e1⟩:=vU u2 rqP g2 (by simp [rqP]) (by simp [rqP])
   dsimp only at h1 e1
   obtain ⟨⟨m,v2⟩,⟨h2,h2a,h2b⟩,e2⟩:=kJ v1 30 h1
   dsimp only at h2 h2a h2b e2
   refine dJ (Z2 e1 e2) ?_
   refine ⟨[],p,[],m,v2,h2,?_⟩
   exact eI
  have k10':(k=10)=False:=by simp [k10]
  by_cases k11:k=11
  ·subst k11
   have hrk:=hs.rk
   have hrw:s.fZ.cP.length<=s.fZ.cost:=by unfold dV.cost;omega
   obtain ⟨⟨m,v1⟩,h1,e1⟩:=aJf u2 s.fZ g2 (by omega)
   dsimp only at h1 e1
   refine dJ (Z1 e1) ?_
   refine ⟨[],[],[],m,v1,h1,?_⟩
   exact eI
  have k11':(k=11)=False:=by simp [k11]
  by_cases k12:k=12
  ·subst k12
   obtain ⟨⟨m,v1⟩,⟨h1,h1a,h1b⟩,e1⟩:=kJ u2 12 g2
   dsimp only at h1 h1a h1b e1
   refine dJ (Z1 e1) ?_
   refine ⟨[],[],[],m,v1,h1,?_⟩
   exact eI
  have k12':(k=12)=False:=by simp [k12]
  by_cases k13:k=13
  ·subst k13
   obtain ⟨⟨m,v1⟩,h1,e1⟩:=mV u2 [0,0,1,3,12] g2 (by simp) (by simp)
   simp only [bB,List.map_cons,List.map_nil] at e1
   dsimp only at h1
   refine dJ (Z1 e1) ?_
   refine ⟨[],[],[],m,v1,h1,?_⟩
   exact eI
  have k13':(k=13)=False:=by simp [k13]
  by_cases k15:k=15
  ·subst k15
   have hdk:=hs.dk
   have hwd:IntKind.i64.wrap (1+((s.gA.iF.length:Nat):Int))=1+((s.gA.iF.length:Nat):Int):=aA (by omega) (by omega)
   obtain ⟨⟨m,v1⟩,⟨h1,h1a,h1b⟩,e1⟩:=kJ u2 (1+((s.gA.iF.length:Nat):Int)) g2
   dsimp only at h1 h1a h1b e1
   refine cI (Y2 @qC hwd) (Z1 e1) ?_
   refine ⟨[],[],[],m,v1,h1,?_⟩
   exact dL (Y2 @qC hwd)
  have k15':(k=15)=False:=by simp [k15]
  refine iD (Y15 k0' k1' k2' k3' k4' k5' k6' k7' k8' k9' k10' k11' k12' k13' k15') ?_
  refine ⟨[],[],[],0,u2,g2,?_⟩
  exact eI
 rintro st ⟨nm,p,d,m,u3,g3,rfl⟩
 refine nM [0,2,7,8,9,10,11] (fun st'=>∃ (k1 t1 m1:Int) (n1 p1 d1:List UInt8) (u4:Cur),u4.good/\st'=⟨[],[(0,.ptr 0 0),(2,.d (.int .i64 (n:Nat))),(7,.sl 1),(8,.ptr 2 0),(9,.d (.slc 1 (aN rqP))),(10,.d (.int .i64 (i:Nat))),(11,.ptr 3 0)],[(0,.box (aKZ u4)),(1,.arr 0 0 6 (wD out)),(2,.box (aT.bx s 4)),(3,.box (rqA k1 t1 m1 n1 p1 d1))]++aT.ob s 4,13⟩) ?_ ?_
 ·clear e1
  obtain ⟨⟨o,v1⟩,h1,e1⟩:=aCE u3 40 g3
  dsimp only at h1 e1
  cases o
  ·refine dJ (Z1 e1) ?_
   refine ⟨k,t,m,nm,p,d,v1,h1,?_⟩
   exact eI
  obtain ⟨⟨q,v2⟩,⟨h2,h2a,h2b⟩,e2⟩:=kJ v1 5 h1
  dsimp only at h2 h2a h2b e2
  by_cases q0:q=0
  ·subst q0
   obtain ⟨⟨z,v3⟩,h3,e3⟩:=mV v2 [(-1),16] h2 (by simp) (by simp)
   simp only [bB,List.map_cons,List.map_nil] at e3
   dsimp only at h3
   refine dJ (Z3 e1 e2 e3) ?_
   refine ⟨z,t,m,nm,p,d,v3,h3,?_⟩
   exact eI
  have q0':(q=0)=False:=by simp [q0]
  by_cases q1:q=1
  ·subst q1
   obtain ⟨⟨z,v3⟩,h3,e3⟩:=mV v2 [0,(-1),99,1099511627777] h2 (by simp) (by simp)
   simp only [bB,List.map_cons,List.map_nil] at e3
   dsimp only at h3
   refine dJ (Z3 e1 e2 e3) ?_
   refine ⟨k,z,m,nm,p,d,v3,h3,?_⟩
   exact eI
  have q1':(q=1)=False:=by simp [q1]
  by_cases q2:q=2
  ·subst q2
   obtain ⟨⟨z,v3⟩,h3,e3⟩:=mV v2 [(-1),1000000001,1099511627776,9223372036854775807] h2 (by simp) (by simp)
   simp only [bB,List.map_cons,List.map_nil] at e3
   dsimp only at h3
   refine dJ (Z3 e1 e2 e3) ?_
   refine ⟨k,t,z,nm,p,d,v3,h3,?_⟩
   exact eI
  have q2':(q=2)=False:=by simp [q2]
  by_cases q3:q=3
  ·subst q3
   obtain ⟨⟨z,v3⟩,h3,e3⟩:=aQw v2 h2
   dsimp only at h3 e3
   refine dJ (Z3 e1 e2 e3) ?_
   refine ⟨k,t,m,nm,z,d,v3,h3,?_⟩
   exact eI
  have q3':(q=3)=False:=by simp [q3]
  by_cases q4:q=4
  ·subst q4
   obtain ⟨⟨q,v3⟩,⟨h3,h3a,h3b⟩,e3⟩:=kJ v2 2 h2
   dsimp only at h3 h3a h3b e3
   have hwq:IntKind.i64.wrap (300+q)=300+q:=aA (by omega) (by have:=h3b (by omega);omega)
   obtain ⟨⟨z,v4⟩,h4,e4⟩:=aJa v3 (300+q) h3 (by have:=h3b (by omega);omega)
   dsimp only at h4 e4
   have jv4:=aW z
   refine cI (Y2 hwq @fA) (Z4 e1 e2 e3 e4) ?_
   refine ⟨k,t,m,nm,p,z,v4,h4,?_⟩
   exact dL (Y2 hwq @fA)
  have q4':(q=4)=False:=by simp [q4]
  exact absurd (h2b (by omega)) (by omega)
 rintro st ⟨k1,t1,m1,n1,p1,d1,u4,g4,rfl⟩
 clear e1
 obtain ⟨⟨s2,q1,q2,q3,q4,q5⟩,⟨hs2,-,-⟩,cst⟩:=aOJ (300+2*i) s k1 t1 m1 n1 p1 d1 hs (by omega) (by omega)
 dsimp only at hs2 cst
 have hrl:=cD q5
 refine cI @aJ.eq_1 (Z1 cst) ?_
 refine ⟨n-(i+1),by omega,i+1,rfl,hlt,s2,u4,out++[⟨k1,t1,n1,p1,d1,m1⟩],dQ.up hs2 (by omega),g4,by simp;omega,?_⟩
 exact dL (Y2 hwi @wD.eq_1)
theorem aCw (code:List UInt8) (hl:code.length<=1048577):∃ r:rI,True/\aE PP GG 5 [.d (.slc 1 (aB code))] (.agg r.c) [none]:=by
 refine cvD Tryz.func5 (α:=rI) 1 _ (fun r=>[.agg r.c]) _ (fun _=>rfl) ?_
 have c1:=aSm code hl
 have g1:=aML hl
 generalize aKD code=u at *
 obtain ⟨⟨b,u1⟩,⟨h1,h1a,h1b⟩,e1⟩:=kJ u 4 g1
 dsimp only at h1 h1a h1b e1
 have h1c:=h1b (by omega)
 have hw:IntKind.i64.wrap (1+b)=1+b:=aA (by omega) (by omega)
 obtain ⟨m,hm⟩:∃ m:Nat,1+b=(m:Int):=⟨(1+b).toNat,by omega⟩
 obtain ⟨⟨l,u2⟩,⟨h2,h2l⟩,e2⟩:=aEv u1 m h1 (by omega)
 dsimp only at h2 h2l e2
 rw [<-hm] at e2
 have hil:=aJk l
 obtain rfl:m=l.length:=by omega
 have hw2:IntKind.i64.wrap (((l.length:Nat):Int)-1)=((l.length-1:Nat):Int):=by rw [aA (by omega) (by omega)];omega
 have hge:((0:Int)<=((l.length-1:Nat):Int))=True:=by simp
 have hlt:(((l.length-1:Nat):Int)<((l.length:Nat):Int))=True:=by simp;omega
 have hn2:(((l.length-1:Nat):Int)).toNat=l.length-1:=by simp
 have ha:=List.getElem?_eq_getElem (show l.length-1<l.length by omega)
 generalize l[l.length-1]=x at ha
 have hax:(wD l)[l.length-1]?=some x.row:=by rw [aN3,ha];rfl
 repeat' (first|refine lF ?_|refine gZ ?_|refine iG ?_|refine iA ?_|refine kE ?_|refine cG rfl ?_|refine cU rfl ?_|((first|refine jD fun K hK=>?_|refine gQ fun K hK=>?_|with_reducible refine aI (c1) ?_|with_reducible refine aI (e1) ?_|with_reducible refine aI (e2) ?_);simp [Fin,hw,hw2,hge,hlt,hn2,hax])|(with_reducible refine hK _ ?_;clear hK K)|(with_reducible refine aM (fun h=>?_) (fun h=>?_)<;>first|(exfalso;simp at h;first|done|omega|contradiction)|((try simp at h);simp [hw,hw2,hge,hlt,hn2,hax]))|with_reducible refine And.intro ?_ ?_|with_reducible exact aS rfl|with_reducible assumption|(refine fH rfl (fun h=>?_) (fun h=>?_)<;>first|(exfalso;simp at h;first|done|omega|contradiction)|(exfalso;simp_all;done)|(try simp at h))|omega)
 all_goals exact ⟨x,trivial,by simp [Fin]⟩
theorem aNW {k t m:Int} {n p d:List UInt8} (h:aF1 k t m n p d=true):qP k [t,m] [n,p,d]=true:=by
 unfold aF1 at h
 unfold qP
 simp only [Bool.and_eq_true,decide_eq_true_eq] at h ⊢
 exact ⟨h.2,h.1.1,h.1.2,rfl,rfl⟩
theorem aDt (code:List UInt8) (hl:code.length<=maxLen):aE PP GG 3 [.d (.slc 1 (aB code))] (.d (.bool true)) [none]:=by
 refine cv Tryz.func3 [.d (.bool true)] ?_
 have cb:=aSP code hl
 by_cases hbig:1048576<code.length
 ·rw [decide_eq_true hbig] at cb
  exact qX (Z1 cb)
 rw [decide_eq_false hbig] at cb
 obtain ⟨⟨k,t,nm,p,d,m⟩,-,cd⟩:=aCw code (by omega)
 cases hb:aF1 k t m nm p d
 ·have cs:=pS k t m nm p d _ hb
  simp only [rrK,rrN,rrT,aIS,bB,aN,List.map_nil,Bool.false_eq_true,if_false] at cs
  exact qX (Z3 cb cd cs)
 ·have cs:=pS k t m nm p d _ hb
  have ci:=aDG k t m nm p d _ hb
  have cr:=(aDH k [t,m] [nm,p,d] (by simp) (by simp)).2 t m nm p d rfl rfl (aNW hb)
  have i3:=gU [t,m]
  have i4:=cD [nm,p,d]
  simp only [rrK,rrN,rrT,if_true] at cs ci
  generalize bB [t,m]=nsD at *
  generalize aN [nm,p,d]=tsD at *
  exact qX (Z5 cb cd cs ci cr)
end Go.Proofs.YtiejbbcpihpgpaaGreat.Ab
