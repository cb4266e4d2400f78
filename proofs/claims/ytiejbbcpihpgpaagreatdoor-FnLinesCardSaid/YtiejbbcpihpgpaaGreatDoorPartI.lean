/-
  A part of a proof about the given program; what is proved is said where each theorem stands.
-/
import Derived.Test.YtiejbbcpihpgpaaGreatDoorPartH
namespace Go.Proofs
end Go.Proofs
set_option linter.unusedSimpArgs false
set_option linter.unusedVariables false
set_option maxRecDepth 100000
set_option maxHeartbeats 2000000
namespace Go.Proofs.YtiejbbcpihpgpaaGreatDoor.Ab
open Go.Proofs
theorem aR9 (key:Int) (a b:List UInt8) (hab:a.length+b.length<=40000) (hk:aX key):∃ r:aV×Int×Bool,eD 300 r.1 ∧
  aC PP GG 82 [.d (.int .i64 key),.agg [.own 0 1 (aB a),.own 0 1 (aB b)]] (.tup [.agg (aV.q r.1),.d (.int .i64 r.2.1),.d (.bool r.2.2)]) [none,none]:=by
 refine cvD Tryz.func82 (α:=aV×Int×Bool) 3 _ (fun r=>[.agg (aV.q r.1),.d (.int .i64 r.2.1),.d (.bool r.2.2)]) _ (fun _=>rfl) ?_
 obtain ⟨⟨ra,rb,ok⟩,hrab,cre⟩:=aLX a b hab
 dsimp only at hrab cre
 have ckey:=iI key
 have i1:=aZ ra
 have i2:=aZ rb
 have i3:=aZ a
 have i4:=aZ b
 have hz0:eD 300 kZ:=eD.up aSi (by omega)
 refine rE ?_
 refine aD3 (Z1 cre) ?_
 cases hkb:lT key
 ·rw [hkb] at ckey
  refine aUB (Z1 ckey) ?_
  refine dN rfl (fun _=>?_) (fun h=>by cases h)
  refine rE ?_
  refine pH [4,5,6] (s1:=⟨[],[(4,.ptr 0 0),(5,.d (.int .i64 0)),(6,.d (.bool false))],[(0,.box zS)],1⟩) ?_ ?_
  ·exact fI
  refine mR 4 10 rfl rfl rfl ?_
  refine oC 0 10 rfl rfl rfl ?_
  refine mR 4 11 rfl rfl rfl ?_
  refine oC 0 11 rfl rfl rfl ?_
  refine mR 4 12 rfl rfl rfl ?_
  refine oC 0 12 rfl rfl rfl ?_
  refine gH ?_
  exact ⟨(kZ,0,false),hz0,by simp [Fin,kZ,cA,bG,dG,gM,dW,cV,kP,bL,jA,fD,aB]⟩
 rw [hkb] at ckey
 cases ok
 ·refine aUB (Z1 ckey) ?_
  refine dN rfl (fun _=>?_) (fun h=>by cases h)
  refine rE ?_
  refine pH [4,5,6] (s1:=⟨[],[(4,.ptr 0 0),(5,.d (.int .i64 0)),(6,.d (.bool false))],[(0,.box zS)],1⟩) ?_ ?_
  ·exact fI
  refine mR 4 10 rfl rfl rfl ?_
  refine oC 0 10 rfl rfl rfl ?_
  refine mR 4 11 rfl rfl rfl ?_
  refine oC 0 11 rfl rfl rfl ?_
  refine mR 4 12 rfl rfl rfl ?_
  refine oC 0 12 rfl rfl rfl ?_
  refine gH ?_
  exact ⟨(kZ,0,false),hz0,by simp [Fin,kZ,cA,bG,dG,gM,dW,cV,kP,bL,jA,fD,aB]⟩
 refine aUB (Z1 ckey) ?_
 refine dN rfl (fun h=>by cases h) (fun _=>eC ?_)
 obtain ⟨⟨l,c⟩,hl⟩:∃ q,aTo ra rb=q:=⟨_,rfl⟩
 have crl:=aHJ ra rb l c hl (by omega)
 have hlo:∀ r,r∈l->r.2.1.length<=40/\r.2.2.length<=40:=by
  unfold aTo at hl
  split at hl
  ·cases hl;exact (aKD (ra++rb)).2
  ·rename_i hx
   exact absurd hrab hx
 have hir:=aBD l
 refine aD3 (Z1 crl) ?_
 by_cases hll:l.length<=150
 rotate_left
 ·have hll':((150:Int)<((l.length:Nat):Int))=True:=by simp;omega
  refine aSq hll' ?_
  refine dN rfl (fun _=>?_) (fun h=>by cases h)
  refine rE ?_
  refine pH [4,5,6] (s1:=⟨[],[(4,.ptr 0 0),(5,.d (.int .i64 0)),(6,.d (.bool false))],[(0,.box zS)],1⟩) ?_ ?_
  ·exact fI
  refine mR 4 10 rfl rfl rfl ?_
  refine oC 0 10 rfl rfl rfl ?_
  refine mR 4 11 rfl rfl rfl ?_
  refine oC 0 11 rfl rfl rfl ?_
  refine mR 4 12 rfl rfl rfl ?_
  refine oC 0 12 rfl rfl rfl ?_
  refine gH ?_
  exact ⟨(kZ,0,false),hz0,by simp [Fin,kZ,cA,bG,dG,gM,dW,cV,kP,bL,jA,fD,aB]⟩
 have hll':((150:Int)<((l.length:Nat):Int))=False:=by simp;omega
 refine aSq hll' ?_
 refine dN rfl (fun h=>by cases h) (fun _=>eC ?_)
 have cst:=aDg key
 obtain ⟨⟨s1,ok⟩,hs1,crp⟩:=aLe l (iP key) hll hlo (aKt hk)
 dsimp only at hs1 crp
 refine aD3 (Z2 cst crp) ?_
 cases ok
 ·refine aWl ?_
  refine dN rfl (fun _=>?_) (fun h=>by cases h)
  refine rE ?_
  refine pH [4,5,6] (s1:=⟨[],[(4,.ptr 0 0),(5,.d (.int .i64 0)),(6,.d (.bool false))],[(0,.box zS)],1⟩) ?_ ?_
  ·exact fI
  refine mR 4 10 rfl rfl rfl ?_
  refine oC 0 10 rfl rfl rfl ?_
  refine mR 4 11 rfl rfl rfl ?_
  refine oC 0 11 rfl rfl rfl ?_
  refine mR 4 12 rfl rfl rfl ?_
  refine oC 0 12 rfl rfl rfl ?_
  refine gH ?_
  exact ⟨(kZ,0,false),hz0,by simp [Fin,kZ,cA,bG,dG,gM,dW,cV,kP,bL,jA,fD,aB]⟩
 refine aWl ?_
 refine dN rfl (fun h=>by cases h) (fun _=>eC ?_)
 refine mG ?_
 refine ⟨({ s1 with gY:=⟨ra,rb⟩ },((l.length:Nat):Int),true),?_,by simp [Fin]⟩
 obtain ⟨q1,q2,q3,q4,q5,q6,q7,q8,q9,q10,q11,q12⟩:=hs1
 exact ⟨q1,q2,q3,q4,q5,q6,q7,q8,q9,q10,hrab,q12⟩
theorem aRl (n:Nat) (s:aV) (k t m:Int) (nm p d:List UInt8) (hs:eD n s) (hn0:300<=n) (hn:n<=398):∃ a:lM,gZ (n+2) a/\aC PP GG 58 [.agg (aV.q s),.agg (qP k t nm p d m)] (.tup (lZ a)) [none,none]:=by
 refine cvD Tryz.func58 (α:=lM) 2 _ lZ _ (fun _=>rfl) ?_
 have hno:∀ c:Int,0<=c->c<=100->gZ (n+2) (s,c,0,[],[],[]):=fun c h1 h2=>⟨eD.up hs (by omega),h1,h2⟩
 have cno:=fun c:Int=>iD s c
 have e0:aK []=[]:=rfl
 have ci:aC PP GG 20 [.d (.int .i64 k),.d (.int .i64 0),.d (.int .i64 13)] (.d (.bool (inB k 0 13))) [none,none,none]:=bD _ _ _
 cases hk:inB k 0 13
 rotate_left
 ·rw [hk] at ci
  have hk2:=cD hk
  have crr:=aEd k t m nm p d _ rfl
  have cn:=cno 7
  cases hb:aSS k t m nm p d
  ·rw [hb] at crr
   simp only [rrK,rrN,rrT,aUV,bM,aK,List.map_nil,if_neg,Bool.false_eq_true] at crr
   refine eA (Z3 ci crr cn) ?_
   exact ⟨(s,7,0,[],[],[]),hno 7 (by omega) (by omega),by simp [Fin,e0]⟩
  have hrp:=(sJ (by unfold aSS at hb;rw [Bool.and_eq_true] at hb;exact hb.2:mN k [t,m] [nm,p,d]=true)).2.2.2
  rw [hb] at crr
  simp only [rrK,rrN,rrT,if_pos] at crr
  obtain ⟨⟨da,db,ok⟩,hd,cap⟩:=aL2 s.gY.oH s.gY.jF k [t,m] [nm,p,d] hs.dk (by simp) (by simp)
  dsimp only at hd cap
  have i1:=aZ da
  have i2:=aZ db
  have i3:=jE [t,m]
  have i4:=cC [nm,p,d]
  generalize bM [t,m]=nsD at *
  generalize aK [nm,p,d]=tsD at *
  cases ok
  ·refine eA (Z4 ci crr cap cn) ?_
   exact ⟨(s,7,0,[],[],[]),hno 7 (by omega) (by omega),by simp [Fin,e0]⟩
  ·have hs2:eD n { s with gY:=⟨da,db⟩ }:=by
    obtain ⟨q1,q2,q3,q4,q5,q6,q7,q8,q9,q10,q11,q12⟩:=hs
    exact ⟨q1,q2,q3,q4,q5,q6,q7,q8,q9,q10,hd,q12⟩
   obtain ⟨a,ha,cst⟩:=aGY n { s with gY:=⟨da,db⟩ } k t m nm p d hk2 hs2 (by omega) (hrp nm (by simp)) (hrp p (by simp)) (hrp d (by simp))
   refine eA (Z4 ci crr cap cst) ?_
   exact ⟨a,ha,by simp [Fin]⟩
 rw [hk] at ci
 by_cases h14:k=14
 ·subst h14
  have csy:=aNj s.gY.oH s.gY.jF hs.dk
  have i1:=aZ (s.gY.oH++s.gY.jF)
  have hal:(s.gY.oH++s.gY.jF).length=s.gY.oH.length+s.gY.jF.length:=by simp
  have hbl:(aB s.gY.jF).length=s.gY.jF.length:=by simp [aB]
  have i2:=aZ []
  generalize s.gY.oH++s.gY.jF=ab at *
  refine cP hbl (Z2 ci csy) ?_
  refine ⟨({ s with gY:=⟨ab,[]⟩ },0,((s.gY.jF.length:Nat):Int),[],[],[]),⟨?_,by dsimp only;omega,by dsimp only;omega⟩,by simp [Fin,e0]⟩
  obtain ⟨q1,q2,q3,q4,q5,q6,q7,q8,q9,q10,q11,q12⟩:=eD.up hs (show n<=n+2 by omega)
  exact ⟨q1,q2,q3,q4,q5,q6,q7,q8,q9,q10,by dsimp only;simp;omega,q12⟩
 have h14':(k=14)=False:=by simp [h14]
 by_cases h15:k=15
 ·subst h15
  obtain ⟨cr,hcr,ccr⟩:=aNm s.gY.oH s.gY.jF m hs.dk
  obtain ⟨⟨s2,v,ok⟩,hs2,crb⟩:=aR9 s.jK cr [] (by simpa using hcr) hs.ky
  dsimp only at hs2 crb
  have i1:=aZ cr
  have i2:=aZ []
  refine eA (Z3 ci ccr crb) ?_
  exact ⟨(s2,0,v,[],[],[]),⟨eD.up hs2 (by omega),by dsimp only;omega,by dsimp only;omega⟩,by simp [Fin,e0]⟩
 have h15':(k=15)=False:=by simp [h15]
 have cn:=cno 1
 refine cP (Y2 h14' h15') (Z2 ci cn) ?_
 exact ⟨(s,1,0,[],[],[]),hno 1 (by omega) (by omega),by simp [Fin,e0]⟩
theorem aO8 (c:Cur) (l:List (List UInt8)) (hc:c.good) (hl:l≠[]) (hs:l.length<=100):aC PP GG 19 [.box c.o,.d (.slc 1 (aK l))] (.d (.str (fW c [] l).1)) [some (.box (fW c [] l).2.o),none]:=by
 refine cv Tryz.func19 [.d (.str (fW c [] l).1)] ?_
 have c1:=kR c l.length hc
 obtain ⟨k,hk,hg⟩:=xH c ([]:List UInt8) hl
 have e:(fW c [] l).2=(cK c l.length).2:=rfl
 rw [e]
 have hkl:=(List.getElem?_eq_some_iff.1 hg).1
 generalize (fW c [] l).1=v at *
 generalize (cK c l.length).2=c2 at *
 rw [hk] at c1
 exact dO (Y3 @bV @eX hg) (Z1 c1)
theorem aLh (c:Cur) (r:dZ) (hc:c.good) (hl:r.cS.length<=1048576) (hri:vK r):∃ a:Int×Cur,(a.2.good/\aX a.1)/\aC PP GG 56 [.box c.o,.agg r.o] (.d (.int .i64 a.1)) [some (.box a.2.o),some (.agg r.o)]:=by
 refine cvD Tryz.func56 (α:=Int×Cur) 1 _ (fun a=>[.d (.int .i64 a.1)]) _ (fun _=>rfl) ?_
 obtain ⟨tk,nx,ws⟩:=r
 obtain ⟨hr1,hr2⟩:=hri
 dsimp only at hl hr1 hr2 ⊢
 have hi0:=xK ws
 have hpk:∀ u:Cur,u.good->∃ q:Int×Cur,(q.2.good/\aX q.1)/\aC PP GG 48 [.box u.o,.own 0 1 [[.int .i64 0],[.int .i64 1],[.int .i64 nx],[.int .i64 (-1)]]] (.d (.int .i64 q.1)) [some (.box q.2.o),none]:=fun u hu=>
  ⟨_,⟨jC hu (0:Int) [0,1,nx,-1],by
   have hm:=kQ u (0:Int) (l:=[0,1,nx,-1]) (by simp)
   simp only [List.mem_cons,List.not_mem_nil,or_false] at hm
   unfold aX at hr1 ⊢
   omega⟩,wO u [0,1,nx,-1] hu (by simp) (by simp)⟩
 by_cases h0:ws.length=0
 ·obtain ⟨q,hq,cq⟩:=hpk c hc
  have h0':((0:Int)<((ws.length:Nat):Int))=False:=by rw [h0];simp
  refine cP h0' (Z1 cq) ?_
  exact ⟨q,hq,by simp [Fin]⟩
 have h0':((0:Int)<((ws.length:Nat):Int))=True:=by simp;omega
 have c1:=sL c 6 hc
 have g1:=iH hc 6
 generalize gX c 6=o at *
 obtain ⟨o1,o2⟩:=o
 cases o1
 ·have c2:=kR o2 ws.length g1
  have g2:=fE g1 ws.length
  have r2:=jM o2 (n:=(ws.length:Nat)) (by omega)
  generalize cK o2 ws.length=b at *
  obtain ⟨b1,b2⟩:=b
  obtain ⟨k,rfl⟩:=Int.eq_ofNat_of_zero_le r2.1
  have hk:k<ws.length:=by dsimp only at r2;omega
  have hg:=List.getElem?_eq_getElem hk
  have hm:=hr2 _ (List.getElem_mem hk)
  generalize ws[k]=t at hg hm
  obtain ⟨t1,t2,t3,t4,t5⟩:=t
  dsimp only at *
  refine cP (Y2 h0' hg) (Z2 c1 c2) ?_
  exact ⟨(t1,b2),⟨g2,hm⟩,by simp [Fin]⟩
 ·obtain ⟨q,hq,cq⟩:=hpk o2 g1
  refine cP h0' (Z2 c1 cq) ?_
  exact ⟨q,hq,by simp [Fin]⟩
theorem aFW (c:Cur) (hc:c.good):∃ a:Int×Cur,a.2.good/\aC PP GG 53 [.box c.o] (.d (.int .i64 a.1)) [some (.box a.2.o)]:=by
 refine cvD Tryz.func53 (α:=Int×Cur) 1 _ (fun a=>[.d (.int .i64 a.1)]) _ (fun _=>rfl) ?_
 have c1:=kR c 64 hc
 have g1:=fE hc 64
 generalize cK c 64=x at *
 obtain ⟨x,c⟩:=x
 dsimp only at *
 have c2:=kR c 32 g1
 have g2:=fE g1 32
 generalize cK c 32=y at *
 obtain ⟨y,c⟩:=y
 dsimp only at *
 have c3:=wO c [1,3,7,15,31,0,2,x,y,33] g2 (by simp) (by simp)
 have g3:=jC g2 (0:Int) [1,3,7,15,31,0,2,x,y,33]
 simp only [bM,List.map_cons,List.map_nil] at c3
 generalize fW c 0 [1,3,7,15,31,0,2,x,y,33]=q at *
 refine eA (Z3 c1 c2 c3) ?_
 exact ⟨q,g3,by simp [Fin]⟩
def aOR:List (List UInt8):=[[111,112,115],[100,101,118],[114,111,111,116,49],[97]]
def aOS:List (List UInt8):=[[],[79,112,115],[97,98,99,100,101,102,103,104,105,106,107,108,109]]
theorem aDH (c:Cur) (hc:c.good):∃ a:List UInt8×Cur,(a.2.good/\a.1.length<=20)/\aC PP GG 52 [.box c.o,.d (.int .i64 0)] (.agg [.d (.str a.1),.own 0 2 []]) [some (.box a.2.o),none]:=by
 refine cvD Tryz.func52 (α:=List UInt8×Cur) 1 _ (fun a=>[.agg [.d (.str a.1),.own 0 2 []]]) _ (fun _=>rfl) ?_
 have c1:=tM c aOR hc (by decide) (by decide)
 have g1:=jC hc ([]:List UInt8) aOR
 have m1:=kQ c ([]:List UInt8) (l:=aOR) (by decide)
 generalize fW c [] aOR=q1 at *
 obtain ⟨nm,u1⟩:=q1
 dsimp only at *
 have l1:nm.length<=20:=by
  simp only [aOR,List.mem_cons,List.not_mem_nil,or_false] at m1
  rcases m1 with rfl|rfl|rfl|rfl<;>decide
 simp only [aK,aOR,List.map_cons,List.map_nil] at c1
 have c2:=sL u1 25 g1
 have g2:=iH g1 25
 generalize gX u1 25=o at *
 obtain ⟨o,u2⟩:=o
 dsimp only at *
 have c3:=tM u2 aOS g2 (by decide) (by decide)
 have g3:=jC g2 ([]:List UInt8) aOS
 have m3:=kQ u2 ([]:List UInt8) (l:=aOS) (by decide)
 generalize fW u2 [] aOS=q3 at *
 obtain ⟨nb,u3⟩:=q3
 dsimp only at *
 have l3:nb.length<=20:=by
  simp only [aOS,List.mem_cons,List.not_mem_nil,or_false] at m3
  rcases m3 with rfl|rfl|rfl<;>decide
 simp only [aK,aOS,List.map_cons,List.map_nil] at c3
 have c4:=sL u2 25 g2
 have g4:=iH g2 25
 generalize gX u2 25=o4 at *
 obtain ⟨o4,u4⟩:=o4
 have c5:=sL u3 25 g3
 have g5:=iH g3 25
 generalize gX u3 25=o5 at *
 obtain ⟨o5,u5⟩:=o5
 dsimp only at *
 refine eA (Z1 c1) ?_
 refine gA (fun n st=>n=0/\st=⟨[],[(0,.ptr 0 0),(1,.d (.int .i64 0)),(4,.ptr 1 0),(5,.ptr 2 0),(6,.sl 3),(7,.d (.int .i64 0))],[(0,.box (aIx u1)),(1,.box [.d (.str []),.nil 0 2]),(2,.box [.d (.str nm),.nil 0 2]),(3,.arr 0 0 1 [])],4⟩) _ ⟨rfl,?_⟩ ?_
 ·exact fI
 rintro n st ⟨rfl,rfl⟩
 refine mG ?_
 refine gA (fun n st=>n=0/\st=⟨[],[(0,.ptr 0 0),(4,.ptr 1 0),(5,.ptr 2 0),(6,.sl 3),(13,.d (.int .i64 0))],[(0,.box (aIx u1)),(1,.box [.d (.str []),.nil 0 2]),(2,.box [.d (.str nm),.nil 0 2]),(3,.arr 0 0 1 [])],4⟩) _ ⟨rfl,?_⟩ ?_
 ·exact fI
 rintro n st ⟨rfl,rfl⟩
 cases o
 ·cases o4
  ·refine eA (Z2 c2 c4) ?_
   exact ⟨(nm,u4),⟨g4,l1⟩,by simp [Fin]⟩
  ·refine eA (Z2 c2 c4) ?_
   exact ⟨(nm,u4),⟨g4,l1⟩,by simp [Fin]⟩
 ·cases o5
  ·refine eA (Z3 c2 c3 c5) ?_
   exact ⟨(nb,u5),⟨g5,l3⟩,by simp [Fin]⟩
  ·refine eA (Z3 c2 c3 c5) ?_
   exact ⟨(nb,u5),⟨g5,l3⟩,by simp [Fin]⟩
theorem aLi (c:Cur) (f:bQ) (hc:c.good) (hl:f.aG.length<=1048576) (hi:∀ t,t∈f.aG->aX t.bZ):∃ a:Int×Cur,(a.2.good/\aX a.1)/\aC PP GG 55 [.box c.o,.agg f.o] (.d (.int .i64 a.1)) [some (.box a.2.o),some (.agg f.o)]:=by
 refine cvD Tryz.func55 (α:=Int×Cur) 1 _ (fun a=>[.d (.int .i64 a.1)]) _ (fun _=>rfl) ?_
 obtain ⟨tk⟩:=f
 dsimp only at hl hi ⊢
 have hi0:=cB tk
 have hpk:∀ u:Cur,u.good->∃ q:Int×Cur,(q.2.good/\aX q.1)/\aC PP GG 48 [.box u.o,.own 0 1 [[.int .i64 0],[.int .i64 1],[.int .i64 2],[.int .i64 (-1)],[.int .i64 999]]] (.d (.int .i64 q.1)) [some (.box q.2.o),none]:=fun u hu=>
  ⟨_,⟨jC hu (0:Int) [0,1,2,-1,999],by
   have hm:=kQ u (0:Int) (l:=[0,1,2,-1,999]) (by simp)
   simp only [List.mem_cons,List.not_mem_nil,or_false] at hm
   unfold aX
   omega⟩,wO u [0,1,2,-1,999] hu (by simp) (by simp)⟩
 by_cases h0:tk.length=0
 ·obtain ⟨q,hq,cq⟩:=hpk c hc
  have h0':((0:Int)<((tk.length:Nat):Int))=False:=by rw [h0];simp
  refine cP h0' (Z1 cq) ?_
  exact ⟨q,hq,by simp [Fin]⟩
 have h0':((0:Int)<((tk.length:Nat):Int))=True:=by simp;omega
 have c1:=sL c 6 hc
 have g1:=iH hc 6
 generalize gX c 6=o at *
 obtain ⟨o1,o2⟩:=o
 cases o1
 ·have c2:=kR o2 tk.length g1
  have g2:=fE g1 tk.length
  have r2:=jM o2 (n:=(tk.length:Nat)) (by omega)
  generalize cK o2 tk.length=b at *
  obtain ⟨b1,b2⟩:=b
  obtain ⟨k,rfl⟩:=Int.eq_ofNat_of_zero_le r2.1
  have hk:k<tk.length:=by dsimp only at r2;omega
  have hg:=List.getElem?_eq_getElem hk
  have hm:=hi _ (List.getElem_mem hk)
  generalize tk[k]=t at hg hm
  obtain ⟨t1,t2,t3,t4,t5,t6,t7⟩:=t
  dsimp only at *
  refine cP (Y2 h0' hg) (Z2 c1 c2) ?_
  exact ⟨(t1,b2),⟨g2,hm⟩,by simp [Fin]⟩
 ·obtain ⟨q,hq,cq⟩:=hpk o2 g1
  refine cP h0' (Z2 c1 cq) ?_
  exact ⟨q,hq,by simp [Fin]⟩
theorem wQ (l:List dX):∀ row,row∈pR l->∀ d,d∈row->oB 0 d:=by
 intro row h d hd
 simp only [pR,List.mem_map] at h
 obtain ⟨x,_,rfl⟩:=h
 simp at hd
 rcases hd with rfl|rfl|rfl|rfl|rfl|rfl<;>trivial
def aFK (r:dX):Prop:=aX r.cL/\aX r.qT/\r.aH.length<=1000000/\r.dM.length<=1000000/\r.dI.length<=1000000
theorem jW (c:Cur) (n:Int) (hc:c.good):∃ a:Int×Cur,(a.2.good/\0<=a.1/\(0<n->a.1<n))/\aC PP GG 17 [.box c.o,.d (.int .i64 n)] (.d (.int .i64 a.1)) [some (.box a.2.o),none]:=
 ⟨cK c n,⟨fE hc n,(aLd c n).1,fun h=>(jM c h).2⟩,kR c n hc⟩
theorem xJ (c:Cur) (n:Int) (hc:c.good):∃ a:Bool×Cur,a.2.good/\aC PP GG 18 [.box c.o,.d (.int .i64 n)] (.d (.bool a.1)) [some (.box a.2.o),none]:=
 ⟨gX c n,iH hc n,sL c n hc⟩
theorem nT (c:Cur) (l:List Int) (hc:c.good) (hl:l≠[]) (hs:l.length<=100):∃ a:Int×Cur,(a.2.good/\a.1∈l)/\aC PP GG 48 [.box c.o,.own 0 1 (bM l)] (.d (.int .i64 a.1)) [some (.box a.2.o),none]:=
 ⟨fW c 0 l,⟨jC hc _ _,kQ c 0 hl⟩,wO c l hc hl hs⟩
theorem rK (c:Cur) (l:List (List UInt8)) (hc:c.good) (hl:l≠[]) (hs:l.length<=100) (hb:∀ x,x∈l->x.length<=1000000):∃ a:List UInt8×Cur,(a.2.good/\a.1.length<=1000000)/\aC PP GG 19 [.box c.o,.own 0 1 (aK l)] (.d (.str a.1)) [some (.box a.2.o),none]:=
 ⟨fW c [] l,⟨jC hc _ _,hb _ (kQ c [] hl)⟩,tM c l hc hl hs⟩
theorem xI (c:Cur) (l:List (List UInt8)) (hc:c.good) (hl:l≠[]) (hs:l.length<=100) (hb:∀ x,x∈l->x.length<=1000000):∃ a:List UInt8×Cur,(a.2.good/\a.1.length<=1000000)/\aC PP GG 19 [.box c.o,.d (.slc 1 (aK l))] (.d (.str a.1)) [some (.box a.2.o),none]:=
 ⟨fW c [] l,⟨jC hc _ _,hb _ (kQ c [] hl)⟩,aO8 c l hc hl hs⟩
theorem aLc (c:Cur) (n:Int) (hc:c.good) (hn:n<=5000):∃ a:List UInt8×Cur,(a.2.good/\a.1.length<=1000000)/\aC PP GG 29 [.box c.o,.d (.int .i64 n)] (.own 0 1 (aB a.1)) [some (.box a.2.o),none]:=
 ⟨iU c n.toNat,⟨aDf hc _,by rw [uW];omega⟩,aEO c n hc hn⟩
theorem aTx (c:Cur) (hc:c.good):∃ a:List UInt8×Cur,(a.2.good/\a.1.length<=1000000)/\aC PP GG 57 [.box c.o] (.d (.str a.1)) [some (.box a.2.o)]:=
 ⟨aDe c,⟨aML hc,Nat.le_trans (aO9 c) (by omega)⟩,aTw c hc⟩
def rqP:List (List UInt8):=[[97],[97,47,98],[98],[120,45,49,47,99]]
def rqG:List (List UInt8):=[[100,98,47,42],[107,118,47,42],[107,118,47,43],[107,118,47,97,47,42],[115,121,115,47,42]]
theorem aFU (c:Cur) (n:Nat) (hc:c.good) (hn:n<=4):∃ a:List dX×Cur,(a.2.good/\a.1.length=n/\∀ r,r∈a.1->aFK r)/\aC PP GG 33 [.box c.o,.d (.int .i64 7),.d (.int .i64 (n:Nat))] (.own 0 6 (pR a.1)) [some (.box a.2.o),none,none]:=by
 refine aCF (α:=List dX×Cur) 1 _ (fun a=>[.own 0 6 (pR a.1)]) _ (fun _=>rfl) (by kernel_rfl) ?_
 have cst:=aDg 7
 have hs0:eD 0 (iP 7):=aKt (by simp [aX])
 generalize iP 7=s0 at cst hs0
 refine rE ?_
 refine rE ?_
 refine aD3 (Z1 cst) ?_
 refine aSs @aM.eq_1 ?_
 refine aV1 9 rfl rfl ?_
 refine mG ?_
 refine gA (fun q st=>∃ i:Nat,q=n-i/\i<=n/\∃ (s:aV) (u:Cur) (out:List dX),eD (300+2*i) s/\u.good/\(out.length=i/\∀ r,r∈out->aFK r)/\st=⟨[],[(0,.ptr 0 0),(2,.d (.int .i64 (n:Nat))),(7,.sl 1),(8,.ptr 2 0),(9,.d (.slc 1 (aK rqP))),(10,.d (.int .i64 (i:Nat)))],[(0,.box (aIx u)),(1,.arr 0 0 6 (pR out)),(2,.box (aV.bx s 3))]++aV.ob s 3,12⟩) _ ⟨0,rfl,by omega,s0,c,[],eD.up hs0 (by omega),hc,⟨rfl,by simp⟩,?_⟩ ?_
 ·exact dV (Y3 @aK.eq_1 @rqP.eq_1 @pR.eq_1)
 clear cst
 rintro q st ⟨i,rfl,hi,s,u,out,hs,hu,⟨ho,hom⟩,rfl⟩
 have hfit:=WI.fit hs.lv
 have htid:∀ t,t∈s.aD.aE.aG->aX t.bZ:=fun t ht=>aD5 (((fN s.aD.aE).1 (WI.fo hs.lv)).2.1 t ht).1
 have hiq:=wQ out
 have hwi:IntKind.i64.wrap ((i:Int)+1)=(i:Int)+1:=aA (by omega) (by omega)
 by_cases hlt:i<n
 rotate_left
 ·have hlt2:((i:Int)<((n:Nat):Int))=False:=by simp;omega
  refine iZ hlt2 ?_
  exact ⟨(out,u),⟨hu,by dsimp only;omega,hom⟩,by simp [Fin]⟩
 have hlt2:((i:Int)<((n:Nat):Int))=True:=by simp;omega
 obtain ⟨⟨k,v1⟩,⟨h1,h1m⟩,e1⟩:=nT u [0,1,1,2,3,4,4,4,5,5,6,7,8,9,9,9,10,11,12,12,13,14,15] hu (by simp) (by simp)
 simp only [bM,List.map_cons,List.map_nil] at e1
 dsimp only at h1
 clear h1m
 refine aSq hlt2 ?_
 refine dN rfl (fun _=>eC ?_) (fun h=>by cases h)
 refine eL (?_)
 refine dR ?_
 refine aD3 (Z1 e1) ?_
 refine oD [0,2,7,8,9,10,11] (fun st'=>∃ (t:Int) (u2:Cur),u2.good/\aX t/\st'=⟨[],[(0,.ptr 0 0),(2,.d (.int .i64 (n:Nat))),(7,.sl 1),(8,.ptr 2 0),(9,.d (.slc 1 (aK rqP))),(10,.d (.int .i64 (i:Nat))),(11,.ptr 3 0)],[(0,.box (aIx u2)),(1,.arr 0 0 6 (pR out)),(2,.box (aV.bx s 4)),(3,.box (rqA k t 0 [] [] []))]++aV.ob s 4,13⟩) ?_ ?_
 ·by_cases hk:1<s.aD.aE.aG.length
  rotate_left
  ·have hk':((1:Int)<((s.aD.aE.aG.length:Nat):Int))=False:=by simp;omega
   refine iZ hk' ?_
   refine ⟨1,v1,h1,by simp [aX],?_⟩
   exact fI
  have hk':((1:Int)<((s.aD.aE.aG.length:Nat):Int))=True:=by simp;omega
  have hfl:=hfit.1.1
  obtain ⟨⟨o,v2⟩,h2,e2⟩:=xJ v1 2 h1
  dsimp only at h2 e2
  cases o
  ·refine cP hk' (Z1 e2) ?_
   refine ⟨1,v2,h2,by simp [aX],?_⟩
   exact fI
  obtain ⟨⟨b,v3⟩,⟨h3,h3a,h3b⟩,e3⟩:=jW v2 ((s.aD.aE.aG.length:Nat):Int) h2
  dsimp only at h3 h3a h3b e3
  have h3c:=h3b (by omega)
  obtain ⟨j,rfl⟩:=Int.eq_ofNat_of_zero_le h3a
  have hj:j<s.aD.aE.aG.length:=by omega
  have hg:=List.getElem?_eq_getElem hj
  have hti:=htid _ (List.getElem_mem hj)
  generalize s.aD.aE.aG[j]=tk at hg hti
  refine cP (Y2 hk' hg) (Z2 e2 e3) ?_
  refine ⟨tk.bZ,v3,h3,hti,?_⟩
  exact fI
 rintro st ⟨t,u2,g2,ht,rfl⟩
 refine oD [0,2,7,8,9,10,11] (fun st'=>∃ (nm p d:List UInt8) (m:Int) (u3:Cur),u3.good/\aFK ⟨k,t,nm,p,d,m⟩/\st'=⟨[],[(0,.ptr 0 0),(2,.d (.int .i64 (n:Nat))),(7,.sl 1),(8,.ptr 2 0),(9,.d (.slc 1 (aK rqP))),(10,.d (.int .i64 (i:Nat))),(11,.ptr 3 0)],[(0,.box (aIx u3)),(1,.arr 0 0 6 (pR out)),(2,.box (aV.bx s 4)),(3,.box (rqA k t m nm p d))]++aV.ob s 4,13⟩) ?_ ?_
 ·clear e1
  by_cases k0:k=0
  ·subst k0
   obtain ⟨⟨nm,v1⟩,⟨h1,h1l⟩,e1⟩:=rK u2 [[100,101,118],[111,112,115],[119,101,98],[122,122],[114,111,111,116]] g2 (by simp) (by simp) (by simp)
   dsimp only at h1l
   simp only [aK,List.map_cons,List.map_nil] at e1
   dsimp only at h1
   obtain ⟨⟨pn,v2⟩,⟨h2,hpn⟩,e2⟩:=aDH v1 h1
   dsimp only at h2 hpn e2
   refine eA (Z2 e1 e2) ?_
   refine gA (fun q st=>∃ j:Nat,q=5-j/\j<=5/\∃ (rs:List lS) (v:Cur),v.good/\rs.length<=j/\(∀ r,r∈rs->r.aBJ.length<=6) ∧
    st=⟨[],[(0,.ptr 0 0),(2,.d (.int .i64 (n:Nat))),(7,.sl 1),(8,.ptr 2 0),(9,.d (.slc 1 (aK rqP))),(10,.d (.int .i64 (i:Nat))),(11,.ptr 3 0),(13,.ptr 4 0),(14,.sl 5),(15,.d (.int .i64 (j:Nat)))],[(0,.box (aIx v)),(1,.arr 0 0 6 (pR out)),(2,.box (aV.bx s 6)),(3,.box (rqA 0 t 0 nm [] [])),(4,.box [.d (.str pn),.sl 15]),(5,.arr 0 0 1 (aK rqG))]++aV.ob s 6++[(15,.arr 0 0 2 (iL rs))],16⟩) _ ⟨0,rfl,by omega,[],v2,h2,by simp,by simp,?_⟩ ?_
   ·exact dV (Y3 @iL.eq_1 @aK.eq_1 @rqG.eq_1)
   rintro q st ⟨j,rfl,hj,rs,v,hv,h3,h4,rfl⟩
   have hwj:IntKind.i64.wrap ((j:Int)+1)=(j:Int)+1:=aA (by omega) (by omega)
   have hir:=qZ rs
   have hgl:(aK rqG).length=5:=rfl
   by_cases hlt:j<5
   rotate_left
   ·have hie:j=5:=by omega
    subst hie
    obtain ⟨⟨dt,ok⟩,hdt,ept⟩:=aB7 ⟨pn,rs⟩ ⟨by dsimp only;omega,by dsimp only;omega,fun r hr=>by have:=h4 r hr;omega⟩
    dsimp only at hdt ept
    have hq:((5:Int)<5)=False:=by simp
    refine cP (Y2 hgl hq) (Z1 ept) ?_
    refine ⟨nm,[],dt,0,v,hv,⟨ht,by first|assumption|(unfold aX;dsimp only;omega),by first|assumption|(simp;done)|(dsimp only;omega),by first|assumption|(simp;done)|(dsimp only;omega),by first|assumption|(simp;done)|(dsimp only;omega)⟩,?_⟩
    exact fI
   have hlt2:((j:Int)<5)=True:=by simp;omega
   obtain ⟨gl,hgj,hgll⟩:∃ gl:List UInt8,(aK rqG)[j]?=some [.str gl]/\gl.length<=6:=by
    match j,hlt with
    |0,_=>exact ⟨_,rfl,by decide⟩
    |1,_=>exact ⟨_,rfl,by decide⟩
    |2,_=>exact ⟨_,rfl,by decide⟩
    |3,_=>exact ⟨_,rfl,by decide⟩
    |4,_=>exact ⟨_,rfl,by decide⟩
   obtain ⟨⟨oo,v3⟩,h5,e3⟩:=xJ v 2 hv
   dsimp only at h5 e3
   cases oo
   ·refine cP (Y2 hgl hlt2) (Z1 e3) ?_
    refine ⟨5-(j+1),by omega,j+1,rfl,hlt,rs,v3,h5,by omega,h4,?_⟩
    exact dV hwj
   ·obtain ⟨⟨cp,v4⟩,h6,e4⟩:=aFW v3 h5
    dsimp only at h6 e4
    refine cP (Y4 hgl hlt2 hgj @aM.eq_1) (Z2 e3 e4) ?_
    refine ⟨5-(j+1),by omega,j+1,rfl,hlt,rs++[⟨gl,cp⟩],v4,h6,by simp;omega,fun r hr=>?_,?_⟩
    ·rcases List.mem_append.1 hr with hr|hr
     ·exact h4 r hr
     ·simp at hr;subst hr;exact hgll
    ·exact dV (Y2 hwj @iL.eq_1)
  have k0':(k=0)=False:=by simp [k0]
  by_cases k1:k=1
  ·subst k1
   obtain ⟨⟨dt,v1⟩,⟨h1,h1l⟩,e1⟩:=rK u2 [[100,101,118],[100,101,118,44,111,112,115],[111,112,115,44,119,101,98],[114,111,111,116],[],[100,101,118,44,114,111,111,116],[119,101,98],[111,112,115,44,100,101,118]] g2 (by simp) (by simp) (by simp)
   dsimp only at h1l
   simp only [aK,List.map_cons,List.map_nil] at e1
   dsimp only at h1
   obtain ⟨⟨a,v2⟩,⟨h2,h2a,h2b⟩,e2⟩:=jW v1 30 h1
   dsimp only at h2 h2a h2b e2
   obtain ⟨⟨b,v3⟩,⟨h3,h3a,h3b⟩,e3⟩:=jW v2 30 h2
   dsimp only at h3 h3a h3b e3
   have hwa:IntKind.i64.wrap (1+a)=1+a:=aA (by omega) (by have:=h2b (by omega);omega)
   have hwb:IntKind.i64.wrap (1+b)=1+b:=aA (by omega) (by have:=h3b (by omega);omega)
   obtain ⟨⟨m,v4⟩,⟨h4,h4m⟩,e4⟩:=nT v3 [0,1+a,1+b] h3 (by simp) (by simp)
   simp only [bM,List.map_cons,List.map_nil] at e4
   dsimp only at h4
   have h4i:aX m:=by simp only [List.mem_cons,List.not_mem_nil,or_false] at h4m;unfold aX;omega
   clear h4m
   refine cP (Y2 hwa hwb) (Z4 e1 e2 e3 e4) ?_
   refine ⟨[],[],dt,m,v4,h4,⟨ht,by first|assumption|(unfold aX;dsimp only;omega),by first|assumption|(simp;done)|(dsimp only;omega),by first|assumption|(simp;done)|(dsimp only;omega),by first|assumption|(simp;done)|(dsimp only;omega)⟩,?_⟩
   exact dV (Y2 hwa hwb)
  have k1':(k=1)=False:=by simp [k1]
  by_cases k2:k=2
  ·subst k2
   obtain ⟨⟨m,v1⟩,⟨h1,hmi⟩,e1⟩:=aLi u2 s.aD.aE g2 hfit.1.1 htid
   dsimp only at h1 hmi e1
   by_cases hm:m=1
   rotate_left
   ·have hm':(m=1)=False:=by simp [hm]
    refine cP hm' (Z1 e1) ?_
    refine ⟨[],[],[],m,v1,h1,⟨ht,by first|assumption|(unfold aX;dsimp only;omega),by first|assumption|(simp;done)|(dsimp only;omega),by first|assumption|(simp;done)|(dsimp only;omega),by first|assumption|(simp;done)|(dsimp only;omega)⟩,?_⟩
    exact fI
   subst hm
   obtain ⟨⟨o,v2⟩,h2,e2⟩:=xJ v1 8 h1
   dsimp only at h2 e2
   cases o
   ·refine eA (Z2 e1 e2) ?_
    refine ⟨[],[],[],0,v2,h2,⟨ht,by first|assumption|(unfold aX;dsimp only;omega),by first|assumption|(simp;done)|(dsimp only;omega),by first|assumption|(simp;done)|(dsimp only;omega),by first|assumption|(simp;done)|(dsimp only;omega)⟩,?_⟩
    exact fI
   ·refine eA (Z2 e1 e2) ?_
    refine ⟨[],[],[],1,v2,h2,⟨ht,by first|assumption|(unfold aX;dsimp only;omega),by first|assumption|(simp;done)|(dsimp only;omega),by first|assumption|(simp;done)|(dsimp only;omega),by first|assumption|(simp;done)|(dsimp only;omega)⟩,?_⟩
    exact fI
  have k2':(k=2)=False:=by simp [k2]
  by_cases k3:k=3
  ·subst k3
   obtain ⟨⟨m,v1⟩,⟨h1,h1a,h1b⟩,e1⟩:=jW u2 30 g2
   dsimp only at h1 h1a h1b e1
   refine eA (Z1 e1) ?_
   refine ⟨[],[],[],m,v1,h1,⟨ht,by first|assumption|(unfold aX;dsimp only;omega),by first|assumption|(simp;done)|(dsimp only;omega),by first|assumption|(simp;done)|(dsimp only;omega),by first|assumption|(simp;done)|(dsimp only;omega)⟩,?_⟩
   exact fI
  have k3':(k=3)=False:=by simp [k3]
  by_cases k4:k=4
  ·subst k4
   obtain ⟨⟨p,v1⟩,⟨h1,h1l⟩,e1⟩:=xI u2 rqP g2 (by simp [rqP]) (by simp [rqP]) (by simp [rqP])
   dsimp only at h1 h1l e1
   obtain ⟨⟨q,v2⟩,⟨h2,h2a,h2b⟩,e2⟩:=jW v1 6 h1
   dsimp only at h2 h2a h2b e2
   obtain ⟨⟨dt,v3⟩,⟨h3,h3l⟩,e3⟩:=aLc v2 q h2 (by have:=h2b (by omega);omega)
   dsimp only at h3 h3l e3
   have jv3:=aZ dt
   obtain ⟨⟨m,v4⟩,⟨h4,h4m⟩,e4⟩:=nT v3 [(-1),(-1),0,1] h3 (by simp) (by simp)
   simp only [bM,List.map_cons,List.map_nil] at e4
   dsimp only at h4
   have h4i:aX m:=by simp only [List.mem_cons,List.not_mem_nil,or_false] at h4m;unfold aX;omega
   clear h4m
   refine cP @eP (Z4 e1 e2 e3 e4) ?_
   refine ⟨[],p,dt,m,v4,h4,⟨ht,by first|assumption|(unfold aX;dsimp only;omega),by first|assumption|(simp;done)|(dsimp only;omega),by first|assumption|(simp;done)|(dsimp only;omega),by first|assumption|(simp;done)|(dsimp only;omega)⟩,?_⟩
   exact dV @eP
  have k4':(k=4)=False:=by simp [k4]
  by_cases k5:k=5
  ·subst k5
   obtain ⟨⟨p,v1⟩,⟨h1,h1l⟩,e1⟩:=xI u2 rqP g2 (by simp [rqP]) (by simp [rqP]) (by simp [rqP])
   dsimp only at h1 h1l e1
   obtain ⟨⟨m,v2⟩,⟨h2,h2m⟩,e2⟩:=nT v1 [0,0,1,2] h1 (by simp) (by simp)
   simp only [bM,List.map_cons,List.map_nil] at e2
   dsimp only at h2
   have h2i:aX m:=by simp only [List.mem_cons,List.not_mem_nil,or_false] at h2m;unfold aX;omega
   clear h2m
   refine eA (Z2 e1 e2) ?_
   refine ⟨[],p,[],m,v2,h2,⟨ht,by first|assumption|(unfold aX;dsimp only;omega),by first|assumption|(simp;done)|(dsimp only;omega),by first|assumption|(simp;done)|(dsimp only;omega),by first|assumption|(simp;done)|(dsimp only;omega)⟩,?_⟩
   exact fI
  have k5':(k=5)=False:=by simp [k5]
  by_cases k6:k=6
  ·subst k6
   obtain ⟨⟨p,v1⟩,⟨h1,h1l⟩,e1⟩:=xI u2 rqP g2 (by simp [rqP]) (by simp [rqP]) (by simp [rqP])
   dsimp only at h1 h1l e1
   obtain ⟨⟨m,v2⟩,⟨h2,h2m⟩,e2⟩:=nT v1 [0,0,1,2] h1 (by simp) (by simp)
   simp only [bM,List.map_cons,List.map_nil] at e2
   dsimp only at h2
   have h2i:aX m:=by simp only [List.mem_cons,List.not_mem_nil,or_false] at h2m;unfold aX;omega
   clear h2m
   refine eA (Z2 e1 e2) ?_
   refine ⟨[],p,[],m,v2,h2,⟨ht,by first|assumption|(unfold aX;dsimp only;omega),by first|assumption|(simp;done)|(dsimp only;omega),by first|assumption|(simp;done)|(dsimp only;omega),by first|assumption|(simp;done)|(dsimp only;omega)⟩,?_⟩
   exact fI
  have k6':(k=6)=False:=by simp [k6]
  by_cases k7:k=7
  ·subst k7
   obtain ⟨⟨p,v1⟩,⟨h1,h1l⟩,e1⟩:=rK u2 [[],[97],[120,45,49],[97,47,42]] g2 (by simp) (by simp) (by simp)
   dsimp only at h1l
   simp only [aK,List.map_cons,List.map_nil] at e1
   dsimp only at h1
   refine eA (Z1 e1) ?_
   refine ⟨[],p,[],0,v1,h1,⟨ht,by first|assumption|(unfold aX;dsimp only;omega),by first|assumption|(simp;done)|(dsimp only;omega),by first|assumption|(simp;done)|(dsimp only;omega),by first|assumption|(simp;done)|(dsimp only;omega)⟩,?_⟩
   exact fI
  have k7':(k=7)=False:=by simp [k7]
  by_cases k8:k=8
  ·subst k8
   obtain ⟨⟨nm,v1⟩,⟨h1,h1l⟩,e1⟩:=rK u2 [[100,98],[119,101,98]] g2 (by simp) (by simp) (by simp)
   dsimp only at h1l
   simp only [aK,List.map_cons,List.map_nil] at e1
   dsimp only at h1
   obtain ⟨⟨dt,v2⟩,⟨h2,h2l⟩,e2⟩:=rK v1 [[117],[115,118,99],[],[116,111,111,108,111,110,103,112,114,101,102,105,120]] h1 (by simp) (by simp) (by simp)
   dsimp only at h2l
   simp only [aK,List.map_cons,List.map_nil] at e2
   dsimp only at h2
   obtain ⟨⟨a,v3⟩,⟨h3,h3a,h3b⟩,e3⟩:=jW v2 20 h2
   dsimp only at h3 h3a h3b e3
   have hwa:IntKind.i64.wrap (1+a)=1+a:=aA (by omega) (by have:=h3b (by omega);omega)
   refine cP hwa (Z3 e1 e2 e3) ?_
   refine ⟨nm,[],dt,(1+a),v3,h3,⟨ht,by first|assumption|(unfold aX;dsimp only;omega),by first|assumption|(simp;done)|(dsimp only;omega),by first|assumption|(simp;done)|(dsimp only;omega),by first|assumption|(simp;done)|(dsimp only;omega)⟩,?_⟩
   exact dV hwa
  have k8':(k=8)=False:=by simp [k8]
  by_cases k9:k=9
  ·subst k9
   obtain ⟨⟨nm,v1⟩,⟨h1,h1l⟩,e1⟩:=rK u2 [[100,98],[100,98],[119,101,98]] g2 (by simp) (by simp) (by simp)
   dsimp only at h1l
   simp only [aK,List.map_cons,List.map_nil] at e1
   dsimp only at h1
   refine eA (Z1 e1) ?_
   refine ⟨nm,[],[],0,v1,h1,⟨ht,by first|assumption|(unfold aX;dsimp only;omega),by first|assumption|(simp;done)|(dsimp only;omega),by first|assumption|(simp;done)|(dsimp only;omega),by first|assumption|(simp;done)|(dsimp only;omega)⟩,?_⟩
   exact fI
  have k9':(k=9)=False:=by simp [k9]
  by_cases k10:k=10
  ·subst k10
   obtain ⟨⟨p,v1⟩,⟨h1,h1l⟩,e1⟩:=xI u2 rqP g2 (by simp [rqP]) (by simp [rqP]) (by simp [rqP])
   dsimp only at h1 h1l e1
   obtain ⟨⟨m,v2⟩,⟨h2,h2a,h2b⟩,e2⟩:=jW v1 30 h1
   dsimp only at h2 h2a h2b e2
   refine eA (Z2 e1 e2) ?_
   refine ⟨[],p,[],m,v2,h2,⟨ht,by first|assumption|(unfold aX;dsimp only;omega),by first|assumption|(simp;done)|(dsimp only;omega),by first|assumption|(simp;done)|(dsimp only;omega),by first|assumption|(simp;done)|(dsimp only;omega)⟩,?_⟩
   exact fI
  have k10':(k=10)=False:=by simp [k10]
  by_cases k11:k=11
  ·subst k11
   have hrk:=hs.rk.1
   have hrw:s.gS.cS.length<=s.gS.cost:=by unfold dZ.cost;omega
   obtain ⟨⟨m,v1⟩,⟨h1,hmi⟩,e1⟩:=aLh u2 s.gS g2 (by omega) hs.rk.2
   dsimp only at h1 hmi e1
   refine eA (Z1 e1) ?_
   refine ⟨[],[],[],m,v1,h1,⟨ht,by first|assumption|(unfold aX;dsimp only;omega),by first|assumption|(simp;done)|(dsimp only;omega),by first|assumption|(simp;done)|(dsimp only;omega),by first|assumption|(simp;done)|(dsimp only;omega)⟩,?_⟩
   exact fI
  have k11':(k=11)=False:=by simp [k11]
  by_cases k12:k=12
  ·subst k12
   obtain ⟨⟨m,v1⟩,⟨h1,h1a,h1b⟩,e1⟩:=jW u2 12 g2
   dsimp only at h1 h1a h1b e1
   refine eA (Z1 e1) ?_
   refine ⟨[],[],[],m,v1,h1,⟨ht,by first|assumption|(unfold aX;dsimp only;omega),by first|assumption|(simp;done)|(dsimp only;omega),by first|assumption|(simp;done)|(dsimp only;omega),by first|assumption|(simp;done)|(dsimp only;omega)⟩,?_⟩
   exact fI
  have k12':(k=12)=False:=by simp [k12]
  by_cases k13:k=13
  ·subst k13
   obtain ⟨⟨m,v1⟩,⟨h1,h1m⟩,e1⟩:=nT u2 [0,0,1,3,12] g2 (by simp) (by simp)
   simp only [bM,List.map_cons,List.map_nil] at e1
   dsimp only at h1
   have h1i:aX m:=by simp only [List.mem_cons,List.not_mem_nil,or_false] at h1m;unfold aX;omega
   clear h1m
   refine eA (Z1 e1) ?_
   refine ⟨[],[],[],m,v1,h1,⟨ht,by first|assumption|(unfold aX;dsimp only;omega),by first|assumption|(simp;done)|(dsimp only;omega),by first|assumption|(simp;done)|(dsimp only;omega),by first|assumption|(simp;done)|(dsimp only;omega)⟩,?_⟩
   exact fI
  have k13':(k=13)=False:=by simp [k13]
  by_cases k15:k=15
  ·subst k15
   have hdk:=hs.dk
   have hwd:IntKind.i64.wrap (1+((s.gY.jF.length:Nat):Int))=1+((s.gY.jF.length:Nat):Int):=aA (by omega) (by omega)
   obtain ⟨⟨m,v1⟩,⟨h1,h1a,h1b⟩,e1⟩:=jW u2 (1+((s.gY.jF.length:Nat):Int)) g2
   dsimp only at h1 h1a h1b e1
   refine cP (Y2 @mD hwd) (Z1 e1) ?_
   refine ⟨[],[],[],m,v1,h1,⟨ht,by first|assumption|(unfold aX;dsimp only;omega),by first|assumption|(simp;done)|(dsimp only;omega),by first|assumption|(simp;done)|(dsimp only;omega),by first|assumption|(simp;done)|(dsimp only;omega)⟩,?_⟩
   exact dV (Y2 @mD hwd)
  have k15':(k=15)=False:=by simp [k15]
  refine iZ (Y15 k0' k1' k2' k3' k4' k5' k6' k7' k8' k9' k10' k11' k12' k13' k15') ?_
  refine ⟨[],[],[],0,u2,g2,⟨ht,by first|assumption|(unfold aX;dsimp only;omega),by first|assumption|(simp;done)|(dsimp only;omega),by first|assumption|(simp;done)|(dsimp only;omega),by first|assumption|(simp;done)|(dsimp only;omega)⟩,?_⟩
  exact fI
 rintro st ⟨nm,p,d,m,u3,g3,⟨ht2,hm2,hn2,hp2,hd2⟩,rfl⟩
 dsimp only at ht2 hm2 hn2 hp2 hd2
 refine oD [0,2,7,8,9,10,11] (fun st'=>∃ (k1 t1 m1:Int) (n1 p1 d1:List UInt8) (u4:Cur),u4.good/\aFK ⟨k1,t1,n1,p1,d1,m1⟩/\st'=⟨[],[(0,.ptr 0 0),(2,.d (.int .i64 (n:Nat))),(7,.sl 1),(8,.ptr 2 0),(9,.d (.slc 1 (aK rqP))),(10,.d (.int .i64 (i:Nat))),(11,.ptr 3 0)],[(0,.box (aIx u4)),(1,.arr 0 0 6 (pR out)),(2,.box (aV.bx s 4)),(3,.box (rqA k1 t1 m1 n1 p1 d1))]++aV.ob s 4,13⟩) ?_ ?_
 ·clear e1
  obtain ⟨⟨o,v1⟩,h1,e1⟩:=xJ u3 40 g3
  dsimp only at h1 e1
  cases o
  ·refine eA (Z1 e1) ?_
   refine ⟨k,t,m,nm,p,d,v1,h1,⟨ht2,hm2,hn2,hp2,hd2⟩,?_⟩
   exact fI
  obtain ⟨⟨q,v2⟩,⟨h2,h2a,h2b⟩,e2⟩:=jW v1 5 h1
  dsimp only at h2 h2a h2b e2
  by_cases q0:q=0
  ·subst q0
   obtain ⟨⟨z,v3⟩,⟨h3,h3m⟩,e3⟩:=nT v2 [(-1),16] h2 (by simp) (by simp)
   simp only [bM,List.map_cons,List.map_nil] at e3
   dsimp only at h3
   have h3i:aX z:=by simp only [List.mem_cons,List.not_mem_nil,or_false] at h3m;unfold aX;omega
   clear h3m
   refine eA (Z3 e1 e2 e3) ?_
   refine ⟨z,t,m,nm,p,d,v3,h3,⟨by first|assumption|(unfold aX;dsimp only;omega),by first|assumption|(unfold aX;dsimp only;omega),by first|assumption|(simp;done)|(dsimp only;omega),by first|assumption|(simp;done)|(dsimp only;omega),by first|assumption|(simp;done)|(dsimp only;omega)⟩,?_⟩
   exact fI
  have q0':(q=0)=False:=by simp [q0]
  by_cases q1:q=1
  ·subst q1
   obtain ⟨⟨z,v3⟩,⟨h3,h3m⟩,e3⟩:=nT v2 [0,(-1),99,1099511627777] h2 (by simp) (by simp)
   simp only [bM,List.map_cons,List.map_nil] at e3
   dsimp only at h3
   have h3i:aX z:=by simp only [List.mem_cons,List.not_mem_nil,or_false] at h3m;unfold aX;omega
   clear h3m
   refine eA (Z3 e1 e2 e3) ?_
   refine ⟨k,z,m,nm,p,d,v3,h3,⟨by first|assumption|(unfold aX;dsimp only;omega),by first|assumption|(unfold aX;dsimp only;omega),by first|assumption|(simp;done)|(dsimp only;omega),by first|assumption|(simp;done)|(dsimp only;omega),by first|assumption|(simp;done)|(dsimp only;omega)⟩,?_⟩
   exact fI
  have q1':(q=1)=False:=by simp [q1]
  by_cases q2:q=2
  ·subst q2
   obtain ⟨⟨z,v3⟩,⟨h3,h3m⟩,e3⟩:=nT v2 [(-1),1000000001,1099511627776,9223372036854775807] h2 (by simp) (by simp)
   simp only [bM,List.map_cons,List.map_nil] at e3
   dsimp only at h3
   have h3i:aX z:=by simp only [List.mem_cons,List.not_mem_nil,or_false] at h3m;unfold aX;omega
   clear h3m
   refine eA (Z3 e1 e2 e3) ?_
   refine ⟨k,t,z,nm,p,d,v3,h3,⟨by first|assumption|(unfold aX;dsimp only;omega),by first|assumption|(unfold aX;dsimp only;omega),by first|assumption|(simp;done)|(dsimp only;omega),by first|assumption|(simp;done)|(dsimp only;omega),by first|assumption|(simp;done)|(dsimp only;omega)⟩,?_⟩
   exact fI
  have q2':(q=2)=False:=by simp [q2]
  by_cases q3:q=3
  ·subst q3
   obtain ⟨⟨z,v3⟩,⟨h3,h3l⟩,e3⟩:=aTx v2 h2
   dsimp only at h3 h3l e3
   refine eA (Z3 e1 e2 e3) ?_
   refine ⟨k,t,m,nm,z,d,v3,h3,⟨by first|assumption|(unfold aX;dsimp only;omega),by first|assumption|(unfold aX;dsimp only;omega),by first|assumption|(simp;done)|(dsimp only;omega),by first|assumption|(simp;done)|(dsimp only;omega),by first|assumption|(simp;done)|(dsimp only;omega)⟩,?_⟩
   exact fI
  have q3':(q=3)=False:=by simp [q3]
  by_cases q4:q=4
  ·subst q4
   obtain ⟨⟨q,v3⟩,⟨h3,h3a,h3b⟩,e3⟩:=jW v2 2 h2
   dsimp only at h3 h3a h3b e3
   have hwq:IntKind.i64.wrap (300+q)=300+q:=aA (by omega) (by have:=h3b (by omega);omega)
   obtain ⟨⟨z,v4⟩,⟨h4,h4l⟩,e4⟩:=aLc v3 (300+q) h3 (by have:=h3b (by omega);omega)
   dsimp only at h4 h4l e4
   have jv4:=aZ z
   refine cP (Y2 hwq @eP) (Z4 e1 e2 e3 e4) ?_
   refine ⟨k,t,m,nm,p,z,v4,h4,⟨by first|assumption|(unfold aX;dsimp only;omega),by first|assumption|(unfold aX;dsimp only;omega),by first|assumption|(simp;done)|(dsimp only;omega),by first|assumption|(simp;done)|(dsimp only;omega),by first|assumption|(simp;done)|(dsimp only;omega)⟩,?_⟩
   exact dV (Y2 hwq @eP)
  have q4':(q=4)=False:=by simp [q4]
  exact absurd (h2b (by omega)) (by omega)
 rintro st ⟨k1,t1,m1,n1,p1,d1,u4,g4,hq4,rfl⟩
 clear e1
 obtain ⟨⟨s2,q1,q2,q3,q4,q5⟩,⟨hs2,-,-⟩,cst⟩:=aRl (300+2*i) s k1 t1 m1 n1 p1 d1 hs (by omega) (by omega)
 dsimp only at hs2 cst
 have hrl:=cC q5
 refine cP @aM.eq_1 (Z1 cst) ?_
 refine ⟨n-(i+1),by omega,i+1,rfl,hlt,s2,u4,out++[⟨k1,t1,n1,p1,d1,m1⟩],eD.up hs2 (by omega),g4,⟨by simp;omega,fun r hr=>by
  rcases List.mem_append.1 hr with hr|hr
  ·exact hom r hr
  ·simp at hr;subst hr;exact hq4⟩,?_⟩
 exact dV (Y2 hwi @pR.eq_1)
theorem aEZ:∀ k:Nat,k<16->(48<=(gG k).toNat/\(gG k).toNat<=57/\(gG k).toNat=k+48) ∨
  (¬(48<=(gG k).toNat/\(gG k).toNat<=57)/\97<=(gG k ||| 32).toNat/\(gG k ||| 32).toNat<=102/\(gG k ||| 32).toNat=k+87):=by decide +kernel
theorem aIm (x y:UInt8) (j k:Nat) (hj:j<16) (hk:k<16) (hx:x=gG j) (hy:y=gG k):
  aC PP GG 49 [.d (.str [x,y]),.d (.int .i64 16),.d (.int .i64 8)] (.tup [.d (.int .u64 ((16*j+k:Nat):Int)),.d (.err true)]) [none,none,none]:=by
 refine cv Tryz.func49 [.d (.int .u64 ((16*j+k:Nat):Int)),.d (.err true)] ?_
 refine u_1 ?_
 refine u_3 ?_
 refine aO rfl (fun h=>aN ?_) (fun h=>aQ ?_)
 ·simp at h
 refine u_1 ?_
 refine u_1 ?_
 refine aN (?_)
 refine aU (aN ?_)
 refine u_5 ?_
 refine aO rfl (fun h=>aQ ?_) (fun h=>?_)
 rotate_left
 ·simp at h
 refine u_3 ?_
 refine aO rfl (fun h=>?_) (fun h=>aN ?_)
 ·simp at h
 refine u_5 ?_
 refine aO rfl (fun h=>?_) (fun h=>aQ ?_)
 ·simp at h
 refine u_1 ?_
 refine u_3 ?_
 refine aU (aN ?_)
 refine u_5 ?_
 refine aO rfl (fun h=>?_) (fun h=>aN ?_)
 ·simp at h
 refine u_5 ?_
 refine aO rfl (fun h=>?_) (fun h=>?_)
 rotate_left
 ·simp at h
 refine u_5 ?_
 have w8:IntKind.u64.wrap 8=8:=rfl
 have w256:IntKind.u64.wrap 256=256:=rfl
 have w255:IntKind.u64.wrap 255=255:=rfl
 refine u_6 (Y3 w8 w256 w255) ?_
 refine u_1 ?_
 refine u_1 ?_
 refine aN (aN (?_))
 obtain ⟨B,hB⟩:∃ B,B=aB [x,y]:=⟨_,rfl⟩
 have hBl:B.length=2:=by rw [hB];rfl
 apply mQ
 ·intro K hK
  simp [<-hB,hBl]
  repeat' (first|with_reducible exact hK|(with_reducible refine aJ (fun _=>?_) (fun _=>?_)<;>simp [<-hB,hBl])|with_reducible refine And.intro ?_ ?_|with_reducible exact aL rfl|with_reducible assumption|omega)
 refine aU (bH (fun n st=>∃ i q:Nat,n=2-i/\i<=2/\(i=0->q=0)/\(i=1->q=j)/\(i=2->q=16*j+k) ∧
  st=⟨[],[(1,.d (.int .i64 16)),(8,.d (.bool false)),(9,.d (.str [x,y])),(10,.d (.int .u64 1152921504606846976)),(11,.d (.int .u64 255)),(12,.d (.bool false)),(13,.d (.int .u64 (q:Nat))),(99,.d (.slc 1 B)),(100,.d (.int .i64 2)),(101,.d (.int .i64 i))],[],0⟩) _ ⟨0,0,rfl,by omega,fun _=>rfl,fun h=>by omega,fun h=>by omega,rfl⟩ ?_)
 rintro n st ⟨i,q,rfl,hi,hq1,hq2,hq3,rfl⟩
 refine u_1 ?_
 refine aN (?_)
 refine aO rfl (fun h=>aQ ?_) (fun h=>cR ?_)
 ·simp at h
  have hi2:i<2:=by omega
  clear h
  obtain ⟨b,d,hb,hd,hbx,hby⟩:∃ (b:UInt8) (d:Nat),B[i]?=some [.int .u8 b.toNat]/\(d<16/\b=gG d)/\(i=0->d=j)/\(i=1->d=k):=by
   rcases (show i=0\/i=1 by omega) with rfl|rfl
   ·exact ⟨x,j,by rw [hB];rfl,⟨hj,hx⟩,fun _=>rfl,fun h=>by omega⟩
   ·exact ⟨y,k,by rw [hB];rfl,⟨hk,hy⟩,fun h=>by omega,fun _=>rfl⟩
  have hq16:q<16:=by
   rcases (show i=0\/i=1 by omega) with rfl|rfl
   ·have:=hq1 rfl;omega
   ·have:=hq2 rfl;omega
  have clow:=aQY b
  have hc:=aEZ d hd.1
  rw [<-hd.2] at hc
  have hd:=hd.1
  refine aN (aU (aN ?_))
  refine u_2 (Y2 hb hBl) ?_
  refine u_1 ?_
  refine (qK [1,8,9,10,11,12,13,16,99,100,101] (fun st'=>st'=⟨[],[(1,.d (.int .i64 16)),(8,.d (.bool false)),(9,.d (.str [x,y])),(10,.d (.int .u64 1152921504606846976)),(11,.d (.int .u64 255)),(12,.d (.bool false)),(13,.d (.int .u64 (q:Nat))),(16,.d (.int .u8 d)),(99,.d (.slc 1 B)),(100,.d (.int .i64 2)),(101,.d (.int .i64 i))],[],0⟩) ?_ ?_)
  ·refine aU (aN ?_)
   refine aSx 106 (false) ?_
   refine aO rfl (fun h=>?_) (fun h=>aN ?_)
   ·cases h
   rcases hc with ⟨c1,c2,c3⟩|⟨c1,c2,c4,c3⟩
   ·refine aSx 112 (true) ?_
    refine aO rfl (fun h=>?_) (fun h=>?_)
    rotate_left
    ·cases h
    have w:IntKind.u8.wrap ((b.toNat:Int)-48)=(d:Int):=by rw [IntKind.wrap_u8];omega
    refine u_2 w ?_
    simp [gc,bP,cI,gcV,gcO,dS,eH,aY,bR,bU,dU]
   ·refine aSx 112 (false) ?_
    refine aO rfl (fun h=>?_) (fun h=>aN ?_)
    ·cases h
    generalize (b ||| 32).toNat=L at clow c2 c3 c4
    refine aSy (Z1 clow) 121 (true) ?_
    refine aO rfl (fun h=>?_) (fun h=>?_)
    rotate_left
    ·cases h
    have w:IntKind.u8.wrap ((L:Int)-97)=(L:Int)-97:=by rw [IntKind.wrap_u8];omega
    have w2:IntKind.u8.wrap ((L:Int)-97+10)=(d:Int):=by rw [IntKind.wrap_u8];omega
    apply mQ
    ·intro K hK
     simp [w,w2]
     repeat' (first|with_reducible exact hK|(with_reducible refine aF (clow) ?_;simp [w,w2])|(with_reducible refine aJ (fun _=>?_) (fun _=>?_)<;>simp [w,w2])|with_reducible refine And.intro ?_ ?_|with_reducible exact aL rfl|with_reducible assumption|omega)
    simp [gc,bP,cI,gcV,gcO,dS,eH,aY,bR,bU,dU]
  ·rintro st' rfl
   have w16:IntKind.u8.wrap 16=16:=rfl
   have w16':IntKind.u64.wrap 16=16:=rfl
   refine aP4 w16 137 (false) ?_
   refine aO rfl (fun h=>?_) (fun h=>aQ ?_)
   ·cases h
   refine aCg 141 (false) ?_
   refine aO rfl (fun h=>?_) (fun h=>aQ ?_)
   ·cases h
   have w1:IntKind.u64.wrap ((q:Int)*16)=q*16:=by rw [IntKind.wrap_u64];omega
   have w2:IntKind.u64.wrap (d:Int)=d:=by rw [IntKind.wrap_u64];omega
   have w3:IntKind.u64.wrap ((q:Int)*16+d)=((q*16+d:Nat):Int):=by rw [IntKind.wrap_u64];omega
   refine u_6 (Y2 w16' w1) ?_
   refine u_6 (Y2 w2 w3) ?_
   refine aCg 159 (false) ?_
   refine aO rfl (fun h=>?_) (fun h=>aQ ?_)
   ·cases h
   refine u_5 ?_
   refine u_5 ?_
   refine ⟨2-(i+1),by omega,i+1,q*16+d,rfl,by omega,fun h=>by omega,fun h=>?_,fun h=>?_,?_⟩
   ·have e0:i=0:=by omega
    have:=hq1 e0
    have:=hbx e0
    omega
   ·have e1:i=1:=by omega
    have:=hq2 e1
    have:=hby e1
    omega
   ·simp [gc,bP,cI,gcV,gcO,dS,eH,aY,bR,bU,dU]
    rw [aA (by omega) (by omega)]
 ·simp at h
  have e2:i=2:=by omega
  have hq:=hq3 e2
  rw [hq]
  refine aCg 169 (false) ?_
  refine aO rfl (fun h=>?_) (fun h=>aQ ?_)
  ·cases h
  refine u_1 ?_
  exact u_7
theorem aLY (x y:UInt8) (j k:Nat) (hj:j<16) (hk:k<16) (hx:x=gG j) (hy:y=gG k):
  aC PP GG 31 [.d (.str [x,y]),.d (.int .i64 16),.d (.int .i64 8)] (.tup [.d (.int .u64 ((16*j+k:Nat):Int)),.d (.err true)]) [none,none,none]:=by
 refine cv Tryz.func31 [.d (.int .u64 ((16*j+k:Nat):Int)),.d (.err true)] ?_
 have ci:=aIm x y j k hj hk hx hy
 exact oE (Z1 ci)
theorem aRs {a:List UInt8} {i:Nat} {x:UInt8} (h:a[i]?=some x):∃ c d:UInt8,c=gG (x.toNat / 16)/\d=gG (x.toNat % 16)/\((nG a).take (2*i+2)).drop (2*i)=[c,d]:=by
 refine ⟨_,_,rfl,rfl,?_⟩
 have hi:=(List.getElem?_eq_some_iff.1 h).1
 have e:(nG a).take (2*(i+1))=nG (a.take (i+1)):=by
  have:nG a=nG (a.take (i+1))++nG (a.drop (i+1)):=by
   unfold nG
   rw [<-List.flatMap_append,List.take_append_drop]
  rw [this,List.take_append_of_le_length (by rw [xM,List.length_take];omega),List.take_of_length_le (by rw [xM,List.length_take];omega)]
 rw [show 2*i+2=2*(i+1) by omega,e,aLo h,List.drop_append_of_le_length (by rw [xM,List.length_take];omega),List.drop_eq_nil_of_le (by rw [xM,List.length_take];omega)]
 rfl
theorem aEX (a:List UInt8) (ha:a.length<=2000):aC PP GG 11 [.d (.str (nG a))] (.tup [.own 0 1 (aB a),.d (.bool true)]) [none]:=by
 refine cv Tryz.func11 [.own 0 1 (aB a),.d (.bool true)] ?_
 obtain ⟨s,hs⟩:∃ s,nG a=s:=⟨_,rfl⟩
 obtain ⟨m,hm2⟩:∃ m,a.length=m:=⟨_,rfl⟩
 have hsl:s.length=2*m:=by rw [<-hs,xM,hm2]
 have hm:(((2*m:Nat):Int)).tmod 2=0:=by rw [show (((2*m:Nat):Int)).tmod 2=((2*m % 2:Nat):Int) from rfl];omega
 have hq:(((2*m:Nat):Int)).tdiv 2=m:=by rw [show (((2*m:Nat):Int)).tdiv 2=((2*m / 2:Nat):Int) from rfl];omega
 have hw:IntKind.i64.wrap (m:Int)=m:=aA (by omega) (by omega)
 rw [hs]
 refine u_1 ?_
 refine aP4 (Y2 hm hsl) 16 (false) ?_
 refine aO rfl (fun h=>?_) (fun h=>aQ ?_)
 ·cases h
 refine u_6 (Y5 hsl hq hw @mkA.eq_1 @aM.eq_1) ?_
 refine u_3 ?_
 refine aU (bH (fun n st=>∃ (i:Nat) (R:List (List D)),n=m-i/\i<=m/\R.length=m/\(∀ r,r∈R->r.length=1)/\R.take i=aB (a.take i) ∧
  st=⟨[],[(0,.d (.str s)),(4,.sl 0),(22,.d (.int .i64 m)),(23,.d (.int .i64 i))],[(0,.arr 0 0 1 R)],1⟩) _ ⟨0,List.replicate m [.int .u8 0],rfl,by omega,by simp,by simp,rfl,rfl⟩ ?_)
 rintro n st ⟨i,R,rfl,hi,hl,h1,hR,rfl⟩
 refine u_1 ?_
 refine aN (?_)
 refine aO rfl (fun h2=>aQ ?_) (fun h2=>cR ?_)
 ·simp at h2
  have hx:=List.getElem?_eq_getElem (show i<a.length by omega)
  generalize a[i]'_=x at hx
  obtain ⟨c,d,hc,hd,htd⟩:=aRs hx
  rw [hs] at htd
  have hxl:=x.toNat_lt
  have cp:=aLY c d (x.toNat / 16) (x.toNat % 16) (by omega) (by omega) hc hd
  have hv:16*(x.toNat / 16)+x.toNat % 16=x.toNat:=by omega
  rw [hv] at cp
  have w1:IntKind.i64.wrap (2*(i:Int))=2*i:=aA (by omega) (by omega)
  have w2:IntKind.i64.wrap (2*(i:Int)+2)=2*i+2:=aA (by omega) (by omega)
  have t1:(2*(i:Int)).toNat=2*i:=by omega
  have t2:(2*(i:Int)+2).toNat=2*i+2:=by omega
  refine aN (aU (aN ?_))
  refine u_5 ?_
  obtain ⟨d,hd⟩:=aSU h1 (show i<R.length by omega)
  have w3:IntKind.u8.wrap (x.toNat:Int)=(x.toNat:Int):=by rw [IntKind.wrap_u8];omega
  refine aP7 (Y6 w1 w2 t1 t2 htd hsl) (Z1 cp) ?_
  refine u_3 ?_
  refine aO rfl (fun h3=>?_) (fun h3=>aQ ?_)
  ·simp at h3
  refine u_2 (Y3 w3 hd hl) ?_
  refine u_5 ?_
  refine ⟨m-(i+1),by omega,i+1,R.set i [.int .u8 x.toNat],rfl,by omega,by simpa using hl,aSM h1,by rw [aFr (by omega),hR,pW hx],?_⟩
  simp [gc,bP,cI,gcV,gcO,dS,eH,aY,bR,bU,dU]
  rw [aA (by omega) (by omega)]
 ·simp at h2
  have him:i=m:=by omega
  rw [List.take_of_length_le (by omega),List.take_of_length_le (by omega)] at hR
  subst hR
  refine aWq hs (Z1 (aEY a (by omega))) ?_
  refine aO rfl (fun h3=>?_) (fun h3=>aQ ?_)
  ·simp at h3
  refine u_1 ?_
  exact u_7
theorem aJ9 (line:List UInt8) (hline:line.length<=4000000):aC PP GG 8 [.d (.str line)] (.tup [.agg ((jI line).getD eV).o,.d (.bool (jI line).isSome)]) [none]:=by
 refine cv Tryz.func8 [.agg ((jI line).getD eV).o,.d (.bool (jI line).isSome)] ?_
 have cp:=aDk line hline
 generalize (jI line).getD eV=r at cp ⊢
 generalize (jI line).isSome=b at cp ⊢
 exact oE (Z1 cp)
theorem aKP (l:List dX) (i:Nat) (x:dX):pR (l.set i x)=(pR l).set i x.row:=by simp [pR,List.map_set]
theorem aFT (c:Cur) (n:Nat) (hc:c.good) (hn:n<=4):∃ a:List dX×Cur,(a.2.good/\a.1.length=n/\∀ r,r∈a.1->aFK r)/\aC PP GG 16 [.box c.o,.d (.int .i64 (n:Nat))] (.own 0 6 (pR a.1)) [some (.box a.2.o),none]:=by
 refine cvD Tryz.func16 (α:=List dX×Cur) 1 _ (fun a=>[.own 0 6 (pR a.1)]) _ (fun _=>rfl) ?_
 obtain ⟨⟨l,u⟩,⟨g0,hl,hm⟩,c0⟩:=aFU c n hc hn
 dsimp only at g0 hl hm c0
 have hil:=wQ l
 refine eA (Z1 c0) ?_
 refine gA (fun q st=>∃ i:Nat,q=n-i/\i<=n/\∃ (L:List dX) (u:Cur),(u.good/\L.length=n/\∀ r,r∈L->aFK r)/\st=⟨[],[(0,.ptr 0 0),(5,.sl 1),(6,.d (.int .i64 (i:Nat)))],[(0,.box (aIx u)),(1,.arr 0 0 6 (pR L))],2⟩) _ ⟨0,rfl,by omega,l,u,⟨g0,hl,hm⟩,?_⟩ ?_
 ·exact fI
 clear c0
 rintro q st ⟨i,rfl,hi,L,u,⟨gu,hL,hM⟩,rfl⟩
 have hLl:(pR L).length=n:=by rw [aQD];exact hL
 have hwi:IntKind.i64.wrap ((i:Int)+1)=(i:Int)+1:=aA (by omega) (by omega)
 have hiL:=wQ L
 by_cases hlt:i<n
 rotate_left
 ·have hlt2:((i:Int)<((n:Nat):Int))=False:=by simp;omega
  refine iZ (Y2 hL hlt2) ?_
  exact ⟨(L,u),⟨gu,hL,hM⟩,by simp [Fin]⟩
 have hlt2:((i:Int)<((n:Nat):Int))=True:=by simp;omega
 have hset:∀ (K:List dX) (y:dX),K.length=n->(∀ r,r∈K->aFK r)->aFK y->(K.set i y).length=n/\∀ r,r∈K.set i y->aFK r:=fun K y h1 h2 h3=>
  ⟨by rw [List.length_set];exact h1,fun r hr=>by
   rcases List.mem_or_eq_of_mem_set hr with hr|hr
   ·exact h2 r hr
   ·rw [hr];exact h3⟩
 have ha:=List.getElem?_eq_getElem (show i<L.length by omega)
 have hx:=hM _ (List.getElem_mem (show i<L.length by omega))
 generalize L[i]=x at ha hx
 have hax:(pR L)[i]?=some x.row:=by rw [aEt,ha];rfl
 refine aSq (Y2 hL hlt2) ?_
 refine dN rfl (fun _=>eC ?_) (fun h=>by cases h)
 refine eL (?_)
 refine dR ?_
 refine oD [0,5,6] (fun st'=>∃ L1:List dX,(L1.length=n/\∀ r,r∈L1->aFK r)/\st'=⟨[],[(0,.ptr 0 0),(5,.sl 1),(6,.d (.int .i64 (i:Nat)))],[(0,.box (aIx u)),(1,.arr 0 0 6 (pR L1))],2⟩) ?_ ?_
 ·obtain ⟨x1,x2,x3,x4,x5,x6⟩:=x
  by_cases h11:11<=x1
  ·have h11':(11<=x1)=True:=by simp [h11]
   have hs1:=hset L ⟨x1,0,x3,x4,x5,x6⟩ hL hM ⟨by simp [aX],hx.2⟩
   have hs2:=aKP L i ⟨x1,0,x3,x4,x5,x6⟩
   refine iZ (Y4 hL hax h11' hlt2) ?_
   refine ⟨_,hs1,?_⟩
   rw [hs2]
   exact fI
  ·have h11':(11<=x1)=False:=by simp [h11]
   refine iZ (Y4 hL hax h11' hlt2) ?_
   refine ⟨L,⟨hL,hM⟩,?_⟩
   exact fI
 rintro st ⟨L1,⟨hL1,hM1⟩,rfl⟩
 have hiL1:=wQ L1
 have ha1:=List.getElem?_eq_getElem (show i<L1.length by omega)
 have hx1:=hM1 _ (List.getElem_mem (show i<L1.length by omega))
 generalize L1[i]=y at ha1 hx1
 obtain ⟨y1,y2,y3,y4,y5,y6⟩:=y
 have hax1:(pR L1)[i]?=some [.int .i64 y1,.int .i64 y2,.str y3,.str y4,.str y5,.int .i64 y6]:=by rw [aEt,ha1];rfl
 by_cases h4:y1=4
 ·have h4':(y1=4)=True:=by simp [h4]
  obtain ⟨⟨d,v⟩,⟨gv,hdl⟩,e1⟩:=rK u [[],[118],[115,101,99,114,101,116],[120,61,49]] gu (by simp) (by simp) (by simp)
  simp only [aK,List.map_cons,List.map_nil] at e1
  dsimp only at gv hdl
  have hs1:=hset L1 ⟨y1,y2,y3,y4,d,y6⟩ hL1 hM1 ⟨hx1.1,hx1.2.1,hx1.2.2.1,hx1.2.2.2.1,hdl⟩
  have hs2:=aKP L1 i ⟨y1,y2,y3,y4,d,y6⟩
  refine cP (Y4 hL1 hax1 h4' hlt2) (Z1 e1) ?_
  refine ⟨n-(i+1),by omega,i+1,rfl,hlt,L1.set i ⟨y1,y2,y3,y4,d,y6⟩,v,⟨gv,hs1⟩,?_⟩
  rw [hs2]
  exact dV hwi
 ·have h4':(y1=4)=False:=by simp [h4]
  refine iZ (Y4 hL1 hax1 h4' hlt2) ?_
  refine ⟨n-(i+1),by omega,i+1,rfl,hlt,L1,u,⟨gu,hL1,hM1⟩,?_⟩
  exact dV hwi
theorem aCA (c:Cur) (l:List (List UInt8)) (hc:c.good) (hl:l≠[]) (hs:l.length<=100) (hb:∀ x,x∈l->x.length<=3):∃ a:List UInt8×Cur,(a.2.good/\a.1.length<=3)/\aC PP GG 19 [.box c.o,.own 0 1 (aK l)] (.d (.str a.1)) [some (.box a.2.o),none]:=
 ⟨fW c [] l,⟨jC hc _ _,hb _ (kQ c [] hl)⟩,tM c l hc hl hs⟩
theorem aGn (code:List UInt8) (hl:code.length<=1048577):∃ r:dX,aEo r/\aC PP GG 5 [.d (.slc 1 (aB code))] (.agg r.c) [none]:=by
 refine cvD Tryz.func5 (α:=dX) 1 _ (fun r=>[.agg r.c]) _ (fun _=>rfl) ?_
 have c1:=aRa code hl
 have g1:=aGX hl
 generalize aLb code=u at *
 obtain ⟨⟨b,u1⟩,⟨h1,h1a,h1b⟩,e1⟩:=jW u 4 g1
 dsimp only at h1 h1a h1b e1
 have h1c:=h1b (by omega)
 have hw:IntKind.i64.wrap (1+b)=1+b:=aA (by omega) (by omega)
 obtain ⟨m,hm⟩:∃ m:Nat,1+b=(m:Int):=⟨(1+b).toNat,by omega⟩
 obtain ⟨⟨l,u2⟩,⟨h2,h2l,h2m⟩,e2⟩:=aFT u1 m h1 (by omega)
 dsimp only at h2 h2l h2m e2
 rw [<-hm] at e2
 have hil:=wQ l
 obtain rfl:m=l.length:=by omega
 have hw2:IntKind.i64.wrap (((l.length:Nat):Int)-1)=((l.length-1:Nat):Int):=by rw [aA (by omega) (by omega)];omega
 have hge:((0:Int)<=((l.length-1:Nat):Int))=True:=by simp
 have hlt:(((l.length-1:Nat):Int)<((l.length:Nat):Int))=True:=by simp;omega
 have hn2:(((l.length-1:Nat):Int)).toNat=l.length-1:=by simp
 have ha:=List.getElem?_eq_getElem (show l.length-1<l.length by omega)
 have hx:=h2m _ (List.getElem_mem (show l.length-1<l.length by omega))
 generalize l[l.length-1]=x at ha hx
 have hax:(pR l)[l.length-1]?=some x.row:=by rw [aEt,ha];rfl
 obtain ⟨k,t,nm,p,d,n⟩:=x
 obtain ⟨hx1,hx2,hx3,hx4,hx5⟩:=hx
 dsimp only at hx1 hx2 hx3 hx4 hx5
 have l3:nm.length<=1048576:=by omega
 have l4:p.length<=1048576:=by omega
 have l5:d.length<=1048576:=by omega
 obtain ⟨⟨o,v1⟩,g3,e3⟩:=xJ u2 6 h2
 dsimp only at g3 e3
 cases o
 ·repeat' (first|refine gH ?_|refine eL ?_|refine eC ?_|refine dR ?_|refine eW ?_|refine aW rfl ?_|refine bB rfl ?_|((first|refine eQ fun K hK=>?_|refine dQ fun K hK=>?_|with_reducible refine aF (c1) ?_|with_reducible refine aF (e1) ?_|with_reducible refine aF (e2) ?_|with_reducible refine aF (e3) ?_);simp [Fin,hw,hw2,hge,hlt,hn2,hax])|(with_reducible refine hK _ ?_;clear hK K)|(with_reducible refine aJ (fun h=>?_) (fun h=>?_)<;>first|(exfalso;simp at h;first|done|omega|contradiction)|((try simp at h);simp [hw,hw2,hge,hlt,hn2,hax]))|with_reducible refine And.intro ?_ ?_|with_reducible exact aL rfl|with_reducible assumption|(refine dN rfl (fun h=>?_) (fun h=>?_)<;>first|(exfalso;simp at h;first|done|omega|contradiction)|(exfalso;simp_all;done)|(try simp at h))|omega)
  all_goals exact ⟨⟨k,t,nm,p,d,n⟩,⟨hx1,hx2,l3,l4,l5⟩,by simp [Fin]⟩
 obtain ⟨⟨q,v2⟩,⟨g4,h4a,h4b⟩,e4⟩:=jW v1 4 g3
 dsimp only at g4 h4a h4b e4
 have h4c:=h4b (by omega)
 have hlen:∀ (y z:List UInt8),y.length<=1000000->z.length<=3->(y++z).length<=1048576:=fun y z h1 h2=>by simp;omega
 by_cases q0:q=0
 ·subst q0
  obtain ⟨⟨y,v3⟩,⟨g5,h5⟩,e5⟩:=aCA v2 [[120],[46],[32]] g4 (by simp) (by simp) (by simp)
  simp only [aK,List.map_cons,List.map_nil] at e5
  dsimp only at g5 h5
  repeat' (first|refine gH ?_|refine eL ?_|refine eC ?_|refine dR ?_|refine eW ?_|refine aW rfl ?_|refine bB rfl ?_|((first|refine eQ fun K hK=>?_|refine dQ fun K hK=>?_|with_reducible refine aF (c1) ?_|with_reducible refine aF (e1) ?_|with_reducible refine aF (e2) ?_|with_reducible refine aF (e3) ?_|with_reducible refine aF (e4) ?_|with_reducible refine aF (e5) ?_);simp [Fin,hw,hw2,hge,hlt,hn2,hax,dP])|(with_reducible refine hK _ ?_;clear hK K)|(with_reducible refine aJ (fun h=>?_) (fun h=>?_)<;>first|(exfalso;simp at h;first|done|omega|contradiction)|((try simp at h);simp [hw,hw2,hge,hlt,hn2,hax,dP]))|with_reducible refine And.intro ?_ ?_|with_reducible exact aL rfl|with_reducible assumption|(refine dN rfl (fun h=>?_) (fun h=>?_)<;>first|(exfalso;simp at h;first|done|omega|contradiction)|(exfalso;simp_all;done)|(try simp at h))|omega)
  all_goals exact ⟨⟨k,t,nm,p,d++y,n⟩,⟨hx1,hx2,l3,l4,hlen d y hx5 h5⟩,by simp [Fin]⟩
 by_cases q1:q=1
 ·subst q1
  repeat' (first|refine gH ?_|refine eL ?_|refine eC ?_|refine dR ?_|refine eW ?_|refine aW rfl ?_|refine bB rfl ?_|((first|refine eQ fun K hK=>?_|refine dQ fun K hK=>?_|with_reducible refine aF (c1) ?_|with_reducible refine aF (e1) ?_|with_reducible refine aF (e2) ?_|with_reducible refine aF (e3) ?_|with_reducible refine aF (e4) ?_);simp [Fin,hw,hw2,hge,hlt,hn2,hax])|(with_reducible refine hK _ ?_;clear hK K)|(with_reducible refine aJ (fun h=>?_) (fun h=>?_)<;>first|(exfalso;simp at h;first|done|omega|contradiction)|((try simp at h);simp [hw,hw2,hge,hlt,hn2,hax]))|with_reducible refine And.intro ?_ ?_|with_reducible exact aL rfl|with_reducible assumption|(refine dN rfl (fun h=>?_) (fun h=>?_)<;>first|(exfalso;simp at h;first|done|omega|contradiction)|(exfalso;simp_all;done)|(try simp at h))|omega)
  all_goals exact ⟨⟨k,t,nm,p,d,IntKind.i64.wrap (n+1)⟩,⟨hx1,aPU _,l3,l4,l5⟩,by simp [Fin]⟩
 by_cases q2:q=2
 ·subst q2
  obtain ⟨⟨y,v3⟩,⟨g5,h5⟩,e5⟩:=aCA v2 [[],[46],[97,32,98],[113]] g4 (by simp) (by simp) (by simp)
  simp only [aK,List.map_cons,List.map_nil] at e5
  dsimp only at g5 h5
  repeat' (first|refine gH ?_|refine eL ?_|refine eC ?_|refine dR ?_|refine eW ?_|refine aW rfl ?_|refine bB rfl ?_|((first|refine eQ fun K hK=>?_|refine dQ fun K hK=>?_|with_reducible refine aF (c1) ?_|with_reducible refine aF (e1) ?_|with_reducible refine aF (e2) ?_|with_reducible refine aF (e3) ?_|with_reducible refine aF (e4) ?_|with_reducible refine aF (e5) ?_);simp [Fin,hw,hw2,hge,hlt,hn2,hax])|(with_reducible refine hK _ ?_;clear hK K)|(with_reducible refine aJ (fun h=>?_) (fun h=>?_)<;>first|(exfalso;simp at h;first|done|omega|contradiction)|((try simp at h);simp [hw,hw2,hge,hlt,hn2,hax]))|with_reducible refine And.intro ?_ ?_|with_reducible exact aL rfl|with_reducible assumption|(refine dN rfl (fun h=>?_) (fun h=>?_)<;>first|(exfalso;simp at h;first|done|omega|contradiction)|(exfalso;simp_all;done)|(try simp at h))|omega)
  all_goals exact ⟨⟨k,t,nm,y,d,n⟩,⟨hx1,hx2,l3,by dsimp only;omega,l5⟩,by simp [Fin]⟩
 have q3:q=3:=by omega
 subst q3
 obtain ⟨⟨y,v3⟩,⟨g5,h5⟩,e5⟩:=aCA v2 [[],[46],[110,109]] g4 (by simp) (by simp) (by simp)
 simp only [aK,List.map_cons,List.map_nil] at e5
 dsimp only at g5 h5
 repeat' (first|refine gH ?_|refine eL ?_|refine eC ?_|refine dR ?_|refine eW ?_|refine aW rfl ?_|refine bB rfl ?_|((first|refine eQ fun K hK=>?_|refine dQ fun K hK=>?_|with_reducible refine aF (c1) ?_|with_reducible refine aF (e1) ?_|with_reducible refine aF (e2) ?_|with_reducible refine aF (e3) ?_|with_reducible refine aF (e4) ?_|with_reducible refine aF (e5) ?_);simp [Fin,hw,hw2,hge,hlt,hn2,hax])|(with_reducible refine hK _ ?_;clear hK K)|(with_reducible refine aJ (fun h=>?_) (fun h=>?_)<;>first|(exfalso;simp at h;first|done|omega|contradiction)|((try simp at h);simp [hw,hw2,hge,hlt,hn2,hax]))|with_reducible refine And.intro ?_ ?_|with_reducible exact aL rfl|with_reducible assumption|(refine dN rfl (fun h=>?_) (fun h=>?_)<;>first|(exfalso;simp at h;first|done|omega|contradiction)|(exfalso;simp_all;done)|(try simp at h))|omega)
 all_goals exact ⟨⟨k,t,y,p,d,n⟩,⟨hx1,hx2,by dsimp only;omega,l4,l5⟩,by simp [Fin]⟩
theorem aGo (code:List UInt8) (hl:code.length<=1048577):∃ r:List UInt8,r.length<=3000/\aC PP GG 9 [.d (.slc 1 (aB code))] (.own 0 1 (aB r)) [none]:=by
 refine cvD Tryz.func9 (α:=List UInt8) 1 _ (fun r=>[.own 0 1 (aB r)]) _ (fun _=>rfl) ?_
 have c1:=aRa code hl
 have g1:=aGX hl
 generalize aLb code=u at *
 obtain ⟨⟨o,u1⟩,g2,e2⟩:=xJ u 30 g1
 dsimp only at g2 e2
 obtain ⟨⟨b,u2⟩,⟨h1,h1a,h1b⟩,e3⟩:=jW u1 (if o=true then 2 else aDb code.length 40) g2
 dsimp only at h1 h1a h1b e3
 cases o
 ·have cz:=aTv code 40 hl
  have hsz:2<=aDb code.length 40/\aDb code.length 40<=40:=by unfold aDb;split<;>omega
  simp only [Bool.false_eq_true,if_false] at h1b e3
  have h1c:=h1b (by omega)
  have cb:=aEO u2 b h1 (by omega)
  have hbl:=uW u2 b.toNat
  generalize aDb code.length 40=z at *
  generalize iU u2 b.toNat=B at *
  refine eA (Z5 c1 e2 cz e3 cb) ?_
  exact ⟨B.1,by omega,by simp [Fin]⟩
 ·simp only [if_true] at h1b e3
  have h1c:=h1b (by omega)
  have hw:IntKind.i64.wrap (2000+b)=2000+b:=aA (by omega) (by omega)
  have cb:=aEO u2 (2000+b) h1 (by omega)
  have hbl:=uW u2 (2000+b).toNat
  generalize iU u2 (2000+b).toNat=B at *
  refine cP hw (Z4 c1 e2 e3 cb) ?_
  exact ⟨B.1,by omega,by simp [Fin]⟩
theorem aLa (code:List UInt8) (hl:code.length<=maxLen):aC PP GG 3 [.d (.slc 1 (aB code))] (.d (.bool true)) [none]:=by
 refine cv Tryz.func3 [.d (.bool true)] ?_
 have cb:=aVL code hl
 by_cases hbig:1048576<code.length
 ·rw [decide_eq_true hbig] at cb
  exact oE (Z1 cb)
 rw [decide_eq_false hbig] at cb
 obtain ⟨r,hr,cd⟩:=aGn code (by omega)
 have cs:=aHI r hr
 have ci:=aIk r hr
 obtain ⟨e1,e2⟩:=aQ4 r
 have hll:=aGU r hr
 have cp:=aJ9 (jL r) (by omega)
 have ca:=aVR code 5 (by omega) (by omega)
 have hal:=aR4 code 5
 generalize aPJ code 5=al at ca hal
 obtain ⟨x,hx,ch⟩:=aGo al (by omega)
 have cc:=aM9 x (by omega)
 have ct:=aIl x
 have cq:=aEX x
 have cm:=aHF x (by omega)
 have hib:=aZ x
 have hia:=aZ al
 rw [<-e1,<-e2] at cs
 have key:∀ (b:Bool),decide (jI (jL r)=some r)=b->(b=true->rH (jI (jL r)) r (jL r)=jL r/\(jI (jL r)).getD eV=r/\(jI (jL r)).isSome=true):=by
  intro b hb h
  subst hb
  have h:=of_decide_eq_true h
  rw [h]
  exact ⟨by simp [rH],rfl,rfl⟩
 obtain ⟨b,hb⟩:∃ b,decide (jI (jL r)=some r)=b:=⟨_,rfl⟩
 have key:=key b hb
 rw [hb] at cs ci
 by_cases hbx:2000<x.length
 ·have h3:((2000:Int)<((x.length:Nat):Int))=True:=by simp;omega
  cases b
  ·exact dO h3 (Z5 cb cd cs ca ch)
  ·obtain ⟨k1,k2,k3⟩:=key rfl
   rw [k1] at cs ci
   rw [k2,k3] at cp
   generalize jL r=L at *
   exact dO h3 (Z7 cb cd cs ci cp ca ch)
 ·have h3:((2000:Int)<((x.length:Nat):Int))=False:=by simp;omega
  rw [if_neg hbx] at ct
  have cq:=cq (by omega)
  generalize nG x=H at *
  cases b
  ·repeat' (first|refine aN ?_|refine aQ ?_|refine aU ?_|(refine cR ?_;first|refine aW rfl ?_|(refine bB rfl ?_;first|refine aW rfl ?_|(refine bB rfl ?_;refine aW rfl ?_)))|(refine iX fun K hK=>?_;simp [h3])|(refine fS fun K hK=>?_;simp [h3])|(with_reducible refine hK _ ?_;clear hK K)|(with_reducible refine aF (cb) ?_;simp [h3])|(with_reducible refine aF (cd) ?_;simp [h3])|(with_reducible refine aF (cs) ?_;simp [h3])|(with_reducible refine aF (ca) ?_;simp [h3])|(with_reducible refine aF (ch) ?_;simp [h3])|(with_reducible refine aF (cc) ?_;simp [h3])|(with_reducible refine aF (ct) ?_;simp [h3])|(with_reducible refine aF (cq) ?_;simp [h3])|(with_reducible refine aF (cm) ?_;simp [h3])|(with_reducible refine aJ (fun h=>?_) (fun h=>?_)<;>first|(exfalso;simp at h;done)|(exfalso;simp at h;omega)|(exfalso;simp at h;contradiction)|((try simp at h);simp [h3]))|with_reducible refine And.intro ?_ ?_|with_reducible exact aL rfl|with_reducible assumption|(refine aO rfl (fun h=>?_) (fun h=>?_)<;>first|(exfalso;simp at h;done)|(exfalso;simp at h;omega)|(exfalso;simp at h;contradiction)|(exfalso;simp_all;done)|(try simp at h))|(refine kI ?_;simp [Fin,h3])|omega)
  ·obtain ⟨k1,k2,k3⟩:=key rfl
   rw [k1] at cs ci
   rw [k2,k3] at cp
   generalize jL r=L at *
   repeat' (first|refine aN ?_|refine aQ ?_|refine aU ?_|(refine cR ?_;first|refine aW rfl ?_|(refine bB rfl ?_;first|refine aW rfl ?_|(refine bB rfl ?_;refine aW rfl ?_)))|(refine iX fun K hK=>?_;simp [h3])|(refine fS fun K hK=>?_;simp [h3])|(with_reducible refine hK _ ?_;clear hK K)|(with_reducible refine aF (cb) ?_;simp [h3])|(with_reducible refine aF (cd) ?_;simp [h3])|(with_reducible refine aF (cs) ?_;simp [h3])|(with_reducible refine aF (ci) ?_;simp [h3])|(with_reducible refine aF (cp) ?_;simp [h3])|(with_reducible refine aF (ca) ?_;simp [h3])|(with_reducible refine aF (ch) ?_;simp [h3])|(with_reducible refine aF (cc) ?_;simp [h3])|(with_reducible refine aF (ct) ?_;simp [h3])|(with_reducible refine aF (cq) ?_;simp [h3])|(with_reducible refine aF (cm) ?_;simp [h3])|(with_reducible refine aJ (fun h=>?_) (fun h=>?_)<;>first|(exfalso;simp at h;done)|(exfalso;simp at h;omega)|(exfalso;simp at h;contradiction)|((try simp at h);simp [h3]))|with_reducible refine And.intro ?_ ?_|with_reducible exact aL rfl|with_reducible assumption|(refine aO rfl (fun h=>?_) (fun h=>?_)<;>first|(exfalso;simp at h;done)|(exfalso;simp at h;omega)|(exfalso;simp at h;contradiction)|(exfalso;simp_all;done)|(try simp at h))|(refine kI ?_;simp [Fin,h3])|omega)
end Go.Proofs.YtiejbbcpihpgpaaGreatDoor.Ab
