/-
  A part of a proof about the given program; what is proved is said where each theorem stands.
-/
import Derived.Test.YtiejbbcpihpgpaaGreatDoorPartG
namespace Go.Proofs
end Go.Proofs
set_option linter.unusedSimpArgs false
set_option linter.unusedVariables false
set_option maxRecDepth 100000
set_option maxHeartbeats 2000000
namespace Go.Proofs.YtiejbbcpihpgpaaGreatDoor.Ab
open Go.Proofs
theorem aRk (n:Nat) (s:aV) (t m:Int) (nm p d:List UInt8) (hs:eD n s) (hv:iG s.aD) (hn:n<=400) (h1:nm.length<=300) (h2:p.length<=300) (h3:d.length<=300):∃ a:lM,gZ (n+1) a/\aC PP GG 112 [.agg (aV.q s),.agg (qP 0 t nm p d m)] (.tup (lZ a)) [none,none]:=by
 refine gU (α:=lM) 2 _ lZ _ (fun _=>rfl) (by kernel_rfl) ?_
 have hw:=(cZ s.aD).1 hv.ok
 have hfit:=gR hv.ok
 have hno:∀ c:Int,0<=c->c<=100->gZ (n+1) (s,c,0,[],[],[]):=fun c h1 h2=>⟨eD.up hs (by omega),h1,h2⟩
 have cno:=fun c:Int=>iD s c
 have e0:aK []=[]:=rfl
 obtain ⟨⟨pw,path⟩,hpl,cpw⟩:=gC 0 t m nm p d (by omega) (by omega)
 dsimp only at hpl cpw
 obtain ⟨⟨pp,ok⟩,hpp,cp⟩:=aGk nm d (by omega) (by omega)
 dsimp only at hpp cp
 have hpl2:=hs.pl
 obtain ⟨r,⟨hr1,hr2⟩,cr⟩:=aLf s.iJ pp (by omega)
 have cn1:=cno 1
 have cn6:=cno 6
 cases ok
 ·refine eA (Z3 cpw cp cn1) ?_
  exact ⟨(s,1,0,[],[],[]),hno 1 (by omega) (by omega),by simp [Fin,e0]⟩
 by_cases hr:nm=[114,111,111,116]
 ·have hr':(nm=[114,111,111,116])=True:=by simp [hr]
  refine cP hr' (Z3 cpw cp cn1) ?_
  exact ⟨(s,1,0,[],[],[]),hno 1 (by omega) (by omega),by simp [Fin,e0]⟩
 have hr':(nm=[114,111,111,116])=False:=by simp [hr]
 have fin:gZ (n+1) ({ s with iJ:=r },0,((r.length:Nat):Int),[],[],[]):=by
  obtain ⟨q1,q2,q3,q4,q5,q6,q7,q8,q9,q10,q11,q12⟩:=eD.up hs (show n<=n+1 by omega)
  exact ⟨⟨q1,q2,by dsimp only;omega,fun x hx=>by
   rcases hr2 x hx with rfl|hx
   ·exact hpp
   ·exact q4 x hx,q5,q6,q7,q8,q9,q10,q11,q12⟩,by dsimp only;omega,by dsimp only;omega⟩
 repeat' (first|refine gH ?_|refine eL ?_|refine eC ?_|refine dR ?_|refine eW ?_|refine aW rfl ?_|refine bB rfl ?_|((first|refine eQ fun K hK=>?_|refine dQ fun K hK=>?_|with_reducible refine aF (cpw) ?_|with_reducible refine aF (cp) ?_|with_reducible refine aF (cr) ?_|with_reducible refine aF (cn6) ?_);simp [Fin,hr'])|(with_reducible refine hK _ ?_;clear hK K)|(with_reducible refine aJ (fun h=>?_) (fun h=>?_)<;>first|(exfalso;simp at h;first|done|omega|contradiction)|((try simp at h);simp [hr']))|with_reducible refine And.intro ?_ ?_|with_reducible exact aL rfl|with_reducible assumption|(refine dN rfl (fun h=>?_) (fun h=>?_)<;>first|(exfalso;simp at h;first|done|omega|contradiction)|(exfalso;simp_all;done)|(try simp at h))|omega)
 all_goals first
  |(simp only [Fin];done)
  |skip
 ·exact ⟨(s,6,0,[],[],[]),hno 6 (by omega) (by omega),by simp [Fin,e0]⟩
 ·exact ⟨_,fin,by simp [Fin,e0]⟩
 ·exact ⟨_,fin,by simp [Fin,e0]⟩
theorem aRj (n:Nat) (s:aV) (t m:Int) (nm p d:List UInt8) (hs:eD n s) (hv:iG s.aD) (hn:n<=400) (h1:nm.length<=300) (h2:p.length<=300) (h3:d.length<=300):∃ a:lM,gZ (n+1) a/\aC PP GG 112 [.agg (aV.q s),.agg (qP 1 t nm p d m)] (.tup (lZ a)) [none,none]:=by
 refine gU (α:=lM) 2 _ lZ _ (fun _=>rfl) (by kernel_rfl) ?_
 have hw:=(cZ s.aD).1 hv.ok
 have hfit:=gR hv.ok
 have hno:∀ c:Int,0<=c->c<=100->gZ (n+1) (s,c,0,[],[],[]):=fun c h1 h2=>⟨eD.up hs (by omega),h1,h2⟩
 have cno:=fun c:Int=>iD s c
 have e0:aK []=[]:=rfl
 obtain ⟨⟨pw,path⟩,hpl,cpw⟩:=gC 1 t m nm p d (by omega) (by omega)
 dsimp only at hpl cpw
 obtain ⟨a,ha,ct⟩:=aMN n s 1 t m nm p d hs hv (by omega)
 refine eA (Z2 cpw ct) ?_
 exact ⟨a,ha,by simp [Fin]⟩
theorem aRi (n:Nat) (s:aV) (t m:Int) (nm p d:List UInt8) (hs:eD n s) (hv:iG s.aD) (hn:n<=400) (h1:nm.length<=300) (h2:p.length<=300) (h3:d.length<=300):∃ a:lM,gZ (n+1) a/\aC PP GG 112 [.agg (aV.q s),.agg (qP 2 t nm p d m)] (.tup (lZ a)) [none,none]:=by
 refine gU (α:=lM) 2 _ lZ _ (fun _=>rfl) (by kernel_rfl) ?_
 have hw:=(cZ s.aD).1 hv.ok
 have hfit:=gR hv.ok
 have hno:∀ c:Int,0<=c->c<=100->gZ (n+1) (s,c,0,[],[],[]):=fun c h1 h2=>⟨eD.up hs (by omega),h1,h2⟩
 have cno:=fun c:Int=>iD s c
 have e0:aK []=[]:=rfl
 obtain ⟨⟨pw,path⟩,hpl,cpw⟩:=gC 2 t m nm p d (by omega) (by omega)
 dsimp only at hpl cpw
 have cc:=aFI s.aD m hfit
 have hl:=aQ3 hv m
 have hm:=aTN s.aD m
 have hg:(ctG s.aD m).length<=4096/\∀ x,x∈ctG s.aD m->aX x:=by
  unfold ctG
  split
  ·refine ⟨by have:=xO s.aD.aE m;have:=((fN s.aD.aE).1 hw.fo).1;omega,fun x hx=>?_⟩
   unfold fG at hx
   rw [if_pos hw.fo] at hx
   obtain ⟨y,hy,rfl⟩:=aPX _ _ x hx
   exact aD5 (((fN s.aD.aE).1 hw.fo).2.1 y hy).1
  ·exact ⟨by simp,by simp⟩
 generalize ctW s.aD m=W at *
 generalize ctG s.aD m=G at *
 obtain ⟨ids,-,ci⟩:=aLg G hg.1 hg.2
 have j1:=cB W.aE.aG
 have j2:=bW W.bA.aP
 have j3:=dH W.bT.bE
 have j4:=fY W.bO.cF
 have j5:=eI W.bI
 have j6:=jE G
 have j7:=cC ids
 have cn:=cno 4
 by_cases h0:G=[]
 ·subst h0
  refine cP @gW (Z3 cpw cc cn) ?_
  exact ⟨(s,4,0,[],[],[]),hno 4 (by omega) (by omega),by simp [Fin,e0]⟩
 ·have h0':(((G.length:Nat):Int)=0)=False:=by simp [h0]
  refine cP (Y2 @gW h0') (Z3 cpw cc ci) ?_
  exact ⟨({ s with aD:=W },0,0,[],[],ids),⟨eD.w hs (by omega) (.inl hl) (by have:=hs.md;omega),by dsimp only;omega,by dsimp only;omega⟩,by simp [Fin]⟩
theorem aRh (n:Nat) (s:aV) (t m:Int) (nm p d:List UInt8) (hs:eD n s) (hv:iG s.aD) (hn:n<=400) (h1:nm.length<=300) (h2:p.length<=300) (h3:d.length<=300):∃ a:lM,gZ (n+1) a/\aC PP GG 112 [.agg (aV.q s),.agg (qP 3 t nm p d m)] (.tup (lZ a)) [none,none]:=by
 refine gU (α:=lM) 2 _ lZ _ (fun _=>rfl) (by kernel_rfl) ?_
 have hw:=(cZ s.aD).1 hv.ok
 have hfit:=gR hv.ok
 have hno:∀ c:Int,0<=c->c<=100->gZ (n+1) (s,c,0,[],[],[]):=fun c h1 h2=>⟨eD.up hs (by omega),h1,h2⟩
 have cno:=fun c:Int=>iD s c
 have e0:aK []=[]:=rfl
 obtain ⟨⟨pw,path⟩,hpl,cpw⟩:=gC 3 t m nm p d (by omega) (by omega)
 dsimp only at hpl cpw
 obtain ⟨⟨F,c⟩,⟨hF1,hF2⟩,cr⟩:=aJ8 s.aD.aE t s.aD.cT m hfit.1 hw.fo
 dsimp only at hF1 hF2 cr
 have cf1:=lW s.aD.aE t hfit.1
 have cf2:=lW F t hF1
 have cw:=jV s.aD hfit
 have hL:c=0->iG { s.aD with aE:=F }:=by
  intro h
  obtain ⟨k,x,e,g1,g2,g3,g4,rfl⟩:=hF2 h
  have htb:=(((fN s.aD.aE).1 hw.fo).2.1 x (List.mem_of_getElem? g1)).1
  exact aGS hv g1 rfl rfl (aQb htb g2 g3 g4)
 generalize kG s.aD.aE t=o1 at *
 generalize kG F t=o2 at *
 generalize (bX s.aD.aE && cN s.aD.aE t)=k1 at *
 generalize (bX F && cN F t)=k2 at *
 have j1:=cB s.aD.aE.aG
 have j2:=bW s.aD.bA.aP
 have j3:=dH s.aD.bT.bE
 have j4:=fY s.aD.bO.cF
 have j5:=eI s.aD.bI
 have j6:=cB F.aG
 have j7:=cC o1.fO
 have j8:=cC o2.fO
 have cn1:=cno 1
 have cn2:=cno 2
 have cn3:=cno 3
 by_cases hc1:c=1
 ·subst hc1
  refine eA (Z4 cpw cf1 cr cn1) ?_
  exact ⟨(s,1,0,[],[],[]),hno 1 (by omega) (by omega),by simp [Fin,e0]⟩
 by_cases hc4:c=4
 ·subst hc4
  refine eA (Z4 cpw cf1 cr cn1) ?_
  exact ⟨(s,1,0,[],[],[]),hno 1 (by omega) (by omega),by simp [Fin,e0]⟩
 have hc1':(c=1)=False:=by simp [hc1]
 have hc4':(c=4)=False:=by simp [hc4]
 by_cases hc0:c=0
 rotate_left
 ·have hc0':(c=0)=False:=by simp [hc0]
  refine cP (Y3 hc1' hc4' hc0') (Z4 cpw cf1 cr cn2) ?_
  exact ⟨(s,2,0,[],[],[]),hno 2 (by omega) (by omega),by simp [Fin,e0]⟩
 subst hc0
 have hL:=hL rfl
 by_cases he:o1.bS=0
 ·have he':(o1.bS=0)=True:=by simp [he]
  refine cP he' (Z4 cpw cf1 cr cn3) ?_
  exact ⟨(s,3,0,[],[],[]),hno 3 (by omega) (by omega),by simp [Fin,e0]⟩
 ·have he':(o1.bS=0)=False:=by simp [he]
  refine cP he' (Z5 cpw cf1 cr cw cf2) ?_
  exact ⟨({ s with aD:={ s.aD with aE:=F } },0,o2.bS,[],[],[]),⟨eD.w hs (by omega) (.inl hL) (by have:=hs.md;dsimp only;omega),by dsimp only;omega,by dsimp only;omega⟩,by simp [Fin,e0]⟩
theorem aRg (n:Nat) (s:aV) (t m:Int) (nm p d:List UInt8) (hs:eD n s) (hv:iG s.aD) (hn:n<=400) (h1:nm.length<=300) (h2:p.length<=300) (h3:d.length<=300):∃ a:lM,gZ (n+1) a/\aC PP GG 112 [.agg (aV.q s),.agg (qP 4 t nm p d m)] (.tup (lZ a)) [none,none]:=by
 refine gU (α:=lM) 2 _ lZ _ (fun _=>rfl) (by kernel_rfl) ?_
 have hw:=(cZ s.aD).1 hv.ok
 have hfit:=gR hv.ok
 have hno:∀ c:Int,0<=c->c<=100->gZ (n+1) (s,c,0,[],[],[]):=fun c h1 h2=>⟨eD.up hs (by omega),h1,h2⟩
 have cno:=fun c:Int=>iD s c
 have e0:aK []=[]:=rfl
 obtain ⟨⟨pw,path⟩,hpl,cpw⟩:=gC 4 t m nm p d (by omega) (by omega)
 dsimp only at hpl cpw
 obtain ⟨⟨es,c,v⟩,hes,cp⟩:=aTZ s.nB.iF n p d m s.aD.cT (by omega) hs.en (by omega) (by omega)
 dsimp only at hes cp
 have cn1:=cno 1
 have cn5:=cno 5
 have cn6:=cno 6
 have fin:gZ (n+1) ({ s with nB:=⟨es⟩ },0,v,[],[],[]):=by
  obtain ⟨q1,q2,q3,q4,q5,q6,q7,q8,q9,q10,q11,q12⟩:=eD.up hs (show n<=n+1 by omega)
  exact ⟨⟨q1,q2,q3,q4,q5,q6,hes,q8,q9,q10,q11,q12⟩,by dsimp only;omega,by dsimp only;omega⟩
 by_cases hc1:c=1
 ·subst hc1
  refine eA (Z3 cpw cp cn1) ?_
  exact ⟨(s,1,0,[],[],[]),hno 1 (by omega) (by omega),by simp [Fin,e0]⟩
 have hc1':(c=1)=False:=by simp [hc1]
 by_cases hc5:c=5
 ·subst hc5
  refine eA (Z3 cpw cp cn5) ?_
  exact ⟨(s,5,0,[],[],[]),hno 5 (by omega) (by omega),by simp [Fin,e0]⟩
 have hc5':(c=5)=False:=by simp [hc5]
 by_cases hc6:c=6
 ·subst hc6
  refine eA (Z3 cpw cp cn6) ?_
  exact ⟨(s,6,0,[],[],[]),hno 6 (by omega) (by omega),by simp [Fin,e0]⟩
 have hc6':(c=6)=False:=by simp [hc6]
 refine cP (Y3 hc1' hc5' hc6') (Z2 cpw cp) ?_
 exact ⟨_,fin,by simp [Fin,e0]⟩
theorem aRf (n:Nat) (s:aV) (t m:Int) (nm p d:List UInt8) (hs:eD n s) (hv:iG s.aD) (hn:n<=400) (h1:nm.length<=300) (h2:p.length<=300) (h3:d.length<=300):∃ a:lM,gZ (n+1) a/\aC PP GG 112 [.agg (aV.q s),.agg (qP 5 t nm p d m)] (.tup (lZ a)) [none,none]:=by
 refine gU (α:=lM) 2 _ lZ _ (fun _=>rfl) (by kernel_rfl) ?_
 have hw:=(cZ s.aD).1 hv.ok
 have hfit:=gR hv.ok
 have hno:∀ c:Int,0<=c->c<=100->gZ (n+1) (s,c,0,[],[],[]):=fun c h1 h2=>⟨eD.up hs (by omega),h1,h2⟩
 have cno:=fun c:Int=>iD s c
 have e0:aK []=[]:=rfl
 obtain ⟨⟨pw,path⟩,hpl,cpw⟩:=gC 5 t m nm p d (by omega) (by omega)
 dsimp only at hpl cpw
 obtain ⟨⟨dt,c,v⟩,hdt,cg⟩:=aOd s.nB.iF n p m (by omega) hs.en
 dsimp only at hdt cg
 have cn:=cno 4
 have jd:=aZ dt
 by_cases hc0:c=0
 ·subst hc0
  refine cP @eP (Z2 cpw cg) ?_
  exact ⟨(s,0,v,[],dt,[]),⟨eD.up hs (by omega),by dsimp only;omega,by dsimp only;omega⟩,by simp [Fin,e0]⟩
 ·have hc0':(c=0)=False:=by simp [hc0]
  refine cP hc0' (Z3 cpw cg cn) ?_
  exact ⟨(s,4,0,[],[],[]),hno 4 (by omega) (by omega),by simp [Fin,e0]⟩
theorem aRe (n:Nat) (s:aV) (t m:Int) (nm p d:List UInt8) (hs:eD n s) (hv:iG s.aD) (hn:n<=400) (h1:nm.length<=300) (h2:p.length<=300) (h3:d.length<=300):∃ a:lM,gZ (n+1) a/\aC PP GG 112 [.agg (aV.q s),.agg (qP 6 t nm p d m)] (.tup (lZ a)) [none,none]:=by
 refine gU (α:=lM) 2 _ lZ _ (fun _=>rfl) (by kernel_rfl) ?_
 have hw:=(cZ s.aD).1 hv.ok
 have hfit:=gR hv.ok
 have hno:∀ c:Int,0<=c->c<=100->gZ (n+1) (s,c,0,[],[],[]):=fun c h1 h2=>⟨eD.up hs (by omega),h1,h2⟩
 have cno:=fun c:Int=>iD s c
 have e0:aK []=[]:=rfl
 obtain ⟨⟨pw,path⟩,hpl,cpw⟩:=gC 6 t m nm p d (by omega) (by omega)
 dsimp only at hpl cpw
 obtain ⟨⟨es,c⟩,hes,cp⟩:=aR8 s.nB.iF n p [m] (by omega) hs.en (by simp)
 dsimp only at hes
 simp only [bM,List.map_cons,List.map_nil] at cp
 have cn:=cno 4
 by_cases hc0:c=0
 ·subst hc0
  refine cP @aM.eq_1 (Z2 cpw cp) ?_
  refine ⟨({ s with nB:=⟨es⟩ },0,0,[],[],[]),⟨?_,by dsimp only;omega,by dsimp only;omega⟩,by simp [Fin,e0]⟩
  obtain ⟨q1,q2,q3,q4,q5,q6,q7,q8,q9,q10,q11,q12⟩:=eD.up hs (show n<=n+1 by omega)
  exact ⟨q1,q2,q3,q4,q5,q6,sS.mono hes (by omega),q8,q9,q10,q11,q12⟩
 ·have hc0':(c=0)=False:=by simp [hc0]
  refine cP (Y2 hc0' @aM.eq_1) (Z3 cpw cp cn) ?_
  exact ⟨(s,4,0,[],[],[]),hno 4 (by omega) (by omega),by simp [Fin,e0]⟩
theorem aRd (n:Nat) (s:aV) (t m:Int) (nm p d:List UInt8) (hs:eD n s) (hv:iG s.aD) (hn:n<=400) (h1:nm.length<=300) (h2:p.length<=300) (h3:d.length<=300):∃ a:lM,gZ (n+1) a/\aC PP GG 112 [.agg (aV.q s),.agg (qP 7 t nm p d m)] (.tup (lZ a)) [none,none]:=by
 refine gU (α:=lM) 2 _ lZ _ (fun _=>rfl) (by kernel_rfl) ?_
 have hw:=(cZ s.aD).1 hv.ok
 have hfit:=gR hv.ok
 have hno:∀ c:Int,0<=c->c<=100->gZ (n+1) (s,c,0,[],[],[]):=fun c h1 h2=>⟨eD.up hs (by omega),h1,h2⟩
 have cno:=fun c:Int=>iD s c
 have e0:aK []=[]:=rfl
 obtain ⟨⟨pw,path⟩,hpl,cpw⟩:=gC 7 t m nm p d (by omega) (by omega)
 dsimp only at hpl cpw
 obtain ⟨⟨l,ok⟩,hl,cl⟩:=aSc s.nB.iF n p (by omega) hs.en (by omega)
 dsimp only at hl cl
 have cn:=cno 1
 have jl:=cC l
 cases ok
 ·refine eA (Z3 cpw cl cn) ?_
  exact ⟨(s,1,0,[],[],[]),hno 1 (by omega) (by omega),by simp [Fin,e0]⟩
 ·refine eA (Z2 cpw cl) ?_
  exact ⟨(s,0,0,[],[],l),⟨eD.up hs (by omega),by dsimp only;omega,by dsimp only;omega⟩,by simp [Fin]⟩
theorem aRc (n:Nat) (s:aV) (t m:Int) (nm p d:List UInt8) (hs:eD n s) (hv:iG s.aD) (hn:n<=400) (h1:nm.length<=300) (h2:p.length<=300) (h3:d.length<=300):∃ a:lM,gZ (n+1) a/\aC PP GG 112 [.agg (aV.q s),.agg (qP 8 t nm p d m)] (.tup (lZ a)) [none,none]:=by
 refine gU (α:=lM) 2 _ lZ _ (fun _=>rfl) (by kernel_rfl) ?_
 have hw:=(cZ s.aD).1 hv.ok
 have hfit:=gR hv.ok
 have hno:∀ c:Int,0<=c->c<=100->gZ (n+1) (s,c,0,[],[],[]):=fun c h1 h2=>⟨eD.up hs (by omega),h1,h2⟩
 have cno:=fun c:Int=>iD s c
 have e0:aK []=[]:=rfl
 obtain ⟨⟨pw,path⟩,hpl,cpw⟩:=gC 8 t m nm p d (by omega) (by omega)
 dsimp only at hpl cpw
 have cro:=sH ⟨nm,d,m,IntKind.i64.wrap (4*m)⟩ (by dsimp only;omega) (by dsimp only;omega)
 generalize pQ ⟨nm,d,m,IntKind.i64.wrap (4*m)⟩=ok at cro
 have hrl:=hs.rl
 obtain ⟨r,⟨hr1,hr2⟩,cr⟩:=aPb s.lI ⟨nm,d,m,IntKind.i64.wrap (4*m)⟩ (by omega)
 have cn1:=cno 1
 have cn6:=cno 6
 have fin:gZ (n+1) ({ s with lI:=r },0,0,[],[],[]):=by
  obtain ⟨q1,q2,q3,q4,q5,q6,q7,q8,q9,q10,q11,q12⟩:=eD.up hs (show n<=n+1 by omega)
  exact ⟨⟨q1,q2,q3,q4,by dsimp only;omega,fun x hx=>by
   rcases hr2 x hx with rfl|hx
   ·exact ⟨by dsimp only;omega,by dsimp only;omega⟩
   ·exact q6 x hx,q7,q8,q9,q10,q11,q12⟩,by dsimp only;omega,by dsimp only;omega⟩
 cases ok
 ·repeat' (first|refine gH ?_|refine eL ?_|refine eC ?_|refine dR ?_|refine eW ?_|refine aW rfl ?_|refine bB rfl ?_|((first|refine eQ fun K hK=>?_|refine dQ fun K hK=>?_|with_reducible refine aF (cpw) ?_|with_reducible refine aF (cro) ?_|with_reducible refine aF (cn1) ?_);simp [Fin])|(with_reducible refine hK _ ?_;clear hK K)|(with_reducible refine aJ (fun h=>?_) (fun h=>?_)<;>first|(exfalso;simp at h;first|done|omega|contradiction)|((try simp at h);simp))|with_reducible refine And.intro ?_ ?_|with_reducible exact aL rfl|with_reducible assumption|(refine dN rfl (fun h=>?_) (fun h=>?_)<;>first|(exfalso;simp at h;first|done|omega|contradiction)|(exfalso;simp_all;done)|(try simp at h))|omega)
  exact ⟨(s,1,0,[],[],[]),hno 1 (by omega) (by omega),by simp [Fin,e0]⟩
 ·repeat' (first|refine gH ?_|refine eL ?_|refine eC ?_|refine dR ?_|refine eW ?_|refine aW rfl ?_|refine bB rfl ?_|((first|refine eQ fun K hK=>?_|refine dQ fun K hK=>?_|with_reducible refine aF (cpw) ?_|with_reducible refine aF (cro) ?_|with_reducible refine aF (cr) ?_|with_reducible refine aF (cn6) ?_);simp [Fin])|(with_reducible refine hK _ ?_;clear hK K)|(with_reducible refine aJ (fun h=>?_) (fun h=>?_)<;>first|(exfalso;simp at h;first|done|omega|contradiction)|((try simp at h);simp))|with_reducible refine And.intro ?_ ?_|with_reducible exact aL rfl|with_reducible assumption|(refine dN rfl (fun h=>?_) (fun h=>?_)<;>first|(exfalso;simp at h;first|done|omega|contradiction)|(exfalso;simp_all;done)|(try simp at h))|omega)
  ·exact ⟨(s,6,0,[],[],[]),hno 6 (by omega) (by omega),by simp [Fin,e0]⟩
  ·exact ⟨_,fin,by simp [Fin,e0]⟩
theorem aRb (n:Nat) (s:aV) (t m:Int) (nm p d:List UInt8) (hs:eD n s) (hv:iG s.aD) (hn:n<=400) (h1:nm.length<=300) (h2:p.length<=300) (h3:d.length<=300):∃ a:lM,gZ (n+1) a/\aC PP GG 112 [.agg (aV.q s),.agg (qP 9 t nm p d m)] (.tup (lZ a)) [none,none]:=by
 refine gU (α:=lM) 2 _ lZ _ (fun _=>rfl) (by kernel_rfl) ?_
 have hw:=(cZ s.aD).1 hv.ok
 have hfit:=gR hv.ok
 have hno:∀ c:Int,0<=c->c<=100->gZ (n+1) (s,c,0,[],[],[]):=fun c h1 h2=>⟨eD.up hs (by omega),h1,h2⟩
 have cno:=fun c:Int=>iD s c
 have e0:aK []=[]:=rfl
 obtain ⟨⟨pw,path⟩,hpl,cpw⟩:=gC 9 t m nm p d (by omega) (by omega)
 dsimp only at hpl cpw
 have cn4:=cno 4
 refine eA (Z1 cpw) ?_
 refine gA (fun j st=>∃ i:Nat,j=s.lI.length-i/\i<=s.lI.length/\st=⟨[],[(2,.ptr 0 0),(3,.ptr 1 0),(4,.ptr 2 0),(5,.ptr 3 0),(7,.d (.str path)),(31,.d (.int .i64 i))],[(0,.box (aV.bx s 4)),(1,.box (rqA 9 t m nm p d)),(2,.box zS),(3,.box zR)]++aV.ob s 4,13⟩) _ ⟨0,rfl,by omega,?_⟩ ?_
 ·exact fI
 clear cpw
 rintro j st ⟨i,rfl,hi,rfl⟩
 have hrl:=hs.rl
 by_cases hlt:i<s.lI.length
 rotate_left
 ·have hie:i=s.lI.length:=by omega
  subst hie
  refine eA (Z1 cn4) ?_
  exact ⟨(s,4,0,[],[],[]),hno 4 (by omega) (by omega),by simp [Fin,e0]⟩
 have ha:=List.getElem?_eq_getElem hlt
 have hm:=hs.rf _ (List.getElem_mem hlt)
 generalize s.lI[i]=x at ha hm
 have hw1:IntKind.i64.wrap ((i:Int)+1)=(i:Int)+1:=aA (by omega) (by omega)
 by_cases hnm:x.aH=nm
 rotate_left
 ·have hnm':(x.aH=nm)=False:=by simp [hnm]
  refine iZ (Y2 ha hnm') ?_
  refine ⟨s.lI.length-(i+1),by omega,i+1,rfl,hlt,?_⟩
  exact dV hw1
 have hnm':(x.aH=nm)=True:=by simp [hnm]
 have cg:=aEh s.aD t x s.jK path hfit (by omega) (by omega) (by omega)
 obtain ⟨g1,g2,g3,g4⟩:=aQ2 hv (by have:=hs.md;omega) t x s.jK path
 have hmd:=hs.md
 have hgc:guC s.aD t x s.jK path=0\/guC s.aD t x s.jK path=1\/guC s.aD t x s.jK path=2:=by
  unfold guC;split
  ·exact .inr (.inl rfl)
  ·split
   ·exact .inl rfl
   ·exact .inr (.inr rfl)
 generalize guW s.aD t x s.jK path=W at *
 generalize guU s.aD t x s.jK path=U at *
 generalize guI s.aD t x s.jK path=I at *
 generalize guC s.aD t x s.jK path=c at *
 have j1:=cB W.aE.aG
 have j2:=bW W.bA.aP
 have j3:=dH W.bT.bE
 have j4:=fY W.bO.cF
 have j5:=eI W.bI
 have cn1:=cno 1
 have cn5:=iD { s with aD:=W } 5
 rcases hgc with rfl|rfl|rfl
 ·refine cP (Y2 ha hnm') (Z1 cg) ?_
  exact ⟨({ s with aD:=W },0,I,U.aH,U.aHa,[]),⟨eD.w hs (by omega) (.inl g1) (by omega),by dsimp only;omega,by dsimp only;omega⟩,by simp [Fin,e0]⟩
 ·refine cP (Y2 ha hnm') (Z2 cg cn1) ?_
  exact ⟨(s,1,0,[],[],[]),hno 1 (by omega) (by omega),by simp [Fin,e0]⟩
 ·refine cP (Y2 ha hnm') (Z2 cg cn5) ?_
  exact ⟨({ s with aD:=W },5,0,[],[],[]),⟨eD.w hs (by omega) (.inl g1) (by omega),by dsimp only;omega,by dsimp only;omega⟩,by simp [Fin,e0]⟩
theorem aPf (n:Nat) (s:aV) (t m:Int) (nm p d:List UInt8) (hs:eD n s) (hv:iG s.aD) (hn:n<=400) (h1:nm.length<=300) (h2:p.length<=300) (h3:d.length<=300):∃ a:lM,gZ (n+1) a/\aC PP GG 112 [.agg (aV.q s),.agg (qP 10 t nm p d m)] (.tup (lZ a)) [none,none]:=by
 refine gU (α:=lM) 2 _ lZ _ (fun _=>rfl) (by kernel_rfl) ?_
 have hw:=(cZ s.aD).1 hv.ok
 have hfit:=gR hv.ok
 have hno:∀ c:Int,0<=c->c<=100->gZ (n+1) (s,c,0,[],[],[]):=fun c h1 h2=>⟨eD.up hs (by omega),h1,h2⟩
 have cno:=fun c:Int=>iD s c
 have e0:aK []=[]:=rfl
 obtain ⟨⟨pw,path⟩,hpl,cpw⟩:=gC 10 t m nm p d (by omega) (by omega)
 dsimp only at hpl cpw
 obtain ⟨⟨dt,c,v⟩,hdt,cg⟩:=aOd s.nB.iF n p 0 (by omega) hs.en
 dsimp only at hdt cg
 have cn1:=cno 1
 have cn4:=cno 4
 have cn6:=cno 6
 have jd:=aZ dt
 have hrk:=hs.rk.1
 by_cases hc0:c=0
 rotate_left
 ·have hc0':(c=0)=False:=by simp [hc0]
  refine cP hc0' (Z3 cpw cg cn4) ?_
  exact ⟨(s,4,0,[],[],[]),hno 4 (by omega) (by omega),by simp [Fin,e0]⟩
 subst hc0
 have cp:=aHK s.gS path dt s.aD.cT m (by omega) (by omega) (by omega)
 have hco:=aQG s.gS path dt s.aD.cT m
 have hri:=aSW hs.rk.2 path dt s.aD.cT m
 generalize aDF s.gS path dt s.aD.cT m=R at *
 generalize aKV s.gS path dt s.aD.cT m=I at *
 generalize aKW s.gS path dt s.aD.cT m=c at *
 have j1:=xK R.cS
 by_cases hc5:c=5
 ·subst hc5
  refine eA (Z4 cpw cg cp cn6) ?_
  exact ⟨(s,6,0,[],[],[]),hno 6 (by omega) (by omega),by simp [Fin,e0]⟩
 have hc5':(c=5)=False:=by simp [hc5]
 by_cases hc0:c=0
 rotate_left
 ·have hc0':(c=0)=False:=by simp [hc0]
  refine cP (Y2 hc5' hc0') (Z4 cpw cg cp cn1) ?_
  exact ⟨(s,1,0,[],[],[]),hno 1 (by omega) (by omega),by simp [Fin,e0]⟩
 subst hc0
 refine eA (Z3 cpw cg cp) ?_
 refine ⟨({ s with gS:=R },0,I,[],[],[]),⟨?_,by dsimp only;omega,by dsimp only;omega⟩,by simp [Fin,e0]⟩
 obtain ⟨q1,q2,q3,q4,q5,q6,q7,q8,q9,q10,q11,q12⟩:=eD.up hs (show n<=n+1 by omega)
 exact ⟨q1,q2,q3,q4,q5,q6,q7,⟨by dsimp only;omega,hri⟩,q9,q10,q11,q12⟩
theorem aPe (n:Nat) (s:aV) (t m:Int) (nm p d:List UInt8) (hs:eD n s) (hn:n<=400) (h1:nm.length<=300) (h2:p.length<=300) (h3:d.length<=300):∃ a:lM,gZ (n+1) a/\aC PP GG 112 [.agg (aV.q s),.agg (qP 11 t nm p d m)] (.tup (lZ a)) [none,none]:=by
 refine gU (α:=lM) 2 _ lZ _ (fun _=>rfl) (by kernel_rfl) ?_
 have hfit:=WI.fit hs.lv
 have hno:∀ c:Int,0<=c->c<=100->gZ (n+1) (s,c,0,[],[],[]):=fun c h1 h2=>⟨eD.up hs (by omega),h1,h2⟩
 have cno:=fun c:Int=>iD s c
 have e0:aK []=[]:=rfl
 obtain ⟨⟨pw,path⟩,hpl,cpw⟩:=gC 11 t m nm p d (by omega) (by omega)
 dsimp only at hpl cpw
 have hrk:=hs.rk.1
 have co:=aFE s.gS m s.aD.cT (by omega)
 have hco:=aMx s.gS m s.aD.cT
 have hri:=aQx hs.rk.2 m s.aD.cT
 generalize tI s.gS m s.aD.cT=O at *
 obtain ⟨R,dt,c⟩:=O
 dsimp only at co hco hri
 have j1:=xK R.cS
 have jd:=aZ dt
 have cn:=iD { s with gS:=R } 4
 have hst:eD (n+1) { s with gS:=R }:=by
  obtain ⟨q1,q2,q3,q4,q5,q6,q7,q8,q9,q10,q11,q12⟩:=eD.up hs (show n<=n+1 by omega)
  exact ⟨q1,q2,q3,q4,q5,q6,q7,⟨by dsimp only;omega,hri⟩,q9,q10,q11,q12⟩
 by_cases hc0:c=0
 ·subst hc0
  refine cP @eP (Z2 cpw co) ?_
  exact ⟨({ s with gS:=R },0,0,[],dt,[]),⟨hst,by dsimp only;omega,by dsimp only;omega⟩,by simp [Fin,e0]⟩
 ·have hc0':(c=0)=False:=by simp [hc0]
  refine cP hc0' (Z3 cpw co cn) ?_
  exact ⟨({ s with gS:=R },4,0,[],[],[]),⟨hst,by dsimp only;omega,by dsimp only;omega⟩,by simp [Fin,e0]⟩
theorem aPd (n:Nat) (s:aV) (t m:Int) (nm p d:List UInt8) (hs:eD n s) (hn:n<=400) (h1:nm.length<=300) (h2:p.length<=300) (h3:d.length<=300):∃ a:lM,gZ (n+1) a/\aC PP GG 112 [.agg (aV.q s),.agg (qP 12 t nm p d m)] (.tup (lZ a)) [none,none]:=by
 refine gU (α:=lM) 2 _ lZ _ (fun _=>rfl) (by kernel_rfl) ?_
 have hfit:=WI.fit hs.lv
 have hno:∀ c:Int,0<=c->c<=100->gZ (n+1) (s,c,0,[],[],[]):=fun c h1 h2=>⟨eD.up hs (by omega),h1,h2⟩
 have cno:=fun c:Int=>iD s c
 have e0:aK []=[]:=rfl
 obtain ⟨⟨pw,path⟩,hpl,cpw⟩:=gC 12 t m nm p d (by omega) (by omega)
 dsimp only at hpl cpw
 have cn1:=cno 1
 have hrk:=hs.rk.1
 have ci:aC PP GG 20 [.d (.int .i64 m),.d (.int .i64 0),.d (.int .i64 1000000000)] (.d (.bool (inB m 0 1000000000))) [none,none,none]:=bD _ _ _
 generalize inB m 0 1000000000=b at ci
 cases b
 ·refine eA (Z3 cpw ci cn1) ?_
  exact ⟨(s,1,0,[],[],[]),hno 1 (by omega) (by omega),by simp [Fin,e0]⟩
 have cp:=aFC s.aD (IntKind.i64.wrap (s.aD.cT+m)) hfit
 obtain ⟨hl,hm⟩:=WI.pt hs.lv (IntKind.i64.wrap (s.aD.cT+m))
 have hT:(ptT s.aD (IntKind.i64.wrap (s.aD.cT+m))).aG.length<=4096/\∀ x,x∈(ptT s.aD (IntKind.i64.wrap (s.aD.cT+m))).aG->aX x:=by
  unfold ptT
  split
  ·have hf:=(fN s.aD.aE).1 (WI.fo hs.lv)
   refine ⟨?_,fun x hx=>?_⟩
   ·have:=aHs (fun t=>lY t.bS (IntKind.i64.wrap (s.aD.cT+m))) s.aD.aE.aG
    unfold gJ;dsimp only;omega
   ·unfold gJ at hx
    obtain ⟨y,hy,rfl⟩:=aPX _ _ x hx
    exact aD5 (hf.2.1 y hy).1
  ·exact ⟨by simp,by simp⟩
 generalize ptW s.aD (IntKind.i64.wrap (s.aD.cT+m))=W at *
 generalize ptT s.aD (IntKind.i64.wrap (s.aD.cT+m))=T at *
 generalize ptB s.aD (IntKind.i64.wrap (s.aD.cT+m))=b at *
 obtain ⟨T1,T2,T3,T4⟩:=T
 dsimp only at hT
 have cs:=aDy s.gS W.cT (by omega)
 have hsw:=aKo s.gS W.cT
 have hri:=aOH hs.rk.2 W.cT
 generalize qC s.gS W.cT=S at *
 obtain ⟨R,G⟩:=S
 dsimp only at cs hsw hri
 obtain ⟨ids,-,cid⟩:=aLg T1 hT.1 hT.2
 have j1:=cB W.aE.aG
 have j2:=bW W.bA.aP
 have j3:=dH W.bT.bE
 have j4:=fY W.bO.cF
 have j5:=eI W.bI
 have j6:=jE T1
 have j7:=jE T2
 have j8:=cC T3
 have j9:=cC T4
 have j10:=xK R.cS
 have j11:=jE G
 have j12:=cC ids
 cases b
 ·refine eA (Z4 cpw ci cp cn1) ?_
  exact ⟨(s,1,0,[],[],[]),hno 1 (by omega) (by omega),by simp [Fin,e0]⟩
 ·refine cP @gW (Z5 cpw ci cp cs cid) ?_
  refine ⟨({ s with aD:=W,gS:=R },0,((T2.length:Nat):Int),[],[],ids),⟨?_,by dsimp only;omega,by dsimp only;omega⟩,by simp [Fin]⟩
  obtain ⟨q1,q2,q3,q4,q5,q6,q7,q8,q9,q10,q11,q12⟩:=eD.up hs (show n<=n+1 by omega)
  exact ⟨hl,by dsimp only;have:=hs.md;omega,q3,q4,q5,q6,q7,⟨by dsimp only;omega,hri⟩,q9,q10,q11,q12⟩
theorem aPc (n:Nat) (s:aV) (t m:Int) (nm p d:List UInt8) (hs:eD n s) (hn:n<=400) (h1:nm.length<=300) (h2:p.length<=300) (h3:d.length<=300):∃ a:lM,gZ (n+1) a/\aC PP GG 112 [.agg (aV.q s),.agg (qP 13 t nm p d m)] (.tup (lZ a)) [none,none]:=by
 refine gU (α:=lM) 2 _ lZ _ (fun _=>rfl) (by kernel_rfl) ?_
 have hfit:=WI.fit hs.lv
 have hno:∀ c:Int,0<=c->c<=100->gZ (n+1) (s,c,0,[],[],[]):=fun c h1 h2=>⟨eD.up hs (by omega),h1,h2⟩
 have cno:=fun c:Int=>iD s c
 have e0:aK []=[]:=rfl
 obtain ⟨⟨pw,path⟩,hpl,cpw⟩:=gC 13 t m nm p d (by omega) (by omega)
 dsimp only at hpl cpw
 have cn1:=cno 1
 have ci:aC PP GG 20 [.d (.int .i64 m),.d (.int .i64 0),.d (.int .i64 1000)] (.d (.bool (inB m 0 1000))) [none,none,none]:=bD _ _ _
 cases hb:inB m 0 1000
 ·rw [hb] at ci
  refine eA (Z3 cpw ci cn1) ?_
  exact ⟨(s,1,0,[],[],[]),hno 1 (by omega) (by omega),by simp [Fin,e0]⟩
 rw [hb] at ci
 have hm:=cD hb
 have cw:=jV s.aD hfit
 have hl:WI { s.aD with bT:=⟨s.aD.bT.bE,m,s.aD.bT.bF⟩ }:=by
  rcases hs.lv with h|h
  ·exact .inl (aMF h hm.1 hm.2)
  ·exact .inr ⟨h.now,h.next,h.tk,h.bk,h.us,h.md,h.jb,h.ow⟩
 have j1:=cB s.aD.aE.aG
 have j2:=bW s.aD.bA.aP
 have j3:=dH s.aD.bT.bE
 have j4:=fY s.aD.bO.cF
 have j5:=eI s.aD.bI
 refine eA (Z3 cpw ci cw) ?_
 exact ⟨({ s with aD:={ s.aD with bT:=⟨s.aD.bT.bE,m,s.aD.bT.bF⟩ } },0,0,[],[],[]),⟨eD.w hs (by omega) hl (by have:=hs.md;dsimp only;omega),by dsimp only;omega,by dsimp only;omega⟩,by simp [Fin,e0]⟩
theorem aTy (n:Nat) (s:aV) (k t m:Int) (nm p d:List UInt8) (hk:0<=k/\k<=13) (hs:eD n s) (hv:k<11->iG s.aD) (hn:n<=400) (h1:nm.length<=300) (h2:p.length<=300) (h3:d.length<=300):∃ a:lM,gZ (n+1) a/\aC PP GG 112 [.agg (aV.q s),.agg (qP k t nm p d m)] (.tup (lZ a)) [none,none]:=by
 obtain h|h|h|h|h|h|h|h|h|h|h|h|h|h:k=0\/k=1\/k=2\/k=3\/k=4\/k=5\/k=6\/k=7\/k=8\/k=9\/k=10\/k=11\/k=12\/k=13:=by omega
 all_goals subst h
 ·exact aRk n s t m nm p d hs (hv (by omega)) hn h1 h2 h3
 ·exact aRj n s t m nm p d hs (hv (by omega)) hn h1 h2 h3
 ·exact aRi n s t m nm p d hs (hv (by omega)) hn h1 h2 h3
 ·exact aRh n s t m nm p d hs (hv (by omega)) hn h1 h2 h3
 ·exact aRg n s t m nm p d hs (hv (by omega)) hn h1 h2 h3
 ·exact aRf n s t m nm p d hs (hv (by omega)) hn h1 h2 h3
 ·exact aRe n s t m nm p d hs (hv (by omega)) hn h1 h2 h3
 ·exact aRd n s t m nm p d hs (hv (by omega)) hn h1 h2 h3
 ·exact aRc n s t m nm p d hs (hv (by omega)) hn h1 h2 h3
 ·exact aRb n s t m nm p d hs (hv (by omega)) hn h1 h2 h3
 ·exact aPf n s t m nm p d hs (hv (by omega)) hn h1 h2 h3
 ·exact aPe n s t m nm p d hs hn h1 h2 h3
 ·exact aPd n s t m nm p d hs hn h1 h2 h3
 ·exact aPc n s t m nm p d hs hn h1 h2 h3
theorem aTW {c:eB} {n:cW}:(aLU c n).cost<=c.cost+1+n.cost:=by
 unfold aLU
 split
 ·have:=aE0 c (pL c n)
  have e:(pL c n).cost=n.cost:=rfl
  omega
 ·omega
theorem aGY (n:Nat) (s:aV) (k t m:Int) (nm p d:List UInt8) (hk:0<=k/\k<=13) (hs:eD n s) (hn:n<=400) (h1:nm.length<=300) (h2:p.length<=300) (h3:d.length<=300):∃ a:lM,gZ (n+2) a/\aC PP GG 80 [.agg (aV.q s),.agg (qP k t nm p d m)] (.tup (lZ a)) [none,none]:=by
 refine cvD Tryz.func80 (α:=lM) 2 _ lZ _ (fun _=>rfl) ?_
 have hfit:=WI.fit hs.lv
 have hfo:=WI.fo hs.lv
 have e0:aK []=[]:=rfl
 have hnow:=WI.now hs.lv
 obtain ⟨⟨pw,path⟩,hpl,cpw⟩:=gC k t m nm p d (by omega) (by omega)
 dsimp only at hpl cpw
 refine rE ?_
 refine rE ?_
 refine aD3 (Z1 cpw) ?_
 refine rE ?_
 refine pH [2,3,4,5,6,7,8,9] (s1:=⟨[],[(2,.ptr 0 0),(3,.ptr 1 0),(4,.ptr 2 0),(5,.ptr 3 0),(6,.d (.int .i64 s.aD.cT)),(7,.d (.int .i64 pw)),(8,.d (.str path)),(9,.ptr 4 0)],[(0,.box (aV.bx s 5)),(1,.box (rqA k t m nm p d)),(2,.box zS),(3,.box zR),(4,.box zR)]++aV.ob s 5,14⟩) ?_ ?_
 ·exact fI
 clear cpw
 refine oD [2,3,4,5,6,8,9] (fun st'=>∃ (s1:aV) (c:Int),eD n s1/\(0<=c/\c<=100)/\(c=0->k<11->iG s1.aD)/\st'=⟨[],[(2,.ptr 0 0),(3,.ptr 1 0),(4,.ptr 2 0),(5,.ptr 3 0),(6,.d (.int .i64 s.aD.cT)),(8,.d (.str path)),(9,.ptr 4 0)],[(0,.box (aV.bx s1 5)),(1,.box (rqA k t m nm p d)),(2,.box zS),(3,.box zR),(4,.box [.d (.int .i64 c),.d (.int .i64 0),.d (.str []),.d (.str []),.nil 0 1])]++aV.ob s1 5,14⟩) ?_ ?_
 ·by_cases hk11:k<11
  rotate_left
  ·have hk':(k<11)=False:=by simp [hk11]
   refine iZ hk' ?_
   refine ⟨s,0,hs,by omega,fun _ h=>absurd h hk11,?_⟩
   exact fI
  have hk':(k<11)=True:=by simp [hk11]
  have hpf:=hs.pf
  have hpl2:=hs.pl
  obtain ⟨⟨pws,ok⟩,⟨hp1,hp2⟩,cpo⟩:=aNk s.aD.aE t s.iJ hfit.1 (by omega) (fun p hp=>tQ.up (hpf p hp))
  dsimp only at hp1 hp2 cpo
  have cfi:=lW s.aD.aE t hfit.1
  obtain ⟨⟨F,c⟩,⟨hF1,hF2⟩,cus⟩:=aNi s.aD.aE t s.aD.cT hfit.1 hfo
  dsimp only at hF1 hF2 cus
  have cw:=jV s.aD hfit
  obtain ⟨al,-,cal⟩:=aPS pws path pw hp1 (fun p hp=>hpf p (hp2 p hp)) (by omega)
  have i1:=aDj pws
  have i2:=cB F.aG
  have j1:=cB s.aD.aE.aG
  have j2:=bW s.aD.bA.aP
  have j3:=dH s.aD.bT.bE
  have j4:=fY s.aD.bO.cF
  have j5:=eI s.aD.bI
  have hofi:kG s.aD.aE t=kG s.aD.aE t:=rfl
  generalize (bX s.aD.aE && cN s.aD.aE t)=k1 at cfi
  by_cases hc:c=0
  rotate_left
  ·have hc':(c=0)=False:=by simp [hc]
   generalize kG s.aD.aE t=o at *
   have i3:=cC o.fO
   refine cP (Y2 hk' hc') (Z3 cpo cfi cus) ?_
   refine ⟨s,2,hs,by omega,fun h=>by omega,?_⟩
   exact fI
  subst hc
  obtain ⟨kk,x,g1,g2,g3,g4⟩:=hF2 rfl
  have hv:iG s.aD:=by
   rcases hs.lv with h|h
   ·exact h
   ·rw [h.tk] at g1;simp at g1
  have htb:=(((fN s.aD.aE).1 hfo).2.1 x (List.mem_of_getElem? g1)).1
  rw [g3] at cfi
  have i3:=cC x.fO
  have hmd:=hs.md
  rcases g4 with ⟨g4,rfl⟩|⟨g4,u,u1,u2,rfl⟩
  ·have hu':(x.kH=1)=True:=by simp [g4]
   obtain ⟨W,⟨hW1,hW2⟩,cuse⟩:=aPa s.aD { s with aD:={ s.aD with aE:=gB s.aD.aE (fG s.aD.aE t) } } t x hv rfl
   have hFl:=hF1.1
   generalize gB s.aD.aE (fG s.aD.aE t)=F at *
   have hst:eD n { s with aD:=W }:=eD.w hs (Nat.le_refl _) (.inl hW1) (by omega)
   by_cases hpw:pw=0
   ·have hpw':(pw=0)=True:=by simp [hpw]
    refine cP (Y4 hk' hu' hpw' @aM.eq_1) (Z5 cpo cfi cus cw cuse) ?_
    refine ⟨_,0,hst,by omega,fun _ _=>hW1,?_⟩
    exact fI
   ·have hpw':(pw=0)=False:=by simp [hpw]
    cases al
    ·refine cP (Y4 hk' hu' hpw' @aM.eq_1) (Z6 cpo cfi cus cw cuse cal) ?_
     refine ⟨_,3,hst,by omega,fun h=>by omega,?_⟩
     exact fI
    ·refine cP (Y4 hk' hu' hpw' @aM.eq_1) (Z6 cpo cfi cus cw cuse cal) ?_
     refine ⟨_,0,hst,by omega,fun _ _=>hW1,?_⟩
     exact fI
  ·have hu':(x.kH=1)=False:=by simp [g4]
   have hL:=aGS (y:={ x with kH:=u }) hv g1 rfl rfl (aQa htb u1 u2)
   generalize s.aD.aE.aG.set kk { x with kH:=u }=T at *
   have hst:eD n { s with aD:={ s.aD with aE:=⟨T⟩ } }:=eD.w hs (Nat.le_refl _) (.inl hL) (by dsimp only;omega)
   by_cases hpw:pw=0
   ·have hpw':(pw=0)=True:=by simp [hpw]
    refine cP (Y3 hk' hu' hpw') (Z4 cpo cfi cus cw) ?_
    refine ⟨_,0,hst,by omega,fun _ _=>hL,?_⟩
    exact fI
   ·have hpw':(pw=0)=False:=by simp [hpw]
    cases al
    ·refine cP (Y3 hk' hu' hpw') (Z5 cpo cfi cus cw cal) ?_
     refine ⟨_,3,hst,by omega,fun h=>by omega,?_⟩
     exact fI
    ·refine cP (Y3 hk' hu' hpw') (Z5 cpo cfi cus cw cal) ?_
     refine ⟨_,0,hst,by omega,fun _ _=>hL,?_⟩
     exact fI
 rintro st ⟨s1,c,hs1,hc,hlc,rfl⟩
 refine mR 9 4 rfl rfl rfl ?_
 refine pH [2,3,4,5,6,8,9] (s1:=⟨[],[(2,.ptr 0 0),(3,.ptr 1 0),(4,.ptr 2 0),(5,.ptr 3 0),(6,.d (.int .i64 s.aD.cT)),(8,.d (.str path)),(9,.ptr 4 0)],[(0,.box (aV.bx s1 5)),(1,.box (rqA k t m nm p d)),(2,.box zS),(3,.box zR),(4,.box [.d (.int .i64 c),.d (.int .i64 0),.d (.str []),.d (.str []),.sl 14])]++aV.ob s1 5++[(14,.arr 0 0 1 [])],15⟩) ?_ ?_
 ·exact fI
 refine oD [2,3,4,5,6,8,9] (fun st'=>∃ a:lM,gZ (n+1) a/\st'=⟨[],[(2,.ptr 0 0),(3,.ptr 1 0),(4,.ptr 2 0),(5,.ptr 3 0),(6,.d (.int .i64 s.aD.cT)),(8,.d (.str path)),(9,.ptr 4 0)],[(0,.box (aV.bx a.1 5)),(1,.box (rqA k t m nm p d)),(2,.box zS),(3,.box zR),(4,.box [.d (.int .i64 a.2.1),.d (.int .i64 a.2.2.1),.d (.str a.2.2.2.1),.d (.str a.2.2.2.2.1),.sl 14])]++aV.ob a.1 5++[(14,.arr 0 0 1 (aK a.2.2.2.2.2))],15⟩) ?_ ?_
 ·by_cases hc0:c=0
  ·subst hc0
   obtain ⟨a,ha,cdo⟩:=aTy n s1 k t m nm p d hk hs1 (hlc rfl) hn h1 h2 h3
   refine eA (Z1 cdo) ?_
   refine ⟨a,ha,?_⟩
   exact fI
  ·have hc0':(c=0)=False:=by simp [hc0]
   refine iZ hc0' ?_
   refine ⟨(s1,c,0,[],[],[]),⟨eD.up hs1 (by omega),hc.1,hc.2⟩,?_⟩
   exact dV e0
 rintro st ⟨⟨s2,c2,rn,rm,rd,rl⟩,⟨hs2,hc1,hc2⟩,rfl⟩
 dsimp only at hs2 hc1 hc2 ⊢
 have ck:=kT k (by unfold aX;omega)
 have hkl:(Lib.itoa k).length<=22:=by have:=Lib.itoa_length_le k (by omega) (by omega);omega
 generalize Lib.itoa k=kt at *
 have ci:aC PP GG 20 [.d (.int .i64 t),.d (.int .i64 0),.d (.int .i64 1000000000)] (.d (.bool (inB t 0 1000000000))) [none,none,none]:=bD _ _ _
 have cpt:=gF path (by omega)
 have key:∀ (who:Int) (pt:List UInt8),0<=who->who<=1000000000->pt.length<=700->∃ C:eB,eD (n+2) { s2 with iA:=C }/\(∀ row,row∈fD C.dY->∀ d,d∈row->oB 0 d)/\∃ b:Bool,aC PP GG 114 [.agg s2.iA.c,.agg (cW.c ⟨0,s.aD.cT,who,107::kt,pt,c2,0⟩)] (.tup [.agg C.o,.d (.bool b)]) [none,none]:=by
  intro who pt w1 w2 w3
  have hch:=hs2.ch
  have hok:cW.ok ⟨0,s.aD.cT,who,107::kt,pt,c2,0⟩:=by
   refine ⟨by unfold aX;dsimp only;omega,by unfold aX;dsimp only;omega,by unfold aX;dsimp only;omega,?_,?_,by unfold aX;dsimp only;omega,by unfold aX;dsimp only;omega⟩
   ·show (107::kt).length<=maxLen
    simp [maxLen];omega
   ·show pt.length<=maxLen
    simp [maxLen];omega
  have hnc:cW.cost ⟨0,s.aD.cT,who,107::kt,pt,c2,0⟩<=723:=by unfold cW.cost;simp;omega
  have ca:=aHM s2.iA ⟨0,s.aD.cT,who,107::kt,pt,c2,0⟩ hs2.co hok (by omega)
  have hle:=aTW (c:=s2.iA) (n:=⟨0,s.aD.cT,who,107::kt,pt,c2,0⟩)
  have hco:=aTV hs2.co hok (by omega) (by omega)
  refine ⟨aLU s2.iA ⟨0,s.aD.cT,who,107::kt,pt,c2,0⟩,?_,aG0 _,_,ca⟩
  obtain ⟨q1,q2,q3,q4,q5,q6,q7,q8,q9,q10,q11,q12⟩:=eD.up hs2 (show n+1<=n+2 by omega)
  exact ⟨q1,q2,q3,q4,q5,q6,q7,q8,by dsimp only;omega,hco,q11,q12⟩
 have hrl:=cC rl
 cases hwho:inB t 0 1000000000
 ·rw [hwho] at ci
  cases hpo:gO path
  ·rw [hpo] at cpt
   obtain ⟨C,hC,iC,b,ca⟩:=key 0 [115,121,115] (by omega) (by omega) (by simp)
   refine cP @dP.eq_1 (Z4 ck ci cpt ca) ?_
   exact ⟨({ s2 with iA:=C },c2,rn,rm,rd,rl),⟨hC,hc1,hc2⟩,by simp [Fin]⟩
  ·rw [hpo] at cpt
   obtain ⟨C,hC,iC,b,ca⟩:=key 0 path (by omega) (by omega) (by omega)
   refine cP @dP.eq_1 (Z4 ck ci cpt ca) ?_
   exact ⟨({ s2 with iA:=C },c2,rn,rm,rd,rl),⟨hC,hc1,hc2⟩,by simp [Fin]⟩
 ·rw [hwho] at ci
  have ht:=cD hwho
  cases hpo:gO path
  ·rw [hpo] at cpt
   obtain ⟨C,hC,iC,b,ca⟩:=key t [115,121,115] ht.1 ht.2 (by simp)
   refine cP @dP.eq_1 (Z4 ck ci cpt ca) ?_
   exact ⟨({ s2 with iA:=C },c2,rn,rm,rd,rl),⟨hC,hc1,hc2⟩,by simp [Fin]⟩
  ·rw [hpo] at cpt
   obtain ⟨C,hC,iC,b,ca⟩:=key t path ht.1 ht.2 (by omega)
   refine cP @dP.eq_1 (Z4 ck ci cpt ca) ?_
   exact ⟨({ s2 with iA:=C },c2,rn,rm,rd,rl),⟨hC,hc1,hc2⟩,by simp [Fin]⟩
theorem aLe (l:List Rec) (s:aV) (hl:l.length<=150) (hr:∀ r,r∈l->r.2.1.length<=40/\r.2.2.length<=40) (hs:eD 0 s):∃ a:aV×Bool,eD 300 a.1 ∧
  aC PP GG 118 [.agg (aV.q s),.own 1 3 (vS l)] (.tup [.agg (aV.q a.1),.d (.bool a.2)]) [none,some (.own 1 3 (vS l))]:=by
 refine cvD Tryz.func118 (α:=aV×Bool) 2 _ (fun a=>[.agg (aV.q a.1),.d (.bool a.2)]) _ (fun _=>rfl) ?_
 have hir:=aBD l
 refine mG ?_
 refine gA (fun n st=>∃ i:Nat,n=l.length-i/\i<=l.length/\∃ s1:aV,eD (2*i) s1/\st=⟨[],[(1,.sl 0),(2,.ptr 1 0),(4,.ptr 2 0),(6,.d (.int .i64 i))],[(0,.arr 0 1 3 (vS l)),(1,.box (aV.bx s1 3)),(2,.box zS)]++aV.ob s1 3,12⟩) _ ⟨0,rfl,by omega,s,hs,?_⟩ ?_
 ·exact fI
 rintro n st ⟨i,rfl,hi,s1,hs1,rfl⟩
 by_cases hlt:i<l.length
 rotate_left
 ·have hie:i=l.length:=by omega
  subst hie
  refine mG ?_
  exact ⟨(s1,true),eD.up hs1 (by omega),by simp [Fin]⟩
 have ha:=List.getElem?_eq_getElem hlt
 have hm:=hr _ (List.getElem_mem hlt)
 generalize l[i]=x at ha hm
 obtain ⟨k,ns,ts⟩:=x
 have hax:(vS l)[i]?=some [.int .i64 k,.slc 1 (bM ns),.slc 1 (aK ts)]:=by simp [vS,aHU,ha]
 dsimp only at hm
 have hw:IntKind.i64.wrap ((i:Int)+1)=(i:Int)+1:=aA (by omega) (by omega)
 obtain ⟨c1,c2⟩:=aEe k ns ts (by omega) (by omega)
 cases hq:aC4 k ns ts
 ·have c1:=c1 hq
  refine cP hax (Z1 c1) ?_
  exact ⟨(s1,false),eD.up hs1 (by omega),by simp [Fin]⟩
 ·obtain ⟨t,m,nm,p,d,rfl,rfl⟩:=aKM hq
  have c2:=c2 t m nm p d rfl rfl hq
  have hk:(0<=k/\k<=13)/\nm.length<=300/\p.length<=300/\d.length<=300:=by
   simp only [aC4,Bool.and_eq_true,decide_eq_true_eq] at hq
   obtain ⟨q1,q2,q3,_,_⟩:=hq
   have:=(sJ q1).2.2.2
   exact ⟨⟨q2,q3⟩,this nm (by simp),this p (by simp),this d (by simp)⟩
  obtain ⟨⟨s2,q1,q2,q3,q4,q5⟩,⟨hs2,-,-⟩,cst⟩:=aGY (2*i) s1 k t m nm p d hk.1 hs1 (by omega) hk.2.1 hk.2.2.1 hk.2.2.2
  dsimp only at hs2 cst
  have hrl:=cC q5
  refine cP hax (Z2 c2 cst) ?_
  refine ⟨l.length-(i+1),by omega,i+1,rfl,hlt,s2,eD.up hs2 (by omega),?_⟩
  exact dV hw
end Go.Proofs.YtiejbbcpihpgpaaGreatDoor.Ab
