/-
  A part of a proof about the given program; what is proved is said where each theorem stands.
-/
import Derived.Test.YtiejbbcpihpgpaaGreatDoorPartB
namespace Go.Proofs
end Go.Proofs
set_option linter.unusedSimpArgs false
set_option linter.unusedVariables false
set_option maxRecDepth 100000
set_option maxHeartbeats 2000000
namespace Go.Proofs.YtiejbbcpihpgpaaGreatDoor.Ab
open Go.Proofs
theorem aNr {m:Nat}:∀ (l:List (List UInt8)),(∀ p,p∈l->p.length<=m)->(unF l).length<=l.length*(m+1):=by
 intro l h
 cases l with
 |nil=>simp [unF]
 |cons p r=>
  simp only [unF,List.length_append,sF,List.length_cons]
  have h1:=h p (by simp)
  have h2:(r.flatMap fun q=>59::swp 32 61 q).length<=r.length*(m+1):=by
   have hr:∀ q,q∈r->q.length<=m:=fun q hq=>h q (by simp [hq])
   clear h h1
   induction r with
   |nil=>simp
   |cons q r ih=>
    simp only [List.flatMap_cons,List.length_append,List.length_cons,sF]
    have:=hr q (by simp)
    have:=ih fun x hx=>hr x (by simp [hx])
    rw [Nat.add_mul];omega
  rw [Nat.add_mul];omega
theorem aQi {p:List UInt8} {k:Nat} {x:UInt8} (h:p[k]?=some x):swp 32 61 (p.take (k+1))=swp 32 61 (p.take k)++[if x=32 then 61 else x]:=by
 rw [List.take_add_one,h];simp [swp]
theorem aDx (s:List UInt8) (hs:s.length<=1048576):aC PP GG 25 [.d (.str s)] (.d (.str (xY s))) [none]:=by
 refine cv Tryz.func25 [.d (.str (xY s))] ?_
 by_cases h0:s=[]
 ·subst h0
  exact fC @xY.eq_1
 have hb0:(s==[])=false:=by simpa using h0
 have hu:xY s=unF (cJ 10 s).dropLast:=if_neg h0
 rw [hu]
 have cs:=fP s 10 (by omega)
 change aC PP GG 35 [.d (.str s),.d (.int .u8 10)] _ _ at cs
 have hcl:=iK 10 s
 have hcm:∀ p,p∈cJ 10 s->p.length<=s.length:=fun p=>kW s
 obtain ⟨p0,ps0,hps⟩:=jY 10 s
 have hlp:1<=(cJ 10 s).length:=by rw [hps];simp
 clear hps
 generalize cJ 10 s=l at *
 have hdl:l.dropLast=l.take (l.length-1):=List.dropLast_eq_take
 rw [hdl]
 have hind:=cC l
 refine fV hb0 (Z1 cs) ?_
 refine bH (fun n st=>∃ (i:Nat),n=(l.length-1)-i/\i<=l.length-1/\st=⟨[],[(3,.sl 0),(4,.sl 1),(5,.d (.int .i64 i))],[(0,.arr 0 0 1 (aK l)),(1,.arr 0 0 1 (aB (unF (l.take i))))],2⟩) _ ⟨0,rfl,by omega,rfl⟩ ?_
 rintro n st ⟨i,rfl,hi,rfl⟩
 have hw1:IntKind.i64.wrap ((l.length:Int)-1)=((l.length-1:Nat):Int):=by rw [aA (by omega) (by omega)];omega
 by_cases hlt:i<l.length-1
 ·have ha:=List.getElem?_eq_getElem (show i<l.length by omega)
  generalize l[i]'_=p at ha
  have hpl:=hcm p (List.mem_of_getElem? ha)
  have hsn:=aP2 ha
  have hdl:=aNr (m:=s.length) (l.take i) fun q hq=>hcm q (List.mem_of_mem_take hq)
  have hdl2:(l.take i).length*(s.length+1)<=1048577*1048577:=Nat.mul_le_mul (by rw [List.length_take];omega) (by omega)
  have hli:(decide ((i:Int)<((l.length-1:Nat):Int)))=true:=decide_eq_true (by omega)
  refine qK [3,4,5] (fun st=>st=⟨[],[(3,.sl 0),(4,.sl 1),(5,.d (.int .i64 i))],[(0,.arr 0 0 1 (aK l)),(1,.arr 0 0 1 (aB (unF (l.take i))))],2⟩) ?_ ?_
  ·refine eT (Y2 hw1 hli) ?_
   exact oJ
  rintro st rfl
  refine aN (?_)
  refine aU ?_
  refine qK [3,4,5] (fun st=>st=⟨[],[(3,.sl 0),(4,.sl 1),(5,.d (.int .i64 i))],[(0,.arr 0 0 1 (aK l)),(1,.arr 0 0 1 (aB (unF (l.take i)++if i=0 then [] else [59])))],2⟩) ?_ ?_
  ·by_cases hi0:i=0
   ·subst hi0
    refine jJ ?_
    exact oJ
   ·have hip:0<i:=by omega
    refine eT (Y2 @aM.eq_1 hip) ?_
    exact gE (Y2 hi0 @aB.eq_1)
  rintro st rfl
  generalize hpre:(unF (l.take i)++if i=0 then [] else [59])=d at hsn ⊢
  have hdll:d.length<=1099513724930:=by rw [<-hpre,List.length_append];split<;>simp<;>omega
  refine jJ ?_
  refine bH (fun n st=>∃ (q:Nat),n=p.length-q/\q<=p.length/\st=⟨[],[(3,.sl 0),(4,.sl 1),(5,.d (.int .i64 i)),(6,.d (.int .i64 q))],[(0,.arr 0 0 1 (aK l)),(1,.arr 0 0 1 (aB (d++swp 32 61 (p.take q))))],2⟩) _ ⟨0,rfl,by omega,by simp [swp];rfl⟩ ?_
  rintro n st ⟨q,rfl,hq,rfl⟩
  by_cases hql:q<p.length
  ·have hb:=List.getElem?_eq_getElem hql
   generalize p[q]=y at hb
   have hst:=aQi hb
   by_cases hy:y=32
   ·subst hy
    rw [if_pos rfl] at hst
    repeat' (first|refine aN ?_|refine aQ ?_|refine aU ?_|refine cR ?_|refine aW rfl ?_|refine bB rfl ?_|((first|refine iX fun K hK=>?_|refine fS fun K hK=>?_|refine kI ?_);simp [Fin,ha,hb,aM,sF])|(with_reducible refine hK _ ?_;clear hK K)|(with_reducible refine aJ (fun h=>?_) (fun h=>?_)<;>first|(exfalso;simp at h;first|done|omega|contradiction)|((try simp at h);simp [ha,hb,aM,sF]))|with_reducible refine And.intro ?_ ?_|with_reducible exact aL rfl|with_reducible assumption|(refine aO rfl (fun h=>?_) (fun h=>?_)<;>first|(exfalso;simp at h;first|done|omega|contradiction)|(exfalso;simp_all;done)|(try simp at h))|omega)
    all_goals (refine ⟨p.length-(q+1),by omega,q+1,rfl,hql,?_⟩;rw [hst])
    all_goals (simp [gc,bP,cI,gcV,gcO,dS,cU,eH,aY,bR,bU,dU];exact ⟨aA (by omega) (by omega),by simp [aB]⟩)
   ·rw [if_neg hy] at hst
    have hyn:¬y.toNat=32:=sE hy
    repeat' (first|refine aN ?_|refine aQ ?_|refine aU ?_|refine cR ?_|refine aW rfl ?_|refine bB rfl ?_|((first|refine iX fun K hK=>?_|refine fS fun K hK=>?_|refine kI ?_);simp [Fin,ha,hb,aM,sF])|(with_reducible refine hK _ ?_;clear hK K)|(with_reducible refine aJ (fun h=>?_) (fun h=>?_)<;>first|(exfalso;simp at h;first|done|omega|contradiction)|((try simp at h);simp [ha,hb,aM,sF]))|with_reducible refine And.intro ?_ ?_|with_reducible exact aL rfl|with_reducible assumption|(refine aO rfl (fun h=>?_) (fun h=>?_)<;>first|(exfalso;simp at h;first|done|omega|contradiction)|(exfalso;simp_all;done)|(try simp at h))|omega)
    all_goals (refine ⟨p.length-(q+1),by omega,q+1,rfl,hql,?_⟩;rw [hst])
    all_goals (simp [gc,bP,cI,gcV,gcO,dS,cU,eH,aY,bR,bU,dU];exact ⟨aA (by omega) (by omega),by simp [aB]⟩)
  ·rw [List.take_of_length_le (by omega)]
   refine eT ha ?_
   refine ⟨l.length-1-(i+1),by omega,i+1,rfl,by omega,?_⟩
   rw [hsn]
   refine kN ?_
   exact aA (by omega) (by omega)
 ·have hie:i=l.length-1:=by omega
  subst hie
  have hli:(decide (((l.length-1:Nat):Int)<((l.length-1:Nat):Int)))=false:=decide_eq_false (by omega)
  exact fC (Y3 hw1 hli @eP)
def xW (k:Int) (c:UInt8) (r:dX):List UInt8:=
 if c=110 then Lib.itoa r.qT else if c=112 then r.dM else if c=109 then r.aH else if c=113 then yW r.dM
 else if k=0/\r.dI≠[] then swp 32 61 (swp 10 59 (Lib.trimSuffix r.dI [10])) else yW r.dI
def aDl (f:xU) (r:dX):List UInt8:=if f.tok=true then Lib.itoa r.cL++[32]++f.word else f.word
def vL (f:xU) (r:dX) (n:Nat):List UInt8:=aDl f r++(f.rest.take n).flatMap fun c=>32::xW f.kind c r
def jL (r:dX):List UInt8:=if (decide (0<=r.cY) && decide (r.cY<=15))=true then (match fZ[r.cY.toNat]? with|some f=>vL f r f.rest.length|none=>[]) else []
def aEo (r:dX):Prop:=aX r.cL/\aX r.qT/\r.aH.length<=1048576/\r.dM.length<=1048576/\r.dI.length<=1048576
theorem tH (s:List UInt8):(yW s).length<=s.length+1:=by unfold yW;split<;>simp
theorem vW (s p:List UInt8):(Lib.trimSuffix s p).length<=s.length:=by
 unfold Lib.trimSuffix
 split
 ·rw [List.length_take];omega
 ·exact Nat.le_refl _
theorem aGr {r:dX} (hr:aEo r) (k:Int) (c:UInt8):(xW k c r).length<=1048580:=by
 obtain ⟨h1,h2,h3,h4,h5⟩:=hr
 have l1:=Lib.itoa_length_le r.qT h2.1 h2.2
 have l2:=tH r.dM
 have l3:=tH r.dI
 have l4:=vW r.dI [10]
 unfold xW
 repeat' split
 all_goals (try simp only [sF]) ; try omega
theorem aMG {f:xU} {r:dX} {i:Nat} {c:UInt8} (h:f.rest[i]?=some c):vL f r (i+1)=vL f r i++32::xW f.kind c r:=by
 unfold vL
 rw [List.take_add_one,h]
 simp [List.flatMap_append]
theorem aG3 {f:xU} {r:dX} (hr:aEo r) (hf:f.word.length<=20):(aDl f r).length<=42:=by
 have l1:=Lib.itoa_length_le r.cL hr.1.1 hr.1.2
 unfold aDl
 split
 ·simp;omega
 ·omega
theorem aGV {f:xU} {r:dX} (hr:aEo r) (hf:f.word.length<=20):∀ i,(vL f r i).length<=42+i*1048581:=by
 have h0:=aG3 hr hf
 have key:∀ l:List UInt8,(l.flatMap fun c=>32::xW f.kind c r).length<=l.length*1048581:=by
  intro l
  induction l with
  |nil=>simp
  |cons c l ih=>
   have:=aGr hr f.kind c
   simp only [List.flatMap_cons,List.length_append,List.length_cons]
   rw [Nat.add_mul];omega
 intro i
 have h1:=key (f.rest.take i)
 have h2:(f.rest.take i).length*1048581<=i*1048581:=Nat.mul_le_mul_right _ (by rw [List.length_take];omega)
 unfold vL
 rw [List.length_append]
 omega
theorem aBF:∀ f,f∈fZ->f.rest.length<=3/\f.word.length<=20:=by decide
theorem aIj (r:dX) (hr:aEo r):aC PP GG 27 [.agg r.c] (.d (.str (jL r))) [none]:=by
 refine cv Tryz.func27 [.d (.str (jL r))] ?_
 unfold jL
 have ci:=aCd r.cY 0 15
 by_cases hk:(decide (0<=r.cY) && decide (r.cY<=15))=true
 rotate_left
 ·have hk:(decide (0<=r.cY) && decide (r.cY<=15))=false:=by simpa using hk
  rw [hk] at ci ⊢
  exact oE (Z1 ci)
 rw [hk] at ci ⊢
 simp only [Bool.and_eq_true,decide_eq_true_eq] at hk
 have hrr:=hr
 obtain ⟨kd,tk,nm,pa,da,nu⟩:=r
 obtain ⟨hr1,hr2,hr3,hr4,hr5⟩:=hrr
 dsimp only at *
 obtain ⟨k,rfl⟩:∃ k:Nat,kd=k:=⟨kd.toNat,by omega⟩
 have cf:=aBM
 have hfl:=aDo.1
 have hfr:=aBF
 have cto:=aKa tk hr1
 have cnu:=aKa nu hr2
 have cop:=aC6 pa
 have cod:=aC6 da
 have ctr:=aGj da [10] (by omega)
 have htl:=vW da [10]
 have cr1:=yN (Lib.trimSuffix da [10]) 10 59 (by decide) (by omega)
 have cr2:=yN (swp 10 59 (Lib.trimSuffix da [10])) 32 61 (by decide) (by rw [sF];omega)
 generalize fZ=L at *
 have ha:=List.getElem?_eq_getElem (show k<L.length by omega)
 generalize L[k]=f at ha
 have hfm:=hfr f (List.mem_of_getElem? ha)
 have hdr:=aGV (f:=f) hr hfm.2
 have hsu:=fun i c=>@aMG f ⟨k,tk,nm,pa,da,nu⟩ i c
 have hwl:=fun c=>aGr hr f.kind c
 have e0:vL f ⟨k,tk,nm,pa,da,nu⟩ 0=aDl f ⟨k,tk,nm,pa,da,nu⟩:=by simp [vL]
 have eh:aDl f ⟨k,tk,nm,pa,da,nu⟩=if f.tok=true then Lib.itoa tk++[32]++f.word else f.word:=rfl
 have hlt:=aG3 hr hfm.2
 rw [eh] at hlt
 simp only [Int.toNat_natCast,ha]
 obtain ⟨fw,fk,ft,fr⟩:=f
 dsimp only at *
 generalize vL ⟨fw,fk,ft,fr⟩ ⟨k,tk,nm,pa,da,nu⟩=G at *
 rw [eh] at e0
 clear eh hfr
 refine u_1 ?_
 refine qK [1] (fun st=>st=⟨[],[(1,.ptr 0 0)],[(0,.box [.d (.int .i64 k),.d (.int .i64 tk),.d (.str nm),.d (.str pa),.d (.str da),.d (.int .i64 nu)])],1⟩) ?_ ?_
 ·refine aFq (Z1 ci) ?_
  exact oJ
 rintro st rfl
 refine aWy (Y2 ha hfl) (Z1 cf) ?_
 refine u_1 ?_
 refine qK [1,3,4] (fun st=>st=⟨[],[(1,.ptr 0 0),(3,.ptr 1 0),(4,.d (.str (G 0)))],[(0,.box [.d (.int .i64 k),.d (.int .i64 tk),.d (.str nm),.d (.str pa),.d (.str da),.d (.int .i64 nu)]),(1,.box [.d (.str fw),.d (.int .i64 fk),.d (.bool ft),.d (.str fr)])],2⟩) ?_ ?_
 ·cases ft
  ·refine jJ ?_
   exact gE e0
  ·simp at hlt
   refine fV @dP.eq_1 (Z1 cto) ?_
   exact gE e0
 rintro st rfl
 have hfl3:=hfm.1
 refine qK [4] (fun st=>st=⟨[],[(4,.d (.str (G fr.length)))],[],0⟩) ?_ ?_
 ·refine jJ ?_
  refine bH (fun n st=>∃ (i:Nat),n=fr.length-i/\i<=fr.length/\st=⟨[],[(1,.ptr 0 0),(3,.ptr 1 0),(4,.d (.str (G i))),(28,.d (.int .i64 fr.length)),(29,.d (.int .i64 i))],[(0,.box [.d (.int .i64 k),.d (.int .i64 tk),.d (.str nm),.d (.str pa),.d (.str da),.d (.int .i64 nu)]),(1,.box [.d (.str fw),.d (.int .i64 fk),.d (.bool ft),.d (.str fr)])],2⟩) _ ⟨0,rfl,by omega,rfl⟩ ?_
  rintro n st ⟨i,rfl,hi,rfl⟩
  by_cases hlt2:i<fr.length
  ·have hc:=List.getElem?_eq_getElem hlt2
   generalize fr[i]=c at hc
   have hs:=hsu i c hc
   have hw:=hwl c
   have hdi:=hdr i
   have hdi2:(G i).length<=4000000:=by omega
   have fin:∀ w:List UInt8,xW fk c ⟨k,tk,nm,pa,da,nu⟩=w->G (i+1)=G i++32::w:=fun w h=>by rw [hs,h]
   unfold xW at fin hw
   dsimp only at fin hw
   by_cases h1:c=110
   ·subst h1
    have fin:=fin _ rfl
    simp only [if_true] at fin hw
    refine fV (Y2 hc @dP.eq_1) (Z1 cnu) ?_
    refine ⟨fr.length-(i+1),by omega,i+1,rfl,hlt2,?_⟩
    refine kM fin ?_
    exact aA (by omega) (by omega)
   have n1:¬c.toNat=110:=sE h1
   rw [if_neg h1] at fin hw
   by_cases h2:c=112
   ·subst h2
    have fin:=fin _ rfl
    simp only [if_true] at fin hw
    refine eT (Y2 hc @dP.eq_1) ?_
    refine ⟨fr.length-(i+1),by omega,i+1,rfl,hlt2,?_⟩
    refine kM fin ?_
    exact aA (by omega) (by omega)
   have n2:¬c.toNat=112:=sE h2
   rw [if_neg h2] at fin hw
   by_cases h3:c=109
   ·subst h3
    have fin:=fin _ rfl
    simp only [if_true] at fin hw
    refine eT (Y2 hc @dP.eq_1) ?_
    refine ⟨fr.length-(i+1),by omega,i+1,rfl,hlt2,?_⟩
    refine kM fin ?_
    exact aA (by omega) (by omega)
   have n3:¬c.toNat=109:=sE h3
   rw [if_neg h3] at fin hw
   by_cases h4:c=113
   ·subst h4
    have fin:=fin _ rfl
    simp only [if_true] at fin hw
    refine fV (Y2 hc @dP.eq_1) (Z1 cop) ?_
    refine ⟨fr.length-(i+1),by omega,i+1,rfl,hlt2,?_⟩
    refine kM fin ?_
    exact aA (by omega) (by omega)
   have n4:¬c.toNat=113:=sE h4
   rw [if_neg h4] at fin hw
   by_cases h5:fk=0
   ·subst h5
    by_cases h6:da=[]
    ·have fin:=fin _ rfl
     rw [if_neg (by simp [h6])] at fin hw
     have hd:(da != [])=false:=by simp [h6]
     refine fV (Y7 hc @dP.eq_1 n1 n2 n3 n4 hd) (Z1 cod) ?_
     refine ⟨fr.length-(i+1),by omega,i+1,rfl,hlt2,?_⟩
     refine kM fin ?_
     exact aA (by omega) (by omega)
    ·have fin:=fin _ rfl
     rw [if_pos (by simp [h6])] at fin hw
     have hd:(da != [])=true:=by simp [h6]
     refine fV (Y7 hc @dP.eq_1 n1 n2 n3 n4 hd) (Z4 cod ctr cr1 cr2) ?_
     refine ⟨fr.length-(i+1),by omega,i+1,rfl,hlt2,?_⟩
     refine kM fin ?_
     exact aA (by omega) (by omega)
   ·have fin:=fin _ rfl
    rw [if_neg (by simp [h5])] at fin hw
    have hd:decide (fk=0)=false:=by simp [h5]
    refine fV (Y8 hc @dP.eq_1 n1 n2 n3 n4 hd h5) (Z1 cod) ?_
    refine ⟨fr.length-(i+1),by omega,i+1,rfl,hlt2,?_⟩
    refine kM fin ?_
    exact aA (by omega) (by omega)
  ·have hie:i=fr.length:=by omega
   subst hie
   refine jJ ?_
   exact oJ
 rintro st rfl
 exact nK
def rH (p:Option dX) (r:dX) (l:List UInt8):List UInt8:=if p=some r then l else []
theorem aDk (line:List UInt8) (hline:line.length<=4000000):aC PP GG 28 [.d (.str line)] (.tup [.agg ((jI line).getD eV).o,.d (.bool (jI line).isSome)]) [none]:=by
 by_cases h:line.length<=1048576
 ·exact aKZ line h
 have hn:jI line=none:=by unfold jI;rw [if_pos (by omega)]
 rw [hn]
 refine cv Tryz.func28 [.agg eV.o,.d (.bool false)] ?_
 have hl2:decide (250<(line.length:Int))=true:=decide_eq_true (by omega)
 exact fC (Y2 hl2 @eV.eq_1)
theorem aGU (r:dX) (hr:aEo r):(jL r).length<=3200000:=by
 unfold jL
 split
 ·split
  ·rename_i f hf
   have hm:=aBF f (List.mem_of_getElem? hf)
   have:=aGV (f:=f) hr hm.2 f.rest.length
   omega
  ·simp
 ·simp
theorem aIk (r:dX) (hr:aEo r):aC PP GG 7 [.agg r.c] (.tup [.d (.str (rH (jI (jL r)) r (jL r))),.d (.bool (decide (jI (jL r)=some r)))]) [none]:=by
 refine cv Tryz.func7 [.d (.str (rH (jI (jL r)) r (jL r))),.d (.bool (decide (jI (jL r)=some r)))] ?_
 have cl:=aIj r hr
 have hll:=aGU r hr
 generalize jL r=l at *
 have cp:=aDk l (by omega)
 generalize jI l=p at *
 cases p with
 |none=>
  have:rH none r l=[]:=by simp [rH]
  rw [this]
  exact dO @eV.eq_1 (Z2 cl cp)
 |some q=>
  by_cases h:q=r
  ·subst h
   have e:rH (some q) q l=l:=by simp [rH]
   rw [e]
   exact oE (Z2 cl cp)
  ·have e:rH (some q) r l=[]:=by simp [rH,h]
   rw [e]
   have e2:decide (some q=some r)=false:=by simp [h]
   rw [e2]
   have hx:(q.cY=r.cY->q.cL=r.cL->q.aH=r.aH->q.dM=r.dM->q.dI=r.dI->q.qT=r.qT->False):=fun a b c d e f=>h (by cases q;cases r;simp_all)
   repeat' (first|refine aN ?_|refine aQ ?_|refine aU ?_|refine cR ?_|refine aW rfl ?_|refine bB rfl ?_|((first|refine iX fun K hK=>?_|refine fS fun K hK=>?_|refine kI ?_|with_reducible refine aF (cl) ?_|with_reducible refine aF (cp) ?_);simp [Fin])|(with_reducible refine hK _ ?_;clear hK K)|(with_reducible refine aJ (fun h=>?_) (fun h=>?_)<;>first|(exfalso;simp at h;first|done|omega|contradiction)|((try simp at h);simp))|with_reducible refine And.intro ?_ ?_|with_reducible exact aL rfl|with_reducible assumption|(refine aO rfl (fun h=>?_) (fun h=>?_)<;>first|(exfalso;simp at h;first|done|omega|contradiction)|(exfalso;simp_all;done)|(try simp at h))|omega)
   all_goals (exfalso;simp at *;first|exact hx (by assumption) (by assumption) (by assumption) (by assumption) (by assumption) (by assumption)|simp_all)
def xV (k:Int) (c:UInt8) (r:dX):List UInt8:=
 if c=110 then Lib.itoa r.qT else if c=119 then r.aH else if c=112 then r.dM else if c=113 then yW r.dM
 else if c=111 then (if k=0 then xY r.dI else yW r.dI) else []
def sU (v:List UInt8×List UInt8) (r:dX) (n:Nat):List UInt8:=Lib.itoa r.cL++[32]++v.1++(v.2.take n).flatMap fun c=>32::xV r.cY c r
def pS (r:dX):List UInt8:=if r.cY=14 then [115,121,110,99]
 else if (decide (11<=r.cY) && decide (r.cY<=15))=true then (match iQ[(r.cY-11).toNat]? with|some s=>s++[32]++Lib.itoa r.qT|none=>[])
 else if (decide (0<=r.cY) && decide (r.cY<=10))=true then (match kA[r.cY.toNat]? with|some v=>sU v r v.2.length|none=>[]) else []
def aE7 (r:dX):Prop:=r.aH.length<=100/\r.dM.length<=100/\r.dI.length<=110
instance (r:dX):Decidable (aE7 r):=by unfold aE7;infer_instance
def wV (r:dX):Option dX:=if aE7 r then xZ (pS r) else none
theorem aGv {d:List UInt8} (h:d.length<=110):(xY d).length<=13000:=by
 unfold xY
 split
 ·simp
 ·have h1:=aNr (m:=d.length) (cJ 10 d).dropLast fun q hq=>kW d ((List.dropLast_sublist _).mem hq)
  have h2:=iK 10 d
  have h3:(cJ 10 d).dropLast.length*(d.length+1)<=111*111:=Nat.mul_le_mul (by rw [List.length_dropLast];omega) (by omega)
  omega
theorem aGq {r:dX} (hr:aEo r) (hf:aE7 r) (k:Int) (c:UInt8):(xV k c r).length<=13000:=by
 obtain ⟨h1,h2,h3,h4,h5⟩:=hr
 obtain ⟨f1,f2,f3⟩:=hf
 have l1:=Lib.itoa_length_le r.qT h2.1 h2.2
 have l2:=tH r.dM
 have l3:=tH r.dI
 have l4:=aGv f3
 unfold xV
 repeat' split
 all_goals (first|omega|simp)
theorem aL5 {v:List UInt8×List UInt8} {r:dX} {i:Nat} {c:UInt8} (h:v.2[i]?=some c):sU v r (i+1)=sU v r i++32::xV r.cY c r:=by
 unfold sU
 rw [List.take_add_one,h]
 simp [List.flatMap_append]
theorem aGs {v:List UInt8×List UInt8} {r:dX} (hr:aEo r) (hf:aE7 r) (hv:v.1.length<=20):∀ i,(sU v r i).length<=42+i*13001:=by
 have key:∀ l:List UInt8,(l.flatMap fun c=>32::xV r.cY c r).length<=l.length*13001:=by
  intro l
  induction l with
  |nil=>simp
  |cons c l ih=>
   have:=aGq hr hf r.cY c
   simp only [List.flatMap_cons,List.length_append,List.length_cons]
   rw [Nat.add_mul];omega
 intro i
 have l1:=Lib.itoa_length_le r.cL hr.1.1 hr.1.2
 have h1:=key (v.2.take i)
 have h2:(v.2.take i).length*13001<=i*13001:=Nat.mul_le_mul_right _ (by rw [List.length_take];omega)
 unfold sU
 simp only [List.length_append,List.length_singleton]
 omega
theorem aCS:∀ v,v∈kA->v.1.length<=20/\v.2.length<=3:=by decide
theorem aO1 (r:dX) (hr:aEo r) (hf:aE7 r):(pS r).length<=40000:=by
 have l1:=Lib.itoa_length_le r.qT hr.2.1.1 hr.2.1.2
 unfold pS
 split
 ·simp
 split
 ·split
  ·rename_i s hs
   have:∀ s,s∈iQ->s.length<=20:=by decide
   have:=this s (List.mem_of_getElem? hs)
   simp only [List.length_append,List.length_singleton];omega
  ·simp
 split
 ·split
  ·rename_i v hv
   have hm:=aCS v (List.mem_of_getElem? hv)
   have:=aGs (v:=v) hr hf hm.1 v.2.length
   omega
  ·simp
 ·simp
theorem aHI (r:dX) (hr:aEo r):aC PP GG 6 [.agg r.c] (.tup [.d (.str (rH (wV r) r (pS r))),.d (.bool (decide (wV r=some r)))]) [none]:=by
 refine cv Tryz.func6 [.d (.str (rH (wV r) r (pS r))),.d (.bool (decide (wV r=some r)))] ?_
 by_cases hf:aE7 r
 rotate_left
 ·have hb:wV r=none:=if_neg hf
  have:rH none r (pS r)=[]:=by simp [rH]
  rw [hb,this]
  have hdn:decide (none=some r)=false:=rfl
  rw [hdn]
  by_cases h1:r.aH.length<=100
  ·have d1:decide (100<(r.aH.length:Int))=false:=decide_eq_false (by omega)
   by_cases h2:r.dM.length<=100
   ·have d2:decide (100<(r.dM.length:Int))=false:=decide_eq_false (by omega)
    have d3:decide (110<(r.dI.length:Int))=true:=decide_eq_true (by unfold aE7 at hf;omega)
    exact fC (Y3 d1 d2 d3)
   ·have d2:decide (100<(r.dM.length:Int))=true:=decide_eq_true (by omega)
    exact fC (Y2 d1 d2)
  ·have d1:decide (100<(r.aH.length:Int))=true:=decide_eq_true (by omega)
   exact fC d1
 have hb:wV r=xZ (pS r):=if_pos hf
 rw [hb]
 have hll:=aO1 r hr hf
 have hL:pS r=if r.cY=14 then [115,121,110,99]
   else if (decide (11<=r.cY) && decide (r.cY<=15))=true then (match iQ[(r.cY-11).toNat]? with|some s=>s++[32]++Lib.itoa r.qT|none=>[])
   else if (decide (0<=r.cY) && decide (r.cY<=10))=true then (match kA[r.cY.toNat]? with|some v=>sU v r v.2.length|none=>[]) else []:=rfl
 clear hb
 generalize pS r=l at *
 obtain ⟨h1,h2,h3⟩:=hf
 have d1:decide (100<(r.aH.length:Int))=false:=decide_eq_false (by omega)
 have d2:decide (100<(r.dM.length:Int))=false:=decide_eq_false (by omega)
 have d3:decide (110<(r.dI.length:Int))=false:=decide_eq_false (by omega)
 have hf:aE7 r:=⟨h1,h2,h3⟩
 refine u_1 ?_
 refine qK [1] (fun st=>st=⟨[],[(1,.ptr 0 0)],[(0,.box (r.row.map A.d))],1⟩) ?_ ?_
 ·refine eT (Y3 d1 d2 d3) ?_
  exact oJ
 rintro st rfl
 refine u_1 ?_
 refine qK [1,4] (fun st=>st=⟨[],[(1,.ptr 0 0),(4,.d (.str l))],[(0,.box (r.row.map A.d))],1⟩) ?_ ?_
 ·have c1:=bD r.cY 11 15
  have c0:=bD r.cY 0 10
  have cnu:=kT r.qT hr.2.1
  have cto:=kT r.cL hr.1
  have ln:=Lib.itoa_length_le r.qT hr.2.1.1 hr.2.1.2
  have lt:=Lib.itoa_length_le r.cL hr.1.1 hr.1.2
  by_cases h14:r.cY=14
  ·have hk:(r.cY==14)=true:=by simp [h14]
   rw [if_pos h14] at hL
   refine eT hk ?_
   exact gE hL
  rw [if_neg h14] at hL
  have hk:(r.cY==14)=false:=by simp [h14]
  by_cases h11:(decide (11<=r.cY) && decide (r.cY<=15))=true
  ·rw [if_pos h11] at hL
   rw [h11] at c1
   simp only [Bool.and_eq_true,decide_eq_true_eq] at h11
   obtain ⟨k,e⟩:∃ k:Nat,r.cY=11+k:=⟨(r.cY-11).toNat,by omega⟩
   have hsub:IntKind.i64.wrap (r.cY-11)=(k:Int):=by rw [aA (by omega) (by omega)];omega
   have e2:(r.cY-11).toNat=k:=by omega
   rw [e2] at hL
   have hk5:k=0\/k=1\/k=2\/k=3\/k=4:=by omega
   rcases hk5 with rfl|rfl|rfl|rfl|rfl
   ·simp only [iQ,List.getElem?_cons_succ,List.getElem?_cons_zero] at hL
    repeat' (first|refine aN ?_|refine aQ ?_|refine aU ?_|refine cR ?_|refine aW rfl ?_|refine bB rfl ?_|((first|refine iX fun K hK=>?_|refine fS fun K hK=>?_|refine kI ?_|with_reducible refine aF (c1) ?_|with_reducible refine aF (cnu) ?_);simp [Fin,hk,hsub,dP])|(with_reducible refine hK _ ?_;clear hK K)|(with_reducible refine aJ (fun h=>?_) (fun h=>?_)<;>first|(exfalso;simp at h;first|done|omega|contradiction)|((try simp at h);simp [hk,hsub,dP]))|with_reducible refine And.intro ?_ ?_|with_reducible exact aL rfl|with_reducible assumption|(refine aO rfl (fun h=>?_) (fun h=>?_)<;>first|(exfalso;simp at h;first|done|omega|contradiction)|(exfalso;simp_all;done)|(try simp at h))|omega)
    all_goals (simp [gc,bP,cI,gcV,gcO,dS,cU,eH,aY,bR,bU,dU,hL])
   ·simp only [iQ,List.getElem?_cons_succ,List.getElem?_cons_zero] at hL
    repeat' (first|refine aN ?_|refine aQ ?_|refine aU ?_|refine cR ?_|refine aW rfl ?_|refine bB rfl ?_|((first|refine iX fun K hK=>?_|refine fS fun K hK=>?_|refine kI ?_|with_reducible refine aF (c1) ?_|with_reducible refine aF (cnu) ?_);simp [Fin,hk,hsub,dP])|(with_reducible refine hK _ ?_;clear hK K)|(with_reducible refine aJ (fun h=>?_) (fun h=>?_)<;>first|(exfalso;simp at h;first|done|omega|contradiction)|((try simp at h);simp [hk,hsub,dP]))|with_reducible refine And.intro ?_ ?_|with_reducible exact aL rfl|with_reducible assumption|(refine aO rfl (fun h=>?_) (fun h=>?_)<;>first|(exfalso;simp at h;first|done|omega|contradiction)|(exfalso;simp_all;done)|(try simp at h))|omega)
    all_goals (simp [gc,bP,cI,gcV,gcO,dS,cU,eH,aY,bR,bU,dU,hL])
   ·simp only [iQ,List.getElem?_cons_succ,List.getElem?_cons_zero] at hL
    repeat' (first|refine aN ?_|refine aQ ?_|refine aU ?_|refine cR ?_|refine aW rfl ?_|refine bB rfl ?_|((first|refine iX fun K hK=>?_|refine fS fun K hK=>?_|refine kI ?_|with_reducible refine aF (c1) ?_|with_reducible refine aF (cnu) ?_);simp [Fin,hk,hsub,dP])|(with_reducible refine hK _ ?_;clear hK K)|(with_reducible refine aJ (fun h=>?_) (fun h=>?_)<;>first|(exfalso;simp at h;first|done|omega|contradiction)|((try simp at h);simp [hk,hsub,dP]))|with_reducible refine And.intro ?_ ?_|with_reducible exact aL rfl|with_reducible assumption|(refine aO rfl (fun h=>?_) (fun h=>?_)<;>first|(exfalso;simp at h;first|done|omega|contradiction)|(exfalso;simp_all;done)|(try simp at h))|omega)
    all_goals (simp [gc,bP,cI,gcV,gcO,dS,cU,eH,aY,bR,bU,dU,hL])
   ·simp only [iQ,List.getElem?_cons_succ,List.getElem?_cons_zero] at hL
    repeat' (first|refine aN ?_|refine aQ ?_|refine aU ?_|refine cR ?_|refine aW rfl ?_|refine bB rfl ?_|((first|refine iX fun K hK=>?_|refine fS fun K hK=>?_|refine kI ?_|with_reducible refine aF (c1) ?_|with_reducible refine aF (cnu) ?_);simp [Fin,hk,hsub,dP])|(with_reducible refine hK _ ?_;clear hK K)|(with_reducible refine aJ (fun h=>?_) (fun h=>?_)<;>first|(exfalso;simp at h;first|done|omega|contradiction)|((try simp at h);simp [hk,hsub,dP]))|with_reducible refine And.intro ?_ ?_|with_reducible exact aL rfl|with_reducible assumption|(refine aO rfl (fun h=>?_) (fun h=>?_)<;>first|(exfalso;simp at h;first|done|omega|contradiction)|(exfalso;simp_all;done)|(try simp at h))|omega)
    all_goals (simp [gc,bP,cI,gcV,gcO,dS,cU,eH,aY,bR,bU,dU,hL])
   ·simp only [iQ,List.getElem?_cons_succ,List.getElem?_cons_zero] at hL
    repeat' (first|refine aN ?_|refine aQ ?_|refine aU ?_|refine cR ?_|refine aW rfl ?_|refine bB rfl ?_|((first|refine iX fun K hK=>?_|refine fS fun K hK=>?_|refine kI ?_|with_reducible refine aF (c1) ?_|with_reducible refine aF (cnu) ?_);simp [Fin,hk,hsub,dP])|(with_reducible refine hK _ ?_;clear hK K)|(with_reducible refine aJ (fun h=>?_) (fun h=>?_)<;>first|(exfalso;simp at h;first|done|omega|contradiction)|((try simp at h);simp [hk,hsub,dP]))|with_reducible refine And.intro ?_ ?_|with_reducible exact aL rfl|with_reducible assumption|(refine aO rfl (fun h=>?_) (fun h=>?_)<;>first|(exfalso;simp at h;first|done|omega|contradiction)|(exfalso;simp_all;done)|(try simp at h))|omega)
    all_goals (simp [gc,bP,cI,gcV,gcO,dS,cU,eH,aY,bR,bU,dU,hL])
  have h11:(decide (11<=r.cY) && decide (r.cY<=15))=false:=by simpa using h11
  rw [if_neg (by simp [h11])] at hL
  rw [h11] at c1
  by_cases h0:(decide (0<=r.cY) && decide (r.cY<=10))=true
  rotate_left
  ·have h0:(decide (0<=r.cY) && decide (r.cY<=10))=false:=by simpa using h0
   rw [if_neg (by simp [h0])] at hL
   rw [h0] at c0
   refine fV hk (Z2 c1 c0) ?_
   exact gE hL
  rw [if_pos h0] at hL
  rw [h0] at c0
  have cf:=yC
  have cpa:=aCZ r.dM
  have cda:=aCZ r.dI
  have cun:=aDx r.dI (by omega)
  have lpa:=tH r.dM
  have lda:=tH r.dI
  have lun:=aGv h3
  obtain ⟨hF,hV,hFV⟩:=aDn
  have hvs:=aCS
  simp only [Bool.and_eq_true,decide_eq_true_eq] at h0
  obtain ⟨k,e⟩:∃ k:Nat,r.cY=k:=⟨r.cY.toNat,by omega⟩
  obtain ⟨f,⟨v,g⟩,hfa,hva,hcut,hfl,hgl,hg0⟩:=hFV ⟨k,by omega⟩
  simp only at hfa hva hcut hgl hg0
  have hvl:=(hvs _ (List.mem_of_getElem? hva)).1
  dsimp only at hvl
  have cv:=aBf f v g hcut (by omega)
  have hindf:=cC rP
  have e2:r.cY.toNat=k:=by omega
  rw [e2,hva] at hL
  clear hFV hvs
  generalize rP=Fm at *
  have hG:=aGs (v:=(v,g)) hr hf hvl
  have hsu:=fun i c=>@aL5 (v,g) r i c
  have e0:sU (v,g) r 0=Lib.itoa r.cL++[32]++v:=by simp [sU]
  have hwl:=fun c=>aGq hr hf r.cY c
  dsimp only at *
  generalize sU (v,g) r=G at *
  have eG:pS r=pS r:=rfl
  clear eG
  rw [e] at hk h0 c0 c1 h14 h11
  have lto:=Lib.itoa_length_le r.cL hr.1.1 hr.1.2
  have hG0:=hG 0
  obtain ⟨kd,tk,nm,pa,da,nu⟩:=r
  dsimp only at *
  subst e
  refine fV (Y4 hk hfa @aK.eq_1 @dP.eq_1) (Z5 c1 c0 cf cv cto) ?_
  refine bH (fun n st=>∃ (i:Nat),n=g.length-i/\i<=g.length/\st=⟨[],[(1,.ptr 0 0),(4,.d (.str (G i))),(7,.d (.str g)),(8,.d (.int .i64 i))],[(0,.box [.d (.int .i64 k),.d (.int .i64 tk),.d (.str nm),.d (.str pa),.d (.str da),.d (.int .i64 nu)])],1⟩) _ ⟨0,rfl,by omega,?_⟩ ?_
  ·exact gE e0
  rintro n st ⟨i,rfl,hi,rfl⟩
  by_cases hlt2:i<g.length
  ·have hc:=List.getElem?_eq_getElem hlt2
   generalize g[i]=c at hc
   have hs:=hsu i c hc
   have hw:=hwl c
   have hdi:=hG i
   have hdi2:(G i).length<=60000:=by omega
   have fin:∀ w:List UInt8,xV k c ⟨k,tk,nm,pa,da,nu⟩=w->G (i+1)=G i++32::w:=fun w h=>by rw [hs,h]
   unfold xV at fin hw
   dsimp only at fin hw
   by_cases q1:c=110
   ·subst q1
    rw [if_pos rfl] at fin hw
    have fin:=fin _ rfl
    refine fV (Y2 hc @dP.eq_1) (Z1 cnu) ?_
    refine ⟨g.length-(i+1),by omega,i+1,rfl,hlt2,?_⟩
    refine kM fin ?_
    exact aA (by omega) (by omega)
   have n1:¬c.toNat=110:=sE q1
   rw [if_neg q1] at fin hw
   by_cases q2:c=119
   ·subst q2
    rw [if_pos rfl] at fin hw
    have fin:=fin _ rfl
    refine eT (Y2 hc @dP.eq_1) ?_
    refine ⟨g.length-(i+1),by omega,i+1,rfl,hlt2,?_⟩
    refine kM fin ?_
    exact aA (by omega) (by omega)
   have n2:¬c.toNat=119:=sE q2
   rw [if_neg q2] at fin hw
   by_cases q3:c=112
   ·subst q3
    rw [if_pos rfl] at fin hw
    have fin:=fin _ rfl
    refine eT (Y2 hc @dP.eq_1) ?_
    refine ⟨g.length-(i+1),by omega,i+1,rfl,hlt2,?_⟩
    refine kM fin ?_
    exact aA (by omega) (by omega)
   have n3:¬c.toNat=112:=sE q3
   rw [if_neg q3] at fin hw
   by_cases q4:c=113
   ·subst q4
    rw [if_pos rfl] at fin hw
    have fin:=fin _ rfl
    refine fV (Y2 hc @dP.eq_1) (Z1 cpa) ?_
    refine ⟨g.length-(i+1),by omega,i+1,rfl,hlt2,?_⟩
    refine kM fin ?_
    exact aA (by omega) (by omega)
   have n4:¬c.toNat=113:=sE q4
   rw [if_neg q4] at fin hw
   by_cases q5:c=111
   ·subst q5
    rw [if_pos rfl] at fin hw
    by_cases hk0:k=0
    ·subst hk0
     have fin:=fin _ rfl
     rw [if_pos (show ((0:Nat):Int)=0 from rfl)] at fin hw
     refine fV (Y2 hc @dP.eq_1) (Z1 cun) ?_
     refine ⟨g.length-(i+1),by omega,i+1,rfl,hlt2,?_⟩
     refine kM fin ?_
     exact aA (by omega) (by omega)
    ·have fin:=fin _ rfl
     rw [if_neg (show ¬((k:Nat):Int)=0 by omega)] at fin hw
     refine fV (Y3 hc @dP.eq_1 hk0) (Z1 cda) ?_
     refine ⟨g.length-(i+1),by omega,i+1,rfl,hlt2,?_⟩
     refine kM fin ?_
     exact aA (by omega) (by omega)
   have n5:¬c.toNat=111:=sE q5
   rw [if_neg q5] at fin hw
   have fin:=fin _ rfl
   refine eT (Y2 hc @dP.eq_1) ?_
   refine ⟨g.length-(i+1),by omega,i+1,rfl,hlt2,?_⟩
   refine kM fin ?_
   exact aA (by omega) (by omega)
  ·have hie:i=g.length:=by omega
   subst hie
   refine jJ ?_
   exact gE hL
 rintro st rfl
 clear hL
 have cp:=aFD l (by omega)
 generalize xZ l=p at *
 cases p with
 |none=>
  have:rH none r l=[]:=by simp [rH]
  rw [this]
  exact dO @eV.eq_1 (Z1 cp)
 |some q=>
  by_cases h:q=r
  ·subst h
   have e:rH (some q) q l=l:=by simp [rH]
   rw [e]
   exact oE (Z1 cp)
  ·have e:rH (some q) r l=[]:=by simp [rH,h]
   rw [e]
   have e2:decide (some q=some r)=false:=by simp [h]
   rw [e2]
   have hx:(q.cY=r.cY->q.cL=r.cL->q.aH=r.aH->q.dM=r.dM->q.dI=r.dI->q.qT=r.qT->False):=fun a b c d e f=>h (by cases q;cases r;simp_all)
   repeat' (first|refine aN ?_|refine aQ ?_|refine aU ?_|refine cR ?_|refine aW rfl ?_|refine bB rfl ?_|((first|refine iX fun K hK=>?_|refine fS fun K hK=>?_|refine kI ?_|with_reducible refine aF (cp) ?_);simp [Fin])|(with_reducible refine hK _ ?_;clear hK K)|(with_reducible refine aJ (fun h=>?_) (fun h=>?_)<;>first|(exfalso;simp at h;first|done|omega|contradiction)|((try simp at h);simp))|with_reducible refine And.intro ?_ ?_|with_reducible exact aL rfl|with_reducible assumption|(refine aO rfl (fun h=>?_) (fun h=>?_)<;>first|(exfalso;simp at h;first|done|omega|contradiction)|(exfalso;simp_all;done)|(try simp at h))|omega)
   all_goals (exfalso;simp at *;first|exact hx (by assumption) (by assumption) (by assumption) (by assumption) (by assumption) (by assumption)|simp_all)
theorem aP3 {p q:List UInt8} {ps:List (List UInt8)}:unF (p::q::ps)=swp 32 61 p++59::unF (q::ps):=by simp [unF]
theorem aSp (b:List UInt8):unF (cJ 10 b)=swp 32 61 (swp 10 59 b):=by
 induction b with
 |nil=>rfl
 |cons c b ih=>
  obtain ⟨p,ps,hp⟩:=jY 10 b
  rw [hp] at ih
  unfold cJ
  rw [hp]
  by_cases h:c=10
  ·subst h
   rw [if_pos rfl,aP3,ih]
   simp [swp]
  ·rw [if_neg h]
   have:unF (mT c (p::ps))=(if c=32 then 61 else c)::unF (p::ps):=by simp [mT,unF,swp]
   rw [this,ih]
   simp [swp,h]
theorem aRT (b:List UInt8):cJ 10 (b++[10])=cJ 10 b++[[]]:=by
 induction b with
 |nil=>rfl
 |cons c b ih=>
  obtain ⟨p,ps,hp⟩:=jY 10 b
  simp only [List.cons_append,cJ]
  rw [ih,hp]
  by_cases h:c=10
  ·rw [if_pos h,if_pos h];rfl
  ·rw [if_neg h,if_neg h];rfl
theorem aOm (b:List UInt8):Lib.trimSuffix (b++[10]) [10]=b:=by simp [Lib.trimSuffix,Lib.hasSuffix]
def aRx (r:dX):Prop:=aE7 r/\(r.cY=0->r.dI=[]\/∃ b,r.dI=b++[10])
theorem aO0 {r:dX} (h:aRx r):jL r=pS r:=by
 obtain ⟨_,h0⟩:=h
 obtain ⟨kd,tk,nm,pa,da,nu⟩:=r
 dsimp only at h0
 by_cases hk:0<=kd/\kd<=15
 ·obtain ⟨k,rfl⟩:∃ k:Nat,kd=k:=⟨kd.toNat,by omega⟩
  have hk:k<=15:=by omega
  have hz:k=0\/k=1\/k=2\/k=3\/k=4\/k=5\/k=6\/k=7\/k=8\/k=9\/k=10\/k=11\/k=12\/k=13\/k=14\/k=15:=by omega
  rcases hz with rfl|rfl|rfl|rfl|rfl|rfl|rfl|rfl|rfl|rfl|rfl|rfl|rfl|rfl|rfl|rfl
  ·rcases h0 rfl with rfl|⟨b,rfl⟩
   ·simp [jL,pS,fZ,kA,iQ,vL,sU,aDl,xW,xV,xY,yW]
   ·have hu:xY (b++[10])=swp 32 61 (swp 10 59 b):=by
     unfold xY
     rw [if_neg (by simp),aRT,List.dropLast_concat,aSp]
    simp [jL,pS,fZ,kA,iQ,vL,sU,aDl,xW,xV,hu,aOm]
  all_goals simp [jL,pS,fZ,kA,iQ,vL,sU,aDl,xW,xV]
 ·have h1:(decide (0<=kd) && decide (kd<=15))=false:=by rw [Bool.eq_false_iff];simp;omega
  have h2:(decide (11<=kd) && decide (kd<=15))=false:=by rw [Bool.eq_false_iff];simp;omega
  have h3:(decide (0<=kd) && decide (kd<=10))=false:=by rw [Bool.eq_false_iff];simp;omega
  unfold jL pS
  dsimp only
  rw [h1,h2,h3,if_neg (show ¬kd=14 by omega)]
  simp
theorem aRC {p:List UInt8} (h:¬pU p p.length<0):(aBG p).length=p.length+1:=by
 rcases wM p p.length (Nat.le_refl _) with e|⟨j,e,hj,_⟩
 ·omega
 ·unfold aBG
  rw [e]
  simp
  omega
theorem aRD (p:List UInt8):∃ b,aBG p=b++[10]:=⟨_,rfl⟩
def aOt:List (List UInt8)->Nat
 |[]=>0
 |p::r=>p.length+1+aOt r
theorem aQn (c:UInt8) (s:List UInt8):aOt (cJ c s)=s.length+1:=by
 induction s with
 |nil=>rfl
 |cons b s ih=>
  obtain ⟨p,ps,hp⟩:=jY c s
  unfold cJ
  rw [hp] at ih ⊢
  split
  ·simp only [aOt,List.length_cons,List.length_nil] at ih ⊢;omega
  ·simp only [mT,aOt,List.length_cons] at ih ⊢;omega
theorem aOQ:∀ {l:List (List UInt8)} {d:List UInt8},mO l=some d->d.length=aOt l/\(l≠[]->∃ b,d=b++[10]):=by
 intro l
 induction l with
 |nil=>intro d h;simp only [mO] at h;cases h;exact ⟨rfl,fun h=>(h rfl).elim⟩
 |cons p r ih=>
  intro d h
  simp only [mO] at h
  split at h
  ·cases h
  ·rename_i hp
   obtain ⟨e,he,rfl⟩:=Option.map_eq_some_iff.1 h
   obtain ⟨h1,h2⟩:=ih he
   refine ⟨by rw [List.length_append,aRC hp,h1];simp only [aOt],fun _=>?_⟩
   by_cases hr:r=[]
   ·subst hr
    simp only [mO] at he
    cases he
    obtain ⟨b,hb⟩:=aRD p
    exact ⟨b,by simp [hb]⟩
   ·obtain ⟨b,rfl⟩:=h2 hr
    exact ⟨aBG p++b,by simp⟩
theorem aPW {w:List UInt8} (h:fK w=true):w.length<=100:=by
 unfold fK inB at h
 simp only [Bool.and_eq_true,decide_eq_true_eq] at h
 omega
def aNZ (k:Int) (r:dX):Prop:=aE7 r/\r.cY=k/\(k=0->r.dI=[]\/∃ b,r.dI=b++[10])
theorem aL9 {k:Int} {c:UInt8} {r r':dX} {w:List UInt8} (h:pO k c r w=some r') (hr:aNZ k r):aNZ k r':=by
 have hw:=aPW (aGx h)
 obtain ⟨⟨h1,h2,h3⟩,h4,h5⟩:=hr
 unfold pO at h
 split at h
 ·cases hn:jD w with
  |none=>rw [hn] at h;cases h
  |some n=>rw [hn] at h;cases h;exact ⟨⟨h1,h2,h3⟩,h4,h5⟩
 split at h
 ·cases h
 split at h
 ·cases h;exact ⟨⟨h1,hw,h3⟩,h4,h5⟩
 split at h
 ·cases h;exact ⟨⟨hw,h2,h3⟩,h4,h5⟩
 split at h
 ·cases h;exact ⟨⟨h1,h2,h3⟩,h4,h5⟩
 split at h
 ·cases h;exact ⟨⟨h1,hw,h3⟩,h4,h5⟩
 split at h
 ·cases hp:mO (cJ 59 w) with
  |none=>rw [hp] at h;cases h
  |some d=>
   rw [hp] at h;cases h
   obtain ⟨e1,e2⟩:=aOQ hp
   rw [aQn] at e1
   obtain ⟨p,ps,hps⟩:=jY 59 w
   exact ⟨⟨h1,h2,by show d.length<=_;omega⟩,h4,fun _=>.inr (e2 (by rw [hps];simp))⟩
 ·rename_i hk
  cases h;exact ⟨⟨h1,h2,by show w.length<=_;omega⟩,h4,fun e=>(hk e).elim⟩
theorem aHu {k:Int}:∀ (cs:List UInt8) (ws:List (List UInt8)) (r r':dX),iB k r cs ws=some r'->aNZ k r->aNZ k r':=by
 intro cs
 induction cs with
 |nil=>intro ws r r' h hr;cases ws<;>(simp only [iB] at h;cases h;exact hr)
 |cons c cs ih=>
  intro ws r r' h hr
  cases ws with
  |nil=>simp only [iB] at h;cases h;exact hr
  |cons w ws=>
   simp only [iB] at h
   cases ht:pO k c r w with
   |none=>rw [ht] at h;cases h
   |some q=>rw [ht] at h;exact ih ws q r' h (aL9 ht hr)
theorem aHc {l:List UInt8} {r:dX} (h:jI l=some r):aRx r:=by
 unfold jI at h
 split at h
 ·cases h
 ·unfold yJ at h
  dsimp only at h
  split at h
  ·cases h
  ·obtain ⟨h1,h2,h3⟩:=aHu _ _ _ _ h ⟨⟨by simp,by simp,by simp⟩,rfl,fun _=>.inl rfl⟩
   exact ⟨h1,fun e=>h3 (by rw [<-h2,e])⟩
theorem aQ4 (r:dX):rH (jI (jL r)) r (jL r)=rH (wV r) r (pS r)/\decide (jI (jL r)=some r)=decide (wV r=some r):=by
 by_cases hg:aRx r
 ·have e:=aO0 hg
  unfold wV
  rw [if_pos hg.1,aHb,e]
  exact ⟨rfl,rfl⟩
 ·have h1:¬jI (jL r)=some r:=fun h=>hg (aHc h)
  have h2:¬wV r=some r:=by
   unfold wV
   split
   ·rw [aHb];exact fun h=>hg (aHc h)
   ·simp
  unfold rH
  rw [if_neg h1,if_neg h2,decide_eq_false h1,decide_eq_false h2]
  exact ⟨rfl,rfl⟩
structure aR where
 bZ:Int
 cE:Int
 fO:List (List UInt8)
 bF:Int
 bS:Int
 cX:Int
 kH:Int
 deriving DecidableEq
@[simp] abbrev aR.row (x:aR):List D:=[.int .i64 x.bZ,.int .i64 x.cE,.slc 1 (aK x.fO),.int .i64 x.bF,.int .i64 x.bS,.int .i64 x.cX,.int .i64 x.kH]
@[simp] abbrev aR.c (x:aR):List C:=[.d (.int .i64 x.bZ),.d (.int .i64 x.cE),.d (.slc 1 (aK x.fO)),.d (.int .i64 x.bF),.d (.int .i64 x.bS),.d (.int .i64 x.cX),.d (.int .i64 x.kH)]
@[simp] abbrev aR.o (x:aR):List C:=[.d (.int .i64 x.bZ),.d (.int .i64 x.cE),.own 0 1 (aK x.fO),.d (.int .i64 x.bF),.d (.int .i64 x.bS),.d (.int .i64 x.cX),.d (.int .i64 x.kH)]
def cA (l:List aR):List (List D):=l.map aR.row
@[simp] theorem aEr (l:List aR):(cA l).length=l.length:=by simp [cA]
@[simp] theorem aUW (l:List aR) (i:Nat):(cA l)[i]?=(l[i]?).map aR.row:=by simp [cA]
theorem aEs (a b:List aR):cA (a++b)=cA a++cA b:=by simp [cA]
def aR.cost (x:aR):Nat:=(x.fO.length+dF List.length x.fO)
def aR.ok (x:aR):Prop:=aX x.bZ/\aX x.cE/\x.fO.length<=maxLen/\(∀ y,y∈x.fO->y.length<=maxLen)/\aX x.bF/\aX x.bS/\aX x.cX/\aX x.kH
structure bQ where
 aG:List aR
 deriving DecidableEq
@[simp] abbrev bQ.row (x:bQ):List D:=[.slc 7 (cA x.aG)]
@[simp] abbrev bQ.c (x:bQ):List C:=[.d (.slc 7 (cA x.aG))]
@[simp] abbrev bQ.o (x:bQ):List C:=[.own 1 7 (cA x.aG)]
def bQ.cost (x:bQ):Nat:=(x.aG.length+dF aR.cost x.aG)
def bQ.ok (x:bQ):Prop:=x.aG.length<=maxLen/\(∀ y,y∈x.aG->y.ok)
structure aT where
 bZ:Int
 cL:Int
 dM:List UInt8
 bF:Int
 bS:Int
 cX:Int
 deriving DecidableEq
@[simp] abbrev aT.row (x:aT):List D:=[.int .i64 x.bZ,.int .i64 x.cL,.str x.dM,.int .i64 x.bF,.int .i64 x.bS,.int .i64 x.cX]
@[simp] abbrev aT.c (x:aT):List C:=[.d (.int .i64 x.bZ),.d (.int .i64 x.cL),.d (.str x.dM),.d (.int .i64 x.bF),.d (.int .i64 x.bS),.d (.int .i64 x.cX)]
@[simp] abbrev aT.o (x:aT):List C:=[.d (.int .i64 x.bZ),.d (.int .i64 x.cL),.d (.str x.dM),.d (.int .i64 x.bF),.d (.int .i64 x.bS),.d (.int .i64 x.cX)]
def bG (l:List aT):List (List D):=l.map aT.row
@[simp] theorem uM (l:List aT):(bG l).length=l.length:=by simp [bG]
@[simp] theorem aUY (l:List aT) (i:Nat):(bG l)[i]?=(l[i]?).map aT.row:=by simp [bG]
theorem yR (a b:List aT):bG (a++b)=bG a++bG b:=by simp [bG]
def aT.cost (x:aT):Nat:=x.dM.length
def aT.ok (x:aT):Prop:=aX x.bZ/\aX x.cL/\x.dM.length<=maxLen/\aX x.bF/\aX x.bS/\aX x.cX
structure eO where
 aP:List aT
 deriving DecidableEq
@[simp] abbrev eO.row (x:eO):List D:=[.slc 6 (bG x.aP)]
@[simp] abbrev eO.c (x:eO):List C:=[.d (.slc 6 (bG x.aP))]
@[simp] abbrev eO.o (x:eO):List C:=[.own 0 6 (bG x.aP)]
def eO.cost (x:eO):Nat:=(x.aP.length+dF aT.cost x.aP)
def eO.ok (x:eO):Prop:=x.aP.length<=maxLen/\(∀ y,y∈x.aP->y.ok)
structure dD where
 aH:List UInt8
 aHa:List UInt8
 deriving DecidableEq
@[simp] abbrev dD.row (x:dD):List D:=[.str x.aH,.str x.aHa]
@[simp] abbrev dD.c (x:dD):List C:=[.d (.str x.aH),.d (.str x.aHa)]
@[simp] abbrev dD.o (x:dD):List C:=[.d (.str x.aH),.d (.str x.aHa)]
def dG (l:List dD):List (List D):=l.map dD.row
@[simp] theorem tC (l:List dD):(dG l).length=l.length:=by simp [dG]
@[simp] theorem aV8 (l:List dD) (i:Nat):(dG l)[i]?=(l[i]?).map dD.row:=by simp [dG]
theorem qV (a b:List dD):dG (a++b)=dG a++dG b:=by simp [dG]
def dD.cost (x:dD):Nat:=x.aH.length+x.aHa.length
def dD.ok (x:dD):Prop:=x.aH.length<=maxLen/\x.aHa.length<=maxLen
structure jZ where
 bE:List dD
 gT:Int
 bF:Int
 deriving DecidableEq
@[simp] abbrev jZ.row (x:jZ):List D:=[.slc 2 (dG x.bE),.int .i64 x.gT,.int .i64 x.bF]
@[simp] abbrev jZ.c (x:jZ):List C:=[.d (.slc 2 (dG x.bE)),.d (.int .i64 x.gT),.d (.int .i64 x.bF)]
@[simp] abbrev jZ.o (x:jZ):List C:=[.own 0 2 (dG x.bE),.d (.int .i64 x.gT),.d (.int .i64 x.bF)]
def jZ.cost (x:jZ):Nat:=(x.bE.length+dF dD.cost x.bE)
def jZ.ok (x:jZ):Prop:=x.bE.length<=maxLen/\(∀ y,y∈x.bE->y.ok)/\aX x.gT/\aX x.bF
structure iY where
 aH:List UInt8
 fAt:Int
 jR:Int
 deriving DecidableEq
@[simp] abbrev iY.row (x:iY):List D:=[.str x.aH,.int .i64 x.fAt,.int .i64 x.jR]
@[simp] abbrev iY.c (x:iY):List C:=[.d (.str x.aH),.d (.int .i64 x.fAt),.d (.int .i64 x.jR)]
@[simp] abbrev iY.o (x:iY):List C:=[.d (.str x.aH),.d (.int .i64 x.fAt),.d (.int .i64 x.jR)]
def gM (l:List iY):List (List D):=l.map iY.row
@[simp] theorem aKR (l:List iY):(gM l).length=l.length:=by simp [gM]
@[simp] theorem aWM (l:List iY) (i:Nat):(gM l)[i]?=(l[i]?).map iY.row:=by simp [gM]
theorem aKS (a b:List iY):gM (a++b)=gM a++gM b:=by simp [gM]
def iY.cost (x:iY):Nat:=x.aH.length
def iY.ok (x:iY):Prop:=x.aH.length<=maxLen/\aX x.fAt/\aX x.jR
structure fJ where
 cF:List iY
 deriving DecidableEq
@[simp] abbrev fJ.row (x:fJ):List D:=[.slc 3 (gM x.cF)]
@[simp] abbrev fJ.c (x:fJ):List C:=[.d (.slc 3 (gM x.cF))]
@[simp] abbrev fJ.o (x:fJ):List C:=[.own 0 3 (gM x.cF)]
def fJ.cost (x:fJ):Nat:=(x.cF.length+dF iY.cost x.cF)
def fJ.ok (x:fJ):Prop:=x.cF.length<=maxLen/\(∀ y,y∈x.cF->y.ok)
structure cO where
 eJ:Int
 aH:List UInt8
 deriving DecidableEq
@[simp] abbrev cO.row (x:cO):List D:=[.int .i64 x.eJ,.str x.aH]
@[simp] abbrev cO.c (x:cO):List C:=[.d (.int .i64 x.eJ),.d (.str x.aH)]
@[simp] abbrev cO.o (x:cO):List C:=[.d (.int .i64 x.eJ),.d (.str x.aH)]
def dW (l:List cO):List (List D):=l.map cO.row
@[simp] theorem yQ (l:List cO):(dW l).length=l.length:=by simp [dW]
@[simp] theorem aUX (l:List cO) (i:Nat):(dW l)[i]?=(l[i]?).map cO.row:=by simp [dW]
theorem aEu (a b:List cO):dW (a++b)=dW a++dW b:=by simp [dW]
def cO.cost (x:cO):Nat:=x.aH.length
def cO.ok (x:cO):Prop:=aX x.eJ/\x.aH.length<=maxLen
structure aS where
 cT:Int
 bJ:Int
 fL:Int
 aE:bQ
 bA:eO
 bT:jZ
 bO:fJ
 bI:List cO
 deriving DecidableEq
@[simp] abbrev aS.row (x:aS):List D:=[.int .i64 x.cT,.int .i64 x.bJ,.int .i64 x.fL,.slc 7 (cA x.aE.aG),.slc 6 (bG x.bA.aP),.slc 2 (dG x.bT.bE),.int .i64 x.bT.gT,.int .i64 x.bT.bF,.slc 3 (gM x.bO.cF),.slc 2 (dW x.bI)]
@[simp] abbrev aS.c (x:aS):List C:=[.d (.int .i64 x.cT),.d (.int .i64 x.bJ),.d (.int .i64 x.fL),.d (.slc 7 (cA x.aE.aG)),.d (.slc 6 (bG x.bA.aP)),.d (.slc 2 (dG x.bT.bE)),.d (.int .i64 x.bT.gT),.d (.int .i64 x.bT.bF),.d (.slc 3 (gM x.bO.cF)),.d (.slc 2 (dW x.bI))]
@[simp] abbrev aS.o (x:aS):List C:=[.d (.int .i64 x.cT),.d (.int .i64 x.bJ),.d (.int .i64 x.fL),.own 1 7 (cA x.aE.aG),.own 0 6 (bG x.bA.aP),.own 0 2 (dG x.bT.bE),.d (.int .i64 x.bT.gT),.d (.int .i64 x.bT.bF),.own 0 3 (gM x.bO.cF),.own 0 2 (dW x.bI)]
def aS.cost (x:aS):Nat:=x.aE.cost+x.bA.cost+x.bT.cost+x.bO.cost+(x.bI.length+dF cO.cost x.bI)
def aS.ok (x:aS):Prop:=aX x.cT/\aX x.bJ/\aX x.fL/\x.aE.ok/\x.bA.ok/\x.bT.ok/\x.bO.ok/\x.bI.length<=maxLen/\(∀ y,y∈x.bI->y.ok)
@[simp] theorem aUp (s t:List UInt8):qU .str .geq (.d (.str s)) (.d (.str t))=out (.d (.bool (!(Go.Op.bytesLess s t)))):=id rfl
@[simp] theorem aUm (s t:List UInt8):qU .str .lss (.d (.str s)) (.d (.str t))=out (.d (.bool (Go.Op.bytesLess s t))):=id rfl
@[simp] theorem aUn (s t:List UInt8):qU .str .leq (.d (.str s)) (.d (.str t))=out (.d (.bool (Go.Op.bytesLess s t || s==t))):=id rfl
@[simp] theorem aUo (s t:List UInt8):qU .str .gtr (.d (.str s)) (.d (.str t))=out (.d (.bool (!(Go.Op.bytesLess s t || s==t)))):=id rfl
def okP {α:Type} (q:List α->α->Bool):List α->List α->Bool
 |_,[]=>true
 |pre,x::r=>q pre x && okP q (pre++[x]) r
theorem aNE {α:Type} (q:List α->α->Bool) (b:List α):∀ (a pre:List α),okP q pre (a++b)=(okP q pre a && okP q (pre++a) b):=by
 intro a
 induction a with
 |nil=>intro pre;simp [okP]
 |cons x a ih=>intro pre;simp [okP,ih,Bool.and_assoc]
theorem rI {α:Type} {q:List α->α->Bool} {l:List α} {i:Nat} {x:α} (h:l[i]?=some x):okP q [] (l.take (i+1))=(okP q [] (l.take i) && q (l.take i) x):=by
 rw [List.take_add_one,h,aNE]
 simp [okP]
theorem uP {α:Type} {q:List α->α->Bool} {l:List α} {i:Nat} {x:α} (h:l[i]?=some x) (hq:q (l.take i) x=false):okP q [] l=false:=by
 have e:l=l.take i++(x::l.drop (i+1)):=by rw [<-tR h,List.take_append_drop]
 rw [e,aNE]
 simp only [okP,List.nil_append,hq,Bool.false_and,Bool.and_false]
def qB {α:Type} (lt:α->α->Bool) (pre:List α) (x:α):Bool:=match pre.getLast? with|none=>true|some p=>lt p x
theorem rU {α:Type} (lt:α->α->Bool) (l:List α) (x:α):qB lt (l.take 0) x=true:=by simp [qB]
theorem rV {α:Type} (lt:α->α->Bool) {l:List α} {j:Nat} {p:α} (h:l[j]?=some p) (x:α):qB lt (l.take (j+1)) x=lt p x:=by
 unfold qB
 rw [List.take_add_one,h]
 simp
theorem aDZ {α:Type} (lt:α->α->Bool) {l:List α} {i:Nat} {p:α} (h0:0<i) (h:l[i-1]?=some p) (x:α):qB lt (l.take i) x=lt p x:=by
 obtain ⟨j,rfl⟩:∃ j,i=j+1:=⟨i-1,by omega⟩
 exact rV lt h x
def aC8 (pre:List (List UInt8)) (x:List UInt8):Bool:=fA x && qB (fun p x=>Go.Op.bytesLess p x) pre x
def lG (l:List (List UInt8)):Bool:=decide (l.length<=6) && okP aC8 [] l
theorem eX (l:List (List UInt8)) (i:Nat):(aK l)[i]?=(l[i]?).map fun s=>[.str s]:=by simp [aK]
theorem aFy (l:List (List UInt8)) (hl:l.length<=1048576) (hs:∀ s,s∈l->s.length<=1048576):aC PP GG 221 [.d (.slc 1 (aK l))] (.d (.bool (lG l))) [none]:=by
 refine cv Tryz.func221 [.d (.bool (lG l))] ?_
 have hind:=cC l
 have hsl:(aK l).length=l.length:=by simp [aK]
 by_cases h6:l.length<=6
 rotate_left
 ·have hb:lG l=false:=by unfold lG;rw [decide_eq_false h6,Bool.false_and]
  rw [hb]
  have hd:6<l.length:=by omega
  exact fC (Y2 hsl hd)
 have hd:¬6<l.length:=by omega
 refine eT (Y2 hsl hd) ?_
 refine bH (fun n st=>∃ i:Nat,n=l.length-i/\i<=l.length/\okP aC8 [] (l.take i)=true/\st=⟨[],[(0,.d (.slc 1 (aK l))),(3,.d (.int .i64 i))],[],0⟩) _ ⟨0,rfl,by omega,rfl,?_⟩ ?_
 ·exact oJ
 rintro n st ⟨i,rfl,hi,hok,rfl⟩
 by_cases hlt:i<l.length
 ·have ha:=List.getElem?_eq_getElem hlt
  generalize l[i]=x at ha
  have cn:=lH x (by have:=hs x (List.mem_of_getElem? ha);omega)
  have hst:=rI (q:=aC8) ha
  have hbad:=fun h=>uP (q:=aC8) ha h
  rw [hok,Bool.true_and] at hst
  unfold aC8 at hst hbad
  cases hnx:fA x with
  |false=>
   rw [hnx] at cn hbad
   have hb:lG l=false:=by unfold lG aC8;rw [hbad rfl];simp
   rw [hb]
   exact dO (Y3 ha hsl @eX) (Z1 cn)
  |true=>
   rw [hnx] at cn hst hbad
   simp only [Bool.true_and] at hst hbad
   by_cases h0:i=0
   ·subst h0
    rw [rU] at hst
    refine fV (Y3 ha hsl @eX) (Z1 cn) ?_
    refine ⟨l.length-(0+1),by omega,1,rfl,by omega,hst,?_⟩
    refine kN ?_
    exact aA (by omega) (by omega)
   ·have hp:=List.getElem?_eq_getElem (show i-1<l.length by omega)
    generalize l[i-1]'_=p at hp
    rw [aDZ _ (by omega) hp] at hst hbad
    have hpi:0<i:=by omega
    have hw1:IntKind.i64.wrap ((i:Int)-1)=((i-1:Nat):Int):=by rw [aA (by omega) (by omega)];omega
    cases hb:Go.Op.bytesLess p x with
    |true=>
     rw [hb] at hst
     refine fV (Y7 ha hp hsl @eX hpi hw1 hb) (Z1 cn) ?_
     refine ⟨l.length-(i+1),by omega,i+1,rfl,by omega,hst,?_⟩
     refine kN ?_
     exact aA (by omega) (by omega)
    |false=>
     have hbf:lG l=false:=by unfold lG aC8;rw [hbad hb];simp
     rw [hbf]
     exact dO (Y7 ha hp hsl @eX hpi hw1 hb) (Z1 cn)
 ·have hie:i=l.length:=by omega
  subst hie
  rw [List.take_length] at hok
  have:lG l=true:=by unfold lG;rw [hok,decide_eq_true h6];rfl
  rw [this]
  exact fC hsl
def gI (t:aR):Bool:=inB t.bZ 1 1000000000 && inB t.cE 0 (t.bZ-1) && lG t.fO && inB t.bF 0 1000000000 &&
 (decide (t.bS=0) || inB t.bS (t.bF+1) 1000000000) &&
 (decide (t.cX=0) || (inB t.cX (t.bF+1) 1000000000 && !decide (t.bS=0) && decide (t.bS<=t.cX))) && inB t.kH 0 1000
def aTF (t:aR):Prop:=t.fO.length<=1048576/\∀ s,s∈t.fO->s.length<=1048576
theorem aKk (t:aR):gI t=(inB t.bZ 1 1000000000 && inB t.cE 0 (IntKind.i64.wrap (t.bZ-1)) && lG t.fO && inB t.bF 0 1000000000 &&
 (decide (t.bS=0) || inB t.bS (IntKind.i64.wrap (t.bF+1)) 1000000000) &&
 (decide (t.cX=0) || (inB t.cX (IntKind.i64.wrap (t.bF+1)) 1000000000 && !decide (t.bS=0) && decide (t.bS<=t.cX))) && inB t.kH 0 1000):=by
 unfold gI
 cases h1:inB t.bZ 1 1000000000 with
 |false=>simp
 |true=>
  cases h2:inB t.bF 0 1000000000 with
  |false=>simp
  |true=>
   unfold inB at h1 h2
   simp only [Bool.and_eq_true,decide_eq_true_eq] at h1 h2
   rw [aA (show _<=t.bZ-1 by omega) (by omega),aA (show _<=t.bF+1 by omega) (by omega)]
theorem aP9 (t:aR):gI t=(inB t.bZ 1 1000000000 && decide (0<=t.cE) && decide (t.cE<t.bZ) && lG t.fO && inB t.bF 0 1000000000 && inB t.kH 0 1000 &&
 (decide (t.bS=0) || inB t.bS (IntKind.i64.wrap (t.bF+1)) 1000000000) &&
 (decide (t.cX=0) || (inB t.cX (IntKind.i64.wrap (t.bF+1)) 1000000000 && !decide (t.bS=0) && decide (t.bS<=t.cX)))):=by
 rw [aKk]
 cases h1:inB t.bZ 1 1000000000 with
 |false=>simp
 |true=>
  have h2:inB t.cE 0 (IntKind.i64.wrap (t.bZ-1))=(decide (0<=t.cE) && decide (t.cE<t.bZ)):=by
   unfold inB at h1 ⊢
   simp only [Bool.and_eq_true,decide_eq_true_eq] at h1
   rw [aA (show _<=t.bZ-1 by omega) (by omega)]
   congr 1
   exact decide_eq_decide.2 (by omega)
  rw [h2]
  generalize inB t.kH 0 1000=a
  generalize (decide (t.bS=0) || inB t.bS (IntKind.i64.wrap (t.bF+1)) 1000000000)=b
  generalize (decide (t.cX=0) || (inB t.cX (IntKind.i64.wrap (t.bF+1)) 1000000000 && !decide (t.bS=0) && decide (t.bS<=t.cX)))=c
  cases a<;>cases b<;>cases c<;>simp
theorem yD (x:aR) (hx:aTF x):aC PP GG 186 [.agg x.c] (.d (.bool (gI x))) [none]:=by
 refine cv Tryz.func186 [.d (.bool (gI x))] ?_
 have hr:=aP9 x
 obtain ⟨x1,x2,x3,x4,x5,x6,x7⟩:=x
 dsimp only at hr
 have c1:aC PP GG 20 [.d (.int .i64 x1),.d (.int .i64 1),.d (.int .i64 1000000000)] (.d (.bool (inB x1 1 1000000000))) [none,none,none]:=bD _ _ _
 have c3:=aFy x3 hx.1 hx.2
 have c4:aC PP GG 20 [.d (.int .i64 x4),.d (.int .i64 0),.d (.int .i64 1000000000)] (.d (.bool (inB x4 0 1000000000))) [none,none,none]:=bD _ _ _
 have c5:aC PP GG 20 [.d (.int .i64 x5),.d (.int .i64 (IntKind.i64.wrap (x4+1))),.d (.int .i64 1000000000)] (.d (.bool (inB x5 (IntKind.i64.wrap (x4+1)) 1000000000))) [none,none,none]:=bD _ _ _
 have c6:aC PP GG 20 [.d (.int .i64 x6),.d (.int .i64 (IntKind.i64.wrap (x4+1))),.d (.int .i64 1000000000)] (.d (.bool (inB x6 (IntKind.i64.wrap (x4+1)) 1000000000))) [none,none,none]:=bD _ _ _
 have c7:aC PP GG 20 [.d (.int .i64 x7),.d (.int .i64 0),.d (.int .i64 1000)] (.d (.bool (inB x7 0 1000))) [none,none,none]:=bD _ _ _
 have hind:=cC x3
 have q5:(x5==0)=decide (x5=0):=rfl
 have q6:(x6==0)=decide (x6=0):=rfl
 have q7:(x5 != 0)=!decide (x5=0):=rfl
 generalize inB x1 1 1000000000=p1 at *
 generalize lG x3=p3 at *
 generalize inB x4 0 1000000000=p4 at *
 generalize inB x5 (IntKind.i64.wrap (x4+1)) 1000000000=p5 at *
 generalize inB x6 (IntKind.i64.wrap (x4+1)) 1000000000=p6 at *
 generalize inB x7 0 1000=p7 at *
 generalize decide (x5=0)=e0 at *
 generalize decide (x6=0)=l0 at *
 obtain ⟨le,hle⟩:∃ le,decide (x5<=x6)=le:=⟨_,rfl⟩
 obtain ⟨a,ha⟩:∃ a,decide (0<=x2)=a:=⟨_,rfl⟩
 obtain ⟨b,hb⟩:∃ b,decide (x2<x1)=b:=⟨_,rfl⟩
 have ha2:decide (x2<0)=!a:=by rw [<-ha,<-decide_not];exact decide_eq_decide.2 (by omega)
 have hb2:decide (x1<=x2)=!b:=by rw [<-hb,<-decide_not];exact decide_eq_decide.2 (by omega)
 rw [hle,ha,hb] at hr
 refine u_1 ?_
 refine aN (?_)
 refine aUF (Y2 ha2 hb2) (Z4 c1 c3 c4 c7) 36 (!p1 || !a || !b || !p3 || !p4 || !p7) ?_
 refine aO rfl (fun h=>?_) (fun h=>aQ ?_)
 ·have hf:gI ⟨x1,x2,x3,x4,x5,x6,x7⟩=false:=by rw [hr];revert h;cases p1<;>cases a<;>cases b<;>cases p3<;>cases p4<;>cases p7<;>simp
  rw [hf]
  exact nK
 have hg:(p1 && a && b && p3 && p4 && p7)=true:=by revert h;cases p1<;>cases a<;>cases b<;>cases p3<;>cases p4<;>cases p7<;>simp
 rw [hg,Bool.true_and] at hr
 refine aN (?_)
 refine aUF q7 (Z1 c5) 48 (!e0 && !p5) ?_
 refine aO rfl (fun h=>?_) (fun h=>aQ ?_)
 ·have hf:gI ⟨x1,x2,x3,x4,x5,x6,x7⟩=false:=by rw [hr];revert h;cases e0<;>cases p5<;>simp
  rw [hf]
  exact nK
 have hg:(e0 || p5)=true:=by revert h;cases e0<;>cases p5<;>simp
 rw [hg,Bool.true_and] at hr
 rw [hr]
 cases l0 with
 |true=>
  exact fC q6
 |false=>
  refine aN (?_)
  refine u_6 q6 ?_
  refine aO rfl (fun h=>?_) (fun h=>aQ ?_)
  ·exact absurd h (by simp)
  refine aUF (Y2 q7 hle) (Z1 c6) 2 (p6 && !e0 && le) ?_
  exact u_7
def nA {α:Type} (p:α->Bool) (a:List α):Int:=match a.findIdx? p with|some i=>i|none=>-1
theorem tO {α:Type} (p:α->Bool) (a:List α):decide (0<=nA p a)=a.any p:=by
 unfold nA
 cases h:a.findIdx? p with
 |none=>
  rw [List.findIdx?_eq_none_iff] at h
  have:a.any p=false:=by rw [List.any_eq_false];intro x hx;simp [h x hx]
  rw [this];rfl
 |some i=>
  rw [List.findIdx?_eq_some_iff_getElem] at h
  obtain ⟨h1,h2,_⟩:=h
  have:a.any p=true:=by rw [List.any_eq_true];exact ⟨_,List.getElem_mem h1,h2⟩
  rw [this];exact decide_eq_true (show (0:Int)<=(i:Int) by omega)
theorem oU {α:Type} (p:α->Bool) (a:List α):decide (nA p a<0)=!a.any p:=by
 rw [<-tO,<-decide_not];exact decide_eq_decide.2 (by omega)
theorem aLn {α:Type} {p:α->Bool} {a:List α} {i:Nat} {x:α} (ha:a[i]?=some x) (hn:∀ x,x∈a.take i->p x=false) (hx:p x=true):nA p a=i:=by
 obtain ⟨h,e⟩:=List.getElem?_eq_some_iff.1 ha
 unfold nA
 have:a.findIdx? p=some i:=by
  rw [List.findIdx?_eq_some_iff_getElem]
  refine ⟨h,by rw [e];exact hx,fun j hj=>?_⟩
  have:=hn a[j] (List.mem_take_iff_getElem.2 ⟨j,by omega,rfl⟩);simp [this]
 rw [this]
theorem aG1 {α:Type} {p:α->Bool} {a:List α} (hn:∀ x,x∈a->p x=false):nA p a=-1:=by
 unfold nA
 rw [List.findIdx?_eq_none_iff.2 hn]
theorem mH {α:Type} {p:α->Bool} {a:List α} {i:Nat} {x:α} (ha:a[i]?=some x) (hn:∀ x,x∈a.take i->p x=false) (hx:p x=false):∀ x,x∈a.take (i+1)->p x=false:=by
 intro y hy
 rw [List.take_add_one,ha] at hy
 rcases List.mem_append.1 hy with hy|hy
 ·exact hn y hy
 ·simp at hy;subst hy;exact hx
def cN (f:bQ) (id:Int):Bool:=f.aG.any fun t=>decide (t.bZ=id)
def aCh (f:bQ) (pre:List aR) (t:aR):Bool:=gI t && qB (fun p x=>decide (p.bZ<x.bZ)) pre t && (decide (t.cE=0) || cN f t.cE)
def bX (f:bQ):Bool:=decide (f.aG.length<=120) && okP (aCh f) [] f.aG
def uZ (f:bQ):Prop:=f.aG.length<=1048576/\∀ t,t∈f.aG->aTF t
theorem mX (f:bQ) (id:Int) (hf:f.aG.length<=1048576):aC PP GG 138 [.agg f.c,.d (.int .i64 id)] (.d (.int .i64 (nA (fun t=>decide (t.bZ=id)) f.aG))) [none,none]:=by
 refine cv Tryz.func138 [.d (.int .i64 (nA (fun t=>decide (t.bZ=id)) f.aG))] ?_
 obtain ⟨a⟩:=f
 dsimp only at hf ⊢
 refine jJ ?_
 refine bH (fun n st=>∃ i:Nat,n=a.length-i/\i<=a.length/\(∀ x,x∈a.take i->(decide (x.bZ=id))=false) ∧
  st=⟨[],[(1,.d (.int .i64 id)),(2,.ptr 0 0),(5,.d (.int .i64 i))],[(0,.box [.d (.slc 7 (cA a))])],1⟩) _ ⟨0,rfl,by omega,fun x hx=>by simp at hx,?_⟩ ?_
 ·exact oJ
 rintro n st ⟨i,rfl,hi,hn,rfl⟩
 by_cases hlt:i<a.length
 ·have ha:=List.getElem?_eq_getElem hlt
  generalize a[i]=x at ha
  by_cases hx:x.bZ=id
  ·have e:=aLn ha hn (decide_eq_true hx)
   have hxb:(x.bZ==id)=true:=decide_eq_true hx
   rw [e]
   exact fC (Y2 ha hxb)
  ·have hn2:=mH (p:=fun x=>decide (x.bZ=id)) ha hn (decide_eq_false hx)
   have hxb:(x.bZ==id)=false:=decide_eq_false hx
   refine eT (Y2 ha hxb) ?_
   refine ⟨a.length-(i+1),by omega,i+1,rfl,hlt,hn2,?_⟩
   refine kN ?_
   exact aA (by omega) (by omega)
 ·have hie:i=a.length:=by omega
  subst hie
  rw [List.take_length] at hn
  rw [aG1 hn]
  exact nK
theorem kE (f:bQ) (hf:uZ f):aC PP GG 137 [.agg f.c] (.d (.bool (bX f))) [none]:=by
 refine cv Tryz.func137 [.d (.bool (bX f))] ?_
 obtain ⟨hl,ht⟩:=hf
 have hti:∀ id,aC PP GG 138 [.agg [.d (.slc 7 (cA f.aG))],.d (.int .i64 id)] (.d (.int .i64 (nA (fun t=>decide (t.bZ=id)) f.aG))) [none,none]:=fun id=>mX f id hl
 generalize hfa:f.aG=a at *
 by_cases h6:a.length<=120
 rotate_left
 ·have hb:bX f=false:=by unfold bX;rw [hfa,decide_eq_false h6,Bool.false_and]
  rw [hb]
  have hd:120<a.length:=by omega
  exact fC (Y2 hfa hd)
 have hd:¬120<a.length:=by omega
 refine eT (Y2 hfa hd) ?_
 refine bH (fun n st=>∃ i:Nat,n=a.length-i/\i<=a.length/\okP (aCh f) [] (a.take i)=true ∧
  st=⟨[],[(1,.ptr 0 0),(3,.d (.int .i64 i))],[(0,.box [.d (.slc 7 (cA a))])],1⟩) _ ⟨0,rfl,by omega,rfl,?_⟩ ?_
 ·exact gE hfa
 rintro n st ⟨i,rfl,hi,hok,rfl⟩
 by_cases hlt:i<a.length
 ·have ha:=List.getElem?_eq_getElem hlt
  generalize a[i]=x at ha
  have ct:=yD x (ht x (List.mem_of_getElem? ha))
  have cf:=hti x.cE
  have hbad0:=fun h=>uP (q:=aCh f) ha h
  have hst:=rI (q:=aCh f) ha
  rw [hok,Bool.true_and] at hst
  have hbad:aCh f (a.take i) x=false->bX f=false:=fun h=>by unfold bX;rw [hfa,hbad0 h,Bool.and_false]
  clear hbad0
  have hq:aCh f (a.take i) x=(gI x && qB (fun p x=>decide (p.bZ<x.bZ)) (a.take i) x && (decide (x.cE=0) || cN f x.cE)):=rfl
  rw [hq] at hst hbad
  clear hq
  obtain ⟨xi,xp,xn,xm,xe,xl,xu⟩:=x
  have hno:decide (nA (fun t=>decide (t.bZ=xp)) a<0)=!cN f xp:=by rw [oU];unfold cN;rw [hfa]
  dsimp only at cf hst hbad
  generalize nA (fun t=>decide (t.bZ=xp)) a=k at cf hno
  cases htb:gI ⟨xi,xp,xn,xm,xe,xl,xu⟩ with
  |false=>
   rw [htb] at ct hbad
   have hb:=hbad (by simp)
   rw [hb]
   exact dO (Y2 ha hfa) (Z1 ct)
  |true=>
   rw [htb] at ct hst hbad
   simp only [Bool.true_and] at hst hbad
   by_cases h0:i=0
   ·have hpi:¬0<i:=by omega
    have hz:qB (fun p x:aR=>decide (p.bZ<x.bZ)) (a.take i) ⟨xi,xp,xn,xm,xe,xl,xu⟩=true:=by rw [h0];exact rU _ _ _
    rw [hz,Bool.true_and] at hst hbad
    by_cases hp0:xp=0
    ·have hst1:okP (aCh f) [] (a.take (i+1))=true:=by rw [hst];simp [hp0]
     have hq0:(xp != 0)=false:=by simp [hp0]
     refine fV (Y4 ha hfa hq0 hpi) (Z2 ct cf) ?_
     refine ⟨a.length-(i+1),by omega,i+1,rfl,hlt,hst1,?_⟩
     refine kM hfa ?_
     exact aA (by omega) (by omega)
    ·have hq0:(xp != 0)=true:=by simp [hp0]
     have hd0:decide (xp=0)=false:=decide_eq_false hp0
     cases hh:cN f xp with
     |true=>
      have hk:¬k<0:=by rw [hh] at hno;simpa using hno
      have hst1:okP (aCh f) [] (a.take (i+1))=true:=by rw [hst];simp [hh]
      refine fV (Y5 ha hfa hq0 hpi hk) (Z2 ct cf) ?_
      refine ⟨a.length-(i+1),by omega,i+1,rfl,hlt,hst1,?_⟩
      refine kM hfa ?_
      exact aA (by omega) (by omega)
     |false=>
      have hk:k<0:=by rw [hh] at hno;simpa using hno
      have hb:=hbad (by simp [hd0,hh])
      rw [hb]
      exact dO (Y5 ha hfa hq0 hpi hk) (Z2 ct cf)
   ·have hp:=List.getElem?_eq_getElem (show i-1<a.length by omega)
    generalize a[i-1]'_=p at hp
    rw [aDZ _ (by omega) hp] at hst hbad
    have hpi:0<i:=by omega
    have hw1:IntKind.i64.wrap ((i:Int)-1)=((i-1:Nat):Int):=by rw [aA (by omega) (by omega)];omega
    obtain ⟨yi,yp,yn,ym,ye,yl,yu⟩:=p
    dsimp only at hst hbad
    by_cases hle:xi<=yi
    ·have hb:=hbad (by rw [decide_eq_false (show ¬yi<xi by omega),Bool.false_and])
     rw [hb]
     exact dO (Y6 ha hp hfa hpi hw1 hle) (Z1 ct)
    ·rw [decide_eq_true (show yi<xi by omega),Bool.true_and] at hst hbad
     by_cases hp0:xp=0
     ·have hst1:okP (aCh f) [] (a.take (i+1))=true:=by rw [hst];simp [hp0]
      have hq0:(xp != 0)=false:=by simp [hp0]
      refine fV (Y7 ha hfa hq0 hp hpi hw1 hle) (Z2 ct cf) ?_
      refine ⟨a.length-(i+1),by omega,i+1,rfl,hlt,hst1,?_⟩
      refine kM hfa ?_
      exact aA (by omega) (by omega)
     ·have hq0:(xp != 0)=true:=by simp [hp0]
      have hd0:decide (xp=0)=false:=decide_eq_false hp0
      cases hh:cN f xp with
      |true=>
       have hk:¬k<0:=by rw [hh] at hno;simpa using hno
       have hst1:okP (aCh f) [] (a.take (i+1))=true:=by rw [hst];simp [hh]
       refine fV (Y8 ha hfa hq0 hp hpi hw1 hle hk) (Z2 ct cf) ?_
       refine ⟨a.length-(i+1),by omega,i+1,rfl,hlt,hst1,?_⟩
       refine kM hfa ?_
       exact aA (by omega) (by omega)
      |false=>
       have hk:k<0:=by rw [hh] at hno;simpa using hno
       have hb:=hbad (by simp [hd0,hh])
       rw [hb]
       exact dO (Y8 ha hfa hq0 hp hpi hw1 hle hk) (Z2 ct cf)
 ·have hie:i=a.length:=by omega
  subst hie
  rw [List.take_length] at hok
  have e:bX f=true:=by unfold bX;rw [hfa,hok,decide_eq_true h6];rfl
  rw [e]
  exact fC hfa
def uV (t:aT):Bool:=inB t.bZ 1 1000000000 && inB t.cL 0 1000000000 && gO t.dM && inB t.bF 0 1000000000 &&
 inB t.cX (IntKind.i64.wrap (t.bF+1)) 1000000000 && inB t.bS (IntKind.i64.wrap (t.bF+1)) t.cX
def sR (pre:List aT) (t:aT):Bool:=uV t && qB (fun p x=>decide (p.bZ<x.bZ)) pre t
def fR (b:eO):Bool:=decide (b.aP.length<=150) && okP sR [] b.aP
def aE8 (b:eO):Prop:=b.aP.length<=1048576/\∀ t,t∈b.aP->t.dM.length<=1048576
theorem aFv (x:aT) (hx:x.dM.length<=1048576):aC PP GG 222 [.agg x.c] (.d (.bool (uV x))) [none]:=by
 refine cv Tryz.func222 [.d (.bool (uV x))] ?_
 obtain ⟨x1,x2,x3,x4,x5,x6⟩:=x
 have hr:uV ⟨x1,x2,x3,x4,x5,x6⟩=(inB x1 1 1000000000 && inB x2 0 1000000000 && gO x3 && inB x4 0 1000000000 && inB x6 (IntKind.i64.wrap (x4+1)) 1000000000 && inB x5 (IntKind.i64.wrap (x4+1)) x6):=rfl
 have c1:aC PP GG 20 [.d (.int .i64 x1),.d (.int .i64 1),.d (.int .i64 1000000000)] (.d (.bool (inB x1 1 1000000000))) [none,none,none]:=bD _ _ _
 have c2:aC PP GG 20 [.d (.int .i64 x2),.d (.int .i64 0),.d (.int .i64 1000000000)] (.d (.bool (inB x2 0 1000000000))) [none,none,none]:=bD _ _ _
 have c3:=gF x3 (by dsimp only at hx;omega)
 have c4:aC PP GG 20 [.d (.int .i64 x4),.d (.int .i64 0),.d (.int .i64 1000000000)] (.d (.bool (inB x4 0 1000000000))) [none,none,none]:=bD _ _ _
 have c5:aC PP GG 20 [.d (.int .i64 x6),.d (.int .i64 (IntKind.i64.wrap (x4+1))),.d (.int .i64 1000000000)] (.d (.bool (inB x6 (IntKind.i64.wrap (x4+1)) 1000000000))) [none,none,none]:=bD _ _ _
 have c6:aC PP GG 20 [.d (.int .i64 x5),.d (.int .i64 (IntKind.i64.wrap (x4+1))),.d (.int .i64 x6)] (.d (.bool (inB x5 (IntKind.i64.wrap (x4+1)) x6))) [none,none,none]:=bD _ _ _
 generalize inB x1 1 1000000000=p1 at *
 generalize inB x2 0 1000000000=p2 at *
 generalize gO x3=p3 at *
 generalize inB x4 0 1000000000=p4 at *
 generalize inB x6 (IntKind.i64.wrap (x4+1)) 1000000000=p5 at *
 generalize inB x5 (IntKind.i64.wrap (x4+1)) x6=p6 at *
 refine u_1 ?_
 refine aN (?_)
 refine aSy (Z6 c1 c2 c3 c4 c5 c6) 2 (p1 && p2 && p3 && p4 && p5 && p6) ?_
 exact u_8 hr
theorem nE (f:eO) (hf:aE8 f):aC PP GG 189 [.agg f.c] (.d (.bool (fR f))) [none]:=by
 refine cv Tryz.func189 [.d (.bool (fR f))] ?_
 obtain ⟨hl,ht⟩:=hf
 generalize hfa:f.aP=a at *
 by_cases h6:a.length<=150
 rotate_left
 ·have hb:fR f=false:=by unfold fR;rw [hfa,decide_eq_false h6,Bool.false_and]
  rw [hb]
  have hd:150<a.length:=by omega
  exact fC (Y2 hfa hd)
 have hd:¬150<a.length:=by omega
 refine eT (Y2 hfa hd) ?_
 refine bH (fun n st=>∃ i:Nat,n=a.length-i/\i<=a.length/\okP sR [] (a.take i)=true ∧
  st=⟨[],[(1,.ptr 0 0),(3,.d (.int .i64 i))],[(0,.box [.d (.slc 6 (bG a))])],1⟩) _ ⟨0,rfl,by omega,rfl,?_⟩ ?_
 ·exact gE hfa
 rintro n st ⟨i,rfl,hi,hok,rfl⟩
 by_cases hlt:i<a.length
 ·have ha:=List.getElem?_eq_getElem hlt
  generalize a[i]=x at ha
  have ct:=aFv x (ht x (List.mem_of_getElem? ha))
  have hbad0:=fun h=>uP (q:=sR) ha h
  have hst:=rI (q:=sR) ha
  rw [hok,Bool.true_and] at hst
  have hbad:sR (a.take i) x=false->fR f=false:=fun h=>by unfold fR;rw [hfa,hbad0 h,Bool.and_false]
  clear hbad0
  have hq:sR (a.take i) x=(uV x && qB (fun p x=>decide (p.bZ<x.bZ)) (a.take i) x):=rfl
  rw [hq] at hst hbad
  clear hq
  obtain ⟨xi,xp,xn,xm,xe,xl⟩:=x
  cases htb:uV ⟨xi,xp,xn,xm,xe,xl⟩ with
  |false=>
   rw [htb] at ct hbad
   have hb:=hbad (by simp)
   rw [hb]
   exact dO (Y2 ha hfa) (Z1 ct)
  |true=>
   rw [htb] at ct hst hbad
   simp only [Bool.true_and] at hst hbad
   by_cases h0:i=0
   ·have hpi:¬0<i:=by omega
    have hz:qB (fun p x:aT=>decide (p.bZ<x.bZ)) (a.take i) ⟨xi,xp,xn,xm,xe,xl⟩=true:=by rw [h0];exact rU _ _ _
    rw [hz] at hst
    refine fV (Y3 ha hfa hpi) (Z1 ct) ?_
    refine ⟨a.length-(i+1),by omega,i+1,rfl,hlt,hst,?_⟩
    refine kM hfa ?_
    exact aA (by omega) (by omega)
   ·have hp:=List.getElem?_eq_getElem (show i-1<a.length by omega)
    generalize a[i-1]'_=p at hp
    rw [aDZ _ (by omega) hp] at hst hbad
    have hpi:0<i:=by omega
    have hw1:IntKind.i64.wrap ((i:Int)-1)=((i-1:Nat):Int):=by rw [aA (by omega) (by omega)];omega
    obtain ⟨yi,yp,yn,ym,ye,yl⟩:=p
    dsimp only at hst hbad
    by_cases hle:xi<=yi
    ·have hb:=hbad (decide_eq_false (show ¬yi<xi by omega))
     rw [hb]
     exact dO (Y6 ha hp hfa hpi hw1 hle) (Z1 ct)
    ·rw [decide_eq_true (show yi<xi by omega)] at hst
     refine fV (Y6 ha hp hfa hpi hw1 hle) (Z1 ct) ?_
     refine ⟨a.length-(i+1),by omega,i+1,rfl,hlt,hst,?_⟩
     refine kM hfa ?_
     exact aA (by omega) (by omega)
 ·have hie:i=a.length:=by omega
  subst hie
  rw [List.take_length] at hok
  have e:fR f=true:=by unfold fR;rw [hfa,hok,decide_eq_true h6];rfl
  rw [e]
  exact fC hfa
def aF3 (pre:List dD) (u:dD):Bool:=fA u.aH && qB (fun p x=>Go.Op.bytesLess p.aH x.aH) pre u
def oV (f:jZ):Bool:=decide (f.bE.length<=120) && inB f.gT 0 1000 && inB f.bF 0 1000000000 && okP aF3 [] f.bE
def rQ (f:jZ):Prop:=f.bE.length<=1048576/\∀ u,u∈f.bE->u.aH.length<=1048576
theorem uG (f:jZ) (hf:rQ f):aC PP GG 224 [.agg f.c] (.d (.bool (oV f))) [none]:=by
 refine cv Tryz.func224 [.d (.bool (oV f))] ?_
 obtain ⟨a,ff,fm⟩:=f
 obtain ⟨hl,ht⟩:=hf
 dsimp only at hl ht
 have c1:aC PP GG 20 [.d (.int .i64 ff),.d (.int .i64 0),.d (.int .i64 1000)] (.d (.bool (inB ff 0 1000))) [none,none,none]:=bD _ _ _
 have c2:aC PP GG 20 [.d (.int .i64 fm),.d (.int .i64 0),.d (.int .i64 1000000000)] (.d (.bool (inB fm 0 1000000000))) [none,none,none]:=bD _ _ _
 have hB:oV ⟨a,ff,fm⟩=(decide (a.length<=120) && inB ff 0 1000 && inB fm 0 1000000000 && okP aF3 [] a):=rfl
 generalize oV ⟨a,ff,fm⟩=B at *
 generalize inB ff 0 1000=p2 at *
 generalize inB fm 0 1000000000=p3 at *
 by_cases h6:a.length<=120
 rotate_left
 ·have hd:120<a.length:=by omega
  rw [decide_eq_false h6] at hB
  simp only [Bool.false_and] at hB
  rw [hB]
  exact fC hd
 have hd:¬120<a.length:=by omega
 rw [decide_eq_true h6,Bool.true_and] at hB
 cases p2
 ·rw [hB]
  exact dO hd (Z1 c1)
 cases p3
 ·rw [hB]
  exact dO hd (Z2 c1 c2)
 rw [Bool.true_and,Bool.true_and] at hB
 refine fV hd (Z2 c1 c2) ?_
 refine bH (fun n st=>∃ i:Nat,n=a.length-i/\i<=a.length/\okP aF3 [] (a.take i)=true ∧
  st=⟨[],[(1,.ptr 0 0),(3,.d (.int .i64 i))],[(0,.box [.d (.slc 2 (dG a)),.d (.int .i64 ff),.d (.int .i64 fm)])],1⟩) _ ⟨0,rfl,by omega,rfl,?_⟩ ?_
 ·exact oJ
 rintro n st ⟨i,rfl,hi,hok,rfl⟩
 by_cases hlt:i<a.length
 ·have ha:=List.getElem?_eq_getElem hlt
  generalize a[i]=x at ha
  have ct:=lH x.aH (by have:=ht x (List.mem_of_getElem? ha);omega)
  have hbad0:=fun h=>uP (q:=aF3) ha h
  have hst:=rI (q:=aF3) ha
  rw [hok,Bool.true_and] at hst
  have hbad:aF3 (a.take i) x=false->B=false:=fun h=>by rw [hB,hbad0 h]
  clear hbad0
  have hq:aF3 (a.take i) x=(fA x.aH && qB (fun p x=>Go.Op.bytesLess p.aH x.aH) (a.take i) x):=rfl
  rw [hq] at hst hbad
  clear hq
  obtain ⟨xn,xp⟩:=x
  dsimp only at ct hst hbad
  cases htb:fA xn with
  |false=>
   rw [htb] at ct hbad
   have hb:=hbad (by simp)
   rw [hb]
   exact dO ha (Z1 ct)
  |true=>
   rw [htb] at ct hst hbad
   simp only [Bool.true_and] at hst hbad
   by_cases h0:i=0
   ·have hpi:¬0<i:=by omega
    have hz:qB (fun p x:dD=>Go.Op.bytesLess p.aH x.aH) (a.take i) ⟨xn,xp⟩=true:=by rw [h0];exact rU _ _ _
    rw [hz] at hst
    refine fV (Y2 ha hpi) (Z1 ct) ?_
    refine ⟨a.length-(i+1),by omega,i+1,rfl,hlt,hst,?_⟩
    refine kN ?_
    exact aA (by omega) (by omega)
   ·have hp:=List.getElem?_eq_getElem (show i-1<a.length by omega)
    generalize a[i-1]'_=p at hp
    rw [aDZ _ (by omega) hp] at hst hbad
    have hpi:0<i:=by omega
    have hw1:IntKind.i64.wrap ((i:Int)-1)=((i-1:Nat):Int):=by rw [aA (by omega) (by omega)];omega
    obtain ⟨yn,yp⟩:=p
    dsimp only at hst hbad
    cases hbl:Go.Op.bytesLess yn xn with
    |false=>
     have hb:=hbad hbl
     rw [hb]
     exact dO (Y5 ha hp hpi hw1 hbl) (Z1 ct)
    |true=>
     rw [hbl] at hst
     refine fV (Y5 ha hp hpi hw1 hbl) (Z1 ct) ?_
     refine ⟨a.length-(i+1),by omega,i+1,rfl,hlt,hst,?_⟩
     refine kN ?_
     exact aA (by omega) (by omega)
 ·have hie:i=a.length:=by omega
  subst hie
  rw [List.take_length] at hok
  rw [hok] at hB
  rw [hB]
  exact nK
def aIf (j:iY):Bool:=fA j.aH && inB j.fAt 0 2000000000 && inB j.jR 0 5
def aIe (pre:List iY) (j:iY):Bool:=aIf j && !(pre.any fun t=>t.aH==j.aH)
def iS (q:fJ):Bool:=decide (q.cF.length<=120) && okP aIe [] q.cF
def aF2 (q:fJ):Prop:=q.cF.length<=1048576/\∀ j,j∈q.cF->j.aH.length<=1048576
theorem qO (f:fJ) (hf:aF2 f):aC PP GG 223 [.agg f.c] (.d (.bool (iS f))) [none]:=by
 refine cv Tryz.func223 [.d (.bool (iS f))] ?_
 obtain ⟨a⟩:=f
 obtain ⟨hl,ht⟩:=hf
 dsimp only at hl ht
 have hB:iS ⟨a⟩=(decide (a.length<=120) && okP aIe [] a):=rfl
 generalize iS ⟨a⟩=B at *
 by_cases h6:a.length<=120
 rotate_left
 ·have hd:120<a.length:=by omega
  rw [decide_eq_false h6] at hB
  simp only [Bool.false_and] at hB
  rw [hB]
  exact fC hd
 have hd:¬120<a.length:=by omega
 rw [decide_eq_true h6,Bool.true_and] at hB
 refine eT hd ?_
 refine bH (fun n st=>∃ i:Nat,n=a.length-i/\i<=a.length/\okP aIe [] (a.take i)=true ∧
  st=⟨[],[(1,.ptr 0 0),(3,.d (.int .i64 i))],[(0,.box [.d (.slc 3 (gM a))])],1⟩) _ ⟨0,rfl,by omega,rfl,?_⟩ ?_
 ·exact oJ
 rintro n st ⟨i,rfl,hi,hok,rfl⟩
 by_cases hlt:i<a.length
 ·have ha:=List.getElem?_eq_getElem hlt
  generalize a[i]=x at ha
  have ct:=lH x.aH (by have:=ht x (List.mem_of_getElem? ha);omega)
  have c1:aC PP GG 20 [.d (.int .i64 x.fAt),.d (.int .i64 0),.d (.int .i64 2000000000)] (.d (.bool (inB x.fAt 0 2000000000))) [none,none,none]:=bD _ _ _
  have c2:aC PP GG 20 [.d (.int .i64 x.jR),.d (.int .i64 0),.d (.int .i64 5)] (.d (.bool (inB x.jR 0 5))) [none,none,none]:=bD _ _ _
  have hbad0:=fun h=>uP (q:=aIe) ha h
  have hst:=rI (q:=aIe) ha
  rw [hok,Bool.true_and] at hst
  have hbad:aIe (a.take i) x=false->B=false:=fun h=>by rw [hB,hbad0 h]
  clear hbad0
  have hq:aIe (a.take i) x=(fA x.aH && inB x.fAt 0 2000000000 && inB x.jR 0 5 && !((a.take i).any fun t=>t.aH==x.aH)):=rfl
  rw [hq] at hst hbad
  clear hq
  obtain ⟨xn,xa,xt⟩:=x
  dsimp only at ct c1 c2 hst hbad
  generalize fA xn=p1 at *
  generalize inB xa 0 2000000000=p2 at *
  generalize inB xt 0 5=p3 at *
  cases p1
  ·rw [hbad (by simp)]
   exact dO ha (Z1 ct)
  cases p2
  ·rw [hbad (by simp)]
   exact dO ha (Z2 ct c1)
  cases p3
  ·rw [hbad (by simp)]
   exact dO ha (Z3 ct c1 c2)
  refine fV ha (Z3 ct c1 c2) ?_
  refine bH (fun n st=>∃ k:Nat,n=i-k/\k<=i/\(∀ y,y∈a.take k->(y.aH==xn)=false) ∧
   st=⟨[],[(1,.ptr 0 0),(3,.d (.int .i64 i)),(4,.ptr 1 0),(5,.d (.int .i64 k))],[(0,.box [.d (.slc 3 (gM a))]),(1,.box [.d (.str xn),.d (.int .i64 xa),.d (.int .i64 xt)])],2⟩) _ ⟨0,rfl,by omega,fun y h=>by simp at h,?_⟩ ?_
  ·exact oJ
  rintro n st ⟨k,rfl,hk,hn,rfl⟩
  by_cases hkl:k<i
  ·have hak:=List.getElem?_eq_getElem (show k<a.length by omega)
   generalize a[k]'_=y at hak
   obtain ⟨yn,ya,yt⟩:=y
   cases hyn:(yn==xn) with
   |true=>
    rw [hbad (by
     have:(a.take i).any (fun t=>t.aH==xn)=true:=by
      rw [List.any_eq_true]
      exact ⟨_,List.mem_of_getElem? (by rw [List.getElem?_take_of_lt hkl];exact hak),hyn⟩
     rw [this];rfl)]
    exact fC (Y3 hak hkl hyn)
   |false=>
    have hn2:=mH (p:=fun y:iY=>y.aH==xn) hak hn hyn
    refine eT (Y3 hak hkl hyn) ?_
    refine ⟨i-(k+1),by omega,k+1,rfl,hkl,hn2,?_⟩
    refine kN ?_
    exact aA (by omega) (by omega)
  ·have hke:k=i:=by omega
   subst hke
   have:(a.take k).any (fun t=>t.aH==xn)=false:=by
    rw [List.any_eq_false];intro y hy;rw [hn y hy];simp
   rw [this] at hst
   refine eT hkl ?_
   refine ⟨a.length-(k+1),by omega,k+1,rfl,hlt,hst,?_⟩
   refine kN ?_
   exact aA (by omega) (by omega)
 ·have hie:i=a.length:=by omega
  subst hie
  rw [List.take_length] at hok
  rw [hok] at hB
  rw [hB]
  exact nK
theorem pK {α:Type} {q:List α->α->Bool} {l:List α} {i:Nat} {x:α} (h:okP q [] l=true) (hi:l[i]?=some x):q (l.take i) x=true:=by
 cases hq:q (l.take i) x with
 |true=>rfl
 |false=>rw [uP hi hq] at h;cases h
theorem aLm {α:Type} {key:α->Int} {l:List α} (h:∀ (i:Nat) x y,l[i]?=some y->l[i+1]?=some x->key y<key x):l.Pairwise (fun y x=>key y<key x):=by
 rw [List.pairwise_iff_getElem]
 intro i j hi hj hij
 obtain ⟨d,rfl⟩:∃ d,j=i+1+d:=⟨j-i-1,by omega⟩
 induction d with
 |zero=>exact h i _ _ (List.getElem?_eq_getElem hi) (List.getElem?_eq_getElem hj)
 |succ d ih=>
  have h1:=ih (by omega) (by omega)
  have h2:=h (i+1+d) _ _ (List.getElem?_eq_getElem (show i+1+d<l.length by omega)) (List.getElem?_eq_getElem hj)
  exact Int.lt_trans h1 h2
theorem aBt {α:Type} {q:List α->α->Bool} {key:α->Int} (hq:∀ pre x,q pre x=true->qB (fun p x=>decide (key p<key x)) pre x=true) {l:List α} (h:okP q [] l=true):l.Pairwise (fun y x=>key y<key x):=by
 refine aLm fun i x y hy hx=>?_
 have h1:=hq _ _ (pK h hx)
 rw [rV _ hy] at h1
 exact of_decide_eq_true h1
theorem aRr {α:Type} {key:α->Int} {l:List α} (h:l.Pairwise (fun y x=>key y<key x)) {k:Nat} {t:α} (hk:l.length=k+1) (ht:l[k]?=some t) (n:Int):l.all (fun x=>decide (key x<n))=decide (key t<n):=by
 rw [List.pairwise_iff_getElem] at h
 obtain ⟨h1,rfl⟩:=List.getElem?_eq_some_iff.1 ht
 by_cases hn:key l[k]<n
 ·rw [decide_eq_true hn,List.all_eq_true]
  intro x hx
  obtain ⟨i,hi,rfl⟩:=List.mem_iff_getElem.1 hx
  by_cases hik:i=k
  ·subst hik;exact decide_eq_true hn
  ·have:=h i k hi h1 (by omega)
   exact decide_eq_true (by omega)
 ·rw [decide_eq_false hn,List.all_eq_false]
  exact ⟨_,List.getElem_mem h1,by simpa using hn⟩
def pD (f:bQ) (n:Int):Bool:=f.aG.all fun t=>decide (t.bZ<n)
def aFh (b:eO) (n:Int):Bool:=b.aP.all fun t=>decide (t.bZ<n)
def gQ (b:eO) (id:Int):Bool:=b.aP.any fun l=>decide (l.bZ=id)
def aCr (b:eO) (pre:List cO) (o:cO):Bool:=qB (fun p x=>decide (p.eJ<x.eJ)) pre o && gQ b o.eJ && fA o.aH && !(pre.any fun p=>p.aH==o.aH)
def fH (w:aS):Bool:=inB w.cT 0 1000000000 && inB w.bJ 1 1000000000 && inB w.fL 0 1000000000 && bX w.aE && fR w.bA && oV w.bT && iS w.bO && pD w.aE w.bJ && aFh w.bA w.bJ && okP (aCr w.bA) [] w.bI
def aE6 (w:aS):Prop:=uZ w.aE/\aE8 w.bA/\rQ w.bT/\aF2 w.bO/\w.bI.length<=1048576/\∀ o,o∈w.bI->o.aH.length<=1048576
theorem aE2 {f:bQ} (h:bX f=true):f.aG.Pairwise (fun y x=>y.bZ<x.bZ):=by
 unfold bX at h
 rw [Bool.and_eq_true] at h
 refine aBt (key:=aR.bZ) (fun pre x hq=>?_) h.2
 unfold aCh at hq
 simp only [Bool.and_eq_true] at hq
 exact hq.1.2
theorem aRY {f:eO} (h:fR f=true):f.aP.Pairwise (fun y x=>y.bZ<x.bZ):=by
 unfold fR at h
 rw [Bool.and_eq_true] at h
 refine aBt (key:=aT.bZ) (fun pre x hq=>?_) h.2
 unfold sR at hq
 rw [Bool.and_eq_true] at hq
 exact hq.2
theorem aNA {b:eO} {l:List cO} (h:okP (aCr b) [] l=true):l.Pairwise (fun y x=>y.eJ<x.eJ):=by
 refine aBt (key:=cO.eJ) (fun pre x hq=>?_) h
 unfold aCr at hq
 simp only [Bool.and_eq_true] at hq
 exact hq.1.1.1
theorem aWR {f:bQ} (h:bX f=true) (n:Int):(f.aG=[]/\pD f n=true)\/∃ k t,f.aG.length=k+1/\f.aG[k]?=some t/\pD f n=decide (t.bZ<n):=by
 by_cases h0:f.aG=[]
 ·exact .inl ⟨h0,by unfold pD;rw [h0];rfl⟩
 ·have hl:=List.length_pos_iff.2 h0
  refine .inr ⟨f.aG.length-1,f.aG[f.aG.length-1],by omega,List.getElem?_eq_getElem (by omega),?_⟩
  exact aRr (key:=aR.bZ) (aE2 h) (by omega) (List.getElem?_eq_getElem (by omega)) n
theorem aNV {α β:Type} {ka:α->Int} {kb:β->Int}:∀ (b:List β) (a:List α),a.Pairwise (fun y x=>ka y<ka x)->b.Pairwise (fun y x=>kb y<kb x)->(∀ x,x∈a->∃ y,y∈b/\kb y=ka x)->a.length<=b.length:=by
 intro b
 induction b with
 |nil=>
  intro a _ _ h
  cases a with
  |nil=>simp
  |cons x a=>obtain ⟨y,hy,_⟩:=h x (by simp);simp at hy
 |cons y b ih=>
  intro a ha hb h
  cases a with
  |nil=>simp
  |cons x a=>
   rw [List.pairwise_cons] at ha hb
   by_cases hxy:kb y=ka x
   ·have:=ih a ha.2 hb.2 fun z hz=>by
     obtain ⟨u,hu,e⟩:=h z (by simp [hz])
     have:=ha.1 z hz
     rcases List.mem_cons.1 hu with rfl|hu
     ·omega
     ·exact ⟨u,hu,e⟩
    simp only [List.length_cons];omega
   ·have hgt:∃ u,u∈b/\kb u=ka x:=by
     obtain ⟨u,hu,e⟩:=h x (by simp)
     rcases List.mem_cons.1 hu with rfl|hu
     ·exact absurd e hxy
     ·exact ⟨u,hu,e⟩
    obtain ⟨u,hu,e⟩:=hgt
    have hyx:=hb.1 u hu
    have:=ih (x::a) (List.pairwise_cons.2 ha) hb.2 fun z hz=>by
     obtain ⟨u',hu',e'⟩:=h z hz
     rcases List.mem_cons.1 hu' with rfl|hu'
     ·rcases List.mem_cons.1 hz with rfl|hz
      ·exact absurd e' hxy
      ·have:=ha.1 z hz;omega
     ·exact ⟨u',hu',e'⟩
    simp only [List.length_cons] at this ⊢;omega
theorem aGO {b:eO} {l:List cO} (hb:fR b=true) (h:okP (aCr b) [] l=true):l.length<=b.aP.length:=by
 refine aNV (ka:=cO.eJ) (kb:=aT.bZ) _ _ (aNA h) (aRY hb) fun x hx=>?_
 obtain ⟨i,hi⟩:=List.getElem?_of_mem hx
 have:=pK h hi
 unfold aCr gQ at this
 simp only [Bool.and_eq_true,List.any_eq_true,decide_eq_true_eq] at this
 exact this.1.1.2
theorem aPK {α:Type} {lt:α->α->Bool} {a:List α} {i:Nat} {x:α} (hi:i<=a.length):(i=0/\qB lt (a.take i) x=true)\/∃ j p,i=j+1/\a[j]?=some p/\qB lt (a.take i) x=lt p x:=by
 cases i with
 |zero=>exact .inl ⟨rfl,rU _ _ _⟩
 |succ j=>
  have hp:=List.getElem?_eq_getElem (show j<a.length by omega)
  exact .inr ⟨j,_,rfl,hp,rV _ hp _⟩
def aCc:aT:=⟨0,0,[],0,0,0⟩
def aLx (b:eO) (id:Int):aT:=if fR b then (b.aP.find? fun l=>decide (l.bZ=id)).getD aCc else aCc
theorem aBH {α:Type} {p:α->Bool} {a:List α} {i:Nat} {x:α} (ha:a[i]?=some x) (hn:∀ x,x∈a.take i->p x=false) (hx:p x=true):a.find? p=some x/\a.any p=true:=by
 constructor
 ·rw [List.find?_eq_some_iff_getElem]
  obtain ⟨h,e⟩:=List.getElem?_eq_some_iff.1 ha
  refine ⟨hx,i,h,e,fun j hj=>?_⟩
  have:=hn a[j] (List.mem_take_iff_getElem.2 ⟨j,by omega,rfl⟩);simp [this]
 ·rw [List.any_eq_true];exact ⟨x,List.mem_of_getElem? ha,hx⟩
theorem xP {α:Type} {p:α->Bool} {a:List α} (hn:∀ x,x∈a->p x=false):a.find? p=none/\a.any p=false:=by
 constructor
 ·rw [List.find?_eq_none];intro x hx;simp [hn x hx]
 ·rw [List.any_eq_false];intro x hx;simp [hn x hx]
theorem aEi (b:eO) (id:Int) (hf:aE8 b):aC PP GG 228 [.agg b.c,.d (.int .i64 id)] (.tup [.agg (aLx b id).o,.d (.bool (fR b && gQ b id))]) [none,none]:=by
 refine cv Tryz.func228 [.agg (aLx b id).o,.d (.bool (fR b && gQ b id))] ?_
 obtain ⟨a⟩:=b
 have cb:=nE ⟨a⟩ hf
 have hl:=hf.1
 dsimp only at hl cb
 have hF:aLx ⟨a⟩ id=if fR ⟨a⟩ then (a.find? fun l=>decide (l.bZ=id)).getD aCc else aCc:=rfl
 have hH:gQ ⟨a⟩ id=a.any fun l=>decide (l.bZ=id):=rfl
 generalize aLx ⟨a⟩ id=F at *
 generalize gQ ⟨a⟩ id=H at *
 cases hb:fR ⟨a⟩ with
 |false=>
  rw [hb] at cb hF
  simp only [Bool.false_eq_true,if_false] at hF
  subst hF
  exact dO @aCc.eq_1 (Z1 cb)
 |true=>
  rw [hb] at cb hF
  simp only [if_true] at hF
  refine aFq (Z1 cb) ?_
  refine bH (fun n st=>∃ i:Nat,n=a.length-i/\i<=a.length/\(∀ x,x∈a.take i->(decide (x.bZ=id))=false) ∧
   st=⟨[],[(1,.d (.int .i64 id)),(2,.ptr 0 0),(4,.ptr 1 0),(6,.d (.int .i64 i))],[(0,.box [.d (.slc 6 (bG a))]),(1,.box [.d (.int .i64 0),.d (.int .i64 0),.d (.str []),.d (.int .i64 0),.d (.int .i64 0),.d (.int .i64 0)])],2⟩) _ ⟨0,rfl,by omega,fun x hx=>by simp at hx,?_⟩ ?_
  ·exact oJ
  rintro n st ⟨i,rfl,hi,hn,rfl⟩
  by_cases hlt:i<a.length
  ·have ha:=List.getElem?_eq_getElem hlt
   generalize a[i]=x at ha
   by_cases hx:x.bZ=id
   ·obtain ⟨e1,e2⟩:=aBH ha hn (decide_eq_true hx)
    rw [e1] at hF
    rw [e2] at hH
    simp only [Option.getD_some] at hF
    have hxb:(x.bZ==id)=true:=decide_eq_true hx
    subst hF hH
    exact fC (Y2 ha hxb)
   ·have hn2:=mH (p:=fun x:aT=>decide (x.bZ=id)) ha hn (decide_eq_false hx)
    have hxb:(x.bZ==id)=false:=decide_eq_false hx
    refine eT (Y2 ha hxb) ?_
    refine ⟨a.length-(i+1),by omega,i+1,rfl,hlt,hn2,?_⟩
    refine kN ?_
    exact aA (by omega) (by omega)
  ·have hie:i=a.length:=by omega
   subst hie
   rw [List.take_length] at hn
   obtain ⟨e1,e2⟩:=xP hn
   rw [e1] at hF
   rw [e2] at hH
   simp only [Option.getD_none] at hF
   subst hF hH
   exact fC @aCc.eq_1
theorem uE (w:aS) (hf:aE6 w):aC PP GG 196 [.agg w.c] (.d (.bool (fH w))) [none]:=by
 refine cv Tryz.func196 [.d (.bool (fH w))] ?_
 obtain ⟨now,next,lost,⟨tk⟩,⟨ls⟩,⟨us,ff,fm⟩,⟨js⟩,ow⟩:=w
 obtain ⟨hf1,hf2,hf3,hf4,hol,hon⟩:=hf
 dsimp only at hf1 hf2 hf3 hf4 hol hon
 have c1:aC PP GG 20 [.d (.int .i64 now),.d (.int .i64 0),.d (.int .i64 1000000000)] (.d (.bool (inB now 0 1000000000))) [none,none,none]:=bD _ _ _
 have c2:aC PP GG 20 [.d (.int .i64 next),.d (.int .i64 1),.d (.int .i64 1000000000)] (.d (.bool (inB next 1 1000000000))) [none,none,none]:=bD _ _ _
 have c3:aC PP GG 20 [.d (.int .i64 lost),.d (.int .i64 0),.d (.int .i64 1000000000)] (.d (.bool (inB lost 0 1000000000))) [none,none,none]:=bD _ _ _
 have c4:=kE ⟨tk⟩ hf1
 have c5:=nE ⟨ls⟩ hf2
 have c6:=uG ⟨us,ff,fm⟩ hf3
 have c7:=qO ⟨js⟩ hf4
 have hfl:=fun id=>aEi ⟨ls⟩ id hf2
 have hOL:=fun h h'=>aGO (b:=⟨ls⟩) (l:=ow) h h'
 have hB:fH ⟨now,next,lost,⟨tk⟩,⟨ls⟩,⟨us,ff,fm⟩,⟨js⟩,ow⟩=(inB now 0 1000000000 && inB next 1 1000000000 && inB lost 0 1000000000 && bX ⟨tk⟩ && fR ⟨ls⟩ && oV ⟨us,ff,fm⟩ && iS ⟨js⟩ && pD ⟨tk⟩ next && aFh ⟨ls⟩ next && okP (aCr ⟨ls⟩) [] ow):=rfl
 have hBT:pD ⟨tk⟩ next=tk.all fun t=>decide (t.bZ<next):=rfl
 have hBL:aFh ⟨ls⟩ next=ls.all fun t=>decide (t.bZ<next):=rfl
 have htl:=hf1.1
 have hll:=hf2.1
 generalize fH ⟨now,next,lost,⟨tk⟩,⟨ls⟩,⟨us,ff,fm⟩,⟨js⟩,ow⟩=B at *
 dsimp only at c4 c5 c6 c7 htl hll hOL
 generalize inB now 0 1000000000=p1 at *
 generalize inB next 1 1000000000=p2 at *
 generalize inB lost 0 1000000000=p3 at *
 generalize bX ⟨tk⟩=p4 at *
 generalize fR ⟨ls⟩=p5 at *
 generalize oV ⟨us,ff,fm⟩=p6 at *
 generalize iS ⟨js⟩=p7 at *
 generalize pD ⟨tk⟩ next=BT at *
 generalize aFh ⟨ls⟩ next=BL at *
 refine u_1 ?_
 refine aN (aN ?_)
 refine aSy (Z7 c1 c2 c3 c4 c5 c6 c7) 48 (!(p1 && p2 && p3 && p4 && p5 && p6 && p7)) ?_
 refine aO rfl (fun h=>?_) (fun h=>?_)
 ·rw [Bool.not_eq_true'] at h
  have hb:B=false:=by rw [hB,h];simp
  rw [hb]
  exact nK
 rw [Bool.not_eq_false'] at h
 rw [h,Bool.true_and] at hB
 simp only [Bool.and_eq_true] at h
 have hp5:=h.1.1.2
 subst hp5
 simp only [Bool.true_and] at hfl
 have hOL:=hOL rfl
 clear h
 refine aQ ?_
 refine jJ ?_
 refine bH (fun n st=>∃ i:Nat,n=tk.length-i/\i<=tk.length/\(∀ x,x∈tk.take i->(!decide (x.bZ<next))=false) ∧
  st=⟨[],[(1,.ptr 0 0),(3,.d (.int .i64 i))],[(0,.box [.d (.int .i64 now),.d (.int .i64 next),.d (.int .i64 lost),.d (.slc 7 (cA tk)),.d (.slc 6 (bG ls)),.d (.slc 2 (dG us)),.d (.int .i64 ff),.d (.int .i64 fm),.d (.slc 3 (gM js)),.d (.slc 2 (dW ow))])],1⟩) _ ⟨0,rfl,by omega,fun x hx=>by simp at hx,?_⟩ ?_
 ·exact oJ
 rintro n st ⟨i,rfl,hi,hn,rfl⟩
 by_cases hlt:i<tk.length
 ·have ha:=List.getElem?_eq_getElem hlt
  generalize tk[i]=x at ha
  by_cases hx:next<=x.bZ
  ·have hb:BT=false:=by
    rw [hBT,List.all_eq_false]
    exact ⟨x,List.mem_of_getElem? ha,by simp;omega⟩
   rw [hB,hb]
   exact fC (Y2 ha hx)
  ·have hn2:=mH (p:=fun x:aR=>!decide (x.bZ<next)) ha hn (by simp;omega)
   refine eT (Y2 ha hx) ?_
   refine ⟨tk.length-(i+1),by omega,i+1,rfl,hlt,hn2,?_⟩
   refine kN ?_
   exact aA (by omega) (by omega)
 have hie:i=tk.length:=by omega
 subst hie
 rw [List.take_length] at hn
 have hb:BT=true:=by
  rw [hBT,List.all_eq_true];intro x hx;simpa using hn x hx
 subst hb
 clear hn hi hlt
 rw [Bool.true_and] at hB
 refine jJ ?_
 refine bH (fun n st=>∃ i:Nat,n=ls.length-i/\i<=ls.length/\(∀ x,x∈ls.take i->(!decide (x.bZ<next))=false) ∧
  st=⟨[],[(1,.ptr 0 0),(4,.d (.int .i64 i))],[(0,.box [.d (.int .i64 now),.d (.int .i64 next),.d (.int .i64 lost),.d (.slc 7 (cA tk)),.d (.slc 6 (bG ls)),.d (.slc 2 (dG us)),.d (.int .i64 ff),.d (.int .i64 fm),.d (.slc 3 (gM js)),.d (.slc 2 (dW ow))])],1⟩) _ ⟨0,rfl,by omega,fun x hx=>by simp at hx,?_⟩ ?_
 ·exact oJ
 rintro n st ⟨i,rfl,hi,hn,rfl⟩
 by_cases hlt:i<ls.length
 ·have ha:=List.getElem?_eq_getElem hlt
  generalize ls[i]=x at ha
  by_cases hx:next<=x.bZ
  ·have hb:BL=false:=by
    rw [hBL,List.all_eq_false]
    exact ⟨x,List.mem_of_getElem? ha,by simp;omega⟩
   rw [hB,hb]
   exact fC (Y2 ha hx)
  ·have hn2:=mH (p:=fun x:aT=>!decide (x.bZ<next)) ha hn (by simp;omega)
   refine eT (Y2 ha hx) ?_
   refine ⟨ls.length-(i+1),by omega,i+1,rfl,hlt,hn2,?_⟩
   refine kN ?_
   exact aA (by omega) (by omega)
 have hie:i=ls.length:=by omega
 subst hie
 rw [List.take_length] at hn
 have hb:BL=true:=by
  rw [hBL,List.all_eq_true];intro x hx;simpa using hn x hx
 subst hb
 clear hn hi hlt
 rw [Bool.true_and] at hB
 by_cases hol2:ls.length<ow.length
 ·have hb:B=false:=by
   rw [hB]
   cases h:okP (aCr ⟨ls⟩) [] ow with
   |false=>rfl
   |true=>have:=hOL h;omega
  rw [hb]
  exact fC hol2
 clear hOL
 refine eT hol2 ?_
 refine bH (fun n st=>∃ i:Nat,n=ow.length-i/\i<=ow.length/\okP (aCr ⟨ls⟩) [] (ow.take i)=true ∧
  st=⟨[],[(1,.ptr 0 0),(5,.d (.int .i64 i))],[(0,.box [.d (.int .i64 now),.d (.int .i64 next),.d (.int .i64 lost),.d (.slc 7 (cA tk)),.d (.slc 6 (bG ls)),.d (.slc 2 (dG us)),.d (.int .i64 ff),.d (.int .i64 fm),.d (.slc 3 (gM js)),.d (.slc 2 (dW ow))])],1⟩) _ ⟨0,rfl,by omega,rfl,?_⟩ ?_
 ·exact oJ
 rintro n st ⟨i,rfl,hi,hok,rfl⟩
 by_cases hlt:i<ow.length
 rotate_left
 ·have hie:i=ow.length:=by omega
  subst hie
  rw [List.take_length] at hok
  rw [hok] at hB
  rw [hB]
  exact nK
 have ha:=List.getElem?_eq_getElem hlt
 generalize ow[i]=x at ha
 have hst:=rI (q:=aCr ⟨ls⟩) ha
 have hbad:aCr ⟨ls⟩ (ow.take i) x=false->B=false:=fun h=>by rw [hB];exact uP ha h
 rw [hok,Bool.true_and] at hst
 have hq:aCr ⟨ls⟩ (ow.take i) x=(qB (fun p x=>decide (p.eJ<x.eJ)) (ow.take i) x && gQ ⟨ls⟩ x.eJ && fA x.aH && !((ow.take i).any fun p=>p.aH==x.aH)):=rfl
 rw [hq] at hst hbad
 clear hq
 have hA:=aPK (lt:=fun p x:cO=>decide (p.eJ<x.eJ)) (x:=x) hi
 have cn:=lH x.aH (by have:=hon x (List.mem_of_getElem? ha);omega)
 have cl:=hfl x.eJ
 generalize qB (fun p x:cO=>decide (p.eJ<x.eJ)) (ow.take i) x=A at *
 obtain ⟨xl,xn⟩:=x
 dsimp only at cn cl hst hbad hA
 generalize gQ ⟨ls⟩ xl=L at *
 generalize fA xn=N at *
 generalize aLx ⟨ls⟩ xl=FL at *
 refine aN (aN ?_)
 refine u_5 ?_
 refine aO rfl (fun h=>aQ ?_) (fun h=>?_)
 rotate_left
 ·exfalso;simp at h;omega
 refine aN (aU (aN ?_))
 refine aP5 ha (Z1 cl) ?_
 refine aN (aN ?_)
 refine aB5 143 (!(A && L && N)) (fun K hK=>?_) ?_
 ·rcases hA with ⟨rfl,hA⟩|⟨j,p,rfl,hp,hA⟩
  ·subst hA
   simp [ha]
   repeat' (first|exact hK _ _ (by clear hK;first|rfl|omega|(exact decide_eq_false (by omega))|(exact decide_eq_true (by omega))|(exact (decide_eq_true (by omega)).symm)|(exact (decide_eq_false (by omega)).symm)|(exact decide_eq_decide.2 (by omega))|(simp only [<-decide_not];exact decide_eq_decide.2 (by omega))|(simp [*];done)|(simp [*];omega)|(simp_all;done)|(simp_all;omega)|(rw [Bool.eq_iff_iff];simp at *;omega))|(with_reducible refine aF (cn) ?_;simp [ha])|(with_reducible refine aJ (fun _=>?_) (fun _=>?_)<;>simp [ha])|with_reducible refine And.intro ?_ ?_|with_reducible exact aL rfl|with_reducible assumption|omega)
  ·have hw1:IntKind.i64.wrap (j:Int)=j:=aA (by omega) (by omega)
   rw [hA] at hK
   cases L
   ·simp [hp,ha,hw1]
    repeat' (first|exact hK _ _ (by clear hK;first|rfl|omega|(exact decide_eq_false (by omega))|(exact decide_eq_true (by omega))|(exact (decide_eq_true (by omega)).symm)|(exact (decide_eq_false (by omega)).symm)|(exact decide_eq_decide.2 (by omega))|(simp only [<-decide_not];exact decide_eq_decide.2 (by omega))|(simp [*];done)|(simp [*];omega)|(simp_all;done)|(simp_all;omega)|(rw [Bool.eq_iff_iff];simp at *;omega))|(with_reducible refine aF (cn) ?_;simp [hp,ha,hw1])|(with_reducible refine aJ (fun _=>?_) (fun _=>?_)<;>simp [hp,ha,hw1])|with_reducible refine And.intro ?_ ?_|with_reducible exact aL rfl|with_reducible assumption|omega)
   ·cases N
    ·simp [hp,ha,hw1]
     repeat' (first|exact hK _ _ (by clear hK;first|rfl|omega|(exact decide_eq_false (by omega))|(exact decide_eq_true (by omega))|(exact (decide_eq_true (by omega)).symm)|(exact (decide_eq_false (by omega)).symm)|(exact decide_eq_decide.2 (by omega))|(simp only [<-decide_not];exact decide_eq_decide.2 (by omega))|(simp [*];done)|(simp [*];omega)|(simp_all;done)|(simp_all;omega)|(rw [Bool.eq_iff_iff];simp at *;omega))|(with_reducible refine aF (cn) ?_;simp [hp,ha,hw1])|(with_reducible refine aJ (fun _=>?_) (fun _=>?_)<;>simp [hp,ha,hw1])|with_reducible refine And.intro ?_ ?_|with_reducible exact aL rfl|with_reducible assumption|omega)
    ·simp only [Bool.and_true] at hK
     simp [hp,ha,hw1]
     repeat' (first|exact hK _ _ (by clear hK;first|rfl|omega|(exact decide_eq_false (by omega))|(exact decide_eq_true (by omega))|(exact (decide_eq_true (by omega)).symm)|(exact (decide_eq_false (by omega)).symm)|(exact decide_eq_decide.2 (by omega))|(simp only [<-decide_not];exact decide_eq_decide.2 (by omega))|(simp [*];done)|(simp [*];omega)|(simp_all;done)|(simp_all;omega)|(rw [Bool.eq_iff_iff];simp at *;omega))|(with_reducible refine aF (cn) ?_;simp [hp,ha,hw1])|(with_reducible refine aJ (fun _=>?_) (fun _=>?_)<;>simp [hp,ha,hw1])|with_reducible refine And.intro ?_ ?_|with_reducible exact aL rfl|with_reducible assumption|omega)
 refine aO rfl (fun h=>?_) (fun h=>?_)
 ·rw [Bool.not_eq_true'] at h
  rw [h] at hbad
  rw [hbad rfl]
  exact nK
 rw [Bool.not_eq_false'] at h
 rw [h,Bool.true_and] at hst hbad
 clear h hA
 refine aQ ?_
 refine jJ ?_
 refine bH (fun n st=>∃ k:Nat,n=i-k/\k<=i/\(∀ y,y∈ow.take k->(y.aH==xn)=false) ∧
  st=⟨[],[(1,.ptr 0 0),(5,.d (.int .i64 i)),(8,.d (.int .i64 k))],[(0,.box [.d (.int .i64 now),.d (.int .i64 next),.d (.int .i64 lost),.d (.slc 7 (cA tk)),.d (.slc 6 (bG ls)),.d (.slc 2 (dG us)),.d (.int .i64 ff),.d (.int .i64 fm),.d (.slc 3 (gM js)),.d (.slc 2 (dW ow))])],1⟩) _ ⟨0,rfl,by omega,fun y h=>by simp at h,?_⟩ ?_
 ·exact oJ
 rintro n st ⟨k,rfl,hk,hn,rfl⟩
 by_cases hkl:k<i
 ·have hak:=List.getElem?_eq_getElem (show k<ow.length by omega)
  generalize ow[k]'_=y at hak
  obtain ⟨yl,yn⟩:=y
  cases hyn:(yn==xn) with
  |true=>
   rw [hbad (by
    have:(ow.take i).any (fun t=>t.aH==xn)=true:=by
     rw [List.any_eq_true]
     exact ⟨_,List.mem_of_getElem? (by rw [List.getElem?_take_of_lt hkl];exact hak),hyn⟩
    rw [this];rfl)]
   exact fC (Y4 hak ha hkl hyn)
  |false=>
   have hn2:=mH (p:=fun y:cO=>y.aH==xn) hak hn hyn
   refine eT (Y4 hak ha hkl hyn) ?_
   refine ⟨i-(k+1),by omega,k+1,rfl,hkl,hn2,?_⟩
   refine kN ?_
   exact aA (by omega) (by omega)
 ·have hke:k=i:=by omega
  subst hke
  have:(ow.take k).any (fun t=>t.aH==xn)=false:=by
   rw [List.any_eq_false];intro y hy;rw [hn y hy];simp
  rw [this] at hst
  refine eT hkl ?_
  refine ⟨ow.length-(k+1),by omega,k+1,rfl,hlt,hst,?_⟩
  refine kN ?_
  exact aA (by omega) (by omega)
theorem lV {α:Type} {P:List α->Prop} (h0:P []) (h1:∀ l x,P l->P (l++[x])):∀ l,P l:=by
 intro l
 rw [<-List.reverse_reverse l]
 induction l.reverse with
 |nil=>exact h0
 |cons x r ih=>rw [List.reverse_cons];exact h1 _ _ ih
def aA4 (p:aR->Bool) (s:List aR×List Int) (t:aR):List aR×List Int:=
 if (p t || s.2.contains t.cE)=true then (s.1,s.2++[t.bZ]) else (s.1++[t],s.2)
def wo (p:aR->Bool) (l:List aR):List aR×List Int:=l.foldl (aA4 p) ([],[])
theorem xC (p:aR->Bool) (l:List aR) (t:aR):wo p (l++[t])=aA4 p (wo p l) t:=by
 unfold wo;rw [List.foldl_append];rfl
theorem aSk {p:aR->Bool} {l:List aR} {i:Nat} {t:aR} (h:l[i]?=some t):wo p (l.take (i+1))=aA4 p (wo p (l.take i)) t:=by
 rw [List.take_add_one,h];exact xC p _ t
theorem aHs (p:aR->Bool) (l:List aR):(wo p l).1.length+(wo p l).2.length=l.length:=by
 induction l using lV with
 |h0=>rfl
 |h1 l t ih=>
  rw [xC];unfold aA4
  split<;>simp<;>omega
structure aXa (p:aR->Bool) (l:List aR) (r:List aR) (G:List Int):Prop where
 sub:∀ x,x∈G->∃ t,t∈l/\t.bZ=x
 rec_:∀ t,t∈l->G.contains t.bZ=(p t || G.contains t.cE)
 rest:r=l.filter fun t=>!G.contains t.bZ
 ids:G=(l.filter fun t=>G.contains t.bZ).map aR.bZ
theorem aBN (G:List Int) (y x:Int):(G++[y]).contains x=(G.contains x || decide (x=y)):=by
 rw [Bool.eq_iff_iff];simp [List.contains_iff_mem]
theorem aWj (p:aR->Bool) (l:List aR):l.Pairwise (fun y x=>y.bZ<x.bZ)->(∀ t,t∈l->t.cE<t.bZ)->aXa p l (wo p l).1 (wo p l).2:=by
 induction l using lV with
 |h0=>intro _ _;exact ⟨fun x h=>by simp [wo] at h,fun t h=>by simp at h,rfl,rfl⟩
 |h1 l t ih=>
  intro hinc hpar
  rw [List.pairwise_append] at hinc
  obtain ⟨hi1,_,hi2⟩:=hinc
  have hlt:∀ s,s∈l->s.bZ<t.bZ:=fun s hs=>hi2 s hs t (by simp)
  obtain ⟨sub,hrec,rest,ids⟩:=ih hi1 fun s hs=>hpar s (by simp [hs])
  have htp:=hpar t (by simp)
  rw [xC]
  generalize wo p l=s at sub hrec rest ids ⊢
  obtain ⟨r,G⟩:=s
  dsimp only at sub hrec rest ids ⊢
  have hGt:∀ y,y∈G->y<t.bZ:=fun y hy=>by obtain ⟨s,hs,rfl⟩:=sub y hy;exact hlt s hs
  have hct:G.contains t.bZ=false:=by
   cases h:G.contains t.bZ with
   |false=>rfl
   |true=>have:=hGt _ (List.contains_iff_mem.1 h);omega
  unfold aA4
  by_cases hd:(p t || G.contains t.cE)=true
  ·rw [if_pos hd]
   have hc:∀ x,x<t.bZ->(G++[t.bZ]).contains x=G.contains x:=fun x hx=>by
    rw [aBN,decide_eq_false (by omega),Bool.or_false]
   have hc2:(G++[t.bZ]).contains t.bZ=true:=by rw [aBN,decide_eq_true rfl,Bool.or_true]
   refine ⟨fun x hx=>?_,fun s hs=>?_,?_,?_⟩
   ·rcases List.mem_append.1 hx with h|h
    ·obtain ⟨s,hs,e⟩:=sub x h;exact ⟨s,by simp [hs],e⟩
    ·simp at h;exact ⟨t,by simp,h.symm⟩
   ·rcases List.mem_append.1 hs with h|h
    ·have h1:=hlt s h
     have h2:=hpar s hs
     rw [hc _ h1,hc _ (by omega)]
     exact hrec s h
    ·simp at h;subst h
     rw [hc2,hc _ htp,hd]
   ·simp only
    rw [List.filter_append,List.filter_congr (q:=fun s=>!G.contains s.bZ) fun s hs=>by rw [hc _ (hlt s hs)],<-rest]
    simp [hc2]
   ·simp only
    rw [List.filter_append,List.filter_congr (q:=fun s=>G.contains s.bZ) fun s hs=>by rw [hc _ (hlt s hs)],List.map_append,<-ids]
    simp
  ·rw [if_neg hd]
   simp only [Bool.not_eq_true] at hd
   refine ⟨fun x hx=>?_,fun s hs=>?_,?_,?_⟩
   ·obtain ⟨s,hs,e⟩:=sub x hx;exact ⟨s,by simp [hs],e⟩
   ·rcases List.mem_append.1 hs with h|h
    ·exact hrec s h
    ·simp at h;subst h;rw [hct,hd]
   ·simp only
    rw [List.filter_append,<-rest]
    simp only [List.filter_cons,List.filter_nil,hct];simp
   ·simp only
    rw [List.filter_append,List.map_append,<-ids]
    simp only [List.filter_cons,List.filter_nil,hct];simp
theorem aNp (p:aR->Bool) (l:List aR):(∀ t,t∈l->p t=false)->wo p l=(l,[]):=by
 induction l using lV with
 |h0=>intro _;rfl
 |h1 l t ih=>
  intro h
  rw [xC,ih fun s hs=>h s (by simp [hs])]
  unfold aA4
  rw [h t (by simp)]
  simp
theorem uY {f:bQ} (h:bX f=true):(∀ t,t∈f.aG->t.cE<t.bZ)/\(∀ t,t∈f.aG->0<=t.cE/\1<=t.bZ/\t.bZ<=1000000000)/\(∀ t,t∈f.aG->t.cE=0\/cN f t.cE=true):=by
 unfold bX at h
 rw [Bool.and_eq_true] at h
 have key:∀ t,t∈f.aG->t.cE<t.bZ/\0<=t.cE/\1<=t.bZ/\t.bZ<=1000000000/\(t.cE=0\/cN f t.cE=true):=by
  intro t ht
  obtain ⟨i,hi⟩:=List.getElem?_of_mem ht
  have hq:=pK h.2 hi
  unfold aCh gI at hq
  simp only [Bool.and_eq_true,Bool.or_eq_true,decide_eq_true_eq] at hq
  have h1:=cD hq.1.1.1.1.1.1.1.1
  have h2:=cD hq.1.1.1.1.1.1.1.2
  exact ⟨by omega,by omega,by omega,by omega,hq.2⟩
 exact ⟨fun t ht=>(key t ht).1,fun t ht=>⟨(key t ht).2.1,(key t ht).2.2.1,(key t ht).2.2.2.1⟩,fun t ht=>(key t ht).2.2.2.2⟩
theorem tP {f:bQ} (h:bX f=true) (p:aR->Bool):aXa p f.aG (wo p f.aG).1 (wo p f.aG).2:=aWj p _ (aE2 h) (uY h).1
theorem aPq {α:Type} {p:α->Bool} {l:List α} (h:l.any p=true):∃ (k:Nat) (t:α),nA p l=k/\l[k]?=some t/\p t=true:=by
 unfold nA
 cases hf:l.findIdx? p with
 |none=>
  rw [List.findIdx?_eq_none_iff] at hf
  rw [List.any_eq_true] at h
  obtain ⟨x,hx,hp⟩:=h
  rw [hf x hx] at hp;cases hp
 |some i=>
  rw [List.findIdx?_eq_some_iff_getElem] at hf
  obtain ⟨h1,h2,_⟩:=hf
  exact ⟨i,_,rfl,List.getElem?_eq_getElem h1,h2⟩
theorem aSj {f:bQ} (h:bX f=true) (p:aR->Bool):(wo p f.aG).2.contains 0=false:=by
 cases hc:(wo p f.aG).2.contains 0 with
 |false=>rfl
 |true=>
  obtain ⟨t,ht,e⟩:=(tP h p).sub 0 (List.contains_iff_mem.1 hc)
  have:=((uY h).2.1 t ht).2.1
  omega
def kU (ow:List cO) (js:List iY) (s:List UInt8):Bool:=(ow.any fun o=>o.aH==s) || (js.any fun j=>j.aH==s)
theorem nH {α β:Type} {p:α->Bool} {f:α->β} {a:List α} {k:Nat} {x:α} (h:a[k]?=some x):((a.take (k+1)).filter p).map f=((a.take k).filter p).map f++(if p x then [f x] else []):=by
 rw [List.take_add_one,h,List.filter_append,List.map_append]
 simp only [Option.toList_some,List.filter_cons,List.filter_nil]
 split<;>simp
theorem jU {α β:Type} (p:α->Bool) (f:α->β) (a:List α) (k:Nat):(((a.take k).filter p).map f).length<=k:=by
 rw [List.length_map]
 have h1:=List.length_filter_le p (a.take k)
 have h2:(a.take k).length<=k:=by simp;omega
 omega
theorem tZ (l:List (List UInt8)) (x:List UInt8):aK (l++[x])=aK l++[[.str x]]:=by simp [aK]
theorem aET (l:List Int) (i:Nat):(bM l)[i]?=(l[i]?).map fun s=>[.int .i64 s]:=by simp [bM]
theorem kV (l:List Int):(bM l).length=l.length:=by simp [bM]
theorem aFZ (x:Int) (a:List Int):decide (0<=nA (fun y=>y==x) a)=a.contains x:=by
 rw [tO,Bool.eq_iff_iff,List.contains_iff_mem,List.any_eq_true]
 constructor
 ·rintro ⟨y,h1,h2⟩;exact (beq_iff_eq.1 h2) ▸ h1
 ·intro h;exact ⟨x,h,beq_self_eq_true x⟩
theorem oS (a:List Int) (x:Int) (hsz:a.length<=281474976710656):aC PP GG 147 [.d (.slc 1 (bM a)),.d (.int .i64 x)] (.d (.bool (a.contains x))) [none,none]:=by
 refine cv Tryz.func147 [.d (.bool (a.contains x))] ?_
 have hany:=aFZ x a
 rw [tO] at hany
 refine eT @kV ?_
 refine bH (fun n st=>∃ i:Nat,n=a.length-i/\i<=a.length/\(∀ y,y∈a.take i->(y==x)=false) ∧
  st=⟨[],[(0,.d (.slc 1 (bM a))),(1,.d (.int .i64 x)),(5,.d (.int .i64 i))],[],0⟩) _ ⟨0,rfl,by omega,fun x hx=>by simp at hx,?_⟩ ?_
 ·exact gE @kV
 rintro n st ⟨i,rfl,hi,hn,rfl⟩
 by_cases hlt:i<a.length
 ·have ha:=List.getElem?_eq_getElem hlt
  generalize a[i]=y at ha
  cases hx:(y==x) with
  |true=>
   have e:=(aBH (p:=fun y=>y==x) ha hn hx).2
   rw [e] at hany
   rw [<-hany]
   exact fC (Y4 ha @aET @kV hx)
  |false=>
   have hn2:=mH (p:=fun y=>y==x) ha hn hx
   refine eT (Y4 ha @aET @kV hx) ?_
   refine ⟨a.length-(i+1),by omega,i+1,rfl,hlt,hn2,?_⟩
   refine kM @kV ?_
   exact aA (by omega) (by omega)
 ·have hie:i=a.length:=by omega
  subst hie
  rw [List.take_length] at hn
  rw [(xP hn).2] at hany
  rw [<-hany]
  exact fC @kV
theorem cB (l:List aR):∀ row,row∈cA l->∀ d,d∈row->oB 1 d:=by
 intro row h d hd
 simp only [cA,List.mem_map] at h
 obtain ⟨x,_,rfl⟩:=h
 simp only [aR.row,List.mem_cons,List.not_mem_nil,or_false] at hd
 rcases hd with rfl|rfl|rfl|rfl|rfl|rfl|rfl<;>simp only [oB]
 exact cC x.fO
theorem aFw (f:bQ) (id top:Int) (hf:uZ f) (hb:bX f=true) (hid:id=0\/cN f id=true):
  aC PP GG 188 [.agg f.c,.d (.int .i64 id),.d (.int .i64 top)] (.d (.bool ((wo (fun t=>decide (t.bZ=top)) f.aG).2.contains id))) [none,none,none]:=by
 refine cv Tryz.func188 [.d (.bool ((wo (fun t=>decide (t.bZ=top)) f.aG).2.contains id))] ?_
 have hw:=tP hb (fun t=>decide (t.bZ=top))
 have hz:=aSj hb (fun t=>decide (t.bZ=top))
 obtain ⟨hp1,hp2,hp3⟩:=uY hb
 have hat:=fun id=>mX f id hf.1
 obtain ⟨a⟩:=f
 dsimp only at hw hz hp1 hp2 hp3 hat
 generalize (wo (fun t=>decide (t.bZ=top)) a).2=G at *
 generalize hR:G.contains id=R
 refine jJ ?_
 refine bH (fun n st=>∃ x:Int,n=x.toNat/\(x=0\/cN ⟨a⟩ x=true)/\G.contains x=R ∧
  st=⟨[],[(1,.d (.int .i64 x)),(2,.d (.int .i64 top)),(3,.ptr 0 0)],[(0,.box [.d (.slc 7 (cA a))])],1⟩) _ ⟨id,rfl,hid,hR,?_⟩ ?_
 ·exact oJ
 rintro n st ⟨x,rfl,hx,hxR,rfl⟩
 by_cases h0:x=0
 ·subst h0
  rw [hz] at hxR
  subst hxR
  exact nK
 have hne:(x != 0)=true:=by simpa using h0
 have hx:=hx.resolve_left h0
 obtain ⟨k,t,hk,ht,htx⟩:=aPq (p:=fun t:aR=>decide (t.bZ=x)) (l:=a) hx
 have htx:t.bZ=x:=by simpa using htx
 have hm:=List.mem_of_getElem? ht
 have hrec:=hw.rec_ t hm
 rw [htx,hxR] at hrec
 have hat:=hat x
 rw [hk] at hat
 have h1:=hp1 t hm
 have h2:=hp2 t hm
 have h3:=hp3 t hm
 obtain ⟨ti,tp,tn,tm,te,tl,tu⟩:=t
 dsimp only at htx hrec h1 h2 h3
 by_cases htop:x=top
 ·have hd:decide (x=top)=true:=decide_eq_true htop
  have hq:(x==top)=true:=by simpa using htop
  rw [hd] at hrec
  simp only [Bool.true_or] at hrec
  subst hrec
  exact fC (Y2 hne hq)
 ·have hd:decide (x=top)=false:=decide_eq_false htop
  have hq:(x==top)=false:=by simpa using htop
  rw [hd,Bool.false_or] at hrec
  have hkl:=(List.getElem?_eq_some_iff.1 ht).1
  refine fV (Y3 hne hq ht) (Z1 hat) ?_
  refine ⟨tp.toNat,by omega,tp,rfl,h3,?_,?_⟩
  ·simpa using hrec.symm
  ·exact oJ
def fG (f:bQ) (id:Int):List Int:=if bX f then (wo (fun t=>decide (t.bZ=id)) f.aG).2 else []
theorem xO (f:bQ) (id:Int):(fG f id).length<=f.aG.length:=by
 unfold fG
 split
 ·have:=aHs (fun t=>decide (t.bZ=id)) f.aG;omega
 ·simp
theorem aEj (f:bQ) (id:Int) (hf:uZ f):aC PP GG 143 [.agg f.c,.d (.int .i64 id)] (.own 0 1 (bM (fG f id))) [none,none]:=by
 refine cv Tryz.func143 [.own 0 1 (bM (fG f id))] ?_
 have cf:=kE f hf
 have cat:=mX f id hf.1
 have hno:decide (nA (fun t=>decide (t.bZ=id)) f.aG<0)=!cN f id:=oU _ _
 have hV:fG f id=if bX f then (wo (fun t=>decide (t.bZ=id)) f.aG).2 else []:=rfl
 have hl:=hf.1
 have hun:=fun (h:bX f=true) x hx=>aFw f x id hf h hx
 have hw:=fun (h:bX f=true)=>tP h (fun t=>decide (t.bZ=id))
 have hnone:cN f id=false->(wo (fun t=>decide (t.bZ=id)) f.aG).2=[]:=fun h=>by
  rw [aNp]
  intro t ht
  unfold cN at h
  rw [List.any_eq_false] at h
  simpa using h t ht
 have hhas:∀ (i:Nat) t,f.aG[i]?=some t->cN f t.bZ=true:=fun i t h=>by
  unfold cN;rw [List.any_eq_true];exact ⟨t,List.mem_of_getElem? h,by simp⟩
 obtain ⟨a⟩:=f
 dsimp only at cf cat hno hV hl hun hw hnone hhas
 generalize fG ⟨a⟩ id=V at *
 generalize (wo (fun t=>decide (t.bZ=id)) a).2=G at *
 generalize nA (fun t=>decide (t.bZ=id)) a=k at *
 generalize bX ⟨a⟩=B at *
 cases B
 ·simp only [Bool.false_eq_true,if_false] at hV
  subst hV
  exact dO @bM.eq_1 (Z1 cf)
 simp only [if_true] at hV
 subst hV
 have hw:=hw rfl
 have hun:=hun rfl
 cases hh:cN ⟨a⟩ id with
 |false=>
  rw [hh] at hno
  simp only [Bool.not_false] at hno
  have hG:=hnone hh
  subst hG
  exact dO (Y2 hno @bM.eq_1) (Z2 cf cat)
 |true=>
  rw [hh] at hno
  simp only [Bool.not_true] at hno
  refine fV hno (Z2 cf cat) ?_
  refine bH (fun n st=>∃ i:Nat,n=a.length-i/\i<=a.length ∧
   st=⟨[],[(1,.d (.int .i64 id)),(2,.ptr 0 0),(5,.sl 1),(6,.d (.int .i64 i))],[(0,.box [.d (.slc 7 (cA a))]),(1,.arr 0 0 1 (bM (((a.take i).filter fun t=>V.contains t.bZ).map aR.bZ)))],2⟩) _ ⟨0,rfl,by omega,?_⟩ ?_
  ·exact gE @bM.eq_1
  rintro n st ⟨i,rfl,hi,rfl⟩
  by_cases hlt:i<a.length
  rotate_left
  ·have hie:i=a.length:=by omega
   subst hie
   rw [List.take_length,<-hw.ids]
   exact nK
  have ha:=List.getElem?_eq_getElem hlt
  generalize a[i]=x at ha
  have hsc:=nH (p:=fun t:aR=>V.contains t.bZ) (f:=aR.bZ) ha
  have hlen:=jU (fun t:aR=>V.contains t.bZ) aR.bZ a i
  generalize ((a.take i).filter fun t:aR=>V.contains t.bZ).map aR.bZ=L at *
  have cu:=hun x.bZ (.inr (hhas i x ha))
  obtain ⟨xi,xp,xn,xm,xe,xl,xu⟩:=x
  dsimp only at hsc cu
  cases hc:V.contains xi with
  |true=>
   rw [hc] at hsc cu
   simp only [if_true] at hsc
   refine fV (Y3 ha @aM.eq_1 @kV) (Z1 cu) ?_
   refine ⟨a.length-(i+1),by omega,i+1,rfl,hlt,?_⟩
   rw [hsc]
   refine kM @aEU ?_
   exact aA (by omega) (by omega)
  |false=>
   rw [hc] at hsc cu
   simp only [Bool.false_eq_true,if_false,List.append_nil] at hsc
   refine fV ha (Z1 cu) ?_
   refine ⟨a.length-(i+1),by omega,i+1,rfl,hlt,?_⟩
   rw [hsc]
   refine kN ?_
   exact aA (by omega) (by omega)
theorem tY {w:aS} (h:fH w=true):bX w.aE=true:=by
 unfold fH at h;simp only [Bool.and_eq_true] at h;exact h.1.1.1.1.1.1.2
theorem aKO {a:List aR} {i:Nat} {x:aR} (h:a[i]?=some x):cA (a.take (i+1))=cA (a.take i)++[x.row]:=by
 rw [List.take_add_one,h,aEs];rfl
theorem aDC (a:List aR) (i:Nat):(cA (a.take i)).length<=i:=by rw [aEr,List.length_take];omega
theorem wE {a:List aT} {i:Nat} {x:aT} (h:a[i]?=some x):bG (a.take (i+1))=bG (a.take i)++[x.row]:=by
 rw [List.take_add_one,h,yR];rfl
theorem qD (a:List aT) (i:Nat):(bG (a.take i)).length<=i:=by rw [uM,List.length_take];omega
theorem aMq {a:List dD} {i:Nat} {x:dD} (h:a[i]?=some x):dG (a.take (i+1))=dG (a.take i)++[x.row]:=by
 rw [List.take_add_one,h,qV];rfl
theorem aEp (a:List dD) (i:Nat):(dG (a.take i)).length<=i:=by rw [tC,List.length_take];omega
theorem aOM {a:List iY} {i:Nat} {x:iY} (h:a[i]?=some x):gM (a.take (i+1))=gM (a.take i)++[x.row]:=by
 rw [List.take_add_one,h,aKS];rfl
theorem aFN (a:List iY) (i:Nat):(gM (a.take i)).length<=i:=by rw [aKR,List.length_take];omega
theorem aKQ {a:List cO} {i:Nat} {x:cO} (h:a[i]?=some x):dW (a.take (i+1))=dW (a.take i)++[x.row]:=by
 rw [List.take_add_one,h,aEu];rfl
theorem aDD (a:List cO) (i:Nat):(dW (a.take i)).length<=i:=by rw [yQ,List.length_take];omega
theorem bW (l:List aT):∀ row,row∈bG l->∀ d,d∈row->oB 0 d:=by
 intro row h d hd
 simp only [bG,List.mem_map] at h
 obtain ⟨x,_,rfl⟩:=h
 simp only [aT.row,List.mem_cons,List.not_mem_nil,or_false] at hd
 rcases hd with rfl|rfl|rfl|rfl|rfl|rfl<;>trivial
theorem dH (l:List dD):∀ row,row∈dG l->∀ d,d∈row->oB 0 d:=by
 intro row h d hd
 simp only [dG,List.mem_map] at h
 obtain ⟨x,_,rfl⟩:=h
 simp only [dD.row,List.mem_cons,List.not_mem_nil,or_false] at hd
 rcases hd with rfl|rfl<;>trivial
theorem fY (l:List iY):∀ row,row∈gM l->∀ d,d∈row->oB 0 d:=by
 intro row h d hd
 simp only [gM,List.mem_map] at h
 obtain ⟨x,_,rfl⟩:=h
 simp only [iY.row,List.mem_cons,List.not_mem_nil,or_false] at hd
 rcases hd with rfl|rfl|rfl<;>trivial
theorem eI (l:List cO):∀ row,row∈dW l->∀ d,d∈row->oB 0 d:=by
 intro row h d hd
 simp only [dW,List.mem_map] at h
 obtain ⟨x,_,rfl⟩:=h
 simp only [cO.row,List.mem_cons,List.not_mem_nil,or_false] at hd
 rcases hd with rfl|rfl<;>trivial
theorem aD8 (a:List (List UInt8)) (i:Nat):(aK (a.take i)).length<=i:=by rw [bV,List.length_take];omega
theorem aFx (a:List (List UInt8)) (hl:a.length<=1048576):aC PP GG 187 [.d (.slc 1 (aK a))] (.own 0 1 (aK a)) [none]:=by
 refine cv Tryz.func187 [.own 0 1 (aK a)] ?_
 refine eT @bV ?_
 refine bH (fun n st=>∃ i:Nat,n=a.length-i/\i<=a.length ∧
  st=⟨[],[(0,.d (.slc 1 (aK a))),(3,.sl 0),(4,.d (.int .i64 i))],[(0,.arr 0 0 1 (aK (a.take i)))],1⟩) _ ⟨0,rfl,by omega,?_⟩ ?_
 ·exact gE @aK.eq_1
 rintro n st ⟨i,rfl,hi,rfl⟩
 by_cases hlt:i<a.length
 rotate_left
 ·have hie:i=a.length:=by omega
  subst hie
  rw [List.take_length]
  exact fC @bV
 have ha:=List.getElem?_eq_getElem hlt
 generalize a[i]=x at ha
 have hsc:=aMb ha
 have hlen:=aD8 a i
 generalize aK (a.take i)=L at *
 refine eT (Y4 ha @eX @aM.eq_1 @bV) ?_
 refine ⟨a.length-(i+1),by omega,i+1,rfl,hlt,?_⟩
 rw [hsc]
 refine kN ?_
 exact aA (by omega) (by omega)
theorem lQ (t:aR) (ht:aTF t):aC PP GG 139 [.agg t.c] (.agg t.o) [none]:=by
 refine cv Tryz.func139 [.agg t.o] ?_
 have cc:=aFx t.fO ht.1
 exact oE (Z1 cc)
theorem nM (a:List aR) (hf:uZ ⟨a⟩):aC PP GG 140 [.agg (bQ.mk a).c] (.agg (bQ.mk a).o) [none]:=by
 refine cv Tryz.func140 [.agg (bQ.mk a).o] ?_
 refine jJ ?_
 refine kX 3 0 rfl rfl rfl ?_
 refine jJ ?_
 refine bH (fun n st=>∃ i:Nat,n=a.length-i/\i<=a.length ∧
  st=⟨[],[(1,.ptr 0 0),(2,.ptr 1 0),(3,.ptr 2 0),(4,.d (.int .i64 i))],[(0,.box [.d (.slc 7 (cA a))]),(1,.box [.nil 1 7]),(2,.box [.sl 3]),(3,.arr 0 1 7 (cA (a.take i)))],4⟩) _ ⟨0,rfl,by omega,?_⟩ ?_
 ·exact gE @cA.eq_1
 rintro n st ⟨i,rfl,hi,rfl⟩
 by_cases hlt:i<a.length
 rotate_left
 ·have hie:i=a.length:=by omega
  subst hie
  rw [List.take_length]
  exact nK
 have ha:=List.getElem?_eq_getElem hlt
 have hm:=List.getElem_mem hlt
 generalize a[i]=x at ha hm
 have hsc:=aKO ha
 have hlen:=aDC a i
 have hir:=cB (a.take i)
 have ct:=lQ x (hf.2 x hm)
 have hla:a.length<=1048576:=hf.1
 generalize cA (a.take i)=L at *
 refine fV (Y2 ha @aM.eq_1) (Z1 ct) ?_
 refine ⟨a.length-(i+1),by omega,i+1,rfl,hlt,?_⟩
 rw [hsc]
 refine kN ?_
 exact aA (by omega) (by omega)
theorem aBh (a:List aT) (hla:a.length<=1048577):aC PP GG 144 [.agg (eO.mk a).c] (.agg (eO.mk a).o) [none]:=by
 refine cv Tryz.func144 [.agg (eO.mk a).o] ?_
 refine jJ ?_
 refine kX 3 0 rfl rfl rfl ?_
 refine jJ ?_
 refine bH (fun n st=>∃ i:Nat,n=a.length-i/\i<=a.length ∧
  st=⟨[],[(1,.ptr 0 0),(2,.ptr 1 0),(3,.ptr 2 0),(4,.d (.int .i64 i))],[(0,.box [.d (.slc 6 (bG a))]),(1,.box [.nil 0 6]),(2,.box [.sl 3]),(3,.arr 0 0 6 (bG (a.take i)))],4⟩) _ ⟨0,rfl,by omega,?_⟩ ?_
 ·exact gE @bG.eq_1
 rintro n st ⟨i,rfl,hi,rfl⟩
 by_cases hlt:i<a.length
 rotate_left
 ·have hie:i=a.length:=by omega
  subst hie
  rw [List.take_length]
  exact nK
 have ha:=List.getElem?_eq_getElem hlt
 have hm:=List.getElem_mem hlt
 generalize a[i]=x at ha hm
 have hsc:=wE ha
 have hlen:=qD a i
 have hir:=bW (a.take i)
 generalize bG (a.take i)=L at *
 refine eT (Y2 ha @aM.eq_1) ?_
 refine ⟨a.length-(i+1),by omega,i+1,rfl,hlt,?_⟩
 rw [hsc]
 refine kN ?_
 exact aA (by omega) (by omega)
theorem sG (a:List iY) (hla:a.length<=1048577):aC PP GG 146 [.agg (fJ.mk a).c] (.agg (fJ.mk a).o) [none]:=by
 refine cv Tryz.func146 [.agg (fJ.mk a).o] ?_
 refine jJ ?_
 refine kX 3 0 rfl rfl rfl ?_
 refine jJ ?_
 refine bH (fun n st=>∃ i:Nat,n=a.length-i/\i<=a.length ∧
  st=⟨[],[(1,.ptr 0 0),(2,.ptr 1 0),(3,.ptr 2 0),(4,.d (.int .i64 i))],[(0,.box [.d (.slc 3 (gM a))]),(1,.box [.nil 0 3]),(2,.box [.sl 3]),(3,.arr 0 0 3 (gM (a.take i)))],4⟩) _ ⟨0,rfl,by omega,?_⟩ ?_
 ·exact gE @gM.eq_1
 rintro n st ⟨i,rfl,hi,rfl⟩
 by_cases hlt:i<a.length
 rotate_left
 ·have hie:i=a.length:=by omega
  subst hie
  rw [List.take_length]
  exact nK
 have ha:=List.getElem?_eq_getElem hlt
 have hm:=List.getElem_mem hlt
 generalize a[i]=x at ha hm
 have hsc:=aOM ha
 have hlen:=aFN a i
 have hir:=fY (a.take i)
 generalize gM (a.take i)=L at *
 refine eT (Y2 ha @aM.eq_1) ?_
 refine ⟨a.length-(i+1),by omega,i+1,rfl,hlt,?_⟩
 rw [hsc]
 refine kN ?_
 exact aA (by omega) (by omega)
end Go.Proofs.YtiejbbcpihpgpaaGreatDoor.Ab
