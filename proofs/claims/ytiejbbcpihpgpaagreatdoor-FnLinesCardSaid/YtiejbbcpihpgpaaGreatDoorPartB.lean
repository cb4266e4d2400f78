/-
  A part of a proof about the given program; what is proved is said where each theorem stands.
-/
import Derived.Test.YtiejbbcpihpgpaaGreatDoorPartA
namespace Go.Proofs
end Go.Proofs
set_option linter.unusedSimpArgs false
set_option linter.unusedVariables false
set_option maxRecDepth 100000
set_option maxHeartbeats 2000000
namespace Go.Proofs.YtiejbbcpihpgpaaGreatDoor.Ab
open Go.Proofs
theorem aHM (c:eB) (n:cW) (hok:c.ok) (hon:n.ok) (hc:c.cost+n.cost<=1048576):aC PP GG 114 [.agg c.c,.agg n.c] (.tup [.agg (aLU c n).o,.d (.bool (aPL c n))]) [none,none]:=by
 have cp:=aMO c (by omega)
 have ch:=aKG c (by omega)
 have cc:=uH c (by omega)
 have hhv:aNY c=if fQ c=true then aG2 c else -1:=rfl
 have hind:=aG0 c.dY
 have hB:aPL c n=(fQ c && fQ (qJ c (pL c n))):=rfl
 have hC:aLU c n=if aPL c n=true then qJ c (pL c n) else c:=rfl
 have hna:fQ c=true->∀ (i:Nat) x,c.dY[i]?=some x->wJ x=true:=fun h i x hx=>aFd h hx
 have hlc:fQ c=true->c.dY.length<=120:=aHg
 obtain ⟨f,k,l⟩:=c
 obtain ⟨q,a,w,t,p,cd,m⟩:=n
 have hco:(eB.mk f k l).cost=l.length+dF cW.cost l:=rfl
 have hcn:(cW.mk q a w t p cd m).cost=t.length+p.length:=rfl
 obtain ⟨o1,o2,o3,o4⟩:=hok
 simp only at o1 o4 hna hind hlc
 have hhl:aG2 ⟨f,k,l⟩=match l.getLast? with|some x=>x.aBI|none=>f:=rfl
 have hsl:pL ⟨f,k,l⟩ ⟨q,a,w,t,p,cd,m⟩=⟨(match l.getLast? with|some x=>x.nX+1|none=>1),a,w,t,p,cd,aOs (aG2 ⟨f,k,l⟩) ⟨(match l.getLast? with|some x=>x.nX+1|none=>1),a,w,t,p,cd,m⟩⟩:=rfl
 generalize aLU ⟨f,k,l⟩ ⟨q,a,w,t,p,cd,m⟩=rC at hC ⊢
 generalize aPL ⟨f,k,l⟩ ⟨q,a,w,t,p,cd,m⟩=rB at hB hC ⊢
 have hd64:aX (aG2 ⟨f,k,l⟩):=by
  rw [hhl]
  cases hl:l.getLast? with
  |none=>exact o1
  |some x=>exact (o4 x (List.mem_of_getLast? hl)).2.2.2.2.2.2
 generalize aG2 ⟨f,k,l⟩=hd at hhv hsl hd64 hhl
 clear hhl
 refine cv Tryz.func114 [.agg rC.o,.d (.bool rB)] ?_
 cases hk:fQ ⟨f,k,l⟩ with
 |false=>
  rw [hk] at cc hB
  rw [Bool.false_and] at hB
  subst hB
  rw [if_neg (by simp)] at hC
  subst hC
  exact oE (Z2 cp cc)
 |true=>
 rw [hk] at cc hB hhv
 rw [if_pos rfl] at hhv
 rw [hhv] at ch
 rw [Bool.true_and] at hB
 have hl120:=hlc hk
 obtain ⟨s,hs⟩:∃ s:Int,(match l.getLast? with|some x=>x.nX+1|none=>1)=s:=⟨_,rfl⟩
 rw [hs] at hsl
 have hs64:aX s:=by
  rw [<-hs]
  cases hl:l.getLast? with
  |none=>show aX 1;exact ⟨by omega,by omega⟩
  |some x=>
   show aX (x.nX+1)
   obtain ⟨j,hj⟩:=List.getElem?_of_mem (List.mem_of_getLast? hl)
   have hn:=uQ (hna hk j x hj)
   exact ⟨by omega,by omega⟩
 have cs:=aOF hd ⟨s,a,w,t,p,cd,m⟩ hd64 ⟨hs64,hon.2⟩ (by show t.length<=_;omega) (by show p.length<=_;omega)
 obtain ⟨v,hv⟩:∃ v,aOs hd ⟨s,a,w,t,p,cd,m⟩=v:=⟨_,rfl⟩
 rw [hv] at cs hsl
 rw [hsl] at hB hC
 clear hv hsl
 have hgc:=aE0 ⟨f,k,l⟩ ⟨s,a,w,t,p,cd,v⟩
 have hcx:(cW.mk s a w t p cd v).cost=t.length+p.length:=rfl
 have cg0:=uH (qJ ⟨f,k,l⟩ ⟨s,a,w,t,p,cd,v⟩) (by omega)
 cases hl:l.getLast? with
 |none=>
  have hlen:l.length=0:=by rw [List.getLast?_eq_none_iff.1 hl];rfl
  have hnil:l=[]:=List.getLast?_eq_none_iff.1 hl
  rw [hl] at hs
  simp only at hs
  subst hs
  have hg:qJ ⟨f,k,l⟩ ⟨1,a,w,t,p,cd,v⟩=⟨f,k,l++[⟨1,a,w,t,p,cd,v⟩]⟩:=by unfold qJ;rw [if_neg (show ¬l.length=120 by omega)]
  rw [hg] at hB hC cg0
  clear hgc hg
  generalize fQ ⟨f,k,l++[⟨1,a,w,t,p,cd,v⟩]⟩=b at hB cg0
  have hsn:=uL l ⟨1,a,w,t,p,cd,v⟩
  have cg:aC PP GG 169 [.agg [.d (.int .i64 f),.d (.int .i64 k),.d (.slc 7 (fD l++[(cW.mk 1 a w t p cd v).row]))]] (.d (.bool b)) [none]:=by rw [<-hsn];exact cg0
  simp only [cW.row] at cg hsn
  repeat' (first|refine aN ?_|refine aQ ?_|refine aU ?_|(refine cR ?_;first|refine aW rfl ?_|(refine bB rfl ?_;first|refine aW rfl ?_|(refine bB rfl ?_;refine aW rfl ?_)))|(refine iX fun K hK=>?_;simp [aM])|(refine fS fun K hK=>?_;simp [aM])|(with_reducible refine hK _ ?_;clear hK K)|(with_reducible refine aF (cp) ?_;simp [aM])|(with_reducible refine aF (cc) ?_;simp [aM])|(with_reducible refine aF (ch) ?_;simp [aM])|(with_reducible refine aF (cs) ?_;simp [aM])|(with_reducible refine aF (cg) ?_;simp [aM])|(with_reducible refine aJ (fun h=>?_) (fun h=>?_)<;>first|(exfalso;simp at h;done)|(exfalso;simp at h;omega)|(exfalso;simp at h;contradiction)|((try simp at h);simp [aM]))|with_reducible refine And.intro ?_ ?_|with_reducible exact aL rfl|with_reducible assumption|(refine aO rfl (fun h=>?_) (fun h=>?_)<;>first|(exfalso;simp at h;done)|(exfalso;simp at h;omega)|(exfalso;simp at h;contradiction)|(exfalso;simp_all;done)|(try simp at h))|(refine kI ?_;simp [Fin,aM])|omega)
  all_goals simp_all
 |some x=>
  obtain ⟨j,hlen,hx⟩:∃ j,l.length=j+1/\l[j]?=some x:=by
   rw [List.getLast?_eq_getElem?] at hl
   have:=(List.getElem?_eq_some_iff.1 hl).1
   exact ⟨l.length-1,by omega,hl⟩
  have hn:=uQ (hna hk j x hx)
  rw [hl] at hs
  simp only at hs
  have hw:IntKind.i64.wrap ((l.length:Int)-1)=(j:Int):=by rw [aA (by omega) (by omega)];omega
  have hw':IntKind.i64.wrap ((j:Int)+1-1)=(j:Int):=by rw [aA (by omega) (by omega)];omega
  have hw2:IntKind.i64.wrap (x.nX+1)=s:=by rw [aA (by omega) (by omega)];exact hs
  clear hs
  by_cases h120:l.length=120
  ·have hw3:IntKind.i64.wrap 119=(j:Int):=by rw [aA (by omega) (by omega)];omega
   obtain ⟨z,hz⟩:∃ z,l[0]?=some z:=⟨_,List.getElem?_eq_getElem (by omega)⟩
   have htk2:∀ r:List D,List.take 121 (fD l++[r])=fD l++[r]:=fun r=>List.take_of_length_le (by simp;omega)
   have htk3:∀ r:List D,(fD l++[r]).tail=(fD l).tail++[r]:=fun r=>by
    cases l with
    |nil=>simp at h120
    |cons y u=>simp [fD]
   have hr2:∀ h:0<(fD l).length,(fD l)[0]'h=z.row:=fun h=>by simp only [fD,List.getElem_map];rw [List.getElem?_eq_getElem (by omega)] at hz;rw [Option.some.inj hz]
   have hz2:∀ h:0<l.length,l[0]'h=z:=fun h=>by rw [List.getElem?_eq_getElem h] at hz;exact Option.some.inj hz
   have hg:qJ ⟨f,k,l⟩ ⟨s,a,w,t,p,cd,v⟩=⟨z.aBI,k,l.drop 1++[⟨s,a,w,t,p,cd,v⟩]⟩:=by
    unfold qJ;rw [if_pos h120];cases l with|nil=>simp at h120|cons y u=>simp at hz;subst hz;rfl
   rw [hg] at hB hC cg0
   clear hg hgc
   generalize fQ ⟨z.aBI,k,l.drop 1++[⟨s,a,w,t,p,cd,v⟩]⟩=b at hB cg0
   have hsn:fD (l.drop 1++[⟨s,a,w,t,p,cd,v⟩])=(fD l).drop 1++[(cW.mk s a w t p cd v).row]:=by rw [uL];simp [fD]
   have htk:List.take 120 (fD l)=fD l:=List.take_of_length_le (by rw [aOL];omega)
   have cg:aC PP GG 169 [.agg [.d (.int .i64 z.aBI),.d (.int .i64 k),.d (.slc 7 ((fD l).drop 1++[(cW.mk s a w t p cd v).row]))]] (.d (.bool b)) [none]:=by rw [<-hsn];exact cg0
   simp only [cW.row] at cg hsn
   simp at cg
   repeat' (first|refine aN ?_|refine aQ ?_|refine aU ?_|(refine cR ?_;first|refine aW rfl ?_|(refine bB rfl ?_;first|refine aW rfl ?_|(refine bB rfl ?_;refine aW rfl ?_)))|(refine iX fun K hK=>?_;simp [aM,hw3,hw2,hx,hz,hz2,hr2,h120,htk,htk2,htk3])|(refine fS fun K hK=>?_;simp [aM,hw3,hw2,hx,hz,hz2,hr2,h120,htk,htk2,htk3])|(with_reducible refine hK _ ?_;clear hK K)|(with_reducible refine aF (cp) ?_;simp [aM,hw3,hw2,hx,hz,hz2,hr2,h120,htk,htk2,htk3])|(with_reducible refine aF (cc) ?_;simp [aM,hw3,hw2,hx,hz,hz2,hr2,h120,htk,htk2,htk3])|(with_reducible refine aF (ch) ?_;simp [aM,hw3,hw2,hx,hz,hz2,hr2,h120,htk,htk2,htk3])|(with_reducible refine aF (cs) ?_;simp [aM,hw3,hw2,hx,hz,hz2,hr2,h120,htk,htk2,htk3])|(with_reducible refine aF (cg) ?_;simp [aM,hw3,hw2,hx,hz,hz2,hr2,h120,htk,htk2,htk3])|(with_reducible refine aJ (fun h=>?_) (fun h=>?_)<;>first|(exfalso;simp at h;done)|(exfalso;simp at h;omega)|(exfalso;simp at h;contradiction)|((try simp at h);simp [aM,hw3,hw2,hx,hz,hz2,hr2,h120,htk,htk2,htk3]))|with_reducible refine And.intro ?_ ?_|with_reducible exact aL rfl|with_reducible assumption|(refine aO rfl (fun h=>?_) (fun h=>?_)<;>first|(exfalso;simp at h;done)|(exfalso;simp at h;omega)|(exfalso;simp at h;contradiction)|(exfalso;simp_all;done)|(try simp at h))|(refine kI ?_;simp [Fin,aM,hw3,hw2,hx,hz,hz2,hr2,h120,htk,htk2,htk3])|omega)
   all_goals simp_all
  ·have hg:qJ ⟨f,k,l⟩ ⟨s,a,w,t,p,cd,v⟩=⟨f,k,l++[⟨s,a,w,t,p,cd,v⟩]⟩:=by unfold qJ;rw [if_neg h120]
   rw [hg] at hB hC cg0
   clear hg hgc
   generalize fQ ⟨f,k,l++[⟨s,a,w,t,p,cd,v⟩]⟩=b at hB cg0
   have hsn:=uL l ⟨s,a,w,t,p,cd,v⟩
   have cg:aC PP GG 169 [.agg [.d (.int .i64 f),.d (.int .i64 k),.d (.slc 7 (fD l++[(cW.mk s a w t p cd v).row]))]] (.d (.bool b)) [none]:=by rw [<-hsn];exact cg0
   simp only [cW.row] at cg hsn
   repeat' (first|refine aN ?_|refine aQ ?_|refine aU ?_|(refine cR ?_;first|refine aW rfl ?_|(refine bB rfl ?_;first|refine aW rfl ?_|(refine bB rfl ?_;refine aW rfl ?_)))|(refine iX fun K hK=>?_;simp [aM,hw,hw',hw2,hx,h120])|(refine fS fun K hK=>?_;simp [aM,hw,hw',hw2,hx,h120])|(with_reducible refine hK _ ?_;clear hK K)|(with_reducible refine aF (cp) ?_;simp [aM,hw,hw',hw2,hx,h120])|(with_reducible refine aF (cc) ?_;simp [aM,hw,hw',hw2,hx,h120])|(with_reducible refine aF (ch) ?_;simp [aM,hw,hw',hw2,hx,h120])|(with_reducible refine aF (cs) ?_;simp [aM,hw,hw',hw2,hx,h120])|(with_reducible refine aF (cg) ?_;simp [aM,hw,hw',hw2,hx,h120])|(with_reducible refine aJ (fun h=>?_) (fun h=>?_)<;>first|(exfalso;simp at h;done)|(exfalso;simp at h;omega)|(exfalso;simp at h;contradiction)|((try simp at h);simp [aM,hw,hw',hw2,hx,h120]))|with_reducible refine And.intro ?_ ?_|with_reducible exact aL rfl|with_reducible assumption|(refine aO rfl (fun h=>?_) (fun h=>?_)<;>first|(exfalso;simp at h;done)|(exfalso;simp at h;omega)|(exfalso;simp at h;contradiction)|(exfalso;simp_all;done)|(try simp at h))|(refine kI ?_;simp [Fin,aM,hw,hw',hw2,hx,h120])|omega)
   all_goals simp_all
def aNv (k h:Int):Int:=(48271*h+k % 65521+1) % 2147483629
def vJ (k h:Int):Nat->Int
 |0=>h
 |i+1=>aNv k (vJ k h i)
def sW (k h:Int) (i:Nat):UInt8:=UInt8.ofNat ((vJ k h (i+1) / 1024) % 256).toNat
def aEk (k n:Int):Int:=(k % 2147483629+2*(n % 2147483629)+1) % 2147483629
def aHA (k n:Int) (len:Nat):List UInt8:=(List.range len).map (sW k (aEk k n))
theorem aKq (k n:Int) (len:Nat):(aHA k n len).length=len:=by simp [aHA]
theorem aC1 (k h:Int) (hh:0<=h/\h<2147483629) (i:Nat):0<=vJ k h i/\vJ k h i<2147483629:=by
 cases i with
 |zero=>exact hh
 |succ i=>simp only [vJ,aNv];omega
theorem aKH (k n:Int):0<=aEk k n/\aEk k n<2147483629:=by unfold aEk;omega
theorem aKI (k h:Int) (i:Nat):aB ((List.range (i+1)).map (sW k h))=aB ((List.range i).map (sW k h))++[[.int .u8 (sW k h i).toNat]]:=by
 simp [List.range_succ,aB]
theorem sV {a b:Int} (ha:0<=a):a.tmod b=a % b:=Int.tmod_eq_emod_of_nonneg ha
theorem aQd {a b:Int} (ha:0<=a):a.tdiv b=a / b:=Int.tdiv_eq_ediv_of_nonneg ha
theorem aUN {k h r h':Int} (hk:0<=k) (hh:0<=h/\h<2147483629) (hr:k % 65521=r) (hn:aNv k h=h'):
  IntKind.i64.wrap (48271*h)=48271*h/\k.tmod 65521=r/\IntKind.i64.wrap (48271*h+r)=48271*h+r/\IntKind.i64.wrap (48271*h+r+1)=48271*h+r+1/\(48271*h+r+1).tmod 2147483629=h':=by
 have h1:0<=r/\r<65521:=by omega
 refine ⟨aA (by omega) (by omega),by rw [sV hk,hr],aA (by omega) (by omega),aA (by omega) (by omega),?_⟩
 rw [sV (by omega),<-hn,<-hr];rfl
theorem aUP {k h h':Int} {i:Nat} (hh:0<=h'/\h'<2147483629) (hi:vJ k h (i+1)=h') {q:Int} (hq:h' / 1024=q):
  h'.tdiv 1024=q/\IntKind.i64.wrap q=q/\q.tmod 256=q % 256/\IntKind.u8.wrap (q % 256)=((sW k h i).toNat:Int)/\IntKind.u8.wrap q=((sW k h i).toNat:Int):=by
 have h0:0<=q/\q<2147483629:=by omega
 have hb:((sW k h i).toNat:Int)=q % 256:=by
  unfold sW
  rw [hi,hq,UInt8.toNat_ofNat'];omega
 refine ⟨by rw [aQd hh.1,hq],aA (by omega) (by omega),sV h0.1,?_,?_⟩
 ·rw [hb,IntKind.wrap_u8];omega
 ·rw [hb,IntKind.wrap_u8]
theorem aUO {k n a b:Int} (hk:0<=k) (hn:0<=n) (ha:k % 2147483629=a) (hb:n % 2147483629=b):
  k.tmod 2147483629=a/\n.tmod 2147483629=b/\IntKind.i64.wrap (2*b)=2*b/\IntKind.i64.wrap (a+2*b)=a+2*b/\IntKind.i64.wrap (a+2*b+1)=a+2*b+1/\(a+2*b+1).tmod 2147483629=aEk k n:=by
 refine ⟨by rw [sV hk,ha],by rw [sV hn,hb],aA (by omega) (by omega),aA (by omega) (by omega),aA (by omega) (by omega),?_⟩
 rw [sV (by omega),<-ha,<-hb];rfl
theorem aKF (k n:Int) (len:Nat) (hk:lT k=true) (hn:lT n=true) (hl:len<=2000):aC PP GG 240 [.d (.int .i64 k),.d (.int .i64 n),.d (.int .i64 len)] (.own 0 1 (aB (aHA k n len))) [none,none,none]:=by
 refine cv Tryz.func240 [.own 0 1 (aB (aHA k n len))] ?_
 have ck:=iI k
 have cn:=iI n
 rw [hk] at ck
 rw [hn] at cn
 have cl:aC PP GG 20 [.d (.int .i64 len),.d (.int .i64 0),.d (.int .i64 2000)] (.d (.bool true)) [none,none,none]:=by
  have:=bD len 0 2000
  rwa [show (decide (0<=(len:Int)) && decide ((len:Int)<=2000))=true by simp;omega] at this
 have kr:=cD hk
 have nr:=cD hn
 obtain ⟨a,ha⟩:∃ a,k % 2147483629=a:=⟨_,rfl⟩
 obtain ⟨b,hb⟩:∃ b,n % 2147483629=b:=⟨_,rfl⟩
 obtain ⟨i1,i2,i3,i4,i5,i6⟩:=aUO kr.1 nr.1 ha hb
 obtain ⟨r,hr⟩:∃ r,k % 65521=r:=⟨_,rfl⟩
 have h0:=aKH k n
 have hstrm:aHA k n len=(List.range len).map (sW k (aEk k n)):=rfl
 generalize aEk k n=g at i6 h0 hstrm
 refine u_1 ?_
 refine u_6 @sP.eq_1 ?_
 refine aWx (Z3 ck cn cl) 24 (false) ?_
 refine aO rfl (fun h=>?_) (fun h=>aQ ?_)
 ·cases h
 refine u_1 ?_
 refine aSz (Y6 i1 i2 i3 i4 i5 i6) ?_
 refine u_3 ?_
 refine aU (bH (fun n st=>∃ i:Nat,n=len-i/\i<=len ∧
  st=⟨[],[(0,.d (.int .i64 k)),(2,.d (.int .i64 len)),(7,.sl 0),(8,.d (.int .i64 2147483629)),(9,.d (.int .i64 (vJ k g i))),(10,.d (.int .i64 i))],[(0,.arr 0 0 1 (aB ((List.range i).map (sW k g))))],1⟩) _ ⟨0,rfl,by omega,rfl⟩ ?_)
 rintro n st ⟨i,rfl,hi,rfl⟩
 refine u_3 ?_
 refine aO rfl (fun h2=>aQ ?_) (fun h2=>cR ?_)
 ·rw [h2]
  simp at h2
  have hr1:=aC1 k g h0 i
  have hr2:=aC1 k g h0 (i+1)
  have hnx:aNv k (vJ k g i)=vJ k g (i+1):=rfl
  have hs:=aKI k g i
  have hlen:((List.range i).map (sW k g)).length=i:=by simp
  obtain ⟨q,hq⟩:∃ q,vJ k g (i+1) / 1024=q:=⟨_,rfl⟩
  obtain ⟨b1,b2,b3,b4,b5⟩:=aUP (h:=g) (i:=i) hr2 rfl hq
  obtain ⟨h',hh'⟩:∃ h',vJ k g (i+1)=h':=⟨_,rfl⟩
  rw [hh'] at hr2 hnx hq b1
  generalize vJ k g i=hc at hr1 hnx ⊢
  obtain ⟨f1,f2,f3,f4,f5⟩:=aUN kr.1 hr1 hr hnx
  generalize (List.range i).map (sW k g)=w at hs hlen ⊢
  generalize sW k g i=bt at b4 b5 hs
  refine aN (aU (aN ?_))
  refine u_2 (Y5 f1 f2 f3 f4 f5) ?_
  refine u_2 (Y5 b1 b2 b3 b4 @aM.eq_1) ?_
  refine u_5 ?_
  refine ⟨len-(i+1),by omega,i+1,rfl,by omega,?_⟩
  rw [hs]
  simp [gc,bP,cI,gcV,gcO,dS,cU,eH,aY,bR,bU,dU]
  exact ⟨hh'.symm,aA (by omega) (by omega)⟩
 ·simp at h2
  have e:i=len:=by omega
  subst e
  rw [if_pos rfl,hstrm]
  refine u_1 ?_
  exact u_7
def uR (k n:Int) (a:List UInt8):List UInt8:=List.zipWith (· ^^^ ·) a (aHA k n a.length)
theorem aBv (k n:Int) (a:List UInt8):(uR k n a).length=a.length:=by simp [uR,aKq]
theorem aQW {k n:Int} {a:List UInt8} {i:Nat} {x y:UInt8} (hx:a[i]?=some x) (hy:(aHA k n a.length)[i]?=some y):(uR k n a)[i]?=some (x ^^^ y):=by
 simp [uR,List.getElem?_zipWith,hx,hy]
theorem aUH (x y:UInt8):fX .xor .u8 (x.toNat:Int) (y.toNat:Int)=some (.int .u8 (((x ^^^ y).toNat:Nat):Int)):=by
 have e:(BitVec.ofInt IntKind.u8.bits (x.toNat:Int) ^^^ BitVec.ofInt IntKind.u8.bits (y.toNat:Int)).toNat=(x ^^^ y).toNat:=by
  show (BitVec.ofInt 8 (x.toNat:Int) ^^^ BitVec.ofInt 8 (y.toNat:Int)).toNat=(x ^^^ y).toNat
  rw [BitVec.toNat_xor,BitVec.ofInt_natCast,BitVec.ofInt_natCast,BitVec.toNat_ofNat,BitVec.toNat_ofNat,UInt8.toNat_xor]
  have hx:=x.toNat_lt
  have hy:=y.toNat_lt
  rw [Nat.mod_eq_of_lt hx,Nat.mod_eq_of_lt hy]
 show some (D.int .u8 (IntKind.u8.wrap (((BitVec.ofInt IntKind.u8.bits (x.toNat:Int) ^^^ BitVec.ofInt IntKind.u8.bits (y.toNat:Int)).toNat:Nat):Int)))=_
 have:=(x ^^^ y).toNat_lt
 rw [e,IntKind.wrap_u8]
 congr 2
 omega
theorem aER (k n:Int) (a:List UInt8) (hk:lT k=true) (hn:lT n=true) (hl:a.length<=2000):aC PP GG 234 [.d (.int .i64 k),.d (.int .i64 n),.d (.slc 1 (aB a))] (.own 0 1 (aB (uR k n a))) [none,none,none]:=by
 refine cv Tryz.func234 [.own 0 1 (aB (uR k n a))] ?_
 have cs:=aKF k n a.length hk hn hl
 have hsl:=aKq k n a.length
 have hmg:∀ (i:Nat) x y,a[i]?=some x->(aHA k n a.length)[i]?=some y->(uR k n a)[i]?=some (x ^^^ y):=fun i x y hx hy=>aQW hx hy
 have hml:=aBv k n a
 generalize aHA k n a.length=s at cs hsl hmg
 generalize uR k n a=m at hmg hml ⊢
 refine u_1 ?_
 refine u_6 @sP.eq_1 ?_
 refine oK (Z1 cs) ?_
 refine u_3 ?_
 refine aU (bH (fun n st=>∃ i:Nat,n=a.length-i/\i<=a.length ∧
  st=⟨[],[(2,.d (.slc 1 (aB a))),(7,.sl 0),(8,.sl 1),(9,.d (.int .i64 i))],[(0,.arr 0 0 1 (aB (m.take i))),(1,.arr 0 0 1 (aB s))],2⟩) _ ⟨0,rfl,by omega,rfl⟩ ?_)
 rintro n st ⟨i,rfl,hi,rfl⟩
 refine u_3 ?_
 refine aO rfl (fun h2=>aQ ?_) (fun h2=>cR ?_)
 ·simp at h2
  have ha:=List.getElem?_eq_getElem h2
  have hb:=List.getElem?_eq_getElem (show i<s.length by omega)
  generalize a[i]=x at ha
  generalize s[i]'_=y at hb
  have hxy:=aUH x y
  have hs:=pW (hmg i x y ha hb)
  have hlen:(m.take i).length<=2000:=by rw [List.length_take];omega
  have his:i<s.length:=by omega
  refine aN (aU ?_)
  refine u_4 (Y4 ha hb hxy @aM.eq_1) ?_
  refine u_5 ?_
  refine ⟨a.length-(i+1),by omega,i+1,rfl,h2,?_⟩
  rw [hs]
  simp [gc,bP,cI,gcV,gcO,dS,cU,eH,aY,bR,bU,dU]
  exact aA (by omega) (by omega)
 ·simp at h2
  rw [if_pos rfl]
  have e:m.take i=m:=List.take_of_length_le (by omega)
  rw [e]
  refine u_1 ?_
  exact u_7
theorem aA0 (x y:List UInt8):aB (x++y)=aB x++aB y:=by simp [aB]
def aFs (k n:Int) (a:List UInt8):Int:=rZ (nJ k++nJ n++a)
theorem aEc (k n:Int) (a:List UInt8) (hk:lT k=true) (hn:lT n=true) (hl:a.length<=2000):aC PP GG 235 [.d (.int .i64 k),.d (.int .i64 n),.d (.slc 1 (aB a))] (.d (.int .i64 (aFs k n a))) [none,none,none]:=by
 refine cv Tryz.func235 [.d (.int .i64 (aFs k n a))] ?_
 have ck:=iI k
 have cn:=iI n
 rw [hk] at ck
 rw [hn] at cn
 have cp:=uF k hk
 have cq:=uF n hn
 have hw1:=aD1 k
 have hw2:=aD1 n
 have i1:=aZ (nJ k)
 have i2:=aZ (nJ n)
 have i3:=aZ (nJ k++nJ n)
 have i4:=aZ (nJ k++nJ n++a)
 have cj:=gD (nJ k) (nJ n) (by omega)
 have cj2:=gD (nJ k++nJ n) a (by simp;omega)
 have cd:aC PP GG 133 [.d (.slc 1 (aB (nJ k++nJ n++a)))] (.d (.int .i64 (aFs k n a))) [none]:=tX (nJ k++nJ n++a) (by simp;omega)
 generalize aFs k n a=t at cd ⊢
 generalize nJ k++nJ n++a=z3 at cj2 cd i4
 generalize nJ k++nJ n=z2 at cj cj2 i3
 generalize nJ k=z0 at cp cj i1
 generalize nJ n=z1 at cq cj i2
 have hlen:decide (2000<(a.length:Int))=false:=decide_eq_false (by omega)
 refine u_1 ?_
 refine aP6 hlen (Z2 ck cn) 19 (false) ?_
 refine aO rfl (fun h=>?_) (fun h=>aQ ?_)
 ·cases h
 refine oK (Z5 cp cq cj cj2 cd) ?_
 exact u_7
def aEC (k:Int) (b:xB):Option (List UInt8):=if lT k=true/\lT b.qG=true/\b.dI.length<=2000/\aFs k b.qG b.dI=b.aIv then some (uR k b.qG b.dI) else none
def yB (k n:Int) (a:List UInt8):xB:={ qG:=n,dI:=uR k n a,aIv:=aFs k n (uR k n a) }
theorem aOU {k:Int} {b:xB} {o:List UInt8} (h:aEC k b=some o):o.length=b.dI.length/\lT b.qG=true/\o.length<=2000:=by
 unfold aEC at h
 split at h
 ·rename_i hc
  cases h
  rw [aBv]
  exact ⟨rfl,hc.2.1,hc.2.2.1⟩
 ·cases h
theorem aHL (k:Int) (b:xB) (r:Option (List UInt8)) (hr:aEC k b=r) (hb:b.cost<=1048576):aC PP GG 211 [.d (.int .i64 k),.agg b.c] (.tup [.own 0 1 (aB (r.getD [])),.d (.bool r.isSome)]) [none,none]:=by
 refine cv Tryz.func211 [.own 0 1 (aB (r.getD [])),.d (.bool r.isSome)] ?_
 obtain ⟨n,a,t⟩:=b
 have hco:(xB.mk n a t).cost=a.length:=rfl
 have ck:=iI k
 have cn:=iI n
 obtain ⟨v,hv⟩:∃ v,decide (a.length<=2000)=v:=⟨_,rfl⟩
 have hv2:decide (2000<(a.length:Int))=!v:=by rw [<-hv,<-decide_not];exact decide_eq_decide.2 (by omega)
 obtain ⟨p,hp⟩:∃ p,lT k=p:=⟨_,rfl⟩
 obtain ⟨q,hq⟩:∃ q,lT n=q:=⟨_,rfl⟩
 rw [hp] at ck
 rw [hq] at cn
 refine u_1 ?_
 cases p with
 |false=>
  have hr0:r=none:=by rw [<-hr];exact if_neg (fun hc=>by have:=hc.1;rw [hp] at this;cases this)
  subst hr0
  refine aSv hv2 (Z2 ck cn) 31 (true) ?_
  refine aO rfl (fun h=>aN ?_) (fun h=>?_)
  rotate_left
  ·cases h
  refine u_5 ?_
  exact u_8 @aB.eq_1
 |true=>
 cases q with
 |false=>
  have hr0:r=none:=by rw [<-hr];exact if_neg (fun hc=>by have:=hc.2.1;simp only at this;rw [hq] at this;cases this)
  subst hr0
  refine aSv hv2 (Z2 ck cn) 31 (true) ?_
  refine aO rfl (fun h=>aN ?_) (fun h=>?_)
  rotate_left
  ·cases h
  refine u_5 ?_
  exact u_8 @aB.eq_1
 |true=>
 cases v with
 |false=>
  have hr0:r=none:=by rw [<-hr];exact if_neg (fun hc=>by have:=hc.2.2.1;simp only at this;rw [decide_eq_false_iff_not] at hv;exact hv this)
  subst hr0
  refine aSv hv2 (Z2 ck cn) 31 (true) ?_
  refine aO rfl (fun h=>aN ?_) (fun h=>?_)
  rotate_left
  ·cases h
  refine u_5 ?_
  exact u_8 @aB.eq_1
 |true=>
  have hal:a.length<=2000:=of_decide_eq_true hv
  have ct:=aEc k n a hp hq (by omega)
  have cm:=aER k n a hp hq (by omega)
  have hind:=aZ (uR k n a)
  have hor:aEC k (xB.mk n a t)=if aFs k n a=t then some (uR k n a) else none:=by
   unfold aEC
   simp only [hp,hq,true_and]
   by_cases ht:aFs k n a=t
   ·rw [if_pos ht,if_pos ⟨hal,ht⟩]
   ·rw [if_neg ht,if_neg (fun hc=>ht hc.2)]
  rw [hor] at hr
  generalize aFs k n a=z at ct hr
  generalize uR k n a=m at cm hr hind
  obtain ⟨u,hu⟩:∃ u,(z != t)=u:=⟨_,rfl⟩
  refine aSv (Y2 hv2 hu) (Z3 ck cn ct) 31 (u) ?_
  refine aO rfl (fun h=>aN ?_) (fun h=>aQ ?_)
  ·rw [if_neg (by rw [h] at hu;simpa using hu)] at hr
   subst hr
   refine u_5 ?_
   exact u_8 @aB.eq_1
  rw [if_pos (by rw [h] at hu;simpa using hu)] at hr
  subst hr
  refine oK (Z1 cm) ?_
  exact u_7
theorem aHH (k n:Int) (a:List UInt8) (hk:lT k=true) (hn:lT n=true) (ha:a.length<=2000):aC PP GG 208 [.d (.int .i64 k),.d (.int .i64 n),.d (.slc 1 (aB a))] (.tup [.agg (yB k n a).o,.d (.bool true)]) [none,none,none]:=by
 refine cv Tryz.func208 [.agg (yB k n a).o,.d (.bool true)] ?_
 have ck:=iI k
 have cn:=iI n
 rw [hk] at ck
 rw [hn] at cn
 have hv2:decide (2000<(a.length:Int))=false:=decide_eq_false (by omega)
 have cm:=aER k n a hk hn ha
 have ct:=aEc k n (uR k n a) hk hn (by rw [aBv];exact ha)
 have hind:=aZ (uR k n a)
 simp only [yB]
 generalize aFs k n (uR k n a)=z at ct ⊢
 generalize uR k n a=m at cm ct hind ⊢
 refine u_1 ?_
 refine aP6 hv2 (Z2 ck cn) 21 (false) ?_
 refine aO rfl (fun h=>?_) (fun h=>aQ ?_)
 ·cases h
 refine oK (Z1 cm) ?_
 refine oK (Z1 ct) ?_
 exact u_7
theorem nU (w:dK) (hw:w.cost<=1048576):aC PP GG 214 [.agg w.c] (.agg w.o) [none]:=by
 refine cv Tryz.func214 [.agg w.o] ?_
 have h1:w.cost=w.cY.length+w.oW.cost:=rfl
 have h2:w.oW.cost=w.oW.dI.length:=rfl
 have cb:=jH w.oW.dI (by omega)
 have hind:=aZ w.oW.dI
 refine u_1 ?_
 refine oK (Z1 cb) ?_
 refine u_1 ?_
 exact u_7
theorem uK (l:List dK) (x:dK):jA (l++[x])=jA l++[x.row]:=by simp [jA]
theorem zD (r:dZ) (hc:r.cost<=1048576):aC PP GG 207 [.agg r.c] (.agg r.o) [none]:=by
 refine cv Tryz.func207 [.agg r.o] ?_
 obtain ⟨f,k,l⟩:=r
 have hco:(dZ.mk f k l).cost=l.length+dF dK.cost l:=rfl
 refine u_1 ?_
 refine u_1 ?_
 refine u_3 ?_
 refine aU (bH (fun n st=>∃ (i:Nat) (w:List dK),n=l.length-i/\i<=l.length/\w=l.take i ∧
  ((i=0/\st=⟨[],[(1,.ptr 0 0),(2,.ptr 1 0),(3,.ptr 2 0),(4,.d (.int .i64 0))],[(0,.box [.d (.int .i64 f),.d (.int .i64 k),.d (.slc 6 (jA l))]),(1,.box [.d (.int .i64 0),.d (.int .i64 0),.nil 1 6]),(2,.box [.d (.int .i64 f),.d (.int .i64 k),.nil 1 6])],3⟩) ∨
   st=⟨[],[(1,.ptr 0 0),(2,.ptr 1 0),(3,.ptr 2 0),(4,.d (.int .i64 i))],[(0,.box [.d (.int .i64 f),.d (.int .i64 k),.d (.slc 6 (jA l))]),(1,.box [.d (.int .i64 0),.d (.int .i64 0),.nil 1 6]),(2,.box [.d (.int .i64 f),.d (.int .i64 k),.sl 3]),(3,.arr 0 1 6 (jA w))],4⟩)) _ ⟨0,[],rfl,by omega,rfl,.inl ⟨rfl,rfl⟩⟩ ?_)
 rintro n st ⟨i,w,rfl,hi,hw,⟨rfl,rfl⟩|rfl⟩
 ·refine u_3 ?_
  refine aO rfl (fun h=>aQ ?_) (fun h=>cR ?_)
  ·simp at h
   have ha:=List.getElem?_eq_getElem h
   generalize l[0]=x at ha
   have hg:=mI (f:=dK.cost) ha
   have cw:=nU x (by omega)
   refine aN (aU ?_)
   refine aP5 (Y2 ha @aM.eq_1) (Z1 cw) ?_
   refine u_5 ?_
   refine ⟨l.length-(0+1),by omega,0+1,[x],rfl,h,by rw [List.take_add_one,ha];rfl,.inr ?_⟩
   simp [gc,bP,cI,gcV,gcO,dS,cU,eH,aY,bR,bU,dU,jA]
   exact aA (by omega) (by omega)
  ·simp at h
   have hnil:l=[]:=by first|exact h|exact List.length_eq_zero_iff.1 (by omega)
   rw [if_pos rfl]
   refine u_1 ?_
   exact u_8 (Y2 hnil @jA.eq_1)
 ·refine u_3 ?_
  refine aO rfl (fun h=>aQ ?_) (fun h=>cR ?_)
  ·simp at h
   have ha:=List.getElem?_eq_getElem h
   generalize l[i]=x at ha
   have hg:=mI (f:=dK.cost) ha
   have cw:=nU x (by omega)
   have hwl:w.length<=l.length:=by rw [hw,List.length_take];omega
   have hs:w++[x]=l.take (i+1):=by rw [hw,List.take_add_one,ha];rfl
   refine aN (aU ?_)
   refine aP5 (Y2 ha @aM.eq_1) (Z1 cw) ?_
   refine u_5 ?_
   refine ⟨l.length-(i+1),by omega,i+1,w++[x],rfl,h,hs,.inr ?_⟩
   rw [uK]
   simp [gc,bP,cI,gcV,gcO,dS,cU,eH,aY,bR,bU,dU]
   exact aA (by omega) (by omega)
  ·simp at h
   rw [List.take_of_length_le h] at hw
   subst hw
   rw [if_pos rfl]
   refine u_1 ?_
   exact u_7
theorem xK (l:List dK):∀ row,row∈jA l->∀ d,d∈row->oB 1 d:=by
 intro row hr d hd
 simp only [jA,List.mem_map] at hr
 obtain ⟨x,_,rfl⟩:=hr
 simp only [dK.row,List.mem_cons,List.not_mem_nil,or_false] at hd
 rcases hd with rfl|rfl|rfl|rfl|rfl|rfl
 ·trivial
 ·trivial
 ·trivial
 ·trivial
 ·exact aZ x.oW.dI
 ·trivial
theorem aQC {r:dZ} (h:lE r=true):lT r.jK=true/\inB r.bJ 1 1000000000=true:=by
 simp only [lE,Bool.and_eq_true] at h;exact ⟨h.1.1.1,h.1.1.2⟩
def aBo (r:dZ) (kind plain:List UInt8) (now ttl:Int):Bool:=lE r && gO kind && decide (plain.length<=2000) && inB now 0 1000000000 && inB ttl 1 1000000000 && decide (now+ttl<=1000000000) && !(r.bJ==1000000000)
def aDS (r:dZ) (kind plain:List UInt8) (now ttl:Int):dZ:={ jK:=r.jK,bJ:=r.bJ+1,cS:=r.cS++[{ bZ:=r.bJ,bS:=now+ttl,cY:=kind,oW:=yB r.jK r.bJ plain }] }
def aDF (r:dZ) (kind plain:List UInt8) (now ttl:Int):dZ:=if aBo r kind plain now ttl=true/\r.cS.length≠60 then aDS r kind plain now ttl else r
def aKV (r:dZ) (kind plain:List UInt8) (now ttl:Int):Int:=if aBo r kind plain now ttl=true/\r.cS.length≠60 then r.bJ else 0
def aKW (r:dZ) (kind plain:List UInt8) (now ttl:Int):Int:=if aBo r kind plain now ttl=true then (if r.cS.length=60 then 5 else 0) else 1
theorem aOO (r:dZ) (kind plain:List UInt8) (now ttl:Int):
  (aBo r kind plain now ttl=false->aDF r kind plain now ttl=r/\aKV r kind plain now ttl=0/\aKW r kind plain now ttl=1) ∧
  (aBo r kind plain now ttl=true->r.cS.length=60->aDF r kind plain now ttl=r/\aKV r kind plain now ttl=0/\aKW r kind plain now ttl=5) ∧
  (aBo r kind plain now ttl=true->r.cS.length≠60->aDF r kind plain now ttl=aDS r kind plain now ttl/\aKV r kind plain now ttl=r.bJ/\aKW r kind plain now ttl=0):=by
 unfold aDF aKV aKW
 refine ⟨fun h=>?_,fun h h2=>?_,fun h h2=>?_⟩
 ·simp [h]
 ·simp [h,h2]
 ·simp [h,h2]
theorem aU1 {r:dZ} {kind plain:List UInt8} {now ttl s:Int} {p1 p2 p3 p4 p5 p6 p7:Bool} (h1:lE r=p1) (h2:gO kind=p2) (h3:decide (plain.length<=2000)=p3) (h4:inB now 0 1000000000=p4) (h5:inB ttl 1 1000000000=p5)
  (hs:IntKind.i64.wrap (now+ttl)=s) (h6:decide (s<=1000000000)=p6) (h7:(r.bJ==1000000000)=!p7):aBo r kind plain now ttl=(p1 && p2 && p3 && p4 && p5 && p6 && p7)/\(p4=true->p5=true->s=now+ttl):=by
 have hsv:p4=true->p5=true->s=now+ttl:=by
  intro e4 e5
  have a:=cD (h4.trans e4)
  have b:=cD (h5.trans e5)
  rw [<-hs,aA (by omega) (by omega)]
 refine ⟨?_,hsv⟩
 unfold aBo
 rw [h1,h2,h3,h4,h5,h7]
 cases p4 with
 |false=>simp
 |true=>
  cases p5 with
  |false=>simp
  |true=>rw [<-h6,hsv rfl rfl];simp
theorem aQG (r:dZ) (kind plain:List UInt8) (now ttl:Int):(aDF r kind plain now ttl).cost<=r.cost+1+kind.length+plain.length:=by
 unfold aDF
 split
 ·have h1:(aDS r kind plain now ttl).cost=(r.cS++[({ bZ:=r.bJ,bS:=now+ttl,cY:=kind,oW:=yB r.jK r.bJ plain }:dK)]).length+dF dK.cost (r.cS++[({ bZ:=r.bJ,bS:=now+ttl,cY:=kind,oW:=yB r.jK r.bJ plain }:dK)]):=rfl
  have h2:r.cost=r.cS.length+dF dK.cost r.cS:=rfl
  have h3:(dK.mk r.bJ (now+ttl) kind (yB r.jK r.bJ plain)).cost=kind.length+(uR r.jK r.bJ plain).length:=rfl
  rw [aBv] at h3
  rw [h1,aA8,List.length_append]
  simp only [dF,List.length_cons,List.length_nil]
  omega
 ·omega
theorem aQS {x:Int} (h:inB x 1 1000000000=true):lT x=true:=by
 have:=cD h
 unfold lT inB
 simp
 omega
theorem aHK (r:dZ) (kind plain:List UInt8) (now ttl:Int) (hc:r.cost<=1048576) (hkl:kind.length<=1048576) (hpl:plain.length<=1048576):aC PP GG 164 [.agg r.c,.d (.str kind),.d (.slc 1 (aB plain)),.d (.int .i64 now),.d (.int .i64 ttl)] (.tup [.agg (aDF r kind plain now ttl).o,.d (.int .i64 (aKV r kind plain now ttl)),.d (.int .i64 (aKW r kind plain now ttl))]) [none,none,none,none,none]:=by
 refine cv Tryz.func164 [.agg (aDF r kind plain now ttl).o,.d (.int .i64 (aKV r kind plain now ttl)),.d (.int .i64 (aKW r kind plain now ttl))] ?_
 have cr:=vY r hc
 have hpc:=aOO r kind plain now ttl
 have cp:=gF kind (by omega)
 have c4:aC PP GG 20 [.d (.int .i64 now),.d (.int .i64 0),.d (.int .i64 1000000000)] (.d (.bool (inB now 0 1000000000))) [none,none,none]:=bD _ _ _
 have c5:aC PP GG 20 [.d (.int .i64 ttl),.d (.int .i64 1),.d (.int .i64 1000000000)] (.d (.bool (inB ttl 1 1000000000))) [none,none,none]:=bD _ _ _
 have cc:=zD r hc
 have hrk:=aQC (r:=r)
 obtain ⟨s,hs⟩:∃ s,IntKind.i64.wrap (now+ttl)=s:=⟨_,rfl⟩
 obtain ⟨p1,e1⟩:∃ p,lE r=p:=⟨_,rfl⟩
 obtain ⟨p2,e2⟩:∃ p,gO kind=p:=⟨_,rfl⟩
 obtain ⟨p3,e3⟩:∃ p,decide (plain.length<=2000)=p:=⟨_,rfl⟩
 obtain ⟨p4,e4⟩:∃ p,inB now 0 1000000000=p:=⟨_,rfl⟩
 obtain ⟨p5,e5⟩:∃ p,inB ttl 1 1000000000=p:=⟨_,rfl⟩
 obtain ⟨p6,e6⟩:∃ p,decide (s<=1000000000)=p:=⟨_,rfl⟩
 obtain ⟨p7,e7⟩:∃ p,(r.bJ==1000000000)=!p:=⟨!(r.bJ==1000000000),by simp⟩
 have e3':decide (2000<(plain.length:Int))=!p3:=by rw [<-e3,<-decide_not];exact decide_eq_decide.2 (by omega)
 have e6':decide (1000000000<s)=!p6:=by rw [<-e6,<-decide_not];exact decide_eq_decide.2 (by omega)
 obtain ⟨hok,hsv⟩:=aU1 (r:=r) (kind:=kind) (plain:=plain) e1 e2 e3 e4 e5 hs e6 e7
 have hco:r.cost=r.cS.length+dF dK.cost r.cS:=rfl
 rw [e2] at cp
 rw [e4] at c4
 rw [e5] at c5
 generalize aDF r kind plain now ttl=g at hpc ⊢
 generalize aKV r kind plain now ttl=vi at hpc ⊢
 generalize aKW r kind plain now ttl=vc at hpc ⊢
 rw [e1] at cr
 refine u_1 ?_
 refine aP6 (Y4 e3' hs e6' e7) (Z4 cr cp c4 c5) 49 (!(p1 && p2 && p3 && p4 && p5 && p6 && p7)) ?_
 refine aO rfl (fun h=>aN ?_) (fun h=>aQ ?_)
 ·obtain ⟨rfl,rfl,rfl⟩:=hpc.1 (by rw [hok];revert h;generalize (p1 && p2 && p3 && p4 && p5 && p6 && p7)=q;cases q<;>simp)
  refine aSu (Z1 cc) ?_
  exact u_7
 rw [h]
 have hall:(p1 && p2 && p3 && p4 && p5 && p6 && p7)=true:=by revert h;generalize (p1 && p2 && p3 && p4 && p5 && p6 && p7)=q;cases q<;>simp
 have hparts:p1=true/\p3=true/\p4=true/\p5=true:=by revert hall;cases p1<;>cases p3<;>cases p4<;>cases p5<;>simp
 have hse:=hsv hparts.2.2.1 hparts.2.2.2
 subst hse
 obtain ⟨kk,kn⟩:=hrk (by rw [e1];exact hparts.1)
 have hpl2:plain.length<=2000:=of_decide_eq_true (e3.trans hparts.2.1)
 have hnr:=cD kn
 have csl:=aHH r.jK r.bJ plain kk (aQS kn) hpl2
 have hwn:IntKind.i64.wrap (r.bJ+1)=r.bJ+1:=aA (by omega) (by omega)
 have hindp:=aZ (yB r.jK r.bJ plain).dI
 refine aN (aN (?_))
 obtain ⟨z,hz⟩:∃ z,((r.cS.length:Int)==60)=z:=⟨_,rfl⟩
 refine aSw hz 55 (z) ?_
 refine aO rfl (fun h3=>aN ?_) (fun h3=>aQ ?_)
 ·obtain ⟨rfl,rfl,rfl⟩:=hpc.2.1 (by rw [hok];exact hall) (by rw [h3] at hz;simp at hz;omega)
  refine aSu (Z1 cc) ?_
  exact u_7
 obtain ⟨rfl,rfl,rfl⟩:=hpc.2.2 (by rw [hok];exact hall) (by rw [h3] at hz;simp at hz;omega)
 simp only [aDS]
 generalize yB r.jK r.bJ plain=sb at csl hindp ⊢
 refine oK (Z1 cc) ?_
 refine oK (Z1 csl) ?_
 refine u_6 (Y2 hs @aM.eq_1) ?_
 refine u_6 hwn ?_
 refine aN (?_)
 apply aA3
 ·intro K hK
  simp
  repeat' (first|with_reducible exact hK|(with_reducible refine aJ (fun _=>?_) (fun _=>?_)<;>simp)|with_reducible refine And.intro ?_ ?_|with_reducible exact aL rfl|with_reducible assumption|omega)
 exact u_8 @uK
def wL (id:Int) (l:List dK):List dK:=l.filter fun x=>!(x.bZ==id)
def aC9 (r:dZ) (id:Int):dZ:={ jK:=r.jK,bJ:=r.bJ,cS:=wL id r.cS }
def tI (r:dZ) (id now:Int):dZ×List UInt8×Int:=
 if lE r=false\/inB now 0 1000000000=false then (r,[],1) else
 match r.cS.find? (fun x=>x.bZ==id) with
 |none=>(r,[],2)
 |some x=>if x.bS<=now then (aC9 r id,[],3) else
  match aEC r.jK x.oW with
  |none=>(aC9 r id,[],4)
  |some o=>(aC9 r id,o,0)
theorem aPp {α:Type} (p:α->Bool) (l:List α):(aIi p l=-1/\l.find? p=none)\/∃ (i:Nat) (x:α),aIi p l=i/\l[i]?=some x/\p x=true/\l.find? p=some x:=by
 unfold aIi
 cases h:l.findIdx? p with
 |none=>
  refine .inl ⟨rfl,?_⟩
  rw [List.find?_eq_none]
  intro x hx
  have:=List.findIdx?_eq_none_iff.1 h x hx
  simp [this]
 |some i=>
  obtain ⟨h1,h2,h3⟩:=List.findIdx?_eq_some_iff_getElem.1 h
  refine .inr ⟨i,l[i],rfl,List.getElem?_eq_getElem h1,h2,?_⟩
  rw [List.find?_eq_some_iff_getElem]
  exact ⟨h2,i,h1,rfl,fun j hj=>by simpa using h3 j hj⟩
theorem aEK (id:Int) (l:List dK):(wL id l).length<=l.length/\dF dK.cost (wL id l)<=dF dK.cost l:=by
 unfold wL
 induction l with
 |nil=>simp
 |cons x l ih=>
  simp only [List.filter_cons]
  split
  ·simp only [dF,List.length_cons];omega
  ·simp only [dF,List.length_cons];omega
theorem aMK {id:Int} {l:List dK} {i:Nat} {x:dK} (h:l[i]?=some x):wL id (l.take (i+1))=if x.bZ=id then wL id (l.take i) else wL id (l.take i)++[x]:=by
 unfold wL
 rw [List.take_add_one,h]
 by_cases e:x.bZ=id<;>simp [List.filter_append,e]
theorem aMP (r:dZ) (id:Int) (hc:r.cost<=1048576):aC PP GG 210 [.agg r.c,.d (.int .i64 id)] (.agg (aC9 r id).o) [none,none]:=by
 refine cv Tryz.func210 [.agg (aC9 r id).o] ?_
 obtain ⟨f,k,l⟩:=r
 have hco:(dZ.mk f k l).cost=l.length+dF dK.cost l:=rfl
 refine u_1 ?_
 refine u_1 ?_
 refine u_3 ?_
 refine kX 5 2 rfl rfl rfl ?_
 refine aU (bH (fun n st=>∃ (i:Nat) (w:List dK),n=l.length-i/\i<=l.length/\w=wL id (l.take i) ∧
   st=⟨[],[(1,.d (.int .i64 id)),(2,.ptr 0 0),(4,.ptr 1 0),(5,.ptr 2 0),(6,.d (.int .i64 i))],[(0,.box [.d (.int .i64 f),.d (.int .i64 k),.d (.slc 6 (jA l))]),(1,.box [.d (.int .i64 0),.d (.int .i64 0),.nil 1 6]),(2,.box [.d (.int .i64 f),.d (.int .i64 k),.sl 3]),(3,.arr 0 1 6 (jA w))],4⟩) _ ⟨0,[],rfl,by omega,rfl,rfl⟩ ?_)
 rintro n st ⟨i,w,rfl,hi,hw,rfl⟩
 refine u_3 ?_
 refine aO rfl (fun h=>aQ ?_) (fun h=>cR ?_)
 ·simp at h
  have ha:=List.getElem?_eq_getElem h
  generalize l[i]=x at ha
  have hg:=mI (f:=dK.cost) ha
  have cw:=nU x (by omega)
  have hs:=aMK (id:=id) ha
  have hwl:w.length<=l.length:=by rw [hw];have:=(aEK id (l.take i)).1;rw [List.length_take] at this;omega
  rw [<-hw] at hs
  refine aN (aU (aN ?_))
  refine u_2 ha ?_
  refine aO rfl (fun h2=>?_) (fun h2=>aQ ?_)
  ·have h3:¬x.bZ=id:=by simpa using h2
   rw [if_neg h3] at hs
   refine aP5 (Y2 ha @aM.eq_1) (Z1 cw) ?_
   refine u_5 ?_
   refine ⟨l.length-(i+1),by omega,i+1,w++[x],rfl,h,hs.symm,?_⟩
   rw [uK]
   simp [gc,bP,cI,gcV,gcO,dS,cU,eH,aY,bR,bU,dU]
   exact aA (by omega) (by omega)
  ·have h3:x.bZ=id:=by simpa using h2
   rw [if_pos h3] at hs
   refine u_5 ?_
   refine ⟨l.length-(i+1),by omega,i+1,w,rfl,h,hs.symm,?_⟩
   simp [gc,bP,cI,gcV,gcO,dS,cU,eH,aY,bR,bU,dU]
   exact aA (by omega) (by omega)
 ·simp at h
  rw [List.take_of_length_le h] at hw
  subst hw
  rw [if_pos rfl]
  refine u_1 ?_
  exact u_8 @aC9.eq_1
theorem aFE (r:dZ) (id now:Int) (hc:r.cost<=1048576):aC PP GG 165 [.agg r.c,.d (.int .i64 id),.d (.int .i64 now)] (.tup [.agg (tI r id now).1.o,.own 0 1 (aB (tI r id now).2.1),.d (.int .i64 (tI r id now).2.2)]) [none,none,none]:=by
 refine cv Tryz.func165 [.agg (tI r id now).1.o,.own 0 1 (aB (tI r id now).2.1),.d (.int .i64 (tI r id now).2.2)] ?_
 have cr:=vY r hc
 have cn:aC PP GG 20 [.d (.int .i64 now),.d (.int .i64 0),.d (.int .i64 1000000000)] (.d (.bool (inB now 0 1000000000))) [none,none,none]:=bD _ _ _
 have ca:=aMg r id hc
 have cc:=zD r hc
 have cl:=aMP r id hc
 obtain ⟨t,ht⟩:∃ t,tI r id now=t:=⟨_,rfl⟩
 rw [ht]
 unfold tI at ht
 generalize lE r=b at cr ht
 generalize inB now 0 1000000000=b2 at cn ht
 have hco:r.cost=r.cS.length+dF dK.cost r.cS:=rfl
 rcases aPp (fun x:dK=>x.bZ==id) r.cS with ⟨e1,e2⟩|⟨i,x,e1,e2,e3,e4⟩
 ·rw [e1] at ca
  rw [e2] at ht
  simp only at ht
  subst ht
  repeat' (first|refine aN ?_|refine aQ ?_|refine aU ?_|(refine cR ?_;first|refine aW rfl ?_|(refine bB rfl ?_;first|refine aW rfl ?_|(refine bB rfl ?_;refine aW rfl ?_)))|(refine iX fun K hK=>?_;simp)|(refine fS fun K hK=>?_;simp)|(with_reducible refine hK _ ?_;clear hK K)|(with_reducible refine aF (cr) ?_;simp)|(with_reducible refine aF (cn) ?_;simp)|(with_reducible refine aF (ca) ?_;simp)|(with_reducible refine aF (cc) ?_;simp)|(with_reducible refine aJ (fun h=>?_) (fun h=>?_)<;>first|(exfalso;simp at h;done)|(exfalso;simp at h;omega)|(exfalso;simp at h;contradiction)|((try simp at h);simp))|with_reducible refine And.intro ?_ ?_|with_reducible exact aL rfl|with_reducible assumption|(refine aO rfl (fun h=>?_) (fun h=>?_)<;>first|(exfalso;simp at h;done)|(exfalso;simp at h;omega)|(exfalso;simp at h;contradiction)|(exfalso;simp_all;done)|(try simp at h))|(refine kI ?_;simp [Fin])|omega)
  all_goals (first|(simp_all [aB];done)|((repeat' split)<;>first|omega|(simp_all [aB];done)))
 ·rw [e1] at ca
  rw [e4] at ht
  simp only at ht
  subst ht
  have hg:=mI (f:=dK.cost) e2
  have hcx:x.cost=x.cY.length+x.oW.cost:=rfl
  have hlt:=(List.getElem?_eq_some_iff.1 e2).1
  have co:=aHL r.jK x.oW _ rfl (by omega)
  have hol:=@aOU r.jK x.oW
  generalize aEC r.jK x.oW=q at co hol ⊢
  cases q<;>(simp only [Option.getD_none,Option.getD_some,Option.isSome_none,Option.isSome_some] at co)
  ·repeat' (first|refine aN ?_|refine aQ ?_|refine aU ?_|(refine cR ?_;first|refine aW rfl ?_|(refine bB rfl ?_;first|refine aW rfl ?_|(refine bB rfl ?_;refine aW rfl ?_)))|(refine iX fun K hK=>?_;simp [e2])|(refine fS fun K hK=>?_;simp [e2])|(with_reducible refine hK _ ?_;clear hK K)|(with_reducible refine aF (cr) ?_;simp [e2])|(with_reducible refine aF (cn) ?_;simp [e2])|(with_reducible refine aF (ca) ?_;simp [e2])|(with_reducible refine aF (cl) ?_;simp [e2])|(with_reducible refine aF (co) ?_;simp [e2])|(with_reducible refine aF (cc) ?_;simp [e2])|(with_reducible refine aJ (fun h=>?_) (fun h=>?_)<;>first|(exfalso;simp at h;done)|(exfalso;simp at h;omega)|(exfalso;simp at h;contradiction)|((try simp at h);simp [e2]))|with_reducible refine And.intro ?_ ?_|with_reducible exact aL rfl|with_reducible assumption|(refine aO rfl (fun h=>?_) (fun h=>?_)<;>first|(exfalso;simp at h;done)|(exfalso;simp at h;omega)|(exfalso;simp at h;contradiction)|(exfalso;simp_all;done)|(try simp at h))|(refine kI ?_;simp [Fin,e2])|omega)
   all_goals (first|(simp_all [aB];done)|((repeat' split)<;>first|omega|(simp_all [aB];done)))
  ·rename_i o
   have hio:=aZ o
   repeat' (first|refine aN ?_|refine aQ ?_|refine aU ?_|(refine cR ?_;first|refine aW rfl ?_|(refine bB rfl ?_;first|refine aW rfl ?_|(refine bB rfl ?_;refine aW rfl ?_)))|(refine iX fun K hK=>?_;simp [e2])|(refine fS fun K hK=>?_;simp [e2])|(with_reducible refine hK _ ?_;clear hK K)|(with_reducible refine aF (cr) ?_;simp [e2])|(with_reducible refine aF (cn) ?_;simp [e2])|(with_reducible refine aF (ca) ?_;simp [e2])|(with_reducible refine aF (cl) ?_;simp [e2])|(with_reducible refine aF (co) ?_;simp [e2])|(with_reducible refine aF (cc) ?_;simp [e2])|(with_reducible refine aJ (fun h=>?_) (fun h=>?_)<;>first|(exfalso;simp at h;done)|(exfalso;simp at h;omega)|(exfalso;simp at h;contradiction)|((try simp at h);simp [e2]))|with_reducible refine And.intro ?_ ?_|with_reducible exact aL rfl|with_reducible assumption|(refine aO rfl (fun h=>?_) (fun h=>?_)<;>first|(exfalso;simp at h;done)|(exfalso;simp at h;omega)|(exfalso;simp at h;contradiction)|(exfalso;simp_all;done)|(try simp at h))|(refine kI ?_;simp [Fin,e2])|omega)
   all_goals (first|(simp_all [aB];done)|((repeat' split)<;>first|omega|(simp_all [aB];done)))
theorem aO6 (r:dZ) (id:Int):(aC9 r id).cost<=r.cost:=by
 have:=aEK id r.cS
 show (wL id r.cS).length+dF dK.cost (wL id r.cS)<=r.cS.length+dF dK.cost r.cS
 omega
theorem aMx (r:dZ) (id now:Int):(tI r id now).1.cost<=r.cost:=by
 have:=aO6 r id
 unfold tI
 split
 ·exact Nat.le_refl _
 ·split
  ·exact Nat.le_refl _
  ·split
   ·exact this
   ·split<;>exact this
def aDu (b:UInt8):Bool:=decide (33<=b.toNat) && decide (b.toNat<=126)
def fK (w:List UInt8):Bool:=w.all aDu && inB w.length 1 100
theorem aHG (w:List UInt8) (hw:w.length<=1048576):aC PP GG 36 [.d (.str w)] (.d (.bool (fK w))) [none]:=by
 refine cv Tryz.func36 [.d (.bool (fK w))] ?_
 have ci:aC PP GG 20 [.d (.int .i64 w.length),.d (.int .i64 1),.d (.int .i64 100)] (.d (.bool (inB w.length 1 100))) [none,none,none]:=bD _ _ _
 refine jJ ?_
 refine bH (fun n st=>∃ i:Nat,n=w.length-i/\i<=w.length/\(∀ b,b∈w.take i->aDu b=true)/\st=⟨[],[(0,.d (.str w)),(3,.d (.int .i64 i))],[],0⟩) _ ⟨0,rfl,by omega,fun b h=>by simp at h,rfl⟩ ?_
 rintro n st ⟨i,rfl,hi,hn,rfl⟩
 by_cases hlt:i<w.length
 ·have ha:=List.getElem?_eq_getElem hlt
  generalize w[i]=x at ha
  have hx:w.getD i 0=x:=by rw [List.getD_eq_getElem?_getD,ha];rfl
  have hxm:=List.mem_of_getElem? ha
  rcases (show (x.toNat<33\/126<x.toNat)\/(33<=x.toNat/\x.toNat<=126) by omega) with hv|hv
  ·have:fK w=false:=by unfold fK;rw [List.all_eq_false.2 ⟨x,hxm,by unfold aDu;simp;omega⟩];rfl
   rw [this]
   rcases hv with hv|hv
   ·exact fC ha
   ·exact fC ha
  ·refine eT ha ?_
   refine ⟨w.length-(i+1),by omega,i+1,rfl,hlt,kO ha hn (by unfold aDu;simp;omega),?_⟩
   refine kN ?_
   exact aA (by omega) (by omega)
 ·rw [List.take_of_length_le (by omega)] at hn
  have hw2:fK w=inB w.length 1 100:=by unfold fK;rw [List.all_eq_true.2 hn];simp
  exact dO hw2 (Z1 ci)
theorem aLC (a b:List UInt8):∀ acc,Lib.decFrom acc (a++b)=(Lib.decFrom acc a).bind fun n=>Lib.decFrom n b:=by
 induction a with
 |nil=>intro acc;rfl
 |cons x a ih=>
  intro acc
  simp only [List.cons_append,Lib.decFrom]
  cases Lib.digitVal x with
  |none=>rfl
  |some d=>exact ih _
theorem aBL {d:Nat} (h:d<10):Lib.digitVal (UInt8.ofNat (48+d))=some d:=by
 unfold Lib.digitVal
 rw [UInt8.toNat_ofNat',Nat.mod_eq_of_lt (by omega),if_pos (by omega)]
 congr 1;omega
theorem aDq (u:Nat):Lib.decFrom 0 (Lib.decDigits u)=some u:=by
 induction u using Nat.strongRecOn with
 |_ u ih=>
  rw [Lib.decDigits]
  split
  ·rename_i h
   simp only [Lib.decFrom,aBL h]
   simp
  ·rename_i h
   rw [aLC,ih (u / 10) (by omega)]
   simp only [Option.bind_some,Lib.decFrom,aBL (show u % 10<10 by omega)]
   congr 1;omega
theorem aFa (u:Nat):∃ c r,Lib.decDigits u=c::r/\48<=c.toNat/\c.toNat<=57:=by
 induction u using Nat.strongRecOn with
 |_ u ih=>
  rw [Lib.decDigits]
  split
  ·rename_i h
   refine ⟨_,[],rfl,?_,?_⟩<;>rw [UInt8.toNat_ofNat',Nat.mod_eq_of_lt (by omega)]<;>omega
  ·rename_i h
   obtain ⟨c,r,e,h1,h2⟩:=ih (u / 10) (by omega)
   exact ⟨c,r++[UInt8.ofNat (48+u % 10)],by rw [e];rfl,h1,h2⟩
theorem aMD:∀ (k u:Nat),0<k->u<10 ^ k->Lib.nDigits u<=k:=by
 intro k
 induction k with
 |zero=>intro u h;omega
 |succ k ih=>
  intro u _ h
  by_cases hu:u<10
  ·rw [Lib.nDigits_small hu];omega
  ·rw [Lib.nDigits_big hu]
   have hk:0<k:=by
    rcases Nat.eq_zero_or_pos k with rfl|h'
    ·simp at h;omega
    ·exact h'
   have:=ih (u / 10) hk (by rw [Nat.pow_succ] at h;omega)
   omega
def lU (w:List UInt8):List UInt8:=match w with
 |[]=>[]
 |b::r=>if b.toNat=45 then r else w
theorem aNR (n:Int):lU (Lib.itoa n)=Lib.decDigits n.natAbs/\(n<0->Lib.itoa n=45::Lib.decDigits n.natAbs)/\(0<=n->Lib.itoa n=Lib.decDigits n.natAbs):=by
 by_cases h:n<0
 ·have e:Lib.itoa n=45::Lib.decDigits n.natAbs:=by unfold Lib.itoa;rw [if_pos h]
  exact ⟨by rw [e];simp [lU],fun _=>e,fun h'=>by omega⟩
 ·have e:Lib.itoa n=Lib.decDigits n.natAbs:=by unfold Lib.itoa;rw [if_neg h];congr 1;omega
  obtain ⟨c,r,e2,h1,h2⟩:=aFa n.natAbs
  refine ⟨?_,fun h'=>absurd h' h,fun _=>e⟩
  rw [e,e2]
  simp only [lU]
  rw [if_neg (by omega)]
theorem aHl (n:Int):Lib.atoi (Lib.itoa n)=some n:=by
 obtain ⟨_,h1,h2⟩:=aNR n
 have hd:∀ u,Lib.decNat (Lib.decDigits u)=some u:=by
  intro u
  obtain ⟨c,r,e2,_⟩:=aFa u
  unfold Lib.decNat
  rw [if_neg (by rw [e2];simp),aDq]
 by_cases h:n<0
 ·rw [h1 h]
  simp only [Lib.atoi,beq_self_eq_true,if_true,hd,Option.map_some]
  congr 1;omega
 ·rw [h2 (by omega)]
  obtain ⟨c,r,e2,h3,h4⟩:=aFa n.natAbs
  have:=hd n.natAbs
  rw [e2] at this ⊢
  have c1:(c==45)=false:=by simp;intro e;subst e;simp at h3
  have c2:(c==43)=false:=by simp;intro e;subst e;simp at h3
  simp only [Lib.atoi,c1,c2,Bool.false_eq_true,if_false,this,Option.map_some]
  congr 1;omega
def jD (w:List UInt8):Option Int:=match Lib.atoi w with
 |some n=>if Lib.itoa n=w/\inB n (-9999999999999) 9999999999999=true then some n else none
 |none=>none
theorem qW {w:List UInt8} {n:Int}:jD w=some n ↔ w=Lib.itoa n/\inB n (-9999999999999) 9999999999999=true:=by
 unfold jD
 constructor
 ·intro h
  split at h
  ·split at h
   ·rename_i m _ hc
    cases h
    exact ⟨hc.1.symm,hc.2⟩
   ·cases h
  ·cases h
 ·rintro ⟨rfl,h⟩
  rw [aHl]
  simp only [h,and_self,if_true]
def tK (w:List UInt8):Int:=if inB (lU w).length 1 13=true then (match Lib.decFrom 0 (lU w) with|some x=>if (lU w).length<w.length then -(x:Int) else x|none=>0) else 0
theorem aCu {w:List UInt8} {n:Int} (h:jD w=some n):1<=(lU w).length/\(lU w).length<=13/\Lib.decFrom 0 (lU w)=some n.natAbs/\((lU w).length<w.length ↔ n<0):=by
 obtain ⟨rfl,hr⟩:=qW.1 h
 have hr:=cD hr
 obtain ⟨e,h1,h2⟩:=aNR n
 rw [e,Lib.decDigits_length]
 refine ⟨Lib.nDigits_pos _,aMD 13 _ (by omega) (by omega),aDq _,?_⟩
 by_cases hn:n<0
 ·rw [h1 hn,List.length_cons,Lib.decDigits_length];omega
 ·rw [h2 (by omega),Lib.decDigits_length];omega
theorem aTh {w:List UInt8} (h:inB ((lU w).length:Int) 1 13=false):jD w=none/\tK w=0:=by
 refine ⟨?_,by unfold tK;rw [h];rfl⟩
 cases hn:jD w with
 |none=>rfl
 |some n=>
  obtain ⟨h1,h2,_⟩:=aCu hn
  unfold inB at h
  simp at h
  omega
theorem aTi {w:List UInt8} (h:Lib.decFrom 0 (lU w)=none):jD w=none/\tK w=0:=by
 refine ⟨?_,by unfold tK;rw [h];split<;>rfl⟩
 cases hn:jD w with
 |none=>rfl
 |some n=>
  obtain ⟨_,_,h3,_⟩:=aCu hn
  rw [h] at h3;cases h3
theorem aK3 {w:List UInt8} {x:Nat} (hl:inB ((lU w).length:Int) 1 13=true) (h:Lib.decFrom 0 (lU w)=some x):
  x<10000000000000/\tK w=(if (lU w).length<w.length then -(x:Int) else x)/\(jD w).isSome=(Lib.itoa (tK w)==w):=by
 have hl':=cD hl
 have hx:x<10000000000000:=by
  have h1:=Lib.decFrom_lt _ _ _ h
  have h2:10 ^ (lU w).length<=10 ^ 13:=Nat.pow_le_pow_right (by omega) (by omega)
  simp at h1;omega
 have e:tK w=(if (lU w).length<w.length then -(x:Int) else x):=by unfold tK;rw [if_pos hl,h]
 refine ⟨hx,e,?_⟩
 have hin:inB (tK w) (-9999999999999) 9999999999999=true:=by
  rw [e];unfold inB;simp only [Bool.and_eq_true,decide_eq_true_eq];split<;>omega
 by_cases hi:Lib.itoa (tK w)=w
 ·have:jD w=some (tK w):=qW.2 ⟨hi.symm,hin⟩
  rw [this,hi];simp
 ·have:(Lib.itoa (tK w)==w)=false:=by simpa using hi
  rw [this]
  cases hn:jD w with
  |none=>rfl
  |some n=>
   exfalso
   obtain ⟨_,_,h3,h4⟩:=aCu hn
   rw [h] at h3
   cases h3
   have:tK w=n:=by
    rw [e]
    by_cases hlt:(lU w).length<w.length
    ·rw [if_pos hlt];have:=h4.1 hlt;omega
    ·rw [if_neg hlt];have:=mt h4.2 hlt;omega
   rw [this] at hi
   exact hi (qW.1 hn).1.symm
theorem rG (w:List UInt8) (hw:w.length<=1048576):aC PP GG 37 [.d (.str w)] (.tup [.d (.int .i64 (tK w)),.d (.bool (jD w).isSome)]) [none]:=by
 refine cv Tryz.func37 [.d (.int .i64 (tK w)),.d (.bool (jD w).isSome)] ?_
 have hdl:(lU w).length<=w.length:=by cases w with|nil=>simp [lU]|cons b r=>simp only [lU];split<;>simp
 refine u_1 ?_
 refine u_1 ?_
 refine qK [0,4] (fun st=>st=⟨[],[(0,.d (.str w)),(4,.d (.str (lU w)))],[],0⟩) ?_ ?_
 ·cases w with
  |nil=>
   refine jJ ?_
   exact gE (Y2 @lU.eq_1 @lU.eq_2)
  |cons b r=>
   by_cases hb:b.toNat=45
   ·have hd:lU (b::r)=r:=by simp only [lU];rw [if_pos hb]
    have hb2:b=45:=by rw [<-UInt8.toNat_inj,hb];rfl
    subst hb2
    refine jJ ?_
    exact gE hd
   ·have hd:lU (b::r)=b::r:=by simp only [lU];rw [if_neg hb]
    have hb2:¬((b.toNat:Int)=45):=by omega
    refine eT (Y2 hb hb2) ?_
    exact gE hd
 rintro st rfl
 have hnl:=@aTh w
 have hnb:=@aTi w
 have hng:=@aK3 w
 generalize lU w=ds at *
 have ci:aC PP GG 20 [.d (.int .i64 ds.length),.d (.int .i64 1),.d (.int .i64 13)] (.d (.bool (inB ds.length 1 13))) [none,none,none]:=bD _ _ _
 cases hin:inB ds.length 1 13 with
 |false=>
  obtain ⟨e1,e2⟩:=hnl hin
  rw [e1,e2]
  rw [hin] at ci
  exact oE (Z1 ci)
 |true=>
 rw [hin] at ci
 have hr:=cD hin
 refine aFq (Z1 ci) ?_
 refine bH (fun n st=>∃ i x:Nat,n=ds.length-i/\i<=ds.length/\Lib.decFrom 0 (ds.take i)=some x/\st=⟨[],[(0,.d (.str w)),(4,.d (.str ds)),(5,.d (.int .i64 x)),(6,.d (.int .i64 i))],[],0⟩) _ ⟨0,0,rfl,by omega,rfl,rfl⟩ ?_
 rintro n st ⟨i,x,rfl,hi,hx,rfl⟩
 have hxb:x<10000000000000:=by
  have h1:=Lib.decFrom_lt _ _ _ hx
  rw [List.length_take] at h1
  have h2:10 ^ (min i ds.length)<=10 ^ 13:=Nat.pow_le_pow_right (by omega) (by omega)
  simp at h1;omega
 by_cases hlt:i<ds.length
 ·have ha:=List.getElem?_eq_getElem hlt
  generalize ds[i]=c at ha
  cases hc:Lib.digitVal c with
  |none=>
   have hbad:Lib.decFrom 0 ds=none:=by
    cases hd:Lib.decFrom 0 ds with
    |none=>rfl
    |some m=>obtain ⟨d,hd⟩:=Lib.digit_of_decFrom _ _ _ hd i c ha;rw [hc] at hd;cases hd
   obtain ⟨e1,e2⟩:=hnb hbad
   rw [e1,e2]
   have:=Lib.digitVal_none hc
   exact fC ha
  |some d=>
   obtain ⟨h1,h2,h3⟩:=Lib.digitVal_eq hc
   have hs:=Lib.decFrom_take ds i 0 x c d hx ha hc
   have hw1:IntKind.i64.wrap (10*(x:Int))=10*x:=aA (by omega) (by omega)
   have hw2:IntKind.i64.wrap (c.toNat:Int)=c.toNat:=aA (by omega) (by omega)
   have hw3:IntKind.i64.wrap (10*(x:Int)+c.toNat)=10*x+c.toNat:=aA (by omega) (by omega)
   have hw4:IntKind.i64.wrap (10*(x:Int)+c.toNat-48)=((x*10+d:Nat):Int):=by rw [aA (by omega) (by omega)];omega
   refine eT (Y5 ha hw1 hw2 hw3 hw4) ?_
   refine ⟨ds.length-(i+1),by omega,i+1,x*10+d,rfl,hlt,hs,?_⟩
   refine kN ?_
   exact aA (by omega) (by omega)
 ·rw [List.take_of_length_le (by omega)] at hx
  obtain ⟨_,e2,e3⟩:=hng hin hx
  have h64:aX (tK w):=by rw [e2];split<;>exact ⟨by omega,by omega⟩
  have cn:=kT (tK w) h64
  have hwn:IntKind.i64.wrap (-(x:Int))=-(x:Int):=aA (by omega) (by omega)
  by_cases hll:ds.length<w.length
  ·rw [if_pos hll] at e2
   rw [e3]
   rw [e2] at cn ⊢
   exact dO hwn (Z1 cn)
  ·rw [if_neg hll] at e2
   rw [e3]
   rw [e2] at cn ⊢
   exact dO hwn (Z1 cn)
def aDs (s:List UInt8):Int:=match Lib.atoiAll s with|.ok v=>v|.range=>Lib.atoiSat s|_=>0
def aHm (s:List UInt8):Bool:=match Lib.atoiAll s with|.ok _=>true|_=>false
theorem aTq {G:GV} {f:FuncId} (s:List UInt8) {r:C} (hgo:aSd PP f)
  (h:∀ (w:World),(∀ b p,G b=some p->∃ ob,w.heap[b]?=some ob/\p ob)->Calls PP f #[.string ⟨s.toArray⟩] w fun e w'=>∃ v,e=.returned v/\Go.RowKit.Below w.heap.size w w'/\∀ Fz,RC w' Fz r v (fun _ _=>False)):aC PP G f [.d (.str s)] r [none]:=by
 refine aBx [.str s] hgo fun w Fz args hG hFz hl hA=>?_
 have e:args=#[.string ⟨s.toArray⟩]:=by
  refine aDY (l:=[.string ⟨s.toArray⟩]) hl fun i v hv=>?_
  match i,hv with
  |0,hv=>cases hv;exact aBb (hA 0 _ rfl)
 subst e
 refine (h w hG).mono ?_
 rintro e w' ⟨v,rfl,hb,hr⟩
 exact ⟨_,Fz,fun _ _=>False,rfl,⟨hb.os,hb.output⟩,hb.size,fun b h=>hb.block b h,fun _ _ h=>h,fun b o h=>⟨.inl h,Nat.lt_of_lt_of_le (hFz b o h) hb.size⟩,hr _,fun _ _ h=>h.elim⟩
theorem aMp {w:World} {Fz:bK} {a b:D} {u v:Value} (ha:Shr w Fz u a) (hb:Shr w Fz v b):RC w Fz (.tup [.d a,.d b]) (.tuple #[u,v]) (fun _ _=>False):=by
 refine .tup _ _ (fun _ _ _=>False) _ rfl (fun m c hm=>?_) (fun _ _ _ _ _ _ _ h=>h.elim) (fun x y=>⟨fun h=>h.elim,fun ⟨_,_,h⟩=>h⟩)
 match m,hm with
 |0,hm=>cases hm;exact .d _ _ _ ha fun _ _ h=>h
 |1,hm=>cases hm;exact .d _ _ _ hb fun _ _ h=>h
theorem aT1 (s:List UInt8) (hs:s.length<=281474976710656):aC PP GG 63 [.d (.str s)] (.tup [.d (.int .i64 (aDs s)),.d (.err (aHm s))]) [none]:=by
 refine aTq s ⟨Tryz.f63,Tryz.func63,by kernel_rfl,by kernel_rfl⟩ fun w hG=>?_
 have cellOf:∀ b p,GG b=some p->p=aBK->∃ ev,w.cell? ⟨b,0,none⟩=some ev/\(ev=.nilIface\/∃ te pe,ev=.iface te pe):=by
  intro b p hb hp
  obtain ⟨ob,h1,h2⟩:=hG b p hb
  subst hp
  cases ob with
  |cells cs t fr=>
   obtain ⟨ev,h3,h4⟩:=h2
   exact ⟨ev,by unfold World.cell?;simp [h1,h3],h4⟩
  |_=>exact h2.elim
 unfold aDs aHm
 cases h:Lib.atoiAll s with
 |ok v=>
  refine (Go.Proofs.YtiejbbcpihpgpaaGreatDoor.Tryz.strconv_Atoi_ok ⟨s.toArray⟩ (by show s.length<=_;omega) v h w).mono ?_
  rintro e w' ⟨rfl,hw⟩
  refine ⟨_,rfl,?_,fun Fz=>aMp (.int _ _) .nilIface⟩
  rcases hw with rfl|⟨t,rfl⟩
  ·exact Go.RowKit.Below.refl _ _
  ·exact Lib.bytesWorld_below w 5 t
 |range=>
  obtain ⟨ev,h1,h2⟩:=cellOf _ _ (ERng.h) rfl
  refine (Go.Proofs.YtiejbbcpihpgpaaGreatDoor.Tryz.strconv_Atoi_range ⟨s.toArray⟩ hs h ev w h1 h2).mono ?_
  rintro e w' ⟨N,rfl,_,_,hb⟩
  exact ⟨_,rfl,hb,fun Fz=>aMp (.int _ _) (.iface _ _)⟩
 |_=>
  obtain ⟨ev,h1,h2⟩:=cellOf _ _ (ESyn.h) rfl
  refine (Go.Proofs.YtiejbbcpihpgpaaGreatDoor.Tryz.strconv_Atoi_bad ⟨s.toArray⟩ hs (fun v e=>by cases h.symm.trans e) (fun e=>by cases h.symm.trans e) ev w h1 h2).mono ?_
  rintro e w' ⟨N,rfl,_,_,hb⟩
  exact ⟨_,rfl,hb,fun Fz=>aMp (.int _ _) (.iface _ _)⟩
theorem aR0 (s:List UInt8):(aHm s=true->aX (aDs s))/\jD s=(if aHm s=true/\Lib.itoa (aDs s)=s/\inB (aDs s) (-9999999999999) 9999999999999=true then some (aDs s) else none):=by
 have key:∀ n,jD s=some n->Lib.atoiAll s=.ok n:=by
  intro n hn
  obtain ⟨h1,h2,h3,h4⟩:=aCu hn
  have hl:s.length<=18:=by
   have:s.length<=(lU s).length+1:=by
    cases s with
    |nil=>simp
    |cons b r=>simp only [lU];split<;>simp
   omega
  rw [Lib.atoiAll_short s hl,(qW.1 hn).1,aHl]
  rfl
 unfold aDs aHm
 cases h:Lib.atoiAll s with
 |ok v=>
  refine ⟨fun _=>Lib.atoiAll_bounds h,?_⟩
  simp only [true_and]
  split
  ·rename_i hc;exact qW.2 ⟨hc.1.symm,hc.2⟩
  ·rename_i hc
   cases hn:jD s with
   |none=>rfl
   |some n=>
    have:=key n hn
    rw [h] at this
    cases this
    obtain ⟨e1,e2⟩:=qW.1 hn
    exact absurd ⟨e1.symm,e2⟩ hc
 |range=>
  refine ⟨fun h=>by simp at h,?_⟩
  simp
  cases hn:jD s with
  |none=>rfl
  |some n=>have:=key n hn;rw [h] at this;cases this
 |_=>
  refine ⟨fun h=>by simp at h,?_⟩
  simp
  cases hn:jD s with
  |none=>rfl
  |some n=>have:=key n hn;rw [h] at this;cases this
theorem yK (s:List UInt8) (hs:s.length<=1048576):aC PP GG 46 [.d (.str s)] (.tup [.d (.int .i64 ((jD s).getD 0)),.d (.bool (jD s).isSome)]) [none]:=by
 refine cv Tryz.func46 [.d (.int .i64 ((jD s).getD 0)),.d (.bool (jD s).isSome)] ?_
 have ca:=aT1 s (by omega)
 obtain ⟨h1,h2⟩:=aR0 s
 rw [h2]
 clear h2
 generalize aDs s=v at *
 cases he:aHm s with
 |false=>
  rw [he] at ca
  simp only [Bool.false_eq_true,false_and,if_false]
  exact oE (Z1 ca)
 |true=>
  rw [he] at ca
  have ci:=aKa v (h1 he)
  have cw:aC PP GG 39 [.d (.int .i64 v),.d (.int .i64 (-9999999999999)),.d (.int .i64 9999999999999)] (.d (.bool (inB v (-9999999999999) 9999999999999))) [none,none,none]:=aCd _ _ _
  simp only [true_and]
  by_cases hi:Lib.itoa v=s
  ·rw [hi] at ci
   simp only [hi,true_and]
   generalize inB v (-9999999999999) 9999999999999=b at cw ⊢
   cases b<;>simp only [if_true,if_false,Bool.false_eq_true]
   ·exact oE (Z3 ca ci cw)
   ·exact oE (Z3 ca ci cw)
  ·simp only [hi,false_and,if_false]
   have hne:(Lib.itoa v==s)=false:=by simpa using hi
   exact dO hne (Z3 ca ci cw)
theorem aFY (w:List UInt8) (hw:w.length<=1048576):aC PP GG 64 [.d (.str w)] (.d (.bool (fK w))) [none]:=by
 refine cv Tryz.func64 [.d (.bool (fK w))] ?_
 have ci:aC PP GG 39 [.d (.int .i64 w.length),.d (.int .i64 1),.d (.int .i64 100)] (.d (.bool (inB w.length 1 100))) [none,none,none]:=aCd _ _ _
 refine jJ ?_
 refine bH (fun n st=>∃ i:Nat,n=w.length-i/\i<=w.length/\(∀ b,b∈w.take i->aDu b=true)/\st=⟨[],[(0,.d (.str w)),(5,.d (.int .i64 w.length)),(6,.d (.int .i64 i))],[],0⟩) _ ⟨0,rfl,by omega,fun b h=>by simp at h,rfl⟩ ?_
 rintro n st ⟨i,rfl,hi,hn,rfl⟩
 by_cases hlt:i<w.length
 ·have ha:=List.getElem?_eq_getElem hlt
  generalize w[i]=x at ha
  have hxm:=List.mem_of_getElem? ha
  repeat' (first|refine aN ?_|refine aQ ?_|refine aU ?_|refine cR ?_|refine aW rfl ?_|refine bB rfl ?_|((first|refine iX fun K hK=>?_|refine fS fun K hK=>?_|refine kI ?_);simp [Fin,ha])|(with_reducible refine hK _ ?_;clear hK K)|(with_reducible refine aJ (fun h=>?_) (fun h=>?_)<;>first|(exfalso;simp at h;first|done|omega|contradiction)|((try simp at h);simp [ha]))|with_reducible refine And.intro ?_ ?_|with_reducible exact aL rfl|with_reducible assumption|(refine aO rfl (fun h=>?_) (fun h=>?_)<;>first|(exfalso;simp at h;first|done|omega|contradiction)|(exfalso;simp_all;done)|(try simp at h))|omega)
  ·have:fK w=false:=by unfold fK;rw [List.all_eq_false.2 ⟨x,hxm,by unfold aDu;simp;omega⟩];rfl
   rw [this]
  ·have:fK w=false:=by unfold fK;rw [List.all_eq_false.2 ⟨x,hxm,by unfold aDu;simp;omega⟩];rfl
   rw [this]
  ·refine ⟨w.length-(i+1),by omega,i+1,rfl,hlt,kO ha hn (by unfold aDu;simp;omega),?_⟩
   refine kN ?_
   exact aA (by omega) (by omega)
 ·rw [List.take_of_length_le (by omega)] at hn
  have hw2:fK w=inB w.length 1 100:=by unfold fK;rw [List.all_eq_true.2 hn];simp
  exact dO hw2 (Z1 ci)
def pU (p:List UInt8):Nat->Int
 |0=>-1
 |k+1=>if ((p.getD k 0).toNat:Int)=61 then (k:Int) else pU p k
theorem aO7 (p:List UInt8):Lib.lastIndexByte ⟨p.toArray⟩ 61=pU p p.length:=by
 have h:∀ k,Lib.lastIdx ⟨p.toArray⟩ 61 k=pU p k:=by
  intro k
  induction k with
  |zero=>rfl
  |succ k ih=>
   simp only [Lib.lastIdx,pU,ih]
   have:((⟨p.toArray⟩:ByteArray).data[k]!)=p.getD k 0:=by
    show p.toArray[k]! = _
    simp [List.getD_eq_getElem?_getD,getElem!_def]
    cases p[k]?<;>rfl
   rw [this]
 exact h _
theorem wM (p:List UInt8):∀ k,k<=p.length->pU p k=-1\/∃ j:Nat,pU p k=j/\j<k/\p[j]?=some 61:=by
 intro k
 induction k with
 |zero=>intro _;exact .inl rfl
 |succ k ih=>
  intro hk
  simp only [pU]
  split
  ·rename_i h
   refine .inr ⟨k,rfl,by omega,?_⟩
   rw [List.getD_eq_getElem?_getD,List.getElem?_eq_getElem (by omega)] at h
   rw [List.getElem?_eq_getElem (by omega)]
   simp only [Option.getD_some] at h
   congr 1
   rw [<-UInt8.toNat_inj]
   show _=61
   omega
  ·rcases ih (by omega) with h|⟨j,h1,h2,h3⟩
   ·exact .inl h
   ·exact .inr ⟨j,h1,by omega,h3⟩
def aBG (p:List UInt8):List UInt8:=p.take (pU p p.length).toNat++[32]++p.drop ((pU p p.length).toNat+1)++[10]
def mO:List (List UInt8)->Option (List UInt8)
 |[]=>some []
 |p::r=>if pU p p.length<0 then none else (mO r).map fun d=>aBG p++d
theorem aKY (a b:List (List UInt8)):mO (a++b)=(mO a).bind fun d=>(mO b).map fun e=>d++e:=by
 induction a with
 |nil=>simp [mO]
 |cons p a ih=>
  simp only [List.cons_append,mO]
  split
  ·rfl
  ·rw [ih]
   cases mO a<;>cases mO b<;>simp
theorem aGM {a:List (List UInt8)} {d:List UInt8} (h:mO a=some d) (p:List UInt8):mO (a++[p])=if pU p p.length<0 then none else some (d++aBG p):=by
 rw [aKY,h]
 simp only [mO,Option.bind_some]
 split<;>simp
theorem aGN {l:List (List UInt8)} {i:Nat} (h:mO (l.take i)=none):mO l=none:=by
 rw [<-List.take_append_drop i l,aKY,h];rfl
theorem aKX {m:Nat}:∀ {a:List (List UInt8)} {d:List UInt8},mO a=some d->(∀ p,p∈a->p.length<=m)->d.length<=a.length*(m+2):=by
 intro a
 induction a with
 |nil=>intro d h _;simp [mO] at h;subst h;simp
 |cons p a ih=>
  intro d h hm
  simp only [mO] at h
  split at h
  ·cases h
  ·cases hp:mO a with
   |none=>rw [hp] at h;cases h
   |some e=>
    rw [hp] at h
    simp only [Option.map_some,Option.some.injEq] at h
    subst h
    have h1:=ih hp fun q hq=>hm q (by simp [hq])
    have h2:=hm p (by simp)
    have h3:(aBG p).length<=p.length+2:=by unfold aBG;simp only [List.length_append,List.length_take,List.length_drop,List.length_cons,List.length_nil];omega
    rw [List.length_append,List.length_cons,Nat.add_mul]
    omega
theorem aCQ (p:List UInt8) (hp:p.length<=1099511627776):aC PP GG 94 [.d (.str p),.d (.int .u8 61)] (.d (.int .i64 (pU p p.length))) [none,none]:=by
 refine aBx [.str p,.int .u8 61] ⟨Tryz.f94,Tryz.func94,by kernel_rfl,by kernel_rfl⟩ fun w Fz args hG hFz hl hA=>?_
 have e:args=#[.string ⟨p.toArray⟩,.int .u8 61]:=by
  refine aDY (l:=[.string ⟨p.toArray⟩,.int .u8 61]) hl fun i v hv=>?_
  match i,hv with
  |0,hv=>cases hv;exact aBb (hA 0 _ rfl)
  |1,hv=>cases hv;exact aSJ (hA 1 _ rfl)
 subst e
 refine (Go.Proofs.YtiejbbcpihpgpaaGreatDoor.Tryz.strings_LastIndexByte ⟨p.toArray⟩ 61 (by show p.length<_;omega) w).mono ?_
 rintro e w' ⟨rfl,rfl⟩
 rw [aO7]
 exact ⟨_,Fz,fun _ _=>False,rfl,⟨rfl,rfl⟩,Nat.le_refl _,fun _ _=>rfl,fun _ _ h=>h,fun b o h=>⟨.inl h,hFz b o h⟩,.d _ _ _ (.int _ _) fun _ _ h=>h,fun _ _ h=>h.elim⟩
theorem aFP (s:List UInt8) (hs:s.length<=1048576):aC PP GG 65 [.d (.str s)] (.tup [.d (.str ((mO (cJ 59 s)).getD [])),.d (.bool (mO (cJ 59 s)).isSome)]) [none]:=by
 refine cv Tryz.func65 [.d (.str ((mO (cJ 59 s)).getD [])),.d (.bool (mO (cJ 59 s)).isSome)] ?_
 have cs:=aLW s 59 (by omega)
 have hcl:=iK 59 s
 have hcm:∀ p,p∈cJ 59 s->p.length<=s.length:=fun p=>kW s
 generalize cJ 59 s=l at *
 refine aFq (Z1 cs) ?_
 refine bH (fun n st=>∃ (i:Nat) (d:List UInt8),n=l.length-i/\i<=l.length/\mO (l.take i)=some d/\st=⟨[],[(4,.d (.str d)),(9,.d (.slc 1 (aK l))),(10,.d (.int .i64 l.length)),(11,.d (.int .i64 i))],[],0⟩) _ ⟨0,[],rfl,by omega,rfl,rfl⟩ ?_
 rintro n st ⟨i,d,rfl,hi,hd,rfl⟩
 by_cases hlt:i<l.length
 ·have ha:=List.getElem?_eq_getElem hlt
  generalize l[i]=p at ha
  have hpl:=hcm p (List.mem_of_getElem? ha)
  have cl:=aCQ p (by omega)
  have hsn:=aGM hd p
  have htk:l.take i++[p]=l.take (i+1):=by rw [List.take_add_one,ha];rfl
  rw [htk] at hsn
  have hdl:=aKX (m:=s.length) hd fun q hq=>hcm q (List.mem_of_mem_take hq)
  have hdl2:(l.take i).length*(s.length+2)<=1048577*1048578:=Nat.mul_le_mul (by rw [List.length_take];omega) (by omega)
  rcases wM p p.length (Nat.le_refl _) with hr|⟨j,hr,hj,_⟩
  ·rw [hr] at cl hsn
   rw [if_pos (by omega)] at hsn
   rw [aGN hsn]
   exact dO ha (Z1 cl)
  ·have hfx:aBG p=p.take j++[32]++p.drop (j+1)++[10]:=by unfold aBG;rw [hr,Int.toNat_natCast]
   rw [hr] at cl hsn
   rw [if_neg (by omega)] at hsn
   have hw1:IntKind.i64.wrap ((j:Int)+1)=(j:Int)+1:=aA (by omega) (by omega)
   have htn:((j:Int)+1).toNat=j+1:=by omega
   refine fV (Y4 ha hw1 htn @dP.eq_1) (Z1 cl) ?_
   refine ⟨l.length-(i+1),by omega,i+1,d++aBG p,rfl,hlt,hsn,?_⟩
   refine kM hfx ?_
   exact aA (by omega) (by omega)
 ·rw [List.take_of_length_le (by omega)] at hd
  rw [hd]
  exact nK
def aHO (s:List UInt8):Option (List UInt8):=if s=[46] then some [] else mO (cJ 59 s)
theorem aQt {p:List UInt8} {j k:Nat} {x:UInt8} (h:p[k]?=some x):(p.set j 32).take (k+1)=(p.set j 32).take k++[if k=j then 32 else x]:=by
 have hk:=(List.getElem?_eq_some_iff.1 h).1
 rw [List.take_add_one]
 congr 1
 rw [List.getElem?_set]
 by_cases e:k=j
 ·subst e;simp [hk]
 ·rw [if_neg (fun h=>e h.symm),if_neg e,h];rfl
theorem aSN {p:List UInt8} {j:Nat} (hj:j<p.length):p.set j 32=p.take j++[32]++p.drop (j+1):=by
 rw [List.set_eq_take_append_cons_drop,if_pos hj];simp
theorem aFu (s:List UInt8) (hs:s.length<=1048576):aC PP GG 38 [.d (.str s)] (.tup [.d (.str ((aHO s).getD [])),.d (.bool (aHO s).isSome)]) [none]:=by
 refine cv Tryz.func38 [.d (.str ((aHO s).getD [])),.d (.bool (aHO s).isSome)] ?_
 have cs:=fP s 59 (by omega)
 change aC PP GG 35 [.d (.str s),.d (.int .u8 59)] _ _ at cs
 have hcl:=iK 59 s
 have hcm:∀ p,p∈cJ 59 s->p.length<=s.length:=fun p=>kW s
 have hr:aHO s=if s=[46] then some [] else mO (cJ 59 s):=rfl
 generalize aHO s=r at hr ⊢
 generalize cJ 59 s=l at *
 by_cases hdot:s=[46]
 ·rw [if_pos hdot] at hr
  subst hr hdot
  exact nK
 rw [if_neg hdot] at hr
 have hne:(s==[46])=false:=by simpa using hdot
 subst hr
 have hind:=cC l
 refine fV hne (Z1 cs) ?_
 refine bH (fun n st=>∃ (i:Nat) (d:List UInt8),n=l.length-i/\i<=l.length/\mO (l.take i)=some d/\st=⟨[],[(4,.sl 0),(5,.sl 1),(6,.d (.int .i64 i))],[(0,.arr 0 0 1 (aB d)),(1,.arr 0 0 1 (aK l))],2⟩) _ ⟨0,[],rfl,by omega,rfl,rfl⟩ ?_
 rintro n st ⟨i,d,rfl,hi,hd,rfl⟩
 by_cases hlt:i<l.length
 ·have ha:=List.getElem?_eq_getElem hlt
  generalize l[i]=p at ha
  have hpl:=hcm p (List.mem_of_getElem? ha)
  have hsn:=aGM hd p
  have htk:l.take i++[p]=l.take (i+1):=by rw [List.take_add_one,ha];rfl
  rw [htk] at hsn
  have hdl:=aKX (m:=s.length) hd fun q hq=>hcm q (List.mem_of_mem_take hq)
  have hdl2:(l.take i).length*(s.length+2)<=1048577*1048578:=Nat.mul_le_mul (by rw [List.length_take];omega) (by omega)
  refine eT ha ?_
  refine bH (fun n st=>∃ (k:Nat),n=p.length-k/\k<=p.length/\st=⟨[],[(4,.sl 0),(5,.sl 1),(6,.d (.int .i64 i)),(7,.d (.int .i64 (pU p k))),(8,.d (.int .i64 k))],[(0,.arr 0 0 1 (aB d)),(1,.arr 0 0 1 (aK l))],2⟩) _ ⟨0,rfl,by omega,rfl⟩ ?_
  rintro n st ⟨k,rfl,hk,rfl⟩
  by_cases hkl:k<p.length
  ·have hb:=List.getElem?_eq_getElem hkl
   generalize p[k]=y at hb
   have hst:pU p (k+1)=if (y.toNat:Int)=61 then (k:Int) else pU p k:=by simp only [pU,List.getD_eq_getElem?_getD,hb,Option.getD_some]
   repeat' (first|refine aN ?_|refine aQ ?_|refine aU ?_|refine cR ?_|refine aW rfl ?_|refine bB rfl ?_|((first|refine iX fun K hK=>?_|refine fS fun K hK=>?_|refine kI ?_);simp [Fin,ha,hb])|(with_reducible refine hK _ ?_;clear hK K)|(with_reducible refine aJ (fun h=>?_) (fun h=>?_)<;>first|(exfalso;simp at h;first|done|omega|contradiction)|((try simp at h);simp [ha,hb]))|with_reducible refine And.intro ?_ ?_|with_reducible exact aL rfl|with_reducible assumption|(refine aO rfl (fun h=>?_) (fun h=>?_)<;>first|(exfalso;simp at h;first|done|omega|contradiction)|(exfalso;simp_all;done)|(try simp at h))|omega)
   ·refine ⟨p.length-(k+1),by omega,k+1,rfl,hkl,?_⟩
    refine kM hst ?_
    exact ⟨fun h'=>by omega,aA (by omega) (by omega)⟩
   ·refine ⟨p.length-(k+1),by omega,k+1,rfl,hkl,?_⟩
    refine kM hst ?_
    exact ⟨fun h'=>by omega,aA (by omega) (by omega)⟩
  ·have hke:k=p.length:=by omega
   subst hke
   rcases wM p p.length (Nat.le_refl _) with hr|⟨j,hr,hj,_⟩
   ·rw [hr] at hsn ⊢
    rw [if_pos (by omega)] at hsn
    rw [aGN hsn]
    exact fC ha
   ·have hfx:aBG p=p.set j 32++[10]:=by unfold aBG;rw [hr,Int.toNat_natCast,aSN hj]
    rw [hr] at hsn ⊢
    rw [if_neg (by omega)] at hsn
    refine eT ha ?_
    refine bH (fun n st=>∃ (q:Nat),n=p.length-q/\q<=p.length/\st=⟨[],[(4,.sl 0),(5,.sl 1),(6,.d (.int .i64 i)),(7,.d (.int .i64 j)),(9,.d (.int .i64 q))],[(0,.arr 0 0 1 (aB (d++(p.set j 32).take q))),(1,.arr 0 0 1 (aK l))],2⟩) _ ⟨0,rfl,by omega,by simp;rfl⟩ ?_
    rintro n st ⟨q,rfl,hq,rfl⟩
    by_cases hql:q<p.length
    ·have hb:=List.getElem?_eq_getElem hql
     generalize p[q]=y at hb
     have hst:=aQt (j:=j) hb
     by_cases hqj:q=j
     ·rw [if_pos hqj] at hst
      subst hqj
      repeat' (first|refine aN ?_|refine aQ ?_|refine aU ?_|refine cR ?_|refine aW rfl ?_|refine bB rfl ?_|((first|refine iX fun K hK=>?_|refine fS fun K hK=>?_|refine kI ?_);simp [Fin,ha,hb,aM])|(with_reducible refine hK _ ?_;clear hK K)|(with_reducible refine aJ (fun h=>?_) (fun h=>?_)<;>first|(exfalso;simp at h;first|done|omega|contradiction)|((try simp at h);simp [ha,hb,aM]))|with_reducible refine And.intro ?_ ?_|with_reducible exact aL rfl|with_reducible assumption|(refine aO rfl (fun h=>?_) (fun h=>?_)<;>first|(exfalso;simp at h;first|done|omega|contradiction)|(exfalso;simp_all;done)|(try simp at h))|omega)
      all_goals (refine ⟨p.length-(q+1),by omega,q+1,rfl,hql,?_⟩;rw [hst,<-List.append_assoc,aA0])
      all_goals (simp [gc,bP,cI,gcV,gcO,dS,cU,eH,aY,bR,bU,dU];exact ⟨aA (by omega) (by omega),by simp [aB]⟩)
     ·rw [if_neg hqj] at hst
      repeat' (first|refine aN ?_|refine aQ ?_|refine aU ?_|refine cR ?_|refine aW rfl ?_|refine bB rfl ?_|((first|refine iX fun K hK=>?_|refine fS fun K hK=>?_|refine kI ?_);simp [Fin,ha,hb,hqj,aM])|(with_reducible refine hK _ ?_;clear hK K)|(with_reducible refine aJ (fun h=>?_) (fun h=>?_)<;>first|(exfalso;simp at h;first|done|omega|contradiction)|((try simp at h);simp [ha,hb,hqj,aM]))|with_reducible refine And.intro ?_ ?_|with_reducible exact aL rfl|with_reducible assumption|(refine aO rfl (fun h=>?_) (fun h=>?_)<;>first|(exfalso;simp at h;first|done|omega|contradiction)|(exfalso;simp_all;done)|(try simp at h))|omega)
      all_goals (refine ⟨p.length-(q+1),by omega,q+1,rfl,hql,?_⟩;rw [hst,<-List.append_assoc,aA0])
      all_goals (simp [gc,bP,cI,gcV,gcO,dS,cU,eH,aY,bR,bU,dU];exact ⟨aA (by omega) (by omega),by simp [aB]⟩)
    ·rw [List.take_of_length_le (by simp;omega)]
     refine eT (Y2 ha @aM.eq_1) ?_
     refine ⟨l.length-(i+1),by omega,i+1,d++aBG p,rfl,hlt,hsn,?_⟩
     refine kM hfx ?_
     exact ⟨aA (by omega) (by omega),by simp [aB]⟩
 ·rw [List.take_of_length_le (by omega)] at hd
  rw [hd]
  exact fC @eP
def pO (kind:Int) (c:UInt8) (r:dX) (w:List UInt8):Option dX:=
 if c=110 then (match jD w with|some n=>some { r with qT:=n }|none=>none)
 else if fK w=false then none
 else if c=112 then some { r with dM:=w }
 else if c=109 then some { r with aH:=w }
 else if w=[46] then some r
 else if c=113 then some { r with dM:=w }
 else if kind=0 then (match mO (cJ 59 w) with|some d=>some { r with dI:=d }|none=>none)
 else some { r with dI:=w }
theorem sE {a b:UInt8} (h:¬a=b):¬a.toNat=b.toNat:=fun e=>h (UInt8.toNat_inj.1 e)
theorem aSC (v rest w:List UInt8) (kind:Int) (tok:Bool) (r:dX) (i:Nat) (c:UInt8) (hi:rest[i]?=some c) (hw:w.length<=1048576) (hr:rest.length<=1048576):
  ∃ r':dX,(∀ q,pO kind c r w=some q->r'=q)/\aC PP GG 47 [.agg [.d (.str v),.d (.int .i64 kind),.d (.bool tok),.d (.str rest)],.box r.c,.d (.int .i64 i),.d (.str w)] (.d (.bool (pO kind c r w).isSome)) [none,some (.box r'.c),none,none]:=by
 have cn:=yK w (by omega)
 have cw:=aFY w (by omega)
 have cp:=aFP w (by omega)
 have hil:=(List.getElem?_eq_some_iff.1 hi).1
 unfold pO
 by_cases h1:c=110
 ·subst h1
  rw [if_pos rfl]
  cases hn:jD w with
  |none=>
   rw [hn] at cn
   dsimp only
   refine ⟨{ r with qT:=0 },fun q h=>(by cases h),?_⟩
   refine cv Tryz.func47 [.d (.bool false)] ?_
   exact dO hi (Z1 cn)
  |some n=>
   rw [hn] at cn
   dsimp only
   refine ⟨{ r with qT:=n },fun q h=>by simpa using h,?_⟩
   refine cv Tryz.func47 [.d (.bool true)] ?_
   exact dO hi (Z1 cn)
 have n1:¬c.toNat=110:=sE h1
 rw [if_neg h1]
 cases hb:fK w with
 |false=>
  rw [hb] at cw
  refine ⟨r,fun q h=>by simp at h,?_⟩
  refine cv Tryz.func47 [.d (.bool false)] ?_
  exact dO hi (Z1 cw)
 |true=>
 rw [hb] at cw
 rw [if_neg (by simp)]
 by_cases h2:c=112
 ·subst h2
  rw [if_pos rfl]
  refine ⟨{ r with dM:=w },fun q h=>by simpa using h,?_⟩
  refine cv Tryz.func47 [.d (.bool true)] ?_
  exact dO hi (Z1 cw)
 have n2:¬c.toNat=112:=sE h2
 rw [if_neg h2]
 by_cases h3:c=109
 ·subst h3
  rw [if_pos rfl]
  refine ⟨{ r with aH:=w },fun q h=>by simpa using h,?_⟩
  refine cv Tryz.func47 [.d (.bool true)] ?_
  exact dO hi (Z1 cw)
 have n3:¬c.toNat=109:=sE h3
 rw [if_neg h3]
 by_cases h4:w=[46]
 ·subst h4
  rw [if_pos rfl]
  refine ⟨r,fun q h=>by simpa using h,?_⟩
  refine cv Tryz.func47 [.d (.bool true)] ?_
  exact dO hi (Z1 cw)
 have n4:(w==[46])=false:=by simpa using h4
 rw [if_neg h4]
 by_cases h5:c=113
 ·subst h5
  rw [if_pos rfl]
  refine ⟨{ r with dM:=w },fun q h=>by simpa using h,?_⟩
  refine cv Tryz.func47 [.d (.bool true)] ?_
  exact dO (Y2 hi n4) (Z1 cw)
 have n5:¬c.toNat=113:=sE h5
 rw [if_neg h5]
 by_cases h6:kind=0
 ·subst h6
  rw [if_pos rfl]
  cases hp:mO (cJ 59 w) with
  |none=>
   rw [hp] at cp
   dsimp only
   refine ⟨{ r with dI:=[] },fun q h=>(by cases h),?_⟩
   refine cv Tryz.func47 [.d (.bool false)] ?_
   exact dO (Y2 hi n4) (Z2 cw cp)
  |some d=>
   rw [hp] at cp
   dsimp only
   refine ⟨{ r with dI:=d },fun q h=>by simpa using h,?_⟩
   refine cv Tryz.func47 [.d (.bool true)] ?_
   exact dO (Y2 hi n4) (Z2 cw cp)
 ·rw [if_neg h6]
  refine ⟨{ r with dI:=w },fun q h=>by simpa using h,?_⟩
  refine cv Tryz.func47 [.d (.bool true)] ?_
  exact dO (Y2 hi n4) (Z1 cw)
structure xU where
 word:List UInt8
 kind:Int
 tok:Bool
 rest:List UInt8
 deriving DecidableEq
def xU.row (f:xU):List D:=[.str f.word,.int .i64 f.kind,.bool f.tok,.str f.rest]
def fZ:List xU:=[
 ⟨[112,111,108,105,99,121],0,true,[109,100]⟩,
 ⟨[116,111,107,101,110],1,true,[100,110]⟩,
 ⟨[114,101,118,111,107,101],2,true,[110]⟩,
 ⟨[114,101,110,101,119],3,true,[110]⟩,
 ⟨[112,117,116],4,true,[112,110,100]⟩,
 ⟨[103,101,116],5,true,[112,110]⟩,
 ⟨[116,97,107,101],6,true,[112,110]⟩,
 ⟨[108,105,115,116],7,true,[113]⟩,
 ⟨[114,111,108,101],8,true,[109,100,110]⟩,
 ⟨[99,114,101,100,115],9,true,[109]⟩,
 ⟨[119,114,97,112],10,true,[112,110]⟩,
 ⟨[111,112,101,110],11,false,[110]⟩,
 ⟨[116,105,109,101],12,false,[110]⟩,
 ⟨[102,97,114],13,false,[110]⟩,
 ⟨[115,121,110,99],14,false,[]⟩,
 ⟨[99,114,97,115,104],15,false,[110]⟩]
def aC5 (l:List xU):List (List D):=l.map xU.row
@[simp] theorem aWd (l:List xU):(aC5 l).length=l.length:=by simp [aC5]
@[simp] theorem aWe (l:List xU) (i:Nat):(aC5 l)[i]?=(l[i]?).map fun f=>[.str f.word,.int .i64 f.kind,.bool f.tok,.str f.rest]:=by simp [aC5];rfl
def iB (k:Int):dX->List UInt8->List (List UInt8)->Option dX
 |r,c::cs,w::ws=>match pO k c r w with|some r'=>iB k r' cs ws|none=>none
 |r,_,_=>some r
def eV:dX:=⟨0,0,[],[],[],0⟩
def aKg (ws:List (List UInt8)) (t:Bool):List (List UInt8):=if t=true then ws.drop 1 else ws
def iT (us:List (List UInt8)) (t:Bool) (f:xU):Bool:=decide (us.length=f.rest.length+1) && us.head?==some f.word && f.tok==t
def yJ (us:List (List UInt8)) (t:Option Int):Option dX:=match fZ.find? (iT us t.isSome) with
 |none=>none
 |some f=>iB f.kind ⟨f.kind,t.getD 0,[],[],[],0⟩ f.rest (us.drop 1)
def jI (line:List UInt8):Option dX:=if 250<line.length then none else
 let t:=jD ((cJ 32 line).headD [])
 yJ (aKg (cJ 32 line) t.isSome) t
theorem aPA {α:Type} {p:α->Bool} {l:List α} {i:Nat} {x:α} (ha:l[i]?=some x) (hn:∀ y,y∈l.take i->p y=false) (hx:p x=true):l.find? p=some x:=by
 obtain ⟨h,e⟩:=List.getElem?_eq_some_iff.1 ha
 rw [List.find?_eq_some_iff_getElem]
 refine ⟨hx,i,h,e,fun j hj=>?_⟩
 have:=hn l[j] (List.mem_take_iff_getElem.2 ⟨j,by omega,rfl⟩)
 simp [this]
theorem aBM:aC PP GG 40 [] (.own 0 4 (aC5 fZ)) []:=by
 refine cv Tryz.func40 [.own 0 4 (aC5 fZ)] ?_
 exact fC (Y3 @fZ.eq_1 @aC5.eq_1 @xU.row.eq_1)
theorem aDo:fZ.length=16/\∀ f,f∈fZ->f.rest.length<=3:=by decide
theorem aHv {k:Int} {r:dX} {cs:List UInt8} {ws:List (List UInt8)} {j:Nat} {c:UInt8} {w:List UInt8} (hc:cs[j]?=some c) (hw:ws[j]?=some w):
  iB k r (cs.drop j) (ws.drop j)=match pO k c r w with|some r'=>iB k r' (cs.drop (j+1)) (ws.drop (j+1))|none=>none:=by
 rw [tR hc,tR hw];rfl
theorem aKZ (line:List UInt8) (hline:line.length<=1048576):aC PP GG 28 [.d (.str line)] (.tup [.agg ((jI line).getD eV).o,.d (.bool (jI line).isSome)]) [none]:=by
 refine cv Tryz.func28 [.agg ((jI line).getD eV).o,.d (.bool (jI line).isSome)] ?_
 unfold jI
 by_cases hl:250<line.length
 ·rw [if_pos hl]
  have hl2:decide (250<(line.length:Int))=true:=decide_eq_true (by omega)
  exact fC (Y2 hl2 @eV.eq_1)
 rw [if_neg hl]
 dsimp only
 have cs:=aLW line 32 (by omega)
 have hcl:=iK 32 line
 have hcm:∀ p,p∈cJ 32 line->p.length<=line.length:=fun p=>kW line
 obtain ⟨p,ps,hps⟩:=jY 32 line
 rw [hps] at cs hcl hcm ⊢
 have hpl:=hcm p (by simp)
 have cn:=yK p (by omega)
 simp only [List.headD_cons]
 generalize jD p=t at cn ⊢
 obtain ⟨us,hus⟩:∃ us,aKg (p::ps) t.isSome=us:=⟨_,rfl⟩
 rw [hus]
 have hum:∀ q,q∈us->q.length<=line.length:=by
  intro q hq
  rw [<-hus] at hq
  unfold aKg at hq
  split at hq
  ·exact hcm q (List.mem_of_mem_drop hq)
  ·exact hcm q hq
 have hul:us.length<=251:=by
  rw [<-hus];unfold aKg
  split
  ·rw [List.length_drop];omega
  ·omega
 refine u_1 ?_
 refine aN (?_)
 refine u_1 ?_
 refine aO rfl (fun h=>?_) (fun h=>aQ ?_)
 ·simp at h;omega
 refine oK (Z1 cs) ?_
 refine aP7 @aK.eq_1 (Z1 cn) ?_
 refine qK [2,4,5,6] (fun st=>st=⟨[],[(2,.ptr 0 0),(4,.d (.slc 1 (aK us))),(5,.d (.int .i64 (t.getD 0))),(6,.d (.bool t.isSome))],[(0,.box (eV.row.map A.d))],1⟩) ?_ ?_
 ·cases t with
  |none=>
   simp [aKg] at hus
   subst hus
   refine jJ ?_
   refine kM @eV.eq_1 ?_
   rfl
  |some n=>
   simp [aKg] at hus
   refine jJ ?_
   refine kM (Y2 hus @eV.eq_1) ?_
   simp [aK,hus]
 rintro st rfl
 clear cn cs hus
 have cf:=aBM
 unfold yJ
 obtain ⟨hfl,hfr⟩:=aDo
 generalize fZ=L at cf hfl hfr ⊢
 generalize t.getD 0=tn
 generalize t.isSome=tb
 refine fV @eV.eq_1 (Z1 cf) ?_
 refine bH (fun n st=>∃ i:Nat,n=L.length-i/\i<=L.length/\(∀ f,f∈L.take i->iT us tb f=false) ∧
  st=⟨[],[(2,.ptr 0 0),(4,.d (.slc 1 (aK us))),(5,.d (.int .i64 tn)),(6,.d (.bool tb)),(28,.sl 1),(29,.d (.int .i64 L.length)),(30,.d (.int .i64 i))],[(0,.box (eV.row.map A.d)),(1,.arr 0 0 4 (aC5 L))],2⟩) _ ⟨0,rfl,by omega,fun f h=>by simp at h,rfl⟩ ?_
 rintro n st ⟨i,rfl,hi,hn,rfl⟩
 by_cases hlt:i<L.length
 ·have ha:=List.getElem?_eq_getElem hlt
  generalize L[i]=f at ha
  have hr3:=hfr f (List.mem_of_getElem? ha)
  obtain ⟨v,kd,tk,rest⟩:=f
  simp only at hr3
  have hw1:IntKind.i64.wrap ((rest.length:Int)+1)=(rest.length:Int)+1:=aA (by omega) (by omega)
  by_cases hlen:us.length=rest.length+1
  ·cases us with
   |nil=>simp at hlen
   |cons u us=>
   have hlen2:us.length=rest.length:=by simpa using hlen
   by_cases hu:u=v
   ·subst hu
    by_cases ht:tk=tb
    ·subst ht
     have hm:iT (u::us) tk ⟨u,kd,tk,rest⟩=true:=by simp [iT,hlen]
     have hfind:L.find? (iT (u::us) tk)=some ⟨u,kd,tk,rest⟩:=aPA ha hn hm
     rw [hfind]
     simp only [List.drop_succ_cons,List.drop_zero]
     refine eT (Y5 ha hw1 hlen2 @aK.eq_1 @eV.eq_1) ?_
     refine bH (fun n st=>∃ (j:Nat) (r:dX),n=us.length-j/\j<=us.length/\iB kd ⟨kd,tn,[],[],[],0⟩ rest us=iB kd r (rest.drop j) (us.drop j) ∧
      st=⟨[],[(2,.ptr 0 0),(8,.ptr 1 0),(9,.ptr 2 0),(60,.d (.slc 1 (aK us))),(61,.d (.int .i64 us.length)),(62,.d (.int .i64 j))],[(0,.box (eV.row.map A.d)),(1,.box [.d (.str u),.d (.int .i64 kd),.d (.bool tk),.d (.str rest)]),(2,.box (r.row.map A.d))],3⟩) us.length ⟨0,⟨kd,tn,[],[],[],0⟩,rfl,by omega,rfl,?_⟩ ?_
     ·exact gE (Y3 @eV.eq_1 @aK.eq_1 hlen2)
     rintro n st ⟨j,r,rfl,hj,hinv,rfl⟩
     rw [hinv]
     by_cases hjl:j<us.length
     ·have hw:=List.getElem?_eq_getElem hjl
      generalize us[j]=w at hw
      have hc:=List.getElem?_eq_getElem (show j<rest.length by omega)
      generalize rest[j]'_=c at hc
      have hwl:=hum w (by simp [List.mem_of_getElem? hw])
      obtain ⟨r',hq,ct⟩:=aSC u rest w kd tk r j c hc (by omega) (by omega)
      rw [aHv hc hw]
      cases htk:pO kd c r w with
      |none=>
       rw [htk] at ct
       exact dO (Y2 hw @eV.eq_1) (Z1 ct)
      |some q=>
       rw [htk] at ct
       have hq':=hq q htk
       subst hq'
       refine fV (Y2 hw @eV.eq_1) (Z1 ct) ?_
       refine ⟨us.length-(j+1),by omega,j+1,r',rfl,hjl,rfl,?_⟩
       refine kM @eV.eq_1 ?_
       exact aA (by omega) (by omega)
     ·have hje:j=us.length:=by omega
      subst hje
      rw [List.drop_of_length_le (Nat.le_refl _),List.drop_of_length_le (by omega)]
      simp only [iB]
      exact fC @eV.eq_1
    ·have htn:(tk != tb)=true:=by simpa using ht
     refine eT (Y6 ha hw1 hlen2 @aK.eq_1 @eV.eq_1 htn) ?_
     refine ⟨L.length-(i+1),by omega,i+1,rfl,hlt,kO ha hn (by simp [iT,ht]),?_⟩
     refine kM (Y2 @eV.eq_1 @aK.eq_1) ?_
     exact aA (by omega) (by omega)
   ·have hun:(u != v)=true:=by simpa using hu
    refine eT (Y6 ha hw1 hlen2 @aK.eq_1 @eV.eq_1 hun) ?_
    refine ⟨L.length-(i+1),by omega,i+1,rfl,hlt,kO ha hn (by simp [iT,hu]),?_⟩
    refine kM (Y2 @eV.eq_1 @aK.eq_1) ?_
    exact aA (by omega) (by omega)
  ·have hln:((us.length:Int) != (rest.length:Int)+1)=true:=by simp;omega
   refine eT (Y4 ha hw1 hln @eV.eq_1) ?_
   refine ⟨L.length-(i+1),by omega,i+1,rfl,hlt,kO ha hn (by simp [iT,hlen]),?_⟩
   refine kM @eV.eq_1 ?_
   exact aA (by omega) (by omega)
 ·rw [List.take_of_length_le (by omega)] at hn
  have hfind:L.find? (iT us tb)=none:=by rw [List.find?_eq_none];intro f hf;rw [hn f hf];simp
  rw [hfind]
  exact fC @eV.eq_1
def kA:List (List UInt8×List UInt8):=[([112,111,108,105,99,121],[119,111]),([116,111,107,101,110],[111,110]),([114,101,118,111,107,101],[110]),([114,101,110,101,119],[110]),([112,117,116],[112,110,111]),([103,101,116],[112,110]),([116,97,107,101],[112,110]),([108,105,115,116],[113]),([114,111,108,101],[119,111,110]),([99,114,101,100,115],[119]),([119,114,97,112],[112,110])]
def rP:List (List UInt8):=[[112,111,108,105,99,121,32,119,111],[116,111,107,101,110,32,111,110],[114,101,118,111,107,101,32,110],[114,101,110,101,119,32,110],[112,117,116,32,112,110,111],[103,101,116,32,112,110],[116,97,107,101,32,112,110],[108,105,115,116,32,113],[114,111,108,101,32,119,111,110],[99,114,101,100,115,32,119],[119,114,97,112,32,112,110]]
def iQ:List (List UInt8):=[[111,112,101,110],[116,105,109,101],[102,97,114],[],[99,114,97,115,104]]
def aBa (c:UInt8) (r:dX) (w:List UInt8):Option dX:=
 if (c.toNat:Int)=110 then (match jD w with|some n=>some { r with qT:=n }|none=>none)
 else if (c.toNat:Int)=119 then some { r with aH:=w }
 else if (c.toNat:Int)=112 then some { r with dM:=w }
 else if (c.toNat:Int)=113 then (if w=[46] then some r else some { r with dM:=w })
 else if (c.toNat:Int)=111 then (if w=[46] then some r else some { r with dI:=w })
 else some r
def vM:dX->List UInt8->List (List UInt8)->Option dX
 |r,c::cs,w::ws=>match aBa c r w with|some r'=>vM r' cs ws|none=>none
 |r,_,_=>some r
def aM6 (k:Nat) (ws:List (List UInt8)):Option dX->Option dX
 |none=>none
 |some r=>if k=0 then (match aHO (ws.getD 3 []) with|some d=>some { r with dI:=d }|none=>none) else some r
def oQ (ws:List (List UInt8)) (p:List UInt8×List UInt8):Bool:=ws.getD 1 []==p.1 && decide (ws.length=2+p.2.length)
def sp3 (ws:List (List UInt8)) (t:Int):Option dX:=match kA.findIdx? (oQ ws) with
 |none=>none
 |some k=>match kA[k]? with
  |none=>none
  |some p=>aM6 k ws (vM ⟨k,t,[],[],[],0⟩ p.2 (ws.drop 2))
def sp2 (ws:List (List UInt8)):Option dX:=if ws.length<2 then none else match jD (ws.getD 0 []) with|none=>none|some t=>sp3 ws t
def oN (ws:List (List UInt8)):Option Nat:=if ws.length=2 then iQ.findIdx? (fun v=>ws.getD 0 []==v) else none
def sp1 (ws:List (List UInt8)):Option dX:=if ws=[[115,121,110,99]] then some ⟨14,0,[],[],[],0⟩ else match oN ws with
 |some k=>(match jD (ws.getD 1 []) with|some n=>some ⟨11+k,0,[],[],[],n⟩|none=>none)
 |none=>sp2 ws
def xZ (line:List UInt8):Option dX:=if 250<line.length then none else if (cJ 32 line).all fK=false then none else sp1 (cJ 32 line)
theorem yC:aC PP GG 23 [] (.own 0 1 (aK rP)) []:=by
 refine cv Tryz.func23 [.own 0 1 (aK rP)] ?_
 exact fC (Y2 @rP.eq_1 @aK.eq_1)
theorem aBf (f v g:List UInt8) (hf:cJ 32 f=[v,g]) (hl:f.length<=1048576):aC PP GG 22 [.d (.str f)] (.tup [.d (.str v),.d (.str g)]) [none]:=by
 refine cv Tryz.func22 [.d (.str v),.d (.str g)] ?_
 have cs:=fP f 32 (by omega)
 change aC PP GG 35 [.d (.str f),.d (.int .u8 32)] _ _ at cs
 rw [hf] at cs
 have hind:=cC [v,g]
 exact dO @aK.eq_1 (Z1 cs)
theorem aDn:rP.length=11/\kA.length=11/\∀ i:_root_.Fin 11,∃ f v,rP[i.1]?=some f/\kA[i.1]?=some v/\cJ 32 f=[v.1,v.2]/\f.length<=20/\v.2.length<=3/\(i.1=0->v.2.length=2):=by
 refine ⟨rfl,rfl,fun i=>?_⟩
 refine ⟨rP[i.1]'(by simp [rP]),kA[i.1]'(by simp [kA]),List.getElem?_eq_getElem _,List.getElem?_eq_getElem _,?_⟩
 revert i;decide
theorem aEG {w:List UInt8} (n:Int) (h:jD w=some n):tK w=n:=by
 obtain ⟨h1,h2,h3,h4⟩:=aCu h
 obtain ⟨_,e,_⟩:=aK3 (w:=w) (by unfold inB;simp;omega) h3
 rw [e]
 by_cases hlt:(lU w).length<w.length
 ·rw [if_pos hlt];have:=h4.1 hlt;omega
 ·rw [if_neg hlt];have:=mt h4.2 hlt;omega
theorem aLt {r:dX} {cs:List UInt8} {ws:List (List UInt8)} {j:Nat} {c:UInt8} {w:List UInt8} (hc:cs[j]?=some c) (hw:ws[j]?=some w):
  vM r (cs.drop j) (ws.drop j)=match aBa c r w with|some r'=>vM r' (cs.drop (j+1)) (ws.drop (j+1))|none=>none:=by
 rw [tR hc,tR hw];rfl
theorem aKs (c:UInt8) (r:dX) (w:List UInt8):(c=110/\jD w=none/\aBa c r w=none)\/∃ r':dX,aBa c r w=some r'/\((c=110/\∃ m,jD w=some m/\r'={ r with qT:=m })\/(¬c.toNat=110 ∧
  ((c=119/\r'={ r with aH:=w })\/(c=112/\r'={ r with dM:=w })\/(c=113/\w=[46]/\r'=r)\/(c=113/\¬w=[46]/\r'={ r with dM:=w })\/(c=111/\w=[46]/\r'=r)\/(c=111/\¬w=[46]/\r'={ r with dI:=w }) ∨
   (¬c.toNat=119/\¬c.toNat=112/\¬c.toNat=113/\¬c.toNat=111/\r'=r)))):=by
 have key:∀ n:Nat,n<256->c.toNat=n->c=UInt8.ofNat n:=fun n hn h=>by rw [<-h];simp
 unfold aBa
 by_cases h1:c.toNat=110
 ·obtain rfl:=key _ (by omega) h1
  cases hn:jD w with
  |none=>exact .inl ⟨rfl,rfl,rfl⟩
  |some m=>exact .inr ⟨_,rfl,.inl ⟨rfl,m,rfl,rfl⟩⟩
 ·rw [if_neg (by omega)]
  by_cases h2:c.toNat=119
  ·obtain rfl:=key _ (by omega) h2
   exact .inr ⟨_,rfl,.inr ⟨h1,.inl ⟨rfl,rfl⟩⟩⟩
  rw [if_neg (by omega)]
  by_cases h3:c.toNat=112
  ·obtain rfl:=key _ (by omega) h3
   exact .inr ⟨_,rfl,.inr ⟨h1,.inr (.inl ⟨rfl,rfl⟩)⟩⟩
  rw [if_neg (by omega)]
  by_cases h4:c.toNat=113
  ·obtain rfl:=key _ (by omega) h4
   rw [if_pos (by decide)]
   by_cases hd:w=[46]
   ·rw [if_pos hd];exact .inr ⟨_,rfl,.inr ⟨h1,.inr (.inr (.inl ⟨rfl,hd,rfl⟩))⟩⟩
   ·rw [if_neg hd];exact .inr ⟨_,rfl,.inr ⟨h1,.inr (.inr (.inr (.inl ⟨rfl,hd,rfl⟩)))⟩⟩
  rw [if_neg (by omega)]
  by_cases h5:c.toNat=111
  ·obtain rfl:=key _ (by omega) h5
   rw [if_pos (by decide)]
   by_cases hd:w=[46]
   ·rw [if_pos hd];exact .inr ⟨_,rfl,.inr ⟨h1,.inr (.inr (.inr (.inr (.inl ⟨rfl,hd,rfl⟩))))⟩⟩
   ·rw [if_neg hd];exact .inr ⟨_,rfl,.inr ⟨h1,.inr (.inr (.inr (.inr (.inr (.inl ⟨rfl,hd,rfl⟩)))))⟩⟩
  rw [if_neg (by omega)]
  exact .inr ⟨_,rfl,.inr ⟨h1,.inr (.inr (.inr (.inr (.inr (.inr ⟨h2,h3,h4,h5,rfl⟩)))))⟩⟩
def S0 (ws:List (List UInt8)):St:=⟨[],[(2,.ptr 0 0),(4,.ptr 1 0),(5,.sl 2)],[(0,.box (eV.row.map A.d)),(1,.box (eV.row.map A.d)),(2,.arr 0 0 1 (aK ws))],3⟩
theorem aFD (line:List UInt8) (hline:line.length<=1048576):aC PP GG 26 [.d (.str line)] (.tup [.agg ((xZ line).getD eV).o,.d (.bool (xZ line).isSome)]) [none]:=by
 refine cv Tryz.func26 [.agg ((xZ line).getD eV).o,.d (.bool (xZ line).isSome)] ?_
 unfold xZ
 by_cases hl:250<line.length
 ·rw [if_pos hl]
  have hl2:decide (250<(line.length:Int))=true:=decide_eq_true (by omega)
  exact fC (Y2 hl2 @eV.eq_1)
 rw [if_neg hl]
 have cs:=fP line 32 (by omega)
 change aC PP GG 35 [.d (.str line),.d (.int .u8 32)] _ _ at cs
 have hcl:=iK 32 line
 have hcm:∀ p,p∈cJ 32 line->p.length<=line.length:=fun p=>kW line
 obtain ⟨p0,ps0,hps⟩:=jY 32 line
 have hne:cJ 32 line≠[]:=by rw [hps];simp
 clear hps
 generalize cJ 32 line=ws at *
 obtain ⟨R,hR⟩:∃ R,(if ws.all fK=false then none else sp1 ws)=R:=⟨_,rfl⟩
 rw [hR]
 have hind:=cC ws
 refine u_1 ?_
 refine u_1 ?_
 refine aN (?_)
 refine u_1 ?_
 refine aO rfl (fun h=>?_) (fun h=>aQ ?_)
 ·simp at h;omega
 refine oK (Z1 cs) ?_
 refine qK [2,4,5] (fun st=>ws.all fK=true/\st=S0 ws) ?_ ?_
 ·refine jJ ?_
  refine bH (fun n st=>∃ i:Nat,n=ws.length-i/\i<=ws.length/\(∀ w,w∈ws.take i->fK w=true) ∧
   st=⟨[],[(2,.ptr 0 0),(4,.ptr 1 0),(5,.sl 2),(6,.d (.int .i64 i))],[(0,.box (eV.row.map A.d)),(1,.box (eV.row.map A.d)),(2,.arr 0 0 1 (aK ws))],3⟩) _ ⟨0,rfl,by omega,fun w h=>by simp at h,rfl⟩ ?_
  rintro n st ⟨i,rfl,hi,hn,rfl⟩
  by_cases hlt:i<ws.length
  ·have ha:=List.getElem?_eq_getElem hlt
   generalize ws[i]=w at ha
   have hwl:=hcm w (List.mem_of_getElem? ha)
   have cw:=aHG w (by omega)
   cases hb:fK w with
   |false=>
    rw [hb] at cw
    have hall:ws.all fK=false:=List.all_eq_false.2 ⟨w,List.mem_of_getElem? ha,by rw [hb];simp⟩
    rw [if_pos hall] at hR
    subst hR
    exact dO (Y2 ha @eV.eq_1) (Z1 cw)
   |true=>
    rw [hb] at cw
    refine fV (Y2 ha @eV.eq_1) (Z1 cw) ?_
    refine ⟨ws.length-(i+1),by omega,i+1,rfl,hlt,kO ha hn hb,?_⟩
    refine kM @eV.eq_1 ?_
    exact aA (by omega) (by omega)
  ·rw [List.take_of_length_le (by omega)] at hn
   have hall:ws.all fK=true:=List.all_eq_true.2 hn
   refine eT @eV.eq_1 ?_
   exact gE (Y2 @S0.eq_1 @eV.eq_1)
 rintro st ⟨hall,rfl⟩
 rw [if_neg (by rw [hall];simp)] at hR
 clear hall cs
 unfold sp1 at hR
 unfold S0
 by_cases hsy:ws=[[115,121,110,99]]
 ·rw [if_pos hsy] at hR
  subst hsy hR
  exact fC (Y2 @aK.eq_1 @eV.eq_1)
 rw [if_neg hsy] at hR
 refine qK [2,4,5] (fun st=>st=S0 ws) ?_ ?_
 ·by_cases h1:ws.length=1
  ·obtain ⟨w,rfl⟩:=List.length_eq_one_iff.1 h1
   have hwn:(w==[115,121,110,99])=false:=by simpa using hsy
   refine eT (Y2 @aK.eq_1 hwn) ?_
   exact gE (Y3 @S0.eq_1 @eV.eq_1 @aK.eq_1)
  ·have h1':((ws.length:Int)==1)=false:=by simp;omega
   refine eT h1' ?_
   exact gE (Y2 @S0.eq_1 @eV.eq_1)
 rintro st rfl
 unfold S0
 refine qK [2,4,5] (fun st=>oN ws=none/\st=S0 ws) ?_ ?_
 ·by_cases h2:ws.length=2
  ·obtain ⟨a,b,rfl⟩:∃ a b,ws=[a,b]:=by
    match ws,h2 with
    |[a,b],_=>exact ⟨a,b,rfl⟩
   have hal:=hcm a (by simp)
   have hbl:=hcm b (by simp)
   have hsi:oN [a,b]=iQ.findIdx? (fun v=>a==v):=rfl
   have hsl:iQ.length=5:=rfl
   have cn:=rG b (by omega)
   have hnx:∀ n,jD b=some n->tK b=n:=aEG
   refine jJ ?_
   refine bH (fun n st=>∃ k:Nat,n=5-k/\k<=5/\(∀ v,v∈iQ.take k->(a==v)=false) ∧
    st=⟨[],[(2,.ptr 0 0),(4,.ptr 1 0),(5,.sl 2),(7,.sl 3),(8,.d (.int .i64 k))],[(0,.box (eV.row.map A.d)),(1,.box (eV.row.map A.d)),(2,.arr 0 0 1 (aK [a,b])),(3,.arr 0 0 1 (aK iQ))],4⟩) _ ⟨0,rfl,by omega,fun w h=>by simp at h,rfl⟩ ?_
   rintro n st ⟨k,rfl,hk,hn,rfl⟩
   by_cases hlt:k<5
   ·have hv:=List.getElem?_eq_getElem (show k<iQ.length by omega)
    generalize iQ[k]'_=v at hv
    cases hav:(a==v) with
    |true=>
     have hf:iQ.findIdx? (fun v=>a==v)=some k:=wT hv hn hav
     rw [hsi,hf] at hR
     simp only [List.getD_cons_succ,List.getD_cons_zero] at hR
     have hw1:IntKind.i64.wrap (11+(k:Int))=11+(k:Int):=aA (by omega) (by omega)
     cases hnb:jD b with
     |none=>
      rw [hnb] at cn hR
      subst hR
      exact dO (Y4 @aK.eq_1 hv hav @eV.eq_1) (Z1 cn)
     |some m=>
      rw [hnb] at cn hR
      rw [hnx m hnb] at cn
      simp only at hR
      subst hR
      exact dO (Y5 @aK.eq_1 hv hav @eV.eq_1 hw1) (Z1 cn)
    |false=>
     refine eT (Y4 @aK.eq_1 hv hav @eV.eq_1) ?_
     refine ⟨5-(k+1),by omega,k+1,rfl,hlt,kO hv hn hav,?_⟩
     refine kM (Y2 @eV.eq_1 @aK.eq_1) ?_
     exact aA (by omega) (by omega)
   ·rw [List.take_of_length_le (by omega)] at hn
    have hf:iQ.findIdx? (fun v=>a==v)=none:=qS hn
    have hsn:=hsi.trans hf
    refine eT @eV.eq_1 ?_
    exact gE (Y3 @S0.eq_1 @eV.eq_1 @aK.eq_1)
  ·have hsi:oN ws=none:=by unfold oN;rw [if_neg h2]
   have h2':((ws.length:Int)==2)=false:=by simp;omega
   refine eT h2' ?_
   exact gE (Y2 @S0.eq_1 @eV.eq_1)
 rintro st ⟨hsi,rfl⟩
 rw [hsi] at hR
 simp only at hR
 unfold S0
 unfold sp2 at hR
 by_cases h2:ws.length<2
 ·rw [if_pos h2] at hR
  subst hR
  have h2':decide ((ws.length:Int)<2)=true:=decide_eq_true (by omega)
  exact fC (Y2 h2' @eV.eq_1)
 rw [if_neg h2] at hR
 have h2':decide ((ws.length:Int)<2)=false:=decide_eq_false (by omega)
 obtain ⟨a,b,args,rfl⟩:∃ a b args,ws=a::b::args:=by
  match ws,h2 with
  |a::b::args,_=>exact ⟨a,b,args,rfl⟩
  |[],h=>simp at h
  |[_],h=>simp at h
 have hal:=hcm a (by simp)
 have cn:=rG a (by omega)
 have hnx:∀ n,jD a=some n->tK a=n:=aEG
 simp only [List.getD_cons_zero] at hR
 cases hna:jD a with
 |none=>
  rw [hna] at cn hR
  subst hR
  exact dO (Y3 h2' @aK.eq_1 @eV.eq_1) (Z1 cn)
 |some t=>
 rw [hna] at cn hR
 rw [hnx t hna] at cn
 simp only at hR
 have cf:=yC
 obtain ⟨hF,hV,hFV⟩:=aDn
 have hindf:=cC rP
 clear hnx hna hsi hsy
 unfold sp3 at hR
 generalize rP=Fm at *
 generalize kA=Vb at *
 refine fV (Y3 h2' @aK.eq_1 @eV.eq_1) (Z2 cn cf) ?_
 refine bH (fun n st=>∃ k:Nat,n=Fm.length-k/\k<=Fm.length/\(∀ p,p∈Vb.take k->oQ (a::b::args) p=false) ∧
  st=⟨[],[(2,.ptr 0 0),(4,.ptr 1 0),(5,.sl 2),(11,.d (.int .i64 t)),(13,.sl 3),(14,.d (.int .i64 k))],[(0,.box (eV.row.map A.d)),(1,.box (eV.row.map A.d)),(2,.arr 0 0 1 (aK (a::b::args))),(3,.arr 0 0 1 (aK Fm))],4⟩) _ ⟨0,rfl,by omega,fun w h=>by simp at h,rfl⟩ ?_
 rintro n st ⟨k,rfl,hk,hn,rfl⟩
 by_cases hlt:k<Fm.length
 ·obtain ⟨f,⟨v,g⟩,hf,hv,hcut,hfl,hgl,hg0⟩:=hFV ⟨k,by omega⟩
  simp only at hf hv hcut hgl hg0
  have cv:=aBf f v g hcut (by omega)
  have hw1:IntKind.i64.wrap (2+(g.length:Int))=2+(g.length:Int):=aA (by omega) (by omega)
  have hwk:IntKind.i64.wrap ((k:Int)+1)=(k:Int)+1:=aA (by omega) (by omega)
  by_cases hbv:b=v
  ·subst hbv
   by_cases hlen:args.length=g.length
   ·have hm:oQ (a::b::args) (b,g)=true:=by simp [oQ,hlen];omega
    have hfi:Vb.findIdx? (oQ (a::b::args))=some k:=wT hv hn hm
    rw [hfi] at hR
    simp only [hv,List.drop_succ_cons,List.drop_zero] at hR
    refine fV (Y6 h2' @aK.eq_1 @eV.eq_1 hf hw1 hlen) (Z1 cv) ?_
    refine bH (fun n st=>∃ (i:Nat) (r:dX),n=g.length-i/\i<=g.length/\vM ⟨k,t,[],[],[],0⟩ g args=vM r (g.drop i) (args.drop i) ∧
     st=⟨[],[(2,.ptr 0 0),(4,.ptr 1 0),(5,.sl 2),(14,.d (.int .i64 k)),(16,.d (.str g)),(17,.ptr 3 0),(18,.d (.int .i64 i))],[(0,.box (eV.row.map A.d)),(1,.box (eV.row.map A.d)),(2,.arr 0 0 1 (aK (a::b::args))),(3,.box (r.row.map A.d))],4⟩) _ ⟨0,⟨k,t,[],[],[],0⟩,rfl,by omega,rfl,rfl⟩ ?_
    rintro n st ⟨i,r,rfl,hi,hinv,rfl⟩
    have hwi:IntKind.i64.wrap (2+(i:Int))=2+(i:Int):=aA (by omega) (by omega)
    have hwj:IntKind.i64.wrap ((i:Int)+1)=(i:Int)+1:=aA (by omega) (by omega)
    have htn:(2+(i:Int)).toNat=i+2:=by omega
    by_cases hil:i<g.length
    ·have hw:=List.getElem?_eq_getElem (show i<args.length by omega)
     generalize args[i]'_=w at hw
     have hc:=List.getElem?_eq_getElem hil
     generalize g[i]'_=c at hc
     have hwl:=hcm w (by simp [List.mem_of_getElem? hw])
     have cw:=rG w (by omega)
     have hfd:=aLt (r:=r) hc hw
     have hla:i+2<args.length+1+1:=by omega
     rcases aKs c r w with ⟨rfl,hnw,hs⟩|⟨r',hs,⟨rfl,m,hnw,rfl⟩|⟨hn1,hcs⟩⟩
     ·rw [hnw] at cw
      rw [hinv,hfd,hs] at hR
      simp only [aM6] at hR
      subst hR
      exact dO (Y6 @aK.eq_1 @eV.eq_1 hwi htn hw hc) (Z1 cw)
     ·rw [hnw] at cw
      rw [aEG m hnw] at cw
      rw [hs] at hfd
      refine fV (Y6 @aK.eq_1 @eV.eq_1 hwi htn hw hc) (Z1 cw) ?_
      refine ⟨g.length-(i+1),by omega,i+1,_,rfl,hil,hinv.trans hfd,?_⟩
      refine kM (Y2 @eV.eq_1 @aK.eq_1) ?_
      exact hwj
     ·rw [hs] at hfd
      clear cw
      rcases hcs with ⟨rfl,rfl⟩|⟨rfl,rfl⟩|⟨rfl,rfl,rfl⟩|⟨rfl,hd,rfl⟩|⟨rfl,rfl,rfl⟩|⟨rfl,hd,rfl⟩|⟨hn2,hn3,hn4,hn5,rfl⟩
      all_goals
       refine eT (Y6 @aK.eq_1 @eV.eq_1 hwi htn hw hc) ?_
       refine ⟨g.length-(i+1),by omega,i+1,_,rfl,hil,hinv.trans hfd,?_⟩
       refine kM (Y2 @eV.eq_1 @aK.eq_1) ?_
       exact hwj
    ·have hie:i=g.length:=by omega
     subst hie
     have hfd:vM ⟨k,t,[],[],[],0⟩ g args=some r:=by
      rw [hinv,List.drop_of_length_le (Nat.le_refl _),List.drop_of_length_le (by omega)];rfl
     rw [hfd] at hR
     simp only [aM6] at hR
     by_cases hk0:k=0
     ·subst hk0
      rw [if_pos rfl] at hR
      have hg2:=hg0 rfl
      obtain ⟨x,y,rfl⟩:∃ x y,args=[x,y]:=by
       match args,(show args.length=2 by omega) with
       |[x,y],_=>exact ⟨x,y,rfl⟩
      simp only [List.getD_cons_succ,List.getD_cons_zero] at hR
      have hyl:=hcm y (by simp)
      have cr:=aFu y (by omega)
      cases hru:aHO y with
      |none=>
       rw [hru] at cr hR
       simp only at hR
       subst hR
       exact dO (Y2 @aK.eq_1 @eV.eq_1) (Z1 cr)
      |some d=>
       rw [hru] at cr hR
       simp only at hR
       subst hR
       exact dO (Y2 @aK.eq_1 @eV.eq_1) (Z1 cr)
     ·rw [if_neg hk0] at hR
      subst hR
      exact fC (Y3 @aK.eq_1 @eV.eq_1 hk0)
   ·have hne2:((args.length:Int)+1+1 != 2+(g.length:Int))=true:=by simp;omega
    refine fV (Y6 h2' @aK.eq_1 @eV.eq_1 hf hw1 hne2) (Z1 cv) ?_
    refine ⟨Fm.length-(k+1),by omega,k+1,rfl,hlt,kO hv hn (by simp [oQ];omega),?_⟩
    refine kM (Y2 @eV.eq_1 @aK.eq_1) ?_
    exact hwk
  ·have hbn:(b != v)=true:=by simpa using hbv
   refine fV (Y6 h2' @aK.eq_1 @eV.eq_1 hf hw1 hbn) (Z1 cv) ?_
   refine ⟨Fm.length-(k+1),by omega,k+1,rfl,hlt,kO hv hn (by simp [oQ,hbv]),?_⟩
   refine kM (Y2 @eV.eq_1 @aK.eq_1) ?_
   exact hwk
 ·have hfi:Vb.findIdx? (oQ (a::b::args))=none:=by
   rw [List.take_of_length_le (by omega)] at hn
   exact qS hn
  rw [hfi] at hR
  simp only at hR
  subst hR
  exact fC @eV.eq_1
theorem aEF {w:List UInt8} {n:Int} (h:jD w=some n):fK w=true:=by
 obtain ⟨h1,h2,h3,_⟩:=aCu h
 have hd:∀ b,b∈lU w->aDu b=true:=by
  intro b hb
  obtain ⟨i,hi⟩:=List.getElem?_of_mem hb
  obtain ⟨d,hd⟩:=Lib.digit_of_decFrom _ _ _ h3 i b hi
  obtain ⟨e1,e2,_⟩:=Lib.digitVal_eq hd
  unfold aDu
  simp only [Bool.and_eq_true,decide_eq_true_eq]
  omega
 have hall:(∀ b,b∈w->aDu b=true)/\w.length<=(lU w).length+1/\1<=w.length:=by
  cases w with
  |nil=>simp [lU] at h1
  |cons c r=>
   simp only [lU] at hd h1 ⊢
   split at hd
   ·rename_i hc
    rw [if_pos hc]
    refine ⟨fun b hb=>?_,by simp,by simp⟩
    rcases List.mem_cons.1 hb with rfl|hb
    ·unfold aDu;simp only [Bool.and_eq_true,decide_eq_true_eq];omega
    ·exact hd b hb
   ·rename_i hc
    rw [if_neg hc]
    exact ⟨hd,by simp,by simp⟩
 unfold fK
 rw [List.all_eq_true.2 hall.1]
 unfold inB
 simp only [Bool.true_and,Bool.and_eq_true,decide_eq_true_eq]
 omega
theorem aGx {k:Int} {c:UInt8} {r r':dX} {w:List UInt8} (h:pO k c r w=some r'):fK w=true:=by
 unfold pO at h
 split at h
 ·cases hn:jD w with
  |none=>rw [hn] at h;cases h
  |some n=>exact aEF hn
 ·split at h
  ·cases h
  ·rename_i hb;simpa using hb
def aUT (c c':UInt8):Prop:=(c=110/\c'=110)\/(c=112/\c'=112)\/(c=109/\c'=119)\/(c=113/\c'=113)\/(c=100/\c'=111)
def aSY:List UInt8->List UInt8->Prop
 |[],[]=>True
 |c::cs,d::ds=>aUT c d/\aSY cs ds
 |_,_=>False
theorem aOo {k:Int} (hk:¬k=0) {c c':UInt8} (hc:aUT c c') (r:dX) {w:List UInt8} (hw:fK w=true):pO k c r w=aBa c' r w:=by
 unfold pO aBa
 rcases hc with ⟨rfl,rfl⟩|⟨rfl,rfl⟩|⟨rfl,rfl⟩|⟨rfl,rfl⟩|⟨rfl,rfl⟩<;>first|(simp [hw,hk];done)|(simp [hw,hk];cases jD w<;>rfl)
theorem aOp {k:Int} (hk:¬k=0):∀ (cs ds:List UInt8) (ws:List (List UInt8)) (r:dX),aSY cs ds->ws.length=cs.length →
  iB k r cs ws=if ws.all fK=false then none else vM r ds ws:=by
 intro cs
 induction cs with
 |nil=>
  intro ds ws r hr hl
  cases ds with
  |nil=>
   cases ws with
   |nil=>rfl
   |cons w ws=>simp at hl
  |cons d ds=>exact hr.elim
 |cons c cs ih=>
  intro ds ws r hr hl
  cases ds with
  |nil=>exact hr.elim
  |cons d ds=>
   cases ws with
   |nil=>simp at hl
   |cons w ws=>
    simp only [iB]
    by_cases hb:fK w=true
    rotate_left
    ·have hb:fK w=false:=by simpa using hb
     have:pO k c r w=none:=by
      cases ht:pO k c r w with
      |none=>rfl
      |some q=>rw [aGx ht] at hb;cases hb
     rw [this,if_pos (by simp [hb])]
    ·have hall:(w::ws).all fK=ws.all fK:=by simp [hb]
     rw [aOo hk hr.1 r hb,hall]
     simp only [vM]
     cases aBa d r w with
     |none=>simp
     |some q=>exact ih ds ws q hr.2 (by simpa using hl)
theorem aOn (t:Int) (x y:List UInt8):iB 0 ⟨0,t,[],[],[],0⟩ [109,100] [x,y]=if [x,y].all fK=false then none else aM6 0 [[],[],x,y] (vM ⟨0,t,[],[],[],0⟩ [119,111] [x,y]):=by
 cases hx:fK x<;>cases hy:fK y<;>simp [iB,pO,vM,aBa,aM6,aHO,hx,hy]
 by_cases hd:y=[46]
 ·simp [hd]
 ·simp [hd]
  cases mO (cJ 59 y)<;>rfl
theorem aCU:(fZ.drop 11).all (fun f=>!f.tok)=true/\(fZ.take 11).all (fun f=>f.tok)=true/\(fZ.take 11).map (fun f=>(f.word,f.rest.length))=kA.map (fun v=>(v.1,v.2.length)) ∧
  ∀ i:_root_.Fin 11,∃ f v,fZ[i.1]?=some f/\kA[i.1]?=some v/\f.kind=i.1/\f.word=v.1/\fK v.1=true/\f.rest.length=v.2.length/\aSY f.rest v.2/\(i.1=0->f.rest=[109,100]/\v.2=[119,111]):=by
 refine ⟨rfl,rfl,rfl,fun i=>⟨fZ[i.1]'(by simp [fZ];omega),kA[i.1]'(by simp [kA]),List.getElem?_eq_getElem _,List.getElem?_eq_getElem _,?_⟩⟩
 match i with
 |⟨0,_⟩|⟨1,_⟩|⟨2,_⟩|⟨3,_⟩|⟨4,_⟩|⟨5,_⟩|⟨6,_⟩|⟨7,_⟩|⟨8,_⟩|⟨9,_⟩|⟨10,_⟩=>exact ⟨rfl,rfl,rfl,rfl,by simp [aSY,aUT,fZ,kA],by simp [fZ,kA]⟩
theorem aPz {α:Type} {p:α->Bool} {l:List α} {n:Nat} (h:∀ x,x∈l.drop n->p x=false):l.find? p=(l.take n).find? p:=by
 conv=>lhs;rw [<-List.take_append_drop n l,List.find?_append]
 have:(l.drop n).find? p=none:=by rw [List.find?_eq_none];intro x hx;rw [h x hx];simp
 rw [this];simp
theorem aDp {α β:Type} (f:α->β) (q:β->Bool) (l:List α):(l.map f).findIdx? q=l.findIdx? (fun x=>q (f x)):=by
 induction l with
 |nil=>rfl
 |cons x l ih=>simp only [List.map_cons,List.findIdx?_cons,ih]
theorem aLw {α:Type} {p:α->Bool} {l:List α}:l.find? p=(l.findIdx? p).bind fun i=>l[i]?:=by
 induction l with
 |nil=>rfl
 |cons x l ih=>
  simp only [List.find?_cons,List.findIdx?_cons]
  cases p x with
  |true=>simp
  |false=>simp only [ih];cases l.findIdx? p<;>simp
theorem aM7 (a b:List UInt8) (args:List (List UInt8)) (t:Int) (ha:fK a=true):yJ (b::args) (some t)=if (a::b::args).all fK=false then none else sp3 (a::b::args) t:=by
 obtain ⟨h1,h2,h3,h4⟩:=aCU
 unfold yJ sp3
 simp only [Option.isSome_some]
 have e1:fZ.find? (iT (b::args) true)=(fZ.take 11).find? (iT (b::args) true):=aPz fun f hf=>by
  have:=List.all_eq_true.1 h1 f hf
  unfold iT
  cases hft:f.tok with
  |true=>rw [hft] at this;cases this
  |false=>simp
 have e2:(fZ.take 11).findIdx? (iT (b::args) true)=kA.findIdx? (oQ (a::b::args)):=by
  have k1:(fZ.take 11).findIdx? (iT (b::args) true)=(fZ.take 11).findIdx? (fun f=>(fun q:List UInt8×Nat=>b==q.1 && decide (args.length=q.2)) (f.word,f.rest.length)):=by
   have:∀ l:List xU,l.all (fun f=>f.tok)=true->l.findIdx? (iT (b::args) true)=l.findIdx? (fun f=>b==f.word && decide (args.length=f.rest.length)):=by
    intro l
    induction l with
    |nil=>intro _;rfl
    |cons f l ih=>
     intro hl
     simp only [List.all_cons,Bool.and_eq_true] at hl
     simp only [List.findIdx?_cons,ih hl.2]
     have:iT (b::args) true f=(b==f.word && decide (args.length=f.rest.length)):=by
      unfold iT
      rw [hl.1]
      simp only [List.length_cons,List.head?_cons,Nat.add_right_cancel_iff,beq_self_eq_true,Bool.and_true]
      rw [Bool.and_comm]
      congr 1
     rw [this]
   exact this _ h2
  refine k1.trans ((aDp (fun f:xU=>(f.word,f.rest.length)) (fun q:List UInt8×Nat=>b==q.1 && decide (args.length=q.2)) _).symm.trans ?_)
  rw [h3,aDp]
  congr 1
  funext v
  unfold oQ
  simp only [List.getD_cons_succ,List.getD_cons_zero,List.length_cons]
  congr 1
  exact decide_eq_decide.2 (by omega)
 rw [e1,aLw,e2]
 cases hi:kA.findIdx? (oQ (a::b::args)) with
 |none=>simp
 |some k=>
  obtain ⟨hk,hm,_⟩:=List.findIdx?_eq_some_iff_getElem.1 hi
  have hk11:k<11:=hk
  obtain ⟨f,v,hf,hv,ek,ew,hvb,el,hrel,h0⟩:=h4 ⟨k,hk11⟩
  simp only at hf hv ek h0
  have hft:(fZ.take 11)[k]?=some f:=by rw [List.getElem?_take,if_pos hk11];exact hf
  have hm:oQ (a::b::args) v=true:=by
   have hve:=hv
   rw [List.getElem?_eq_getElem hk] at hve
   rw [<-Option.some.inj hve];exact hm
  unfold oQ at hm
  simp only [List.getD_cons_succ,List.getD_cons_zero,List.length_cons,Bool.and_eq_true,beq_iff_eq,decide_eq_true_eq] at hm
  obtain ⟨rfl,hlen⟩:=hm
  have hlen:args.length=f.rest.length:=by omega
  simp only [Option.bind_some,hft,hv,Option.getD_some,List.drop_succ_cons,List.drop_zero,List.all_cons,ha,hvb,Bool.true_and]
  by_cases hk0:k=0
  ·subst hk0
   obtain ⟨r1,r2⟩:=h0 rfl
   rw [ek,r1,r2]
   rw [r1] at hlen
   match args,hlen with
   |[x,y],_=>
    have:=aOn t x y
    simp only [aM6,List.getD_cons_succ,List.getD_cons_zero] at this ⊢
    exact this
  ·rw [ek,aOp (by omega) f.rest v.2 args _ hrel hlen]
   congr 1
   unfold aM6
   cases vM ⟨(k:Int),t,[],[],[],0⟩ v.2 args with
   |none=>rfl
   |some r=>simp [hk0]
theorem aOx:∀ v,v∈iQ->jD v=none:=by
 intro v hv
 simp only [iQ,List.mem_cons,List.not_mem_nil,or_false] at hv
 rcases hv with rfl|rfl|rfl|rfl|rfl<;>rfl
theorem aQf:jD [115,121,110,99]=none:=rfl
theorem aKB {ws:List (List UInt8)} {k:Nat} (h:oN ws=some k):∃ a b,ws=[a,b]/\iQ[k]?=some a:=by
 unfold oN at h
 split at h
 ·rename_i hl
  match ws,hl with
  |[a,b],_=>
   obtain ⟨h1,h2,_⟩:=List.findIdx?_eq_some_iff_getElem.1 h
   simp only [List.getD_cons_zero,beq_iff_eq] at h2
   exact ⟨a,b,rfl,by rw [List.getElem?_eq_getElem h1,<-h2]⟩
 ·cases h
theorem aM8 (a:List UInt8) (args:List (List UInt8)) (hn:jD a=none):yJ (a::args) none=if (a::args).all fK=false then none else sp1 (a::args):=by
 have e0:yJ (a::args) none=match (fZ.drop 11).find? (iT (a::args) false) with|none=>none|some f=>iB f.kind ⟨f.kind,0,[],[],[],0⟩ f.rest args:=by
  unfold yJ
  simp only [Option.isSome_none,Option.getD_none,List.drop_succ_cons,List.drop_zero]
  congr 1
  conv=>lhs;rw [<-List.take_append_drop 11 fZ,List.find?_append]
  have:(fZ.take 11).find? (iT (a::args) false)=none:=by
   rw [List.find?_eq_none]
   intro f hf
   have:=List.all_eq_true.1 aCU.2.1 f hf
   simp [iT,this]
  rw [this];simp
 have e2:sp2 (a::args)=none:=by unfold sp2;split<;>simp [hn]
 have e1:fZ.drop 11=[⟨[111,112,101,110],11,false,[110]⟩,⟨[116,105,109,101],12,false,[110]⟩,⟨[102,97,114],13,false,[110]⟩,⟨[115,121,110,99],14,false,[]⟩,⟨[99,114,97,115,104],15,false,[110]⟩]:=rfl
 rw [e0,e1]
 match args with
 |[]=>
  have hs:oN [a]=none:=rfl
  unfold sp1
  by_cases ha:a=[115,121,110,99]
  ·subst ha;rfl
  ·simp [iT,hs,e2,ha]
 |[b]=>
  have hsy:¬[a,b]=[[115,121,110,99]]:=by simp
  unfold sp1
  rw [if_neg hsy]
  have hsi:oN [a,b]=iQ.findIdx? (fun v=>a==v):=rfl
  rw [hsi]
  have hb:∀ k:Int,iB k ⟨k,0,[],[],[],0⟩ [110] [b]=match jD b with|some n=>some ⟨k,0,[],[],[],n⟩|none=>none:=by
   intro k
   simp only [iB,pO,if_true]
   cases jD b<;>rfl
  have hbw:∀ n,jD b=some n->fK b=true:=fun n h=>aEF h
  have fin:∀ k:Int,fK a=true->(match jD b with|some n=>some (dX.mk k 0 [] [] [] n)|none=>none)=if [a,b].all fK=false then none else (match jD b with|some n=>some (dX.mk k 0 [] [] [] n)|none=>none):=by
   intro k hwa
   cases hnb:jD b with
   |none=>simp
   |some n=>rw [if_neg (by simp [hwa,hbw n hnb])]
  by_cases h1:a=[111,112,101,110]
  ·subst h1
   refine Eq.trans (?_:_=iB 11 ⟨11,0,[],[],[],0⟩ [110] [b]) ((hb 11).trans (fin 11 rfl))
   rfl
  by_cases h2:a=[116,105,109,101]
  ·subst h2
   refine Eq.trans (?_:_=iB 12 ⟨12,0,[],[],[],0⟩ [110] [b]) ((hb 12).trans (fin 12 rfl))
   rfl
  by_cases h3:a=[102,97,114]
  ·subst h3
   refine Eq.trans (?_:_=iB 13 ⟨13,0,[],[],[],0⟩ [110] [b]) ((hb 13).trans (fin 13 rfl))
   rfl
  by_cases h4:a=[]
  ·subst h4;simp [iT,fK,inB]
  by_cases h5:a=[99,114,97,115,104]
  ·subst h5
   refine Eq.trans (?_:_=iB 15 ⟨15,0,[],[],[],0⟩ [110] [b]) ((hb 15).trans (fin 15 rfl))
   rfl
  have hfi:iQ.findIdx? (fun v=>a==v)=none:=qS fun v hv=>by
   simp only [iQ,List.mem_cons,List.not_mem_nil,or_false] at hv
   rcases hv with rfl|rfl|rfl|rfl|rfl<;>simpa using (by assumption)
  rw [hfi]
  simp [iT,h1,h2,h3,h5,e2]
 |b::c::r=>
  have hs:oN (a::b::c::r)=none:=by simp [oN]
  unfold sp1
  simp [iT,hs,e2]
theorem aHb (line:List UInt8):xZ line=jI line:=by
 unfold xZ jI
 split
 ·rfl
 ·obtain ⟨a,args,e⟩:=jY 32 line
  rw [e]
  simp only [List.headD_cons]
  cases hn:jD a with
  |none=>
   simp only [Option.isSome_none,aKg,Bool.false_eq_true,if_false]
   exact (aM8 a args hn).symm
  |some t=>
   simp only [Option.isSome_some,aKg,if_true,List.drop_succ_cons,List.drop_zero]
   have h1:¬(a::args)=[[115,121,110,99]]:=by
    intro e
    cases e
    rw [aQf] at hn;cases hn
   have h2:oN (a::args)=none:=by
    cases hs:oN (a::args) with
    |none=>rfl
    |some k=>
     obtain ⟨x,y,e1,e2⟩:=aKB hs
     cases e1
     rw [aOx _ (List.mem_of_getElem? e2)] at hn;cases hn
   have h3:sp1 (a::args)=sp2 (a::args):=by unfold sp1;rw [if_neg h1,h2]
   cases args with
   |nil=>
    have:yJ [] (some t)=none:=by
     unfold yJ
     have:fZ.find? (iT [] true)=none:=by rw [List.find?_eq_none];intro f _;simp [iT]
     simp only [Option.isSome_some,this]
    rw [this,h3]
    simp [sp2]
   |cons b args=>
    rw [aM7 a b args t (aEF hn),h3]
    have:sp2 (a::b::args)=sp3 (a::b::args) t:=by unfold sp2;rw [if_neg (by simp)];simp only [List.getD_cons_zero,hn]
    rw [this]
def yW (s:List UInt8):List UInt8:=if s=[] then [46] else s
def swp (a b:UInt8) (s:List UInt8):List UInt8:=s.map fun x=>if x=a then b else x
theorem sF (a b:UInt8) (s:List UInt8):(swp a b s).length=s.length:=by simp [swp]
theorem aFL {b c:UInt8} (h:b≠c) (new:List UInt8):∀ (k:Nat) (l:List UInt8),Lib.replaceK [c] new k (b::l)=b::Lib.replaceK [c] new k l:=by
 intro k l
 cases k with
 |zero=>rfl
 |succ k=>
  have hp:([c]:List UInt8).isPrefixOf (b::l)=false:=by simp [List.isPrefixOf,Ne.symm h]
  have hix:Lib.index (b::l) [c]=if Lib.index l [c]==-1 then -1 else Lib.index l [c]+1:=by rw [Lib.index,hp];simp
  unfold Lib.replaceK
  rw [hix]
  have hge:=Lib.index_ge l [c]
  by_cases hm:Lib.index l [c]=-1
  ·rw [hm];simp
  ·obtain ⟨j,hj⟩:∃ j:Nat,Lib.index l [c]=j:=⟨(Lib.index l [c]).toNat,by omega⟩
   have h1:¬((j:Int)==-1)=true:=fun e=>by have:=beq_iff_eq.1 e;omega
   have h2:¬((j:Int)+1==-1)=true:=fun e=>by have:=beq_iff_eq.1 e;omega
   rw [hj,if_neg h1,if_neg h1,if_neg h2]
   have e1:((j:Int)+1).toNat=j+1:=by omega
   simp [e1]
theorem aKN {a b:UInt8} (hab:a≠b) (s:List UInt8):Lib.replaceAll s [a] [b]=swp a b s:=by
 have hk:∀ s:List UInt8,Lib.replaceK [a] [b] (Lib.count s [a]) s=swp a b s:=by
  intro s
  induction s with
  |nil=>rw [Lib.count_one];rfl
  |cons x r ih=>
   by_cases h:x=a
   ·subst h
    have hix:Lib.index (x::r) [x]=0:=by rw [Lib.index];simp [List.isPrefixOf]
    rw [Lib.count_cons_eq,show 1+Lib.count r [x]=Lib.count r [x]+1 by omega,Lib.replaceK,hix]
    simp [ih,swp]
   ·rw [Lib.count_cons_ne x a r h,aFL h,ih]
    simp [swp,h]
 unfold Lib.replaceAll Lib.replace
 have hne:(([a]:List UInt8)==[b])=false:=by simp [hab]
 rw [hne]
 have hn:Lib.replaceNum s [a] (-1)=Lib.count s [a]:=by unfold Lib.replaceNum;rw [if_pos (.inl (by omega))]
 simp only [Bool.false_eq_true,if_false,hn]
 exact hk s
theorem aHn {w:World} {Fz:bK} {args:Array Value} (ss:List (List UInt8)) (hl:args.size=(ss.map D.str).length) (hA:∀ (i:Nat) d,(ss.map D.str)[i]?=some d->Shr w Fz (args.getD i Go.undef) d):
  args=(ss.map fun s=>Value.string ⟨s.toArray⟩).toArray:=by
 refine aDY (l:=ss.map fun s=>Value.string ⟨s.toArray⟩) (by simpa using hl) fun i v hv=>?_
 rw [List.getElem?_map] at hv
 obtain ⟨s,hs,rfl⟩:=Option.map_eq_some_iff.1 hv
 exact aBb (hA i (.str s) (by simp [hs]))
theorem yN (s:List UInt8) (a b:UInt8) (hab:a≠b) (hs:s.length<=2000000):aC PP GG 43 [.d (.str s),.d (.str [a]),.d (.str [b])] (.d (.str (swp a b s))) [none,none,none]:=by
 refine aBx [.str s,.str [a],.str [b]] ⟨Tryz.f43,Tryz.func43,by kernel_rfl,by kernel_rfl⟩ fun w Fz args hG hFz hl hA=>?_
 have e:=aHn [s,[a],[b]] hl hA
 subst e
 obtain ⟨ob,h1,h2⟩:=hG 3 _ MaxL.h
 cases ob with
 |cells cs t fr=>
  obtain ⟨m,h3⟩:=h2
  have hcl:Lib.countB ⟨s.toArray⟩ ⟨#[a]⟩<=s.length+1:=Lib.count_le s [a]
  refine (Go.Proofs.YtiejbbcpihpgpaaGreatDoor.Tryz.strings_ReplaceAll ⟨s.toArray⟩ ⟨#[a]⟩ ⟨#[b]⟩ m w (by show s.length<_;omega) (by unfold World.cell?;simp [h1,h3]) (Nat.le_refl 1) (by show s.length+_*1<=_;omega)).mono ?_
  rintro e w' ⟨rfl,hb⟩
  refine ⟨_,Fz,fun _ _=>False,rfl,⟨hb.os,hb.output⟩,hb.size,fun b h=>hb.block b h,fun _ _ h=>h,fun b o h=>⟨.inl h,Nat.lt_of_lt_of_le (hFz b o h) hb.size⟩,?_,fun _ _ h=>h.elim⟩
  have hr:Lib.replaceAll s [a] [b]=swp a b s:=aKN hab s
  show RC w' Fz (.d (.str (swp a b s))) (.string ⟨(Lib.replaceAll s [a] [b]).toArray⟩) _
  rw [hr]
  exact .d _ _ _ (.str _) fun _ _ h=>h
 |_=>exact h2.elim
theorem aGj (s p:List UInt8) (hs:s.length<=2000000):aC PP GG 44 [.d (.str s),.d (.str p)] (.d (.str (Lib.trimSuffix s p))) [none,none]:=by
 refine aBx [.str s,.str p] ⟨Tryz.f44,Tryz.func44,by kernel_rfl,by kernel_rfl⟩ fun w Fz args hG hFz hl hA=>?_
 have e:=aHn [s,p] hl hA
 subst e
 refine (Go.Proofs.YtiejbbcpihpgpaaGreatDoor.Tryz.strings_TrimSuffix ⟨s.toArray⟩ ⟨p.toArray⟩ w (by show s.length<=_;omega)).mono ?_
 rintro e w' ⟨rfl,rfl⟩
 exact ⟨_,Fz,fun _ _=>False,rfl,⟨rfl,rfl⟩,Nat.le_refl _,fun _ _=>rfl,fun _ _ h=>h,fun b o h=>⟨.inl h,hFz b o h⟩,.d _ _ _ (.str _) fun _ _ h=>h,fun _ _ h=>h.elim⟩
theorem aC6 (s:List UInt8):aC PP GG 42 [.d (.str s)] (.d (.str (yW s))) [none]:=by
 refine cv Tryz.func42 [.d (.str (yW s))] ?_
 by_cases h:s=[]
 ·subst h
  exact fC @yW.eq_1
 ·have hb:(s==[])=false:=by simpa using h
  have:yW s=s:=if_neg h
  rw [this]
  exact fC hb
theorem aCZ (s:List UInt8):aC PP GG 24 [.d (.str s)] (.d (.str (yW s))) [none]:=by
 refine cv Tryz.func24 [.d (.str (yW s))] ?_
 by_cases h:s=[]
 ·subst h
  exact fC @yW.eq_1
 ·have hb:(s==[])=false:=by simpa using h
  have:yW s=s:=if_neg h
  rw [this]
  exact fC hb
def unF:List (List UInt8)->List UInt8
 |[]=>[]
 |p::r=>swp 32 61 p++r.flatMap fun q=>59::swp 32 61 q
def xY (d:List UInt8):List UInt8:=if d=[] then [46] else unF (cJ 10 d).dropLast
theorem aP2 {l:List (List UInt8)} {i:Nat} {p:List UInt8} (h:l[i]?=some p):unF (l.take (i+1))=unF (l.take i)++(if i=0 then [] else [59])++swp 32 61 p:=by
 cases l with
 |nil=>simp at h
 |cons q r=>
  cases i with
  |zero=>simp at h;subst h;simp [unF]
  |succ j=>
   simp only [List.getElem?_cons_succ] at h
   simp only [List.take_succ_cons,unF]
   rw [List.take_add_one,h]
   simp [List.flatMap_append]
end Go.Proofs.YtiejbbcpihpgpaaGreatDoor.Ab
