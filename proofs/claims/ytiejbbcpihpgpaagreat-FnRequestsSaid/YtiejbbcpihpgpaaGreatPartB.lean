/-
  A part of a proof about the given program; what is proved is said where each theorem stands.
-/
import Derived.Test.YtiejbbcpihpgpaaGreatFrameA
import Derived.Test.YtiejbbcpihpgpaaGreatFrameB
import Derived.Test.YtiejbbcpihpgpaaGreatFrameC
import Derived.Test.YtiejbbcpihpgpaaGreatFrameD
import Derived.Test.YtiejbbcpihpgpaaGreatHead
import Derived.Test.YtiejbbcpihpgpaaGreatCodes
import Derived.Test.YtiejbbcpihpgpaaGreatPartA
namespace Go.Proofs
end Go.Proofs
set_option linter.unusedSimpArgs false
set_option linter.unusedVariables false
set_option maxRecDepth 100000
set_option maxHeartbeats 2000000
namespace Go.Proofs.YtiejbbcpihpgpaaGreat.Ab
open Go.Proofs
theorem aFZ (c:dO) (n:cO) (hok:c.ok) (hon:n.ok) (hc:c.cost+n.cost<=1048576):aE PP GG 67 [.agg c.c,.agg n.c] (.tup [.agg (aJQ c n).o,.d (.bool (aNk c n))]) [none,none]:=by
 have cp:=aKH c (by omega)
 have ch:=aIL c (by omega)
 have cc:=sZ c (by omega)
 have hhv:aLM c=if eU c=true then aFq c else -1:=rfl
 have hind:=aFo c.dM
 have hB:aNk c n=(eU c && eU (pD c (oF c n))):=rfl
 have hC:aJQ c n=if aNk c n=true then pD c (oF c n) else c:=rfl
 have hna:eU c=true->∀ (i:Nat) x,c.dM[i]?=some x->uV x=true:=fun h i x hx=>aDT h hx
 have hlc:eU c=true->c.dM.length<=120:=aFB
 obtain ⟨f,k,l⟩:=c
 obtain ⟨q,a,w,t,p,cd,m⟩:=n
 have hco:(dO.mk f k l).cost=l.length+cX cO.cost l:=rfl
 have hcn:(cO.mk q a w t p cd m).cost=t.length+p.length:=rfl
 obtain ⟨o1,o2,o3,o4⟩:=hok
 simp only at o1 o4 hna hind hlc
 have hhl:aFq ⟨f,k,l⟩=match l.getLast? with|some x=>x.aAO|none=>f:=rfl
 have hsl:oF ⟨f,k,l⟩ ⟨q,a,w,t,p,cd,m⟩=⟨(match l.getLast? with|some x=>x.nA+1|none=>1),a,w,t,p,cd,aMc (aFq ⟨f,k,l⟩) ⟨(match l.getLast? with|some x=>x.nA+1|none=>1),a,w,t,p,cd,m⟩⟩:=rfl
 generalize aJQ ⟨f,k,l⟩ ⟨q,a,w,t,p,cd,m⟩=rC at hC ⊢
 generalize aNk ⟨f,k,l⟩ ⟨q,a,w,t,p,cd,m⟩=rB at hB hC ⊢
 have hd64:cH (aFq ⟨f,k,l⟩):=by
  rw [hhl]
  cases hl:l.getLast? with
  |none=>exact o1
  |some x=>exact (o4 x (List.mem_of_getLast? hl)).2.2.2.2.2.2
 generalize aFq ⟨f,k,l⟩=hd at hhv hsl hd64 hhl
 clear hhl
 refine cv Tryz.func67 [.agg rC.o,.d (.bool rB)] ?_
 cases hk:eU ⟨f,k,l⟩ with
 |false=>
  rw [hk] at cc hB
  rw [Bool.false_and] at hB
  subst hB
  rw [if_neg (by simp)] at hC
  subst hC
  exact qX (Z2 cp cc)
 |true=>
 rw [hk] at cc hB hhv
 rw [if_pos rfl] at hhv
 rw [hhv] at ch
 rw [Bool.true_and] at hB
 have hl120:=hlc hk
 obtain ⟨s,hs⟩:∃ s:Int,(match l.getLast? with|some x=>x.nA+1|none=>1)=s:=⟨_,rfl⟩
 rw [hs] at hsl
 have hs64:cH s:=by
  rw [<-hs]
  cases hl:l.getLast? with
  |none=>show cH 1;exact ⟨by omega,by omega⟩
  |some x=>
   show cH (x.nA+1)
   obtain ⟨j,hj⟩:=List.getElem?_of_mem (List.mem_of_getLast? hl)
   have hn:=tH (hna hk j x hj)
   exact ⟨by omega,by omega⟩
 have cs:=aMm hd ⟨s,a,w,t,p,cd,m⟩ hd64 ⟨hs64,hon.2⟩ (by show t.length<=_;omega) (by show p.length<=_;omega)
 obtain ⟨v,hv⟩:∃ v,aMc hd ⟨s,a,w,t,p,cd,m⟩=v:=⟨_,rfl⟩
 rw [hv] at cs hsl
 rw [hsl] at hB hC
 clear hv hsl
 have hgc:=aDI ⟨f,k,l⟩ ⟨s,a,w,t,p,cd,v⟩
 have hcx:(cO.mk s a w t p cd v).cost=t.length+p.length:=rfl
 have cg0:=sZ (pD ⟨f,k,l⟩ ⟨s,a,w,t,p,cd,v⟩) (by omega)
 cases hl:l.getLast? with
 |none=>
  have hlen:l.length=0:=by rw [List.getLast?_eq_none_iff.1 hl];rfl
  have hnil:l=[]:=List.getLast?_eq_none_iff.1 hl
  rw [hl] at hs
  simp only at hs
  subst hs
  have hg:pD ⟨f,k,l⟩ ⟨1,a,w,t,p,cd,v⟩=⟨f,k,l++[⟨1,a,w,t,p,cd,v⟩]⟩:=by unfold pD;rw [if_neg (show ¬l.length=120 by omega)]
  rw [hg] at hB hC cg0
  clear hgc hg
  generalize eU ⟨f,k,l++[⟨1,a,w,t,p,cd,v⟩]⟩=b at hB cg0
  have hsn:=tC l ⟨1,a,w,t,p,cd,v⟩
  have cg:aE PP GG 110 [.agg [.d (.int .i64 f),.d (.int .i64 k),.d (.slc 7 (eK l++[(cO.mk 1 a w t p cd v).row]))]] (.d (.bool b)) [none]:=by rw [<-hsn];exact cg0
  simp only [cO.row] at cg hsn
  repeat' (first|refine aK ?_|refine aU ?_|refine bE ?_|(refine dN ?_;first|refine cG rfl ?_|(refine cU rfl ?_;first|refine cG rfl ?_|(refine cU rfl ?_;refine cG rfl ?_)))|(refine qG fun K hK=>?_;simp [aJ])|(refine nE fun K hK=>?_;simp [aJ])|(with_reducible refine hK _ ?_;clear hK K)|(with_reducible refine aI (cp) ?_;simp [aJ])|(with_reducible refine aI (cc) ?_;simp [aJ])|(with_reducible refine aI (ch) ?_;simp [aJ])|(with_reducible refine aI (cs) ?_;simp [aJ])|(with_reducible refine aI (cg) ?_;simp [aJ])|(with_reducible refine aM (fun h=>?_) (fun h=>?_)<;>first|(exfalso;simp at h;done)|(exfalso;simp at h;omega)|(exfalso;simp at h;contradiction)|((try simp at h);simp [aJ]))|with_reducible refine And.intro ?_ ?_|with_reducible exact aS rfl|with_reducible assumption|(refine aR rfl (fun h=>?_) (fun h=>?_)<;>first|(exfalso;simp at h;done)|(exfalso;simp at h;omega)|(exfalso;simp at h;contradiction)|(exfalso;simp_all;done)|(try simp at h))|(refine sN ?_;simp [Fin,aJ])|omega)
  all_goals simp_all
 |some x=>
  obtain ⟨j,hlen,hx⟩:∃ j,l.length=j+1/\l[j]?=some x:=by
   rw [List.getLast?_eq_getElem?] at hl
   have:=(List.getElem?_eq_some_iff.1 hl).1
   exact ⟨l.length-1,by omega,hl⟩
  have hn:=tH (hna hk j x hx)
  rw [hl] at hs
  simp only at hs
  have hw:IntKind.i64.wrap ((l.length:Int)-1)=(j:Int):=by rw [aA (by omega) (by omega)];omega
  have hw':IntKind.i64.wrap ((j:Int)+1-1)=(j:Int):=by rw [aA (by omega) (by omega)];omega
  have hw2:IntKind.i64.wrap (x.nA+1)=s:=by rw [aA (by omega) (by omega)];exact hs
  clear hs
  by_cases h120:l.length=120
  ·have hw3:IntKind.i64.wrap 119=(j:Int):=by rw [aA (by omega) (by omega)];omega
   obtain ⟨z,hz⟩:∃ z,l[0]?=some z:=⟨_,List.getElem?_eq_getElem (by omega)⟩
   have htk2:∀ r:List D,List.take 121 (eK l++[r])=eK l++[r]:=fun r=>List.take_of_length_le (by simp;omega)
   have htk3:∀ r:List D,(eK l++[r]).tail=(eK l).tail++[r]:=fun r=>by
    cases l with
    |nil=>simp at h120
    |cons y u=>simp [eK]
   have hr2:∀ h:0<(eK l).length,(eK l)[0]'h=z.row:=fun h=>by simp only [eK,List.getElem_map];rw [List.getElem?_eq_getElem (by omega)] at hz;rw [Option.some.inj hz]
   have hz2:∀ h:0<l.length,l[0]'h=z:=fun h=>by rw [List.getElem?_eq_getElem h] at hz;exact Option.some.inj hz
   have hg:pD ⟨f,k,l⟩ ⟨s,a,w,t,p,cd,v⟩=⟨z.aAO,k,l.drop 1++[⟨s,a,w,t,p,cd,v⟩]⟩:=by
    unfold pD;rw [if_pos h120];cases l with|nil=>simp at h120|cons y u=>simp at hz;subst hz;rfl
   rw [hg] at hB hC cg0
   clear hg hgc
   generalize eU ⟨z.aAO,k,l.drop 1++[⟨s,a,w,t,p,cd,v⟩]⟩=b at hB cg0
   have hsn:eK (l.drop 1++[⟨s,a,w,t,p,cd,v⟩])=(eK l).drop 1++[(cO.mk s a w t p cd v).row]:=by rw [tC];simp [eK]
   have htk:List.take 120 (eK l)=eK l:=List.take_of_length_le (by rw [aMr];omega)
   have cg:aE PP GG 110 [.agg [.d (.int .i64 z.aAO),.d (.int .i64 k),.d (.slc 7 ((eK l).drop 1++[(cO.mk s a w t p cd v).row]))]] (.d (.bool b)) [none]:=by rw [<-hsn];exact cg0
   simp only [cO.row] at cg hsn
   simp at cg
   repeat' (first|refine aK ?_|refine aU ?_|refine bE ?_|(refine dN ?_;first|refine cG rfl ?_|(refine cU rfl ?_;first|refine cG rfl ?_|(refine cU rfl ?_;refine cG rfl ?_)))|(refine qG fun K hK=>?_;simp [aJ,hw3,hw2,hx,hz,hz2,hr2,h120,htk,htk2,htk3])|(refine nE fun K hK=>?_;simp [aJ,hw3,hw2,hx,hz,hz2,hr2,h120,htk,htk2,htk3])|(with_reducible refine hK _ ?_;clear hK K)|(with_reducible refine aI (cp) ?_;simp [aJ,hw3,hw2,hx,hz,hz2,hr2,h120,htk,htk2,htk3])|(with_reducible refine aI (cc) ?_;simp [aJ,hw3,hw2,hx,hz,hz2,hr2,h120,htk,htk2,htk3])|(with_reducible refine aI (ch) ?_;simp [aJ,hw3,hw2,hx,hz,hz2,hr2,h120,htk,htk2,htk3])|(with_reducible refine aI (cs) ?_;simp [aJ,hw3,hw2,hx,hz,hz2,hr2,h120,htk,htk2,htk3])|(with_reducible refine aI (cg) ?_;simp [aJ,hw3,hw2,hx,hz,hz2,hr2,h120,htk,htk2,htk3])|(with_reducible refine aM (fun h=>?_) (fun h=>?_)<;>first|(exfalso;simp at h;done)|(exfalso;simp at h;omega)|(exfalso;simp at h;contradiction)|((try simp at h);simp [aJ,hw3,hw2,hx,hz,hz2,hr2,h120,htk,htk2,htk3]))|with_reducible refine And.intro ?_ ?_|with_reducible exact aS rfl|with_reducible assumption|(refine aR rfl (fun h=>?_) (fun h=>?_)<;>first|(exfalso;simp at h;done)|(exfalso;simp at h;omega)|(exfalso;simp at h;contradiction)|(exfalso;simp_all;done)|(try simp at h))|(refine sN ?_;simp [Fin,aJ,hw3,hw2,hx,hz,hz2,hr2,h120,htk,htk2,htk3])|omega)
   all_goals simp_all
  ·have hg:pD ⟨f,k,l⟩ ⟨s,a,w,t,p,cd,v⟩=⟨f,k,l++[⟨s,a,w,t,p,cd,v⟩]⟩:=by unfold pD;rw [if_neg h120]
   rw [hg] at hB hC cg0
   clear hg hgc
   generalize eU ⟨f,k,l++[⟨s,a,w,t,p,cd,v⟩]⟩=b at hB cg0
   have hsn:=tC l ⟨s,a,w,t,p,cd,v⟩
   have cg:aE PP GG 110 [.agg [.d (.int .i64 f),.d (.int .i64 k),.d (.slc 7 (eK l++[(cO.mk s a w t p cd v).row]))]] (.d (.bool b)) [none]:=by rw [<-hsn];exact cg0
   simp only [cO.row] at cg hsn
   repeat' (first|refine aK ?_|refine aU ?_|refine bE ?_|(refine dN ?_;first|refine cG rfl ?_|(refine cU rfl ?_;first|refine cG rfl ?_|(refine cU rfl ?_;refine cG rfl ?_)))|(refine qG fun K hK=>?_;simp [aJ,hw,hw',hw2,hx,h120])|(refine nE fun K hK=>?_;simp [aJ,hw,hw',hw2,hx,h120])|(with_reducible refine hK _ ?_;clear hK K)|(with_reducible refine aI (cp) ?_;simp [aJ,hw,hw',hw2,hx,h120])|(with_reducible refine aI (cc) ?_;simp [aJ,hw,hw',hw2,hx,h120])|(with_reducible refine aI (ch) ?_;simp [aJ,hw,hw',hw2,hx,h120])|(with_reducible refine aI (cs) ?_;simp [aJ,hw,hw',hw2,hx,h120])|(with_reducible refine aI (cg) ?_;simp [aJ,hw,hw',hw2,hx,h120])|(with_reducible refine aM (fun h=>?_) (fun h=>?_)<;>first|(exfalso;simp at h;done)|(exfalso;simp at h;omega)|(exfalso;simp at h;contradiction)|((try simp at h);simp [aJ,hw,hw',hw2,hx,h120]))|with_reducible refine And.intro ?_ ?_|with_reducible exact aS rfl|with_reducible assumption|(refine aR rfl (fun h=>?_) (fun h=>?_)<;>first|(exfalso;simp at h;done)|(exfalso;simp at h;omega)|(exfalso;simp at h;contradiction)|(exfalso;simp_all;done)|(try simp at h))|(refine sN ?_;simp [Fin,aJ,hw,hw',hw2,hx,h120])|omega)
   all_goals simp_all
def aLl (k h:Int):Int:=(48271*h+k % 65521+1) % 2147483629
def tZ (k h:Int):Nat->Int
 |0=>h
 |i+1=>aLl k (tZ k h i)
def rK (k h:Int) (i:Nat):UInt8:=UInt8.ofNat ((tZ k h (i+1) / 1024) % 256).toNat
def aC4 (k n:Int):Int:=(k % 2147483629+2*(n % 2147483629)+1) % 2147483629
def aFQ (k n:Int) (len:Nat):List UInt8:=(List.range len).map (rK k (aC4 k n))
theorem aIy (k n:Int) (len:Nat):(aFQ k n len).length=len:=by simp [aFQ]
theorem aBY (k h:Int) (hh:0<=h/\h<2147483629) (i:Nat):0<=tZ k h i/\tZ k h i<2147483629:=by
 cases i with
 |zero=>exact hh
 |succ i=>simp only [tZ,aLl];omega
theorem aIM (k n:Int):0<=aC4 k n/\aC4 k n<2147483629:=by unfold aC4;omega
theorem aIN (k h:Int) (i:Nat):aB ((List.range (i+1)).map (rK k h))=aB ((List.range i).map (rK k h))++[[.int .u8 (rK k h i).toNat]]:=by
 simp [List.range_succ,aB]
theorem rJ {a b:Int} (ha:0<=a):a.tmod b=a % b:=Int.tmod_eq_emod_of_nonneg ha
theorem aNH {a b:Int} (ha:0<=a):a.tdiv b=a / b:=Int.tdiv_eq_ediv_of_nonneg ha
theorem aRR {k h r h':Int} (hk:0<=k) (hh:0<=h/\h<2147483629) (hr:k % 65521=r) (hn:aLl k h=h'):
  IntKind.i64.wrap (48271*h)=48271*h/\k.tmod 65521=r/\IntKind.i64.wrap (48271*h+r)=48271*h+r/\IntKind.i64.wrap (48271*h+r+1)=48271*h+r+1/\(48271*h+r+1).tmod 2147483629=h':=by
 have h1:0<=r/\r<65521:=by omega
 refine ⟨aA (by omega) (by omega),by rw [rJ hk,hr],aA (by omega) (by omega),aA (by omega) (by omega),?_⟩
 rw [rJ (by omega),<-hn,<-hr];rfl
theorem aRT {k h h':Int} {i:Nat} (hh:0<=h'/\h'<2147483629) (hi:tZ k h (i+1)=h') {q:Int} (hq:h' / 1024=q):
  h'.tdiv 1024=q/\IntKind.i64.wrap q=q/\q.tmod 256=q % 256/\IntKind.u8.wrap (q % 256)=((rK k h i).toNat:Int)/\IntKind.u8.wrap q=((rK k h i).toNat:Int):=by
 have h0:0<=q/\q<2147483629:=by omega
 have hb:((rK k h i).toNat:Int)=q % 256:=by
  unfold rK
  rw [hi,hq,UInt8.toNat_ofNat'];omega
 refine ⟨by rw [aNH hh.1,hq],aA (by omega) (by omega),rJ h0.1,?_,?_⟩
 ·rw [hb,IntKind.wrap_u8];omega
 ·rw [hb,IntKind.wrap_u8]
theorem aRS {k n a b:Int} (hk:0<=k) (hn:0<=n) (ha:k % 2147483629=a) (hb:n % 2147483629=b):
  k.tmod 2147483629=a/\n.tmod 2147483629=b/\IntKind.i64.wrap (2*b)=2*b/\IntKind.i64.wrap (a+2*b)=a+2*b/\IntKind.i64.wrap (a+2*b+1)=a+2*b+1/\(a+2*b+1).tmod 2147483629=aC4 k n:=by
 refine ⟨by rw [rJ hk,ha],by rw [rJ hn,hb],aA (by omega) (by omega),aA (by omega) (by omega),aA (by omega) (by omega),?_⟩
 rw [rJ (by omega),<-ha,<-hb];rfl
theorem aIK (k n:Int) (len:Nat) (hk:kR k=true) (hn:kR n=true) (hl:len<=2000):aE PP GG 166 [.d (.int .i64 k),.d (.int .i64 n),.d (.int .i64 len)] (.own 0 1 (aB (aFQ k n len))) [none,none,none]:=by
 refine cv Tryz.func166 [.own 0 1 (aB (aFQ k n len))] ?_
 have ck:=gJ k
 have cn:=gJ n
 rw [hk] at ck
 rw [hn] at cn
 have cl:aE PP GG 12 [.d (.int .i64 len),.d (.int .i64 0),.d (.int .i64 2000)] (.d (.bool true)) [none,none,none]:=by
  have:=bA len 0 2000
  rwa [show (decide (0<=(len:Int)) && decide ((len:Int)<=2000))=true by simp;omega] at this
 have kr:=cC hk
 have nr:=cC hn
 obtain ⟨a,ha⟩:∃ a,k % 2147483629=a:=⟨_,rfl⟩
 obtain ⟨b,hb⟩:∃ b,n % 2147483629=b:=⟨_,rfl⟩
 obtain ⟨i1,i2,i3,i4,i5,i6⟩:=aRS kr.1 nr.1 ha hb
 obtain ⟨r,hr⟩:∃ r,k % 65521=r:=⟨_,rfl⟩
 have h0:=aIM k n
 have hstrm:aFQ k n len=(List.range len).map (rK k (aC4 k n)):=rfl
 generalize aC4 k n=g at i6 h0 hstrm
 refine u_1 ?_
 refine mL @rD.eq_1 ?_
 refine aPN (Z3 ck cn cl) 24 (false) ?_
 refine aR rfl (fun h=>?_) (fun h=>aU ?_)
 ·cases h
 refine u_1 ?_
 refine aNB (Y6 i1 i2 i3 i4 i5 i6) ?_
 refine u_4 ?_
 refine bE (bQ (fun n st=>∃ i:Nat,n=len-i/\i<=len ∧
  st=⟨[],[(0,.d (.int .i64 k)),(2,.d (.int .i64 len)),(7,.sl 0),(8,.d (.int .i64 2147483629)),(9,.d (.int .i64 (tZ k g i))),(10,.d (.int .i64 i))],[(0,.arr 0 0 1 (aB ((List.range i).map (rK k g))))],1⟩) _ ⟨0,rfl,by omega,rfl⟩ ?_)
 rintro n st ⟨i,rfl,hi,rfl⟩
 refine u_4 ?_
 refine aR rfl (fun h2=>aU ?_) (fun h2=>dN ?_)
 ·rw [h2]
  simp at h2
  have hr1:=aBY k g h0 i
  have hr2:=aBY k g h0 (i+1)
  have hnx:aLl k (tZ k g i)=tZ k g (i+1):=rfl
  have hs:=aIN k g i
  have hlen:((List.range i).map (rK k g)).length=i:=by simp
  obtain ⟨q,hq⟩:∃ q,tZ k g (i+1) / 1024=q:=⟨_,rfl⟩
  obtain ⟨b1,b2,b3,b4,b5⟩:=aRT (h:=g) (i:=i) hr2 rfl hq
  obtain ⟨h',hh'⟩:∃ h',tZ k g (i+1)=h':=⟨_,rfl⟩
  rw [hh'] at hr2 hnx hq b1
  generalize tZ k g i=hc at hr1 hnx ⊢
  obtain ⟨f1,f2,f3,f4,f5⟩:=aRR kr.1 hr1 hr hnx
  generalize (List.range i).map (rK k g)=w at hs hlen ⊢
  generalize rK k g i=bt at b4 b5 hs
  refine aK (bE (aK ?_))
  refine jJ (Y5 f1 f2 f3 f4 f5) ?_
  refine jJ (Y5 b1 b2 b3 b4 @aJ.eq_1) ?_
  refine u_5 ?_
  refine ⟨len-(i+1),by omega,i+1,rfl,by omega,?_⟩
  rw [hs]
  simp [gc,bW,cZ,gcV,gcO,dZ,dI,fJ,bF,cB,cR,eC]
  exact ⟨hh'.symm,aA (by omega) (by omega)⟩
 ·simp at h2
  have e:i=len:=by omega
  subst e
  rw [if_pos rfl,hstrm]
  refine u_1 ?_
  exact u_3
def tI (k n:Int) (a:List UInt8):List UInt8:=List.zipWith (· ^^^ ·) a (aFQ k n a.length)
theorem aAE (k n:Int) (a:List UInt8):(tI k n a).length=a.length:=by simp [tI,aIy]
theorem aOm {k n:Int} {a:List UInt8} {i:Nat} {x y:UInt8} (hx:a[i]?=some x) (hy:(aFQ k n a.length)[i]?=some y):(tI k n a)[i]?=some (x ^^^ y):=by
 simp [tI,List.getElem?_zipWith,hx,hy]
theorem aRL (x y:UInt8):eY .xor .u8 (x.toNat:Int) (y.toNat:Int)=some (.int .u8 (((x ^^^ y).toNat:Nat):Int)):=by
 have e:(BitVec.ofInt IntKind.u8.bits (x.toNat:Int) ^^^ BitVec.ofInt IntKind.u8.bits (y.toNat:Int)).toNat=(x ^^^ y).toNat:=by
  show (BitVec.ofInt 8 (x.toNat:Int) ^^^ BitVec.ofInt 8 (y.toNat:Int)).toNat=(x ^^^ y).toNat
  rw [BitVec.toNat_xor,BitVec.ofInt_natCast,BitVec.ofInt_natCast,BitVec.toNat_ofNat,BitVec.toNat_ofNat,UInt8.toNat_xor]
  have hx:=x.toNat_lt
  have hy:=y.toNat_lt
  rw [Nat.mod_eq_of_lt hx,Nat.mod_eq_of_lt hy]
 show some (D.int .u8 (IntKind.u8.wrap (((BitVec.ofInt IntKind.u8.bits (x.toNat:Int) ^^^ BitVec.ofInt IntKind.u8.bits (y.toNat:Int)).toNat:Nat):Int)))=_
 have:=(x ^^^ y).toNat_lt
 rw [e,IntKind.wrap_u8]
 congr 2
 omega
theorem aDx (k n:Int) (a:List UInt8) (hk:kR k=true) (hn:kR n=true) (hl:a.length<=2000):aE PP GG 160 [.d (.int .i64 k),.d (.int .i64 n),.d (.slc 1 (aB a))] (.own 0 1 (aB (tI k n a))) [none,none,none]:=by
 refine cv Tryz.func160 [.own 0 1 (aB (tI k n a))] ?_
 have cs:=aIK k n a.length hk hn hl
 have hsl:=aIy k n a.length
 have hmg:∀ (i:Nat) x y,a[i]?=some x->(aFQ k n a.length)[i]?=some y->(tI k n a)[i]?=some (x ^^^ y):=fun i x y hx hy=>aOm hx hy
 have hml:=aAE k n a
 generalize aFQ k n a.length=s at cs hsl hmg
 generalize tI k n a=m at hmg hml ⊢
 refine u_1 ?_
 refine mL @rD.eq_1 ?_
 refine u_8 (Z1 cs) ?_
 refine u_4 ?_
 refine bE (bQ (fun n st=>∃ i:Nat,n=a.length-i/\i<=a.length ∧
  st=⟨[],[(2,.d (.slc 1 (aB a))),(7,.sl 0),(8,.sl 1),(9,.d (.int .i64 i))],[(0,.arr 0 0 1 (aB (m.take i))),(1,.arr 0 0 1 (aB s))],2⟩) _ ⟨0,rfl,by omega,rfl⟩ ?_)
 rintro n st ⟨i,rfl,hi,rfl⟩
 refine u_4 ?_
 refine aR rfl (fun h2=>aU ?_) (fun h2=>dN ?_)
 ·simp at h2
  have ha:=List.getElem?_eq_getElem h2
  have hb:=List.getElem?_eq_getElem (show i<s.length by omega)
  generalize a[i]=x at ha
  generalize s[i]'_=y at hb
  have hxy:=aRL x y
  have hs:=vE (hmg i x y ha hb)
  have hlen:(m.take i).length<=2000:=by rw [List.length_take];omega
  have his:i<s.length:=by omega
  refine aK (bE ?_)
  refine aRI (Y4 ha hb hxy @aJ.eq_1) ?_
  refine u_5 ?_
  refine ⟨a.length-(i+1),by omega,i+1,rfl,h2,?_⟩
  rw [hs]
  simp [gc,bW,cZ,gcV,gcO,dZ,dI,fJ,bF,cB,cR,eC]
  exact aA (by omega) (by omega)
 ·simp at h2
  rw [if_pos rfl]
  have e:m.take i=m:=List.take_of_length_le (by omega)
  rw [e]
  refine u_1 ?_
  exact u_3
theorem aK3 (x y:List UInt8):aB (x++y)=aB x++aB y:=by simp [aB]
def aD7 (k n:Int) (a:List UInt8):Int:=qK (mK k++mK n++a)
theorem aCX (k n:Int) (a:List UInt8) (hk:kR k=true) (hn:kR n=true) (hl:a.length<=2000):aE PP GG 161 [.d (.int .i64 k),.d (.int .i64 n),.d (.slc 1 (aB a))] (.d (.int .i64 (aD7 k n a))) [none,none,none]:=by
 refine cv Tryz.func161 [.d (.int .i64 (aD7 k n a))] ?_
 have ck:=gJ k
 have cn:=gJ n
 rw [hk] at ck
 rw [hn] at cn
 have cp:=sX k hk
 have cq:=sX n hn
 have hw1:=aCM k
 have hw2:=aCM n
 have i1:=aW (mK k)
 have i2:=aW (mK n)
 have i3:=aW (mK k++mK n)
 have i4:=aW (mK k++mK n++a)
 have cj:=fE (mK k) (mK n) (by omega)
 have cj2:=fE (mK k++mK n) a (by simp;omega)
 have cd:aE PP GG 74 [.d (.slc 1 (aB (mK k++mK n++a)))] (.d (.int .i64 (aD7 k n a))) [none]:=sP (mK k++mK n++a) (by simp;omega)
 generalize aD7 k n a=t at cd ⊢
 generalize mK k++mK n++a=z3 at cj2 cd i4
 generalize mK k++mK n=z2 at cj cj2 i3
 generalize mK k=z0 at cp cj i1
 generalize mK n=z1 at cq cj i2
 have hlen:decide (2000<(a.length:Int))=false:=decide_eq_false (by omega)
 refine u_1 ?_
 refine aNA hlen (Z2 ck cn) 19 (false) ?_
 refine aR rfl (fun h=>?_) (fun h=>aU ?_)
 ·cases h
 refine u_8 (Z5 cp cq cj cj2 cd) ?_
 exact u_3
def aDk (k:Int) (b:vL):Option (List UInt8):=if kR k=true/\kR b.oX=true/\b.gG.length<=2000/\aD7 k b.oX b.gG=b.aGH then some (tI k b.oX b.gG) else none
def aAn (k n:Int) (a:List UInt8):vL:={ oX:=n,gG:=tI k n a,aGH:=aD7 k n (tI k n a) }
theorem aMz {k:Int} {b:vL} {o:List UInt8} (h:aDk k b=some o):o.length=b.gG.length/\kR b.oX=true/\o.length<=2000:=by
 unfold aDk at h
 split at h
 ·rename_i hc
  cases h
  rw [aAE]
  exact ⟨rfl,hc.2.1,hc.2.2.1⟩
 ·cases h
theorem aFY (k:Int) (b:vL) (r:Option (List UInt8)) (hr:aDk k b=r) (hb:b.cost<=1048576):aE PP GG 141 [.d (.int .i64 k),.agg b.c] (.tup [.own 0 1 (aB (r.getD [])),.d (.bool r.isSome)]) [none,none]:=by
 refine cv Tryz.func141 [.own 0 1 (aB (r.getD [])),.d (.bool r.isSome)] ?_
 obtain ⟨n,a,t⟩:=b
 have hco:(vL.mk n a t).cost=a.length:=rfl
 have ck:=gJ k
 have cn:=gJ n
 obtain ⟨v,hv⟩:∃ v,decide (a.length<=2000)=v:=⟨_,rfl⟩
 have hv2:decide (2000<(a.length:Int))=!v:=by rw [<-hv,<-decide_not];exact decide_eq_decide.2 (by omega)
 obtain ⟨p,hp⟩:∃ p,kR k=p:=⟨_,rfl⟩
 obtain ⟨q,hq⟩:∃ q,kR n=q:=⟨_,rfl⟩
 rw [hp] at ck
 rw [hq] at cn
 refine u_1 ?_
 cases p with
 |false=>
  have hr0:r=none:=by rw [<-hr];exact if_neg (fun hc=>by have:=hc.1;rw [hp] at this;cases this)
  subst hr0
  refine aPL hv2 (Z2 ck cn) 31 (true) ?_
  refine aR rfl (fun h=>aK ?_) (fun h=>?_)
  rotate_left
  ·cases h
  refine u_5 ?_
  exact u_7 @aB.eq_1
 |true=>
 cases q with
 |false=>
  have hr0:r=none:=by rw [<-hr];exact if_neg (fun hc=>by have:=hc.2.1;simp only at this;rw [hq] at this;cases this)
  subst hr0
  refine aPL hv2 (Z2 ck cn) 31 (true) ?_
  refine aR rfl (fun h=>aK ?_) (fun h=>?_)
  rotate_left
  ·cases h
  refine u_5 ?_
  exact u_7 @aB.eq_1
 |true=>
 cases v with
 |false=>
  have hr0:r=none:=by rw [<-hr];exact if_neg (fun hc=>by have:=hc.2.2.1;simp only at this;rw [decide_eq_false_iff_not] at hv;exact hv this)
  subst hr0
  refine aPL hv2 (Z2 ck cn) 31 (true) ?_
  refine aR rfl (fun h=>aK ?_) (fun h=>?_)
  rotate_left
  ·cases h
  refine u_5 ?_
  exact u_7 @aB.eq_1
 |true=>
  have hal:a.length<=2000:=of_decide_eq_true hv
  have ct:=aCX k n a hp hq (by omega)
  have cm:=aDx k n a hp hq (by omega)
  have hind:=aW (tI k n a)
  have hor:aDk k (vL.mk n a t)=if aD7 k n a=t then some (tI k n a) else none:=by
   unfold aDk
   simp only [hp,hq,true_and]
   by_cases ht:aD7 k n a=t
   ·rw [if_pos ht,if_pos ⟨hal,ht⟩]
   ·rw [if_neg ht,if_neg (fun hc=>ht hc.2)]
  rw [hor] at hr
  generalize aD7 k n a=z at ct hr
  generalize tI k n a=m at cm hr hind
  obtain ⟨u,hu⟩:∃ u,(z != t)=u:=⟨_,rfl⟩
  refine aPL (Y2 hv2 hu) (Z3 ck cn ct) 31 (u) ?_
  refine aR rfl (fun h=>aK ?_) (fun h=>aU ?_)
  ·rw [if_neg (by rw [h] at hu;simpa using hu)] at hr
   subst hr
   refine u_5 ?_
   exact u_7 @aB.eq_1
  rw [if_pos (by rw [h] at hu;simpa using hu)] at hr
  subst hr
  refine u_8 (Z1 cm) ?_
  exact u_3
theorem aFV (k n:Int) (a:List UInt8) (hk:kR k=true) (hn:kR n=true) (ha:a.length<=2000):aE PP GG 138 [.d (.int .i64 k),.d (.int .i64 n),.d (.slc 1 (aB a))] (.tup [.agg (aAn k n a).o,.d (.bool true)]) [none,none,none]:=by
 refine cv Tryz.func138 [.agg (aAn k n a).o,.d (.bool true)] ?_
 have ck:=gJ k
 have cn:=gJ n
 rw [hk] at ck
 rw [hn] at cn
 have hv2:decide (2000<(a.length:Int))=false:=decide_eq_false (by omega)
 have cm:=aDx k n a hk hn ha
 have ct:=aCX k n (tI k n a) hk hn (by rw [aAE];exact ha)
 have hind:=aW (tI k n a)
 simp only [aAn]
 generalize aD7 k n (tI k n a)=z at ct ⊢
 generalize tI k n a=m at cm ct hind ⊢
 refine u_1 ?_
 refine aNA hv2 (Z2 ck cn) 21 (false) ?_
 refine aR rfl (fun h=>?_) (fun h=>aU ?_)
 ·cases h
 refine u_8 (Z1 cm) ?_
 refine u_8 (Z1 ct) ?_
 exact u_3
theorem mW (w:dE) (hw:w.cost<=1048576):aE PP GG 144 [.agg w.c] (.agg w.o) [none]:=by
 refine cv Tryz.func144 [.agg w.o] ?_
 have h1:w.cost=w.mI.length+w.oM.cost:=rfl
 have h2:w.oM.cost=w.oM.gG.length:=rfl
 have cb:=iJ w.oM.gG (by omega)
 have hind:=aW w.oM.gG
 refine u_1 ?_
 refine u_8 (Z1 cb) ?_
 refine u_1 ?_
 exact u_3
theorem tB (l:List dE) (x:dE):gX (l++[x])=gX l++[x.row]:=by simp [gX]
theorem xE (r:dV) (hc:r.cost<=1048576):aE PP GG 137 [.agg r.c] (.agg r.o) [none]:=by
 refine cv Tryz.func137 [.agg r.o] ?_
 obtain ⟨f,k,l⟩:=r
 have hco:(dV.mk f k l).cost=l.length+cX dE.cost l:=rfl
 refine u_1 ?_
 refine u_1 ?_
 refine u_4 ?_
 refine bE (bQ (fun n st=>∃ (i:Nat) (w:List dE),n=l.length-i/\i<=l.length/\w=l.take i ∧
  ((i=0/\st=⟨[],[(1,.ptr 0 0),(2,.ptr 1 0),(3,.ptr 2 0),(4,.d (.int .i64 0))],[(0,.box [.d (.int .i64 f),.d (.int .i64 k),.d (.slc 6 (gX l))]),(1,.box [.d (.int .i64 0),.d (.int .i64 0),.nil 1 6]),(2,.box [.d (.int .i64 f),.d (.int .i64 k),.nil 1 6])],3⟩) ∨
   st=⟨[],[(1,.ptr 0 0),(2,.ptr 1 0),(3,.ptr 2 0),(4,.d (.int .i64 i))],[(0,.box [.d (.int .i64 f),.d (.int .i64 k),.d (.slc 6 (gX l))]),(1,.box [.d (.int .i64 0),.d (.int .i64 0),.nil 1 6]),(2,.box [.d (.int .i64 f),.d (.int .i64 k),.sl 3]),(3,.arr 0 1 6 (gX w))],4⟩)) _ ⟨0,[],rfl,by omega,rfl,.inl ⟨rfl,rfl⟩⟩ ?_)
 rintro n st ⟨i,w,rfl,hi,hw,⟨rfl,rfl⟩|rfl⟩
 ·refine u_4 ?_
  refine aR rfl (fun h=>aU ?_) (fun h=>dN ?_)
  ·simp at h
   have ha:=List.getElem?_eq_getElem h
   generalize l[0]=x at ha
   have hg:=lJ (f:=dE.cost) ha
   have cw:=mW x (by omega)
   refine aK (bE ?_)
   refine aL7 (Y2 ha @aJ.eq_1) (Z1 cw) ?_
   refine u_5 ?_
   refine ⟨l.length-(0+1),by omega,0+1,[x],rfl,h,by rw [List.take_add_one,ha];rfl,.inr ?_⟩
   simp [gc,bW,cZ,gcV,gcO,dZ,dI,fJ,bF,cB,cR,eC,gX]
   exact aA (by omega) (by omega)
  ·simp at h
   have hnil:l=[]:=by first|exact h|exact List.length_eq_zero_iff.1 (by omega)
   rw [if_pos rfl]
   refine u_1 ?_
   exact u_7 (Y2 hnil @gX.eq_1)
 ·refine u_4 ?_
  refine aR rfl (fun h=>aU ?_) (fun h=>dN ?_)
  ·simp at h
   have ha:=List.getElem?_eq_getElem h
   generalize l[i]=x at ha
   have hg:=lJ (f:=dE.cost) ha
   have cw:=mW x (by omega)
   have hwl:w.length<=l.length:=by rw [hw,List.length_take];omega
   have hs:w++[x]=l.take (i+1):=by rw [hw,List.take_add_one,ha];rfl
   refine aK (bE ?_)
   refine aL7 (Y2 ha @aJ.eq_1) (Z1 cw) ?_
   refine u_5 ?_
   refine ⟨l.length-(i+1),by omega,i+1,w++[x],rfl,h,hs,.inr ?_⟩
   rw [tB]
   simp [gc,bW,cZ,gcV,gcO,dZ,dI,fJ,bF,cB,cR,eC]
   exact aA (by omega) (by omega)
  ·simp at h
   rw [List.take_of_length_le h] at hw
   subst hw
   rw [if_pos rfl]
   refine u_1 ?_
   exact u_3
theorem vV (l:List dE):∀ row,row∈gX l->∀ d,d∈row->nG 1 d:=by
 intro row hr d hd
 simp only [gX,List.mem_map] at hr
 obtain ⟨x,_,rfl⟩:=hr
 simp only [dE.row,List.mem_cons,List.not_mem_nil,or_false] at hd
 rcases hd with rfl|rfl|rfl|rfl|rfl|rfl
 ·trivial
 ·trivial
 ·trivial
 ·trivial
 ·exact aW x.oM.gG
 ·trivial
theorem aN2 {r:dV} (h:kM r=true):kR r.iP=true/\inB r.bG 1 1000000000=true:=by
 simp only [kM,Bool.and_eq_true] at h;exact ⟨h.1.1.1,h.1.1.2⟩
def aB1 (r:dV) (kind plain:List UInt8) (now ttl:Int):Bool:=kM r && fQ kind && decide (plain.length<=2000) && inB now 0 1000000000 && inB ttl 1 1000000000 && decide (now+ttl<=1000000000) && !(r.bG==1000000000)
def aCD (r:dV) (kind plain:List UInt8) (now ttl:Int):dV:={ iP:=r.iP,bG:=r.bG+1,cP:=r.cP++[{ bU:=r.bG,bM:=now+ttl,mI:=kind,oM:=aAn r.iP r.bG plain }] }
def aEq (r:dV) (kind plain:List UInt8) (now ttl:Int):dV:=if aB1 r kind plain now ttl=true/\r.cP.length≠60 then aCD r kind plain now ttl else r
def aIZ (r:dV) (kind plain:List UInt8) (now ttl:Int):Int:=if aB1 r kind plain now ttl=true/\r.cP.length≠60 then r.bG else 0
def aI0 (r:dV) (kind plain:List UInt8) (now ttl:Int):Int:=if aB1 r kind plain now ttl=true then (if r.cP.length=60 then 5 else 0) else 1
theorem aMu (r:dV) (kind plain:List UInt8) (now ttl:Int):
  (aB1 r kind plain now ttl=false->aEq r kind plain now ttl=r/\aIZ r kind plain now ttl=0/\aI0 r kind plain now ttl=1) ∧
  (aB1 r kind plain now ttl=true->r.cP.length=60->aEq r kind plain now ttl=r/\aIZ r kind plain now ttl=0/\aI0 r kind plain now ttl=5) ∧
  (aB1 r kind plain now ttl=true->r.cP.length≠60->aEq r kind plain now ttl=aCD r kind plain now ttl/\aIZ r kind plain now ttl=r.bG/\aI0 r kind plain now ttl=0):=by
 unfold aEq aIZ aI0
 refine ⟨fun h=>?_,fun h h2=>?_,fun h h2=>?_⟩
 ·simp [h]
 ·simp [h,h2]
 ·simp [h,h2]
theorem aR4 {r:dV} {kind plain:List UInt8} {now ttl s:Int} {p1 p2 p3 p4 p5 p6 p7:Bool} (h1:kM r=p1) (h2:fQ kind=p2) (h3:decide (plain.length<=2000)=p3) (h4:inB now 0 1000000000=p4) (h5:inB ttl 1 1000000000=p5)
  (hs:IntKind.i64.wrap (now+ttl)=s) (h6:decide (s<=1000000000)=p6) (h7:(r.bG==1000000000)=!p7):aB1 r kind plain now ttl=(p1 && p2 && p3 && p4 && p5 && p6 && p7)/\(p4=true->p5=true->s=now+ttl):=by
 have hsv:p4=true->p5=true->s=now+ttl:=by
  intro e4 e5
  have a:=cC (h4.trans e4)
  have b:=cC (h5.trans e5)
  rw [<-hs,aA (by omega) (by omega)]
 refine ⟨?_,hsv⟩
 unfold aB1
 rw [h1,h2,h3,h4,h5,h7]
 cases p4 with
 |false=>simp
 |true=>
  cases p5 with
  |false=>simp
  |true=>rw [<-h6,hsv rfl rfl];simp
theorem aN6 (r:dV) (kind plain:List UInt8) (now ttl:Int):(aEq r kind plain now ttl).cost<=r.cost+1+kind.length+plain.length:=by
 unfold aEq
 split
 ·have h1:(aCD r kind plain now ttl).cost=(r.cP++[({ bU:=r.bG,bM:=now+ttl,mI:=kind,oM:=aAn r.iP r.bG plain }:dE)]).length+cX dE.cost (r.cP++[({ bU:=r.bG,bM:=now+ttl,mI:=kind,oM:=aAn r.iP r.bG plain }:dE)]):=rfl
  have h2:r.cost=r.cP.length+cX dE.cost r.cP:=rfl
  have h3:(dE.mk r.bG (now+ttl) kind (aAn r.iP r.bG plain)).cost=kind.length+(tI r.iP r.bG plain).length:=rfl
  rw [aAE] at h3
  rw [h1,aAk,List.length_append]
  simp only [cX,List.length_cons,List.length_nil]
  omega
 ·omega
theorem aOi {x:Int} (h:inB x 1 1000000000=true):kR x=true:=by
 have:=cC h
 unfold kR inB
 simp
 omega
theorem aFX (r:dV) (kind plain:List UInt8) (now ttl:Int) (hc:r.cost<=1048576) (hkl:kind.length<=1048576) (hpl:plain.length<=1048576):aE PP GG 105 [.agg r.c,.d (.str kind),.d (.slc 1 (aB plain)),.d (.int .i64 now),.d (.int .i64 ttl)] (.tup [.agg (aEq r kind plain now ttl).o,.d (.int .i64 (aIZ r kind plain now ttl)),.d (.int .i64 (aI0 r kind plain now ttl))]) [none,none,none,none,none]:=by
 refine cv Tryz.func105 [.agg (aEq r kind plain now ttl).o,.d (.int .i64 (aIZ r kind plain now ttl)),.d (.int .i64 (aI0 r kind plain now ttl))] ?_
 have cr:=uJ r hc
 have hpc:=aMu r kind plain now ttl
 have cp:=fI kind (by omega)
 have c4:aE PP GG 12 [.d (.int .i64 now),.d (.int .i64 0),.d (.int .i64 1000000000)] (.d (.bool (inB now 0 1000000000))) [none,none,none]:=bA _ _ _
 have c5:aE PP GG 12 [.d (.int .i64 ttl),.d (.int .i64 1),.d (.int .i64 1000000000)] (.d (.bool (inB ttl 1 1000000000))) [none,none,none]:=bA _ _ _
 have cc:=xE r hc
 have hrk:=aN2 (r:=r)
 obtain ⟨s,hs⟩:∃ s,IntKind.i64.wrap (now+ttl)=s:=⟨_,rfl⟩
 obtain ⟨p1,e1⟩:∃ p,kM r=p:=⟨_,rfl⟩
 obtain ⟨p2,e2⟩:∃ p,fQ kind=p:=⟨_,rfl⟩
 obtain ⟨p3,e3⟩:∃ p,decide (plain.length<=2000)=p:=⟨_,rfl⟩
 obtain ⟨p4,e4⟩:∃ p,inB now 0 1000000000=p:=⟨_,rfl⟩
 obtain ⟨p5,e5⟩:∃ p,inB ttl 1 1000000000=p:=⟨_,rfl⟩
 obtain ⟨p6,e6⟩:∃ p,decide (s<=1000000000)=p:=⟨_,rfl⟩
 obtain ⟨p7,e7⟩:∃ p,(r.bG==1000000000)=!p:=⟨!(r.bG==1000000000),by simp⟩
 have e3':decide (2000<(plain.length:Int))=!p3:=by rw [<-e3,<-decide_not];exact decide_eq_decide.2 (by omega)
 have e6':decide (1000000000<s)=!p6:=by rw [<-e6,<-decide_not];exact decide_eq_decide.2 (by omega)
 obtain ⟨hok,hsv⟩:=aR4 (r:=r) (kind:=kind) (plain:=plain) e1 e2 e3 e4 e5 hs e6 e7
 have hco:r.cost=r.cP.length+cX dE.cost r.cP:=rfl
 rw [e2] at cp
 rw [e4] at c4
 rw [e5] at c5
 generalize aEq r kind plain now ttl=g at hpc ⊢
 generalize aIZ r kind plain now ttl=vi at hpc ⊢
 generalize aI0 r kind plain now ttl=vc at hpc ⊢
 rw [e1] at cr
 refine u_1 ?_
 refine aNA (Y4 e3' hs e6' e7) (Z4 cr cp c4 c5) 49 (!(p1 && p2 && p3 && p4 && p5 && p6 && p7)) ?_
 refine aR rfl (fun h=>aK ?_) (fun h=>aU ?_)
 ·obtain ⟨rfl,rfl,rfl⟩:=hpc.1 (by rw [hok];revert h;generalize (p1 && p2 && p3 && p4 && p5 && p6 && p7)=q;cases q<;>simp)
  refine aPK (Z1 cc) ?_
  exact u_3
 rw [h]
 have hall:(p1 && p2 && p3 && p4 && p5 && p6 && p7)=true:=by revert h;generalize (p1 && p2 && p3 && p4 && p5 && p6 && p7)=q;cases q<;>simp
 have hparts:p1=true/\p3=true/\p4=true/\p5=true:=by revert hall;cases p1<;>cases p3<;>cases p4<;>cases p5<;>simp
 have hse:=hsv hparts.2.2.1 hparts.2.2.2
 subst hse
 obtain ⟨kk,kn⟩:=hrk (by rw [e1];exact hparts.1)
 have hpl2:plain.length<=2000:=of_decide_eq_true (e3.trans hparts.2.1)
 have hnr:=cC kn
 have csl:=aFV r.iP r.bG plain kk (aOi kn) hpl2
 have hwn:IntKind.i64.wrap (r.bG+1)=r.bG+1:=aA (by omega) (by omega)
 have hindp:=aW (aAn r.iP r.bG plain).gG
 refine aK (aK (?_))
 obtain ⟨z,hz⟩:∃ z,((r.cP.length:Int)==60)=z:=⟨_,rfl⟩
 refine aPM hz 55 (z) ?_
 refine aR rfl (fun h3=>aK ?_) (fun h3=>aU ?_)
 ·obtain ⟨rfl,rfl,rfl⟩:=hpc.2.1 (by rw [hok];exact hall) (by rw [h3] at hz;simp at hz;omega)
  refine aPK (Z1 cc) ?_
  exact u_3
 obtain ⟨rfl,rfl,rfl⟩:=hpc.2.2 (by rw [hok];exact hall) (by rw [h3] at hz;simp at hz;omega)
 simp only [aCD]
 generalize aAn r.iP r.bG plain=sb at csl hindp ⊢
 refine u_8 (Z1 cc) ?_
 refine u_8 (Z1 csl) ?_
 refine mL (Y2 hs @aJ.eq_1) ?_
 refine mL hwn ?_
 refine aK (?_)
 apply aBP
 ·intro K hK
  simp
  repeat' (first|with_reducible exact hK|(with_reducible refine aM (fun _=>?_) (fun _=>?_)<;>simp)|with_reducible refine And.intro ?_ ?_|with_reducible exact aS rfl|with_reducible assumption|omega)
 exact u_7 @tB
def uX (id:Int) (l:List dE):List dE:=l.filter fun x=>!(x.bU==id)
def aDr (r:dV) (id:Int):dV:={ iP:=r.iP,bG:=r.bG,cP:=uX id r.cP }
def uS (r:dV) (id now:Int):dV×List UInt8×Int:=
 if kM r=false\/inB now 0 1000000000=false then (r,[],1) else
 match r.cP.find? (fun x=>x.bU==id) with
 |none=>(r,[],2)
 |some x=>if x.bM<=now then (aDr r id,[],3) else
  match aDk r.iP x.oM with
  |none=>(aDr r id,[],4)
  |some o=>(aDr r id,o,0)
theorem aM1 {α:Type} (p:α->Bool) (l:List α):(aGx p l=-1/\l.find? p=none)\/∃ (i:Nat) (x:α),aGx p l=i/\l[i]?=some x/\p x=true/\l.find? p=some x:=by
 unfold aGx
 cases h:l.findIdx? p with
 |none=>
  refine .inl ⟨rfl,?_⟩
  rw [List.find?_eq_none]
  intro x hx
  have:=List.findIdx?_eq_none_iff.1 h x hx
  simp [this]
 |some i=>
  obtain ⟨h1,h2,h3⟩:=List.findIdx?_eq_some_iff_getElem.1 h
  refine .inr ⟨i,l[i],rfl,List.getElem?_eq_getElem h1,h2,?_⟩
  rw [List.find?_eq_some_iff_getElem]
  exact ⟨h2,i,h1,rfl,fun j hj=>by simpa using h3 j hj⟩
theorem aDq (id:Int) (l:List dE):(uX id l).length<=l.length/\cX dE.cost (uX id l)<=cX dE.cost l:=by
 unfold uX
 induction l with
 |nil=>simp
 |cons x l ih=>
  simp only [List.filter_cons]
  split
  ·simp only [cX,List.length_cons];omega
  ·simp only [cX,List.length_cons];omega
theorem aKz {id:Int} {l:List dE} {i:Nat} {x:dE} (h:l[i]?=some x):uX id (l.take (i+1))=if x.bU=id then uX id (l.take i) else uX id (l.take i)++[x]:=by
 unfold uX
 rw [List.take_add_one,h]
 by_cases e:x.bU=id<;>simp [List.filter_append,e]
theorem aKI (r:dV) (id:Int) (hc:r.cost<=1048576):aE PP GG 140 [.agg r.c,.d (.int .i64 id)] (.agg (aDr r id).o) [none,none]:=by
 refine cv Tryz.func140 [.agg (aDr r id).o] ?_
 obtain ⟨f,k,l⟩:=r
 have hco:(dV.mk f k l).cost=l.length+cX dE.cost l:=rfl
 refine u_1 ?_
 refine u_1 ?_
 refine u_4 ?_
 refine jS 5 2 rfl rfl rfl ?_
 refine bE (bQ (fun n st=>∃ (i:Nat) (w:List dE),n=l.length-i/\i<=l.length/\w=uX id (l.take i) ∧
   st=⟨[],[(1,.d (.int .i64 id)),(2,.ptr 0 0),(4,.ptr 1 0),(5,.ptr 2 0),(6,.d (.int .i64 i))],[(0,.box [.d (.int .i64 f),.d (.int .i64 k),.d (.slc 6 (gX l))]),(1,.box [.d (.int .i64 0),.d (.int .i64 0),.nil 1 6]),(2,.box [.d (.int .i64 f),.d (.int .i64 k),.sl 3]),(3,.arr 0 1 6 (gX w))],4⟩) _ ⟨0,[],rfl,by omega,rfl,rfl⟩ ?_)
 rintro n st ⟨i,w,rfl,hi,hw,rfl⟩
 refine u_4 ?_
 refine aR rfl (fun h=>aU ?_) (fun h=>dN ?_)
 ·simp at h
  have ha:=List.getElem?_eq_getElem h
  generalize l[i]=x at ha
  have hg:=lJ (f:=dE.cost) ha
  have cw:=mW x (by omega)
  have hs:=aKz (id:=id) ha
  have hwl:w.length<=l.length:=by rw [hw];have:=(aDq id (l.take i)).1;rw [List.length_take] at this;omega
  rw [<-hw] at hs
  refine aK (bE (aK ?_))
  refine jJ ha ?_
  refine aR rfl (fun h2=>?_) (fun h2=>aU ?_)
  ·have h3:¬x.bU=id:=by simpa using h2
   rw [if_neg h3] at hs
   refine aL7 (Y2 ha @aJ.eq_1) (Z1 cw) ?_
   refine u_5 ?_
   refine ⟨l.length-(i+1),by omega,i+1,w++[x],rfl,h,hs.symm,?_⟩
   rw [tB]
   simp [gc,bW,cZ,gcV,gcO,dZ,dI,fJ,bF,cB,cR,eC]
   exact aA (by omega) (by omega)
  ·have h3:x.bU=id:=by simpa using h2
   rw [if_pos h3] at hs
   refine u_5 ?_
   refine ⟨l.length-(i+1),by omega,i+1,w,rfl,h,hs.symm,?_⟩
   simp [gc,bW,cZ,gcV,gcO,dZ,dI,fJ,bF,cB,cR,eC]
   exact aA (by omega) (by omega)
 ·simp at h
  rw [List.take_of_length_le h] at hw
  subst hw
  rw [if_pos rfl]
  refine u_1 ?_
  exact u_7 @aDr.eq_1
theorem aEh (r:dV) (id now:Int) (hc:r.cost<=1048576):aE PP GG 106 [.agg r.c,.d (.int .i64 id),.d (.int .i64 now)] (.tup [.agg (uS r id now).1.o,.own 0 1 (aB (uS r id now).2.1),.d (.int .i64 (uS r id now).2.2)]) [none,none,none]:=by
 refine cv Tryz.func106 [.agg (uS r id now).1.o,.own 0 1 (aB (uS r id now).2.1),.d (.int .i64 (uS r id now).2.2)] ?_
 have cr:=uJ r hc
 have cn:aE PP GG 12 [.d (.int .i64 now),.d (.int .i64 0),.d (.int .i64 1000000000)] (.d (.bool (inB now 0 1000000000))) [none,none,none]:=bA _ _ _
 have ca:=aJ8 r id hc
 have cc:=xE r hc
 have cl:=aKI r id hc
 obtain ⟨t,ht⟩:∃ t,uS r id now=t:=⟨_,rfl⟩
 rw [ht]
 unfold uS at ht
 generalize kM r=b at cr ht
 generalize inB now 0 1000000000=b2 at cn ht
 have hco:r.cost=r.cP.length+cX dE.cost r.cP:=rfl
 rcases aM1 (fun x:dE=>x.bU==id) r.cP with ⟨e1,e2⟩|⟨i,x,e1,e2,e3,e4⟩
 ·rw [e1] at ca
  rw [e2] at ht
  simp only at ht
  subst ht
  repeat' (first|refine aK ?_|refine aU ?_|refine bE ?_|(refine dN ?_;first|refine cG rfl ?_|(refine cU rfl ?_;first|refine cG rfl ?_|(refine cU rfl ?_;refine cG rfl ?_)))|(refine qG fun K hK=>?_;simp)|(refine nE fun K hK=>?_;simp)|(with_reducible refine hK _ ?_;clear hK K)|(with_reducible refine aI (cr) ?_;simp)|(with_reducible refine aI (cn) ?_;simp)|(with_reducible refine aI (ca) ?_;simp)|(with_reducible refine aI (cc) ?_;simp)|(with_reducible refine aM (fun h=>?_) (fun h=>?_)<;>first|(exfalso;simp at h;done)|(exfalso;simp at h;omega)|(exfalso;simp at h;contradiction)|((try simp at h);simp))|with_reducible refine And.intro ?_ ?_|with_reducible exact aS rfl|with_reducible assumption|(refine aR rfl (fun h=>?_) (fun h=>?_)<;>first|(exfalso;simp at h;done)|(exfalso;simp at h;omega)|(exfalso;simp at h;contradiction)|(exfalso;simp_all;done)|(try simp at h))|(refine sN ?_;simp [Fin])|omega)
  all_goals (first|(simp_all [aB];done)|((repeat' split)<;>first|omega|(simp_all [aB];done)))
 ·rw [e1] at ca
  rw [e4] at ht
  simp only at ht
  subst ht
  have hg:=lJ (f:=dE.cost) e2
  have hcx:x.cost=x.mI.length+x.oM.cost:=rfl
  have hlt:=(List.getElem?_eq_some_iff.1 e2).1
  have co:=aFY r.iP x.oM _ rfl (by omega)
  have hol:=@aMz r.iP x.oM
  generalize aDk r.iP x.oM=q at co hol ⊢
  cases q<;>(simp only [Option.getD_none,Option.getD_some,Option.isSome_none,Option.isSome_some] at co)
  ·repeat' (first|refine aK ?_|refine aU ?_|refine bE ?_|(refine dN ?_;first|refine cG rfl ?_|(refine cU rfl ?_;first|refine cG rfl ?_|(refine cU rfl ?_;refine cG rfl ?_)))|(refine qG fun K hK=>?_;simp [e2])|(refine nE fun K hK=>?_;simp [e2])|(with_reducible refine hK _ ?_;clear hK K)|(with_reducible refine aI (cr) ?_;simp [e2])|(with_reducible refine aI (cn) ?_;simp [e2])|(with_reducible refine aI (ca) ?_;simp [e2])|(with_reducible refine aI (cl) ?_;simp [e2])|(with_reducible refine aI (co) ?_;simp [e2])|(with_reducible refine aI (cc) ?_;simp [e2])|(with_reducible refine aM (fun h=>?_) (fun h=>?_)<;>first|(exfalso;simp at h;done)|(exfalso;simp at h;omega)|(exfalso;simp at h;contradiction)|((try simp at h);simp [e2]))|with_reducible refine And.intro ?_ ?_|with_reducible exact aS rfl|with_reducible assumption|(refine aR rfl (fun h=>?_) (fun h=>?_)<;>first|(exfalso;simp at h;done)|(exfalso;simp at h;omega)|(exfalso;simp at h;contradiction)|(exfalso;simp_all;done)|(try simp at h))|(refine sN ?_;simp [Fin,e2])|omega)
   all_goals (first|(simp_all [aB];done)|((repeat' split)<;>first|omega|(simp_all [aB];done)))
  ·rename_i o
   have hio:=aW o
   repeat' (first|refine aK ?_|refine aU ?_|refine bE ?_|(refine dN ?_;first|refine cG rfl ?_|(refine cU rfl ?_;first|refine cG rfl ?_|(refine cU rfl ?_;refine cG rfl ?_)))|(refine qG fun K hK=>?_;simp [e2])|(refine nE fun K hK=>?_;simp [e2])|(with_reducible refine hK _ ?_;clear hK K)|(with_reducible refine aI (cr) ?_;simp [e2])|(with_reducible refine aI (cn) ?_;simp [e2])|(with_reducible refine aI (ca) ?_;simp [e2])|(with_reducible refine aI (cl) ?_;simp [e2])|(with_reducible refine aI (co) ?_;simp [e2])|(with_reducible refine aI (cc) ?_;simp [e2])|(with_reducible refine aM (fun h=>?_) (fun h=>?_)<;>first|(exfalso;simp at h;done)|(exfalso;simp at h;omega)|(exfalso;simp at h;contradiction)|((try simp at h);simp [e2]))|with_reducible refine And.intro ?_ ?_|with_reducible exact aS rfl|with_reducible assumption|(refine aR rfl (fun h=>?_) (fun h=>?_)<;>first|(exfalso;simp at h;done)|(exfalso;simp at h;omega)|(exfalso;simp at h;contradiction)|(exfalso;simp_all;done)|(try simp at h))|(refine sN ?_;simp [Fin,e2])|omega)
   all_goals (first|(simp_all [aB];done)|((repeat' split)<;>first|omega|(simp_all [aB];done)))
theorem aMJ (r:dV) (id:Int):(aDr r id).cost<=r.cost:=by
 have:=aDq id r.cP
 show (uX id r.cP).length+cX dE.cost (uX id r.cP)<=r.cP.length+cX dE.cost r.cP
 omega
theorem aKo (r:dV) (id now:Int):(uS r id now).1.cost<=r.cost:=by
 have:=aMJ r id
 unfold uS
 split
 ·exact Nat.le_refl _
 ·split
  ·exact Nat.le_refl _
  ·split
   ·exact this
   ·split<;>exact this
structure aO where
 bU:Int
 bV:Int
 eT:List (List UInt8)
 aZ:Int
 bM:Int
 cQ:Int
 jG:Int
 deriving DecidableEq
@[simp] abbrev aO.row (x:aO):List D:=[.int .i64 x.bU,.int .i64 x.bV,.slc 1 (aN x.eT),.int .i64 x.aZ,.int .i64 x.bM,.int .i64 x.cQ,.int .i64 x.jG]
@[simp] abbrev aO.c (x:aO):List C:=[.d (.int .i64 x.bU),.d (.int .i64 x.bV),.d (.slc 1 (aN x.eT)),.d (.int .i64 x.aZ),.d (.int .i64 x.bM),.d (.int .i64 x.cQ),.d (.int .i64 x.jG)]
@[simp] abbrev aO.o (x:aO):List C:=[.d (.int .i64 x.bU),.d (.int .i64 x.bV),.own 0 1 (aN x.eT),.d (.int .i64 x.aZ),.d (.int .i64 x.bM),.d (.int .i64 x.cQ),.d (.int .i64 x.jG)]
def bS (l:List aO):List (List D):=l.map aO.row
@[simp] theorem aDa (l:List aO):(bS l).length=l.length:=by simp [bS]
@[simp] theorem aRZ (l:List aO) (i:Nat):(bS l)[i]?=(l[i]?).map aO.row:=by simp [bS]
theorem aDb (a b:List aO):bS (a++b)=bS a++bS b:=by simp [bS]
def aO.cost (x:aO):Nat:=(x.eT.length+cX List.length x.eT)
def aO.ok (x:aO):Prop:=cH x.bU/\cH x.bV/\x.eT.length<=maxLen/\(∀ y,y∈x.eT->y.length<=maxLen)/\cH x.aZ/\cH x.bM/\cH x.cQ/\cH x.jG
structure bK where
 aF:List aO
 deriving DecidableEq
@[simp] abbrev bK.row (x:bK):List D:=[.slc 7 (bS x.aF)]
@[simp] abbrev bK.c (x:bK):List C:=[.d (.slc 7 (bS x.aF))]
@[simp] abbrev bK.o (x:bK):List C:=[.own 1 7 (bS x.aF)]
def bK.cost (x:bK):Nat:=(x.aF.length+cX aO.cost x.aF)
def bK.ok (x:bK):Prop:=x.aF.length<=maxLen/\(∀ y,y∈x.aF->y.ok)
structure aQ where
 bU:Int
 dG:Int
 fN:List UInt8
 aZ:Int
 bM:Int
 cQ:Int
 deriving DecidableEq
@[simp] abbrev aQ.row (x:aQ):List D:=[.int .i64 x.bU,.int .i64 x.dG,.str x.fN,.int .i64 x.aZ,.int .i64 x.bM,.int .i64 x.cQ]
@[simp] abbrev aQ.c (x:aQ):List C:=[.d (.int .i64 x.bU),.d (.int .i64 x.dG),.d (.str x.fN),.d (.int .i64 x.aZ),.d (.int .i64 x.bM),.d (.int .i64 x.cQ)]
@[simp] abbrev aQ.o (x:aQ):List C:=[.d (.int .i64 x.bU),.d (.int .i64 x.dG),.d (.str x.fN),.d (.int .i64 x.aZ),.d (.int .i64 x.bM),.d (.int .i64 x.cQ)]
def bC (l:List aQ):List (List D):=l.map aQ.row
@[simp] theorem tD (l:List aQ):(bC l).length=l.length:=by simp [bC]
@[simp] theorem aR1 (l:List aQ) (i:Nat):(bC l)[i]?=(l[i]?).map aQ.row:=by simp [bC]
theorem wT (a b:List aQ):bC (a++b)=bC a++bC b:=by simp [bC]
def aQ.cost (x:aQ):Nat:=x.fN.length
def aQ.ok (x:aQ):Prop:=cH x.bU/\cH x.dG/\x.fN.length<=maxLen/\cH x.aZ/\cH x.bM/\cH x.cQ
structure dX where
 aL:List aQ
 deriving DecidableEq
@[simp] abbrev dX.row (x:dX):List D:=[.slc 6 (bC x.aL)]
@[simp] abbrev dX.c (x:dX):List C:=[.d (.slc 6 (bC x.aL))]
@[simp] abbrev dX.o (x:dX):List C:=[.own 0 6 (bC x.aL)]
def dX.cost (x:dX):Nat:=(x.aL.length+cX aQ.cost x.aL)
def dX.ok (x:dX):Prop:=x.aL.length<=maxLen/\(∀ y,y∈x.aL->y.ok)
structure cV where
 aG:List UInt8
 aFx:List UInt8
 deriving DecidableEq
@[simp] abbrev cV.row (x:cV):List D:=[.str x.aG,.str x.aFx]
@[simp] abbrev cV.c (x:cV):List C:=[.d (.str x.aG),.d (.str x.aFx)]
@[simp] abbrev cV.o (x:cV):List C:=[.d (.str x.aG),.d (.str x.aFx)]
def cY (l:List cV):List (List D):=l.map cV.row
@[simp] theorem rR (l:List cV):(cY l).length=l.length:=by simp [cY]
@[simp] theorem aTb (l:List cV) (i:Nat):(cY l)[i]?=(l[i]?).map cV.row:=by simp [cY]
theorem pL (a b:List cV):cY (a++b)=cY a++cY b:=by simp [cY]
def cV.cost (x:cV):Nat:=x.aG.length+x.aFx.length
def cV.ok (x:cV):Prop:=x.aG.length<=maxLen/\x.aFx.length<=maxLen
structure jA where
 aY:List cV
 fU:Int
 aZ:Int
 deriving DecidableEq
@[simp] abbrev jA.row (x:jA):List D:=[.slc 2 (cY x.aY),.int .i64 x.fU,.int .i64 x.aZ]
@[simp] abbrev jA.c (x:jA):List C:=[.d (.slc 2 (cY x.aY)),.d (.int .i64 x.fU),.d (.int .i64 x.aZ)]
@[simp] abbrev jA.o (x:jA):List C:=[.own 0 2 (cY x.aY),.d (.int .i64 x.fU),.d (.int .i64 x.aZ)]
def jA.cost (x:jA):Nat:=(x.aY.length+cX cV.cost x.aY)
def jA.ok (x:jA):Prop:=x.aY.length<=maxLen/\(∀ y,y∈x.aY->y.ok)/\cH x.fU/\cH x.aZ
structure gW where
 aG:List UInt8
 fAt:Int
 iU:Int
 deriving DecidableEq
@[simp] abbrev gW.row (x:gW):List D:=[.str x.aG,.int .i64 x.fAt,.int .i64 x.iU]
@[simp] abbrev gW.c (x:gW):List C:=[.d (.str x.aG),.d (.int .i64 x.fAt),.d (.int .i64 x.iU)]
@[simp] abbrev gW.o (x:gW):List C:=[.d (.str x.aG),.d (.int .i64 x.fAt),.d (.int .i64 x.iU)]
def fP (l:List gW):List (List D):=l.map gW.row
@[simp] theorem aIV (l:List gW):(fP l).length=l.length:=by simp [fP]
@[simp] theorem aTI (l:List gW) (i:Nat):(fP l)[i]?=(l[i]?).map gW.row:=by simp [fP]
theorem aIW (a b:List gW):fP (a++b)=fP a++fP b:=by simp [fP]
def gW.cost (x:gW):Nat:=x.aG.length
def gW.ok (x:gW):Prop:=x.aG.length<=maxLen/\cH x.fAt/\cH x.iU
structure eP where
 bX:List gW
 deriving DecidableEq
@[simp] abbrev eP.row (x:eP):List D:=[.slc 3 (fP x.bX)]
@[simp] abbrev eP.c (x:eP):List C:=[.d (.slc 3 (fP x.bX))]
@[simp] abbrev eP.o (x:eP):List C:=[.own 0 3 (fP x.bX)]
def eP.cost (x:eP):Nat:=(x.bX.length+cX gW.cost x.bX)
def eP.ok (x:eP):Prop:=x.bX.length<=maxLen/\(∀ y,y∈x.bX->y.ok)
structure cK where
 dS:Int
 aG:List UInt8
 deriving DecidableEq
@[simp] abbrev cK.row (x:cK):List D:=[.int .i64 x.dS,.str x.aG]
@[simp] abbrev cK.c (x:cK):List C:=[.d (.int .i64 x.dS),.d (.str x.aG)]
@[simp] abbrev cK.o (x:cK):List C:=[.d (.int .i64 x.dS),.d (.str x.aG)]
def dK (l:List cK):List (List D):=l.map cK.row
@[simp] theorem wS (l:List cK):(dK l).length=l.length:=by simp [dK]
@[simp] theorem aR0 (l:List cK) (i:Nat):(dK l)[i]?=(l[i]?).map cK.row:=by simp [dK]
theorem aDc (a b:List cK):dK (a++b)=dK a++dK b:=by simp [dK]
def cK.cost (x:cK):Nat:=x.aG.length
def cK.ok (x:cK):Prop:=cH x.dS/\x.aG.length<=maxLen
structure aP where
 cN:Int
 bG:Int
 eQ:Int
 aD:bK
 aV:dX
 bL:jA
 bJ:eP
 bD:List cK
 deriving DecidableEq
@[simp] abbrev aP.row (x:aP):List D:=[.int .i64 x.cN,.int .i64 x.bG,.int .i64 x.eQ,.slc 7 (bS x.aD.aF),.slc 6 (bC x.aV.aL),.slc 2 (cY x.bL.aY),.int .i64 x.bL.fU,.int .i64 x.bL.aZ,.slc 3 (fP x.bJ.bX),.slc 2 (dK x.bD)]
@[simp] abbrev aP.c (x:aP):List C:=[.d (.int .i64 x.cN),.d (.int .i64 x.bG),.d (.int .i64 x.eQ),.d (.slc 7 (bS x.aD.aF)),.d (.slc 6 (bC x.aV.aL)),.d (.slc 2 (cY x.bL.aY)),.d (.int .i64 x.bL.fU),.d (.int .i64 x.bL.aZ),.d (.slc 3 (fP x.bJ.bX)),.d (.slc 2 (dK x.bD))]
@[simp] abbrev aP.o (x:aP):List C:=[.d (.int .i64 x.cN),.d (.int .i64 x.bG),.d (.int .i64 x.eQ),.own 1 7 (bS x.aD.aF),.own 0 6 (bC x.aV.aL),.own 0 2 (cY x.bL.aY),.d (.int .i64 x.bL.fU),.d (.int .i64 x.bL.aZ),.own 0 3 (fP x.bJ.bX),.own 0 2 (dK x.bD)]
def aP.cost (x:aP):Nat:=x.aD.cost+x.aV.cost+x.bL.cost+x.bJ.cost+(x.bD.length+cX cK.cost x.bD)
def aP.ok (x:aP):Prop:=cH x.cN/\cH x.bG/\cH x.eQ/\x.aD.ok/\x.aV.ok/\x.bL.ok/\x.bJ.ok/\x.bD.length<=maxLen/\(∀ y,y∈x.bD->y.ok)
@[simp] theorem aRq (s t:List UInt8):pK .str .geq (.d (.str s)) (.d (.str t))=out (.d (.bool (!(Go.Op.bytesLess s t)))):=id rfl
@[simp] theorem aRn (s t:List UInt8):pK .str .lss (.d (.str s)) (.d (.str t))=out (.d (.bool (Go.Op.bytesLess s t))):=id rfl
@[simp] theorem aRo (s t:List UInt8):pK .str .leq (.d (.str s)) (.d (.str t))=out (.d (.bool (Go.Op.bytesLess s t || s==t))):=id rfl
@[simp] theorem aRp (s t:List UInt8):pK .str .gtr (.d (.str s)) (.d (.str t))=out (.d (.bool (!(Go.Op.bytesLess s t || s==t)))):=id rfl
def okP {α:Type} (q:List α->α->Bool):List α->List α->Bool
 |_,[]=>true
 |pre,x::r=>q pre x && okP q (pre++[x]) r
theorem aLu {α:Type} (q:List α->α->Bool) (b:List α):∀ (a pre:List α),okP q pre (a++b)=(okP q pre a && okP q (pre++a) b):=by
 intro a
 induction a with
 |nil=>intro pre;simp [okP]
 |cons x a ih=>intro pre;simp [okP,ih,Bool.and_assoc]
theorem pT {α:Type} {q:List α->α->Bool} {l:List α} {i:Nat} {x:α} (h:l[i]?=some x):okP q [] (l.take (i+1))=(okP q [] (l.take i) && q (l.take i) x):=by
 rw [List.take_add_one,h,aLu]
 simp [okP]
theorem tG {α:Type} {q:List α->α->Bool} {l:List α} {i:Nat} {x:α} (h:l[i]?=some x) (hq:q (l.take i) x=false):okP q [] l=false:=by
 have e:l=l.take i++(x::l.drop (i+1)):=by rw [<-aJz h,List.take_append_drop]
 rw [e,aLu]
 simp only [okP,List.nil_append,hq,Bool.false_and,Bool.and_false]
def oR {α:Type} (lt:α->α->Bool) (pre:List α) (x:α):Bool:=match pre.getLast? with|none=>true|some p=>lt p x
theorem qE {α:Type} (lt:α->α->Bool) (l:List α) (x:α):oR lt (l.take 0) x=true:=by simp [oR]
theorem qF {α:Type} (lt:α->α->Bool) {l:List α} {j:Nat} {p:α} (h:l[j]?=some p) (x:α):oR lt (l.take (j+1)) x=lt p x:=by
 unfold oR
 rw [List.take_add_one,h]
 simp
theorem aCK {α:Type} (lt:α->α->Bool) {l:List α} {i:Nat} {p:α} (h0:0<i) (h:l[i-1]?=some p) (x:α):oR lt (l.take i) x=lt p x:=by
 obtain ⟨j,rfl⟩:∃ j,i=j+1:=⟨i-1,by omega⟩
 exact qF lt h x
def aB2 (pre:List (List UInt8)) (x:List UInt8):Bool:=eG x && oR (fun p x=>Go.Op.bytesLess p x) pre x
def jY (l:List (List UInt8)):Bool:=decide (l.length<=6) && okP aB2 [] l
theorem eB (l:List (List UInt8)) (i:Nat):(aN l)[i]?=(l[i]?).map fun s=>[.str s]:=by simp [aN]
theorem aEc (l:List (List UInt8)) (hl:l.length<=1048576) (hs:∀ s,s∈l->s.length<=1048576):aE PP GG 147 [.d (.slc 1 (aN l))] (.d (.bool (jY l))) [none]:=by
 refine cv Tryz.func147 [.d (.bool (jY l))] ?_
 have hind:=cD l
 have hsl:(aN l).length=l.length:=by simp [aN]
 by_cases h6:l.length<=6
 rotate_left
 ·have hb:jY l=false:=by unfold jY;rw [decide_eq_false h6,Bool.false_and]
  rw [hb]
  have hd:6<l.length:=by omega
  exact jI (Y2 hsl hd)
 have hd:¬6<l.length:=by omega
 refine iK (Y2 hsl hd) ?_
 refine bQ (fun n st=>∃ i:Nat,n=l.length-i/\i<=l.length/\okP aB2 [] (l.take i)=true/\st=⟨[],[(0,.d (.slc 1 (aN l))),(3,.d (.int .i64 i))],[],0⟩) _ ⟨0,rfl,by omega,rfl,?_⟩ ?_
 ·exact qW
 rintro n st ⟨i,rfl,hi,hok,rfl⟩
 by_cases hlt:i<l.length
 ·have ha:=List.getElem?_eq_getElem hlt
  generalize l[i]=x at ha
  have cn:=jZ x (by have:=hs x (List.mem_of_getElem? ha);omega)
  have hst:=pT (q:=aB2) ha
  have hbad:=fun h=>tG (q:=aB2) ha h
  rw [hok,Bool.true_and] at hst
  unfold aB2 at hst hbad
  cases hnx:eG x with
  |false=>
   rw [hnx] at cn hbad
   have hb:jY l=false:=by unfold jY aB2;rw [hbad rfl];simp
   rw [hb]
   exact eJ (Y3 ha hsl @eB) (Z1 cn)
  |true=>
   rw [hnx] at cn hst hbad
   simp only [Bool.true_and] at hst hbad
   by_cases h0:i=0
   ·subst h0
    rw [qE] at hst
    refine jH (Y3 ha hsl @eB) (Z1 cn) ?_
    refine ⟨l.length-(0+1),by omega,1,rfl,by omega,hst,?_⟩
    refine kT ?_
    exact aA (by omega) (by omega)
   ·have hp:=List.getElem?_eq_getElem (show i-1<l.length by omega)
    generalize l[i-1]'_=p at hp
    rw [aCK _ (by omega) hp] at hst hbad
    have hpi:0<i:=by omega
    have hw1:IntKind.i64.wrap ((i:Int)-1)=((i-1:Nat):Int):=by rw [aA (by omega) (by omega)];omega
    cases hb:Go.Op.bytesLess p x with
    |true=>
     rw [hb] at hst
     refine jH (Y7 ha hp hsl @eB hpi hw1 hb) (Z1 cn) ?_
     refine ⟨l.length-(i+1),by omega,i+1,rfl,by omega,hst,?_⟩
     refine kT ?_
     exact aA (by omega) (by omega)
    |false=>
     have hbf:jY l=false:=by unfold jY aB2;rw [hbad hb];simp
     rw [hbf]
     exact eJ (Y7 ha hp hsl @eB hpi hw1 hb) (Z1 cn)
 ·have hie:i=l.length:=by omega
  subst hie
  rw [List.take_length] at hok
  have:jY l=true:=by unfold jY;rw [hok,decide_eq_true h6];rfl
  rw [this]
  exact jI hsl
def fL (t:aO):Bool:=inB t.bU 1 1000000000 && inB t.bV 0 (t.bU-1) && jY t.eT && inB t.aZ 0 1000000000 &&
 (decide (t.bM=0) || inB t.bM (t.aZ+1) 1000000000) &&
 (decide (t.cQ=0) || (inB t.cQ (t.aZ+1) 1000000000 && !decide (t.bM=0) && decide (t.bM<=t.cQ))) && inB t.jG 0 1000
def aQE (t:aO):Prop:=t.eT.length<=1048576/\∀ s,s∈t.eT->s.length<=1048576
theorem aIr (t:aO):fL t=(inB t.bU 1 1000000000 && inB t.bV 0 (IntKind.i64.wrap (t.bU-1)) && jY t.eT && inB t.aZ 0 1000000000 &&
 (decide (t.bM=0) || inB t.bM (IntKind.i64.wrap (t.aZ+1)) 1000000000) &&
 (decide (t.cQ=0) || (inB t.cQ (IntKind.i64.wrap (t.aZ+1)) 1000000000 && !decide (t.bM=0) && decide (t.bM<=t.cQ))) && inB t.jG 0 1000):=by
 unfold fL
 cases h1:inB t.bU 1 1000000000 with
 |false=>simp
 |true=>
  cases h2:inB t.aZ 0 1000000000 with
  |false=>simp
  |true=>
   unfold inB at h1 h2
   simp only [Bool.and_eq_true,decide_eq_true_eq] at h1 h2
   rw [aA (show _<=t.bU-1 by omega) (by omega),aA (show _<=t.aZ+1 by omega) (by omega)]
theorem aND (t:aO):fL t=(inB t.bU 1 1000000000 && decide (0<=t.bV) && decide (t.bV<t.bU) && jY t.eT && inB t.aZ 0 1000000000 && inB t.jG 0 1000 &&
 (decide (t.bM=0) || inB t.bM (IntKind.i64.wrap (t.aZ+1)) 1000000000) &&
 (decide (t.cQ=0) || (inB t.cQ (IntKind.i64.wrap (t.aZ+1)) 1000000000 && !decide (t.bM=0) && decide (t.bM<=t.cQ)))):=by
 rw [aIr]
 cases h1:inB t.bU 1 1000000000 with
 |false=>simp
 |true=>
  have h2:inB t.bV 0 (IntKind.i64.wrap (t.bU-1))=(decide (0<=t.bV) && decide (t.bV<t.bU)):=by
   unfold inB at h1 ⊢
   simp only [Bool.and_eq_true,decide_eq_true_eq] at h1
   rw [aA (show _<=t.bU-1 by omega) (by omega)]
   congr 1
   exact decide_eq_decide.2 (by omega)
  rw [h2]
  generalize inB t.jG 0 1000=a
  generalize (decide (t.bM=0) || inB t.bM (IntKind.i64.wrap (t.aZ+1)) 1000000000)=b
  generalize (decide (t.cQ=0) || (inB t.cQ (IntKind.i64.wrap (t.aZ+1)) 1000000000 && !decide (t.bM=0) && decide (t.bM<=t.cQ)))=c
  cases a<;>cases b<;>cases c<;>simp
theorem wH (x:aO) (hx:aQE x):aE PP GG 116 [.agg x.c] (.d (.bool (fL x))) [none]:=by
 refine cv Tryz.func116 [.d (.bool (fL x))] ?_
 have hr:=aND x
 obtain ⟨x1,x2,x3,x4,x5,x6,x7⟩:=x
 dsimp only at hr
 have c1:aE PP GG 12 [.d (.int .i64 x1),.d (.int .i64 1),.d (.int .i64 1000000000)] (.d (.bool (inB x1 1 1000000000))) [none,none,none]:=bA _ _ _
 have c3:=aEc x3 hx.1 hx.2
 have c4:aE PP GG 12 [.d (.int .i64 x4),.d (.int .i64 0),.d (.int .i64 1000000000)] (.d (.bool (inB x4 0 1000000000))) [none,none,none]:=bA _ _ _
 have c5:aE PP GG 12 [.d (.int .i64 x5),.d (.int .i64 (IntKind.i64.wrap (x4+1))),.d (.int .i64 1000000000)] (.d (.bool (inB x5 (IntKind.i64.wrap (x4+1)) 1000000000))) [none,none,none]:=bA _ _ _
 have c6:aE PP GG 12 [.d (.int .i64 x6),.d (.int .i64 (IntKind.i64.wrap (x4+1))),.d (.int .i64 1000000000)] (.d (.bool (inB x6 (IntKind.i64.wrap (x4+1)) 1000000000))) [none,none,none]:=bA _ _ _
 have c7:aE PP GG 12 [.d (.int .i64 x7),.d (.int .i64 0),.d (.int .i64 1000)] (.d (.bool (inB x7 0 1000))) [none,none,none]:=bA _ _ _
 have hind:=cD x3
 have q5:(x5==0)=decide (x5=0):=rfl
 have q6:(x6==0)=decide (x6=0):=rfl
 have q7:(x5 != 0)=!decide (x5=0):=rfl
 generalize inB x1 1 1000000000=p1 at *
 generalize jY x3=p3 at *
 generalize inB x4 0 1000000000=p4 at *
 generalize inB x5 (IntKind.i64.wrap (x4+1)) 1000000000=p5 at *
 generalize inB x6 (IntKind.i64.wrap (x4+1)) 1000000000=p6 at *
 generalize inB x7 0 1000=p7 at *
 generalize decide (x5=0)=e0 at *
 generalize decide (x6=0)=l0 at *
 obtain ⟨le,hle⟩:∃ le,decide (x5<=x6)=le:=⟨_,rfl⟩
 obtain ⟨a,ha⟩:∃ a,decide (0<=x2)=a:=⟨_,rfl⟩
 obtain ⟨b,hb⟩:∃ b,decide (x2<x1)=b:=⟨_,rfl⟩
 have ha2:decide (x2<0)=!a:=by rw [<-ha,<-decide_not];exact decide_eq_decide.2 (by omega)
 have hb2:decide (x1<=x2)=!b:=by rw [<-hb,<-decide_not];exact decide_eq_decide.2 (by omega)
 rw [hle,ha,hb] at hr
 refine u_1 ?_
 refine aK (?_)
 refine aRH (Y2 ha2 hb2) (Z4 c1 c3 c4 c7) 36 (!p1 || !a || !b || !p3 || !p4 || !p7) ?_
 refine aR rfl (fun h=>?_) (fun h=>aU ?_)
 ·have hf:fL ⟨x1,x2,x3,x4,x5,x6,x7⟩=false:=by rw [hr];revert h;cases p1<;>cases a<;>cases b<;>cases p3<;>cases p4<;>cases p7<;>simp
  rw [hf]
  exact oI
 have hg:(p1 && a && b && p3 && p4 && p7)=true:=by revert h;cases p1<;>cases a<;>cases b<;>cases p3<;>cases p4<;>cases p7<;>simp
 rw [hg,Bool.true_and] at hr
 refine aK (?_)
 refine aRH q7 (Z1 c5) 48 (!e0 && !p5) ?_
 refine aR rfl (fun h=>?_) (fun h=>aU ?_)
 ·have hf:fL ⟨x1,x2,x3,x4,x5,x6,x7⟩=false:=by rw [hr];revert h;cases e0<;>cases p5<;>simp
  rw [hf]
  exact oI
 have hg:(e0 || p5)=true:=by revert h;cases e0<;>cases p5<;>simp
 rw [hg,Bool.true_and] at hr
 rw [hr]
 cases l0 with
 |true=>
  exact jI q6
 |false=>
  refine aK (?_)
  refine mL q6 ?_
  refine aR rfl (fun h=>?_) (fun h=>aU ?_)
  ·exact absurd h (by simp)
  refine aRH (Y2 q7 hle) (Z1 c6) 2 (p6 && !e0 && le) ?_
  exact u_3
def mA {α:Type} (p:α->Bool) (a:List α):Int:=match a.findIdx? p with|some i=>i|none=>-1
theorem sE {α:Type} (p:α->Bool) (a:List α):decide (0<=mA p a)=a.any p:=by
 unfold mA
 cases h:a.findIdx? p with
 |none=>
  rw [List.findIdx?_eq_none_iff] at h
  have:a.any p=false:=by rw [List.any_eq_false];intro x hx;simp [h x hx]
  rw [this];rfl
 |some i=>
  rw [List.findIdx?_eq_some_iff_getElem] at h
  obtain ⟨h1,h2,_⟩:=h
  have:a.any p=true:=by rw [List.any_eq_true];exact ⟨_,List.getElem_mem h1,h2⟩
  rw [this];exact decide_eq_true (show (0:Int)<=(i:Int) by omega)
theorem nS {α:Type} (p:α->Bool) (a:List α):decide (mA p a<0)=!a.any p:=by
 rw [<-sE,<-decide_not];exact decide_eq_decide.2 (by omega)
theorem aJm {α:Type} {p:α->Bool} {a:List α} {i:Nat} {x:α} (ha:a[i]?=some x) (hn:∀ x,x∈a.take i->p x=false) (hx:p x=true):mA p a=i:=by
 obtain ⟨h,e⟩:=List.getElem?_eq_some_iff.1 ha
 unfold mA
 have:a.findIdx? p=some i:=by
  rw [List.findIdx?_eq_some_iff_getElem]
  refine ⟨h,by rw [e];exact hx,fun j hj=>?_⟩
  have:=hn a[j] (List.mem_take_iff_getElem.2 ⟨j,by omega,rfl⟩);simp [this]
 rw [this]
theorem aFp {α:Type} {p:α->Bool} {a:List α} (hn:∀ x,x∈a->p x=false):mA p a=-1:=by
 unfold mA
 rw [List.findIdx?_eq_none_iff.2 hn]
theorem lI {α:Type} {p:α->Bool} {a:List α} {i:Nat} {x:α} (ha:a[i]?=some x) (hn:∀ x,x∈a.take i->p x=false) (hx:p x=false):∀ x,x∈a.take (i+1)->p x=false:=by
 intro y hy
 rw [List.take_add_one,ha] at hy
 rcases List.mem_append.1 hy with hy|hy
 ·exact hn y hy
 ·simp at hy;subst hy;exact hx
def cJ (f:bK) (id:Int):Bool:=f.aF.any fun t=>decide (t.bU=id)
def aBi (f:bK) (pre:List aO) (t:aO):Bool:=fL t && oR (fun p x=>decide (p.bU<x.bU)) pre t && (decide (t.bV=0) || cJ f t.bV)
def bR (f:bK):Bool:=decide (f.aF.length<=120) && okP (aBi f) [] f.aF
def tP (f:bK):Prop:=f.aF.length<=1048576/\∀ t,t∈f.aF->aQE t
theorem lY (f:bK) (id:Int) (hf:f.aF.length<=1048576):aE PP GG 79 [.agg f.c,.d (.int .i64 id)] (.d (.int .i64 (mA (fun t=>decide (t.bU=id)) f.aF))) [none,none]:=by
 refine cv Tryz.func79 [.d (.int .i64 (mA (fun t=>decide (t.bU=id)) f.aF))] ?_
 obtain ⟨a⟩:=f
 dsimp only at hf ⊢
 refine lQ ?_
 refine bQ (fun n st=>∃ i:Nat,n=a.length-i/\i<=a.length/\(∀ x,x∈a.take i->(decide (x.bU=id))=false) ∧
  st=⟨[],[(1,.d (.int .i64 id)),(2,.ptr 0 0),(5,.d (.int .i64 i))],[(0,.box [.d (.slc 7 (bS a))])],1⟩) _ ⟨0,rfl,by omega,fun x hx=>by simp at hx,?_⟩ ?_
 ·exact qW
 rintro n st ⟨i,rfl,hi,hn,rfl⟩
 by_cases hlt:i<a.length
 ·have ha:=List.getElem?_eq_getElem hlt
  generalize a[i]=x at ha
  by_cases hx:x.bU=id
  ·have e:=aJm ha hn (decide_eq_true hx)
   have hxb:(x.bU==id)=true:=decide_eq_true hx
   rw [e]
   exact jI (Y2 ha hxb)
  ·have hn2:=lI (p:=fun x=>decide (x.bU=id)) ha hn (decide_eq_false hx)
   have hxb:(x.bU==id)=false:=decide_eq_false hx
   refine iK (Y2 ha hxb) ?_
   refine ⟨a.length-(i+1),by omega,i+1,rfl,hlt,hn2,?_⟩
   refine kT ?_
   exact aA (by omega) (by omega)
 ·have hie:i=a.length:=by omega
  subst hie
  rw [List.take_length] at hn
  rw [aFp hn]
  exact oI
theorem jB (f:bK) (hf:tP f):aE PP GG 78 [.agg f.c] (.d (.bool (bR f))) [none]:=by
 refine cv Tryz.func78 [.d (.bool (bR f))] ?_
 obtain ⟨hl,ht⟩:=hf
 have hti:∀ id,aE PP GG 79 [.agg [.d (.slc 7 (bS f.aF))],.d (.int .i64 id)] (.d (.int .i64 (mA (fun t=>decide (t.bU=id)) f.aF))) [none,none]:=fun id=>lY f id hl
 generalize hfa:f.aF=a at *
 by_cases h6:a.length<=120
 rotate_left
 ·have hb:bR f=false:=by unfold bR;rw [hfa,decide_eq_false h6,Bool.false_and]
  rw [hb]
  have hd:120<a.length:=by omega
  exact jI (Y2 hfa hd)
 have hd:¬120<a.length:=by omega
 refine iK (Y2 hfa hd) ?_
 refine bQ (fun n st=>∃ i:Nat,n=a.length-i/\i<=a.length/\okP (aBi f) [] (a.take i)=true ∧
  st=⟨[],[(1,.ptr 0 0),(3,.d (.int .i64 i))],[(0,.box [.d (.slc 7 (bS a))])],1⟩) _ ⟨0,rfl,by omega,rfl,?_⟩ ?_
 ·exact iR hfa
 rintro n st ⟨i,rfl,hi,hok,rfl⟩
 by_cases hlt:i<a.length
 ·have ha:=List.getElem?_eq_getElem hlt
  generalize a[i]=x at ha
  have ct:=wH x (ht x (List.mem_of_getElem? ha))
  have cf:=hti x.bV
  have hbad0:=fun h=>tG (q:=aBi f) ha h
  have hst:=pT (q:=aBi f) ha
  rw [hok,Bool.true_and] at hst
  have hbad:aBi f (a.take i) x=false->bR f=false:=fun h=>by unfold bR;rw [hfa,hbad0 h,Bool.and_false]
  clear hbad0
  have hq:aBi f (a.take i) x=(fL x && oR (fun p x=>decide (p.bU<x.bU)) (a.take i) x && (decide (x.bV=0) || cJ f x.bV)):=rfl
  rw [hq] at hst hbad
  clear hq
  obtain ⟨xi,xp,xn,xm,xe,xl,xu⟩:=x
  have hno:decide (mA (fun t=>decide (t.bU=xp)) a<0)=!cJ f xp:=by rw [nS];unfold cJ;rw [hfa]
  dsimp only at cf hst hbad
  generalize mA (fun t=>decide (t.bU=xp)) a=k at cf hno
  cases htb:fL ⟨xi,xp,xn,xm,xe,xl,xu⟩ with
  |false=>
   rw [htb] at ct hbad
   have hb:=hbad (by simp)
   rw [hb]
   exact eJ (Y2 ha hfa) (Z1 ct)
  |true=>
   rw [htb] at ct hst hbad
   simp only [Bool.true_and] at hst hbad
   by_cases h0:i=0
   ·have hpi:¬0<i:=by omega
    have hz:oR (fun p x:aO=>decide (p.bU<x.bU)) (a.take i) ⟨xi,xp,xn,xm,xe,xl,xu⟩=true:=by rw [h0];exact qE _ _ _
    rw [hz,Bool.true_and] at hst hbad
    by_cases hp0:xp=0
    ·have hst1:okP (aBi f) [] (a.take (i+1))=true:=by rw [hst];simp [hp0]
     have hq0:(xp != 0)=false:=by simp [hp0]
     refine jH (Y4 ha hfa hq0 hpi) (Z2 ct cf) ?_
     refine ⟨a.length-(i+1),by omega,i+1,rfl,hlt,hst1,?_⟩
     refine aCQ hfa ?_
     exact aA (by omega) (by omega)
    ·have hq0:(xp != 0)=true:=by simp [hp0]
     have hd0:decide (xp=0)=false:=decide_eq_false hp0
     cases hh:cJ f xp with
     |true=>
      have hk:¬k<0:=by rw [hh] at hno;simpa using hno
      have hst1:okP (aBi f) [] (a.take (i+1))=true:=by rw [hst];simp [hh]
      refine jH (Y5 ha hfa hq0 hpi hk) (Z2 ct cf) ?_
      refine ⟨a.length-(i+1),by omega,i+1,rfl,hlt,hst1,?_⟩
      refine aCQ hfa ?_
      exact aA (by omega) (by omega)
     |false=>
      have hk:k<0:=by rw [hh] at hno;simpa using hno
      have hb:=hbad (by simp [hd0,hh])
      rw [hb]
      exact eJ (Y5 ha hfa hq0 hpi hk) (Z2 ct cf)
   ·have hp:=List.getElem?_eq_getElem (show i-1<a.length by omega)
    generalize a[i-1]'_=p at hp
    rw [aCK _ (by omega) hp] at hst hbad
    have hpi:0<i:=by omega
    have hw1:IntKind.i64.wrap ((i:Int)-1)=((i-1:Nat):Int):=by rw [aA (by omega) (by omega)];omega
    obtain ⟨yi,yp,yn,ym,ye,yl,yu⟩:=p
    dsimp only at hst hbad
    by_cases hle:xi<=yi
    ·have hb:=hbad (by rw [decide_eq_false (show ¬yi<xi by omega),Bool.false_and])
     rw [hb]
     exact eJ (Y6 ha hp hfa hpi hw1 hle) (Z1 ct)
    ·rw [decide_eq_true (show yi<xi by omega),Bool.true_and] at hst hbad
     by_cases hp0:xp=0
     ·have hst1:okP (aBi f) [] (a.take (i+1))=true:=by rw [hst];simp [hp0]
      have hq0:(xp != 0)=false:=by simp [hp0]
      refine jH (Y7 ha hfa hq0 hp hpi hw1 hle) (Z2 ct cf) ?_
      refine ⟨a.length-(i+1),by omega,i+1,rfl,hlt,hst1,?_⟩
      refine aCQ hfa ?_
      exact aA (by omega) (by omega)
     ·have hq0:(xp != 0)=true:=by simp [hp0]
      have hd0:decide (xp=0)=false:=decide_eq_false hp0
      cases hh:cJ f xp with
      |true=>
       have hk:¬k<0:=by rw [hh] at hno;simpa using hno
       have hst1:okP (aBi f) [] (a.take (i+1))=true:=by rw [hst];simp [hh]
       refine jH (Y8 ha hfa hq0 hp hpi hw1 hle hk) (Z2 ct cf) ?_
       refine ⟨a.length-(i+1),by omega,i+1,rfl,hlt,hst1,?_⟩
       refine aCQ hfa ?_
       exact aA (by omega) (by omega)
      |false=>
       have hk:k<0:=by rw [hh] at hno;simpa using hno
       have hb:=hbad (by simp [hd0,hh])
       rw [hb]
       exact eJ (Y8 ha hfa hq0 hp hpi hw1 hle hk) (Z2 ct cf)
 ·have hie:i=a.length:=by omega
  subst hie
  rw [List.take_length] at hok
  have e:bR f=true:=by unfold bR;rw [hfa,hok,decide_eq_true h6];rfl
  rw [e]
  exact jI hfa
def tM (t:aQ):Bool:=inB t.bU 1 1000000000 && inB t.dG 0 1000000000 && fQ t.fN && inB t.aZ 0 1000000000 &&
 inB t.cQ (IntKind.i64.wrap (t.aZ+1)) 1000000000 && inB t.bM (IntKind.i64.wrap (t.aZ+1)) t.cQ
def rF (pre:List aQ) (t:aQ):Bool:=tM t && oR (fun p x=>decide (p.bU<x.bU)) pre t
def eV (b:dX):Bool:=decide (b.aL.length<=150) && okP rF [] b.aL
def aDP (b:dX):Prop:=b.aL.length<=1048576/\∀ t,t∈b.aL->t.fN.length<=1048576
theorem aD9 (x:aQ) (hx:x.fN.length<=1048576):aE PP GG 148 [.agg x.c] (.d (.bool (tM x))) [none]:=by
 refine cv Tryz.func148 [.d (.bool (tM x))] ?_
 obtain ⟨x1,x2,x3,x4,x5,x6⟩:=x
 have hr:tM ⟨x1,x2,x3,x4,x5,x6⟩=(inB x1 1 1000000000 && inB x2 0 1000000000 && fQ x3 && inB x4 0 1000000000 && inB x6 (IntKind.i64.wrap (x4+1)) 1000000000 && inB x5 (IntKind.i64.wrap (x4+1)) x6):=rfl
 have c1:aE PP GG 12 [.d (.int .i64 x1),.d (.int .i64 1),.d (.int .i64 1000000000)] (.d (.bool (inB x1 1 1000000000))) [none,none,none]:=bA _ _ _
 have c2:aE PP GG 12 [.d (.int .i64 x2),.d (.int .i64 0),.d (.int .i64 1000000000)] (.d (.bool (inB x2 0 1000000000))) [none,none,none]:=bA _ _ _
 have c3:=fI x3 (by dsimp only at hx;omega)
 have c4:aE PP GG 12 [.d (.int .i64 x4),.d (.int .i64 0),.d (.int .i64 1000000000)] (.d (.bool (inB x4 0 1000000000))) [none,none,none]:=bA _ _ _
 have c5:aE PP GG 12 [.d (.int .i64 x6),.d (.int .i64 (IntKind.i64.wrap (x4+1))),.d (.int .i64 1000000000)] (.d (.bool (inB x6 (IntKind.i64.wrap (x4+1)) 1000000000))) [none,none,none]:=bA _ _ _
 have c6:aE PP GG 12 [.d (.int .i64 x5),.d (.int .i64 (IntKind.i64.wrap (x4+1))),.d (.int .i64 x6)] (.d (.bool (inB x5 (IntKind.i64.wrap (x4+1)) x6))) [none,none,none]:=bA _ _ _
 generalize inB x1 1 1000000000=p1 at *
 generalize inB x2 0 1000000000=p2 at *
 generalize fQ x3=p3 at *
 generalize inB x4 0 1000000000=p4 at *
 generalize inB x6 (IntKind.i64.wrap (x4+1)) 1000000000=p5 at *
 generalize inB x5 (IntKind.i64.wrap (x4+1)) x6=p6 at *
 refine u_1 ?_
 refine aK (?_)
 refine aRK (Z6 c1 c2 c3 c4 c5 c6) 2 (p1 && p2 && p3 && p4 && p5 && p6) ?_
 exact u_7 hr
theorem mE (f:dX) (hf:aDP f):aE PP GG 119 [.agg f.c] (.d (.bool (eV f))) [none]:=by
 refine cv Tryz.func119 [.d (.bool (eV f))] ?_
 obtain ⟨hl,ht⟩:=hf
 generalize hfa:f.aL=a at *
 by_cases h6:a.length<=150
 rotate_left
 ·have hb:eV f=false:=by unfold eV;rw [hfa,decide_eq_false h6,Bool.false_and]
  rw [hb]
  have hd:150<a.length:=by omega
  exact jI (Y2 hfa hd)
 have hd:¬150<a.length:=by omega
 refine iK (Y2 hfa hd) ?_
 refine bQ (fun n st=>∃ i:Nat,n=a.length-i/\i<=a.length/\okP rF [] (a.take i)=true ∧
  st=⟨[],[(1,.ptr 0 0),(3,.d (.int .i64 i))],[(0,.box [.d (.slc 6 (bC a))])],1⟩) _ ⟨0,rfl,by omega,rfl,?_⟩ ?_
 ·exact iR hfa
 rintro n st ⟨i,rfl,hi,hok,rfl⟩
 by_cases hlt:i<a.length
 ·have ha:=List.getElem?_eq_getElem hlt
  generalize a[i]=x at ha
  have ct:=aD9 x (ht x (List.mem_of_getElem? ha))
  have hbad0:=fun h=>tG (q:=rF) ha h
  have hst:=pT (q:=rF) ha
  rw [hok,Bool.true_and] at hst
  have hbad:rF (a.take i) x=false->eV f=false:=fun h=>by unfold eV;rw [hfa,hbad0 h,Bool.and_false]
  clear hbad0
  have hq:rF (a.take i) x=(tM x && oR (fun p x=>decide (p.bU<x.bU)) (a.take i) x):=rfl
  rw [hq] at hst hbad
  clear hq
  obtain ⟨xi,xp,xn,xm,xe,xl⟩:=x
  cases htb:tM ⟨xi,xp,xn,xm,xe,xl⟩ with
  |false=>
   rw [htb] at ct hbad
   have hb:=hbad (by simp)
   rw [hb]
   exact eJ (Y2 ha hfa) (Z1 ct)
  |true=>
   rw [htb] at ct hst hbad
   simp only [Bool.true_and] at hst hbad
   by_cases h0:i=0
   ·have hpi:¬0<i:=by omega
    have hz:oR (fun p x:aQ=>decide (p.bU<x.bU)) (a.take i) ⟨xi,xp,xn,xm,xe,xl⟩=true:=by rw [h0];exact qE _ _ _
    rw [hz] at hst
    refine jH (Y3 ha hfa hpi) (Z1 ct) ?_
    refine ⟨a.length-(i+1),by omega,i+1,rfl,hlt,hst,?_⟩
    refine aCQ hfa ?_
    exact aA (by omega) (by omega)
   ·have hp:=List.getElem?_eq_getElem (show i-1<a.length by omega)
    generalize a[i-1]'_=p at hp
    rw [aCK _ (by omega) hp] at hst hbad
    have hpi:0<i:=by omega
    have hw1:IntKind.i64.wrap ((i:Int)-1)=((i-1:Nat):Int):=by rw [aA (by omega) (by omega)];omega
    obtain ⟨yi,yp,yn,ym,ye,yl⟩:=p
    dsimp only at hst hbad
    by_cases hle:xi<=yi
    ·have hb:=hbad (decide_eq_false (show ¬yi<xi by omega))
     rw [hb]
     exact eJ (Y6 ha hp hfa hpi hw1 hle) (Z1 ct)
    ·rw [decide_eq_true (show yi<xi by omega)] at hst
     refine jH (Y6 ha hp hfa hpi hw1 hle) (Z1 ct) ?_
     refine ⟨a.length-(i+1),by omega,i+1,rfl,hlt,hst,?_⟩
     refine aCQ hfa ?_
     exact aA (by omega) (by omega)
 ·have hie:i=a.length:=by omega
  subst hie
  rw [List.take_length] at hok
  have e:eV f=true:=by unfold eV;rw [hfa,hok,decide_eq_true h6];rfl
  rw [e]
  exact jI hfa
def aED (pre:List cV) (u:cV):Bool:=eG u.aG && oR (fun p x=>Go.Op.bytesLess p.aG x.aG) pre u
def nT (f:jA):Bool:=decide (f.aY.length<=120) && inB f.fU 0 1000 && inB f.aZ 0 1000000000 && okP aED [] f.aY
def pZ (f:jA):Prop:=f.aY.length<=1048576/\∀ u,u∈f.aY->u.aG.length<=1048576
theorem sY (f:jA) (hf:pZ f):aE PP GG 150 [.agg f.c] (.d (.bool (nT f))) [none]:=by
 refine cv Tryz.func150 [.d (.bool (nT f))] ?_
 obtain ⟨a,ff,fm⟩:=f
 obtain ⟨hl,ht⟩:=hf
 dsimp only at hl ht
 have c1:aE PP GG 12 [.d (.int .i64 ff),.d (.int .i64 0),.d (.int .i64 1000)] (.d (.bool (inB ff 0 1000))) [none,none,none]:=bA _ _ _
 have c2:aE PP GG 12 [.d (.int .i64 fm),.d (.int .i64 0),.d (.int .i64 1000000000)] (.d (.bool (inB fm 0 1000000000))) [none,none,none]:=bA _ _ _
 have hB:nT ⟨a,ff,fm⟩=(decide (a.length<=120) && inB ff 0 1000 && inB fm 0 1000000000 && okP aED [] a):=rfl
 generalize nT ⟨a,ff,fm⟩=B at *
 generalize inB ff 0 1000=p2 at *
 generalize inB fm 0 1000000000=p3 at *
 by_cases h6:a.length<=120
 rotate_left
 ·have hd:120<a.length:=by omega
  rw [decide_eq_false h6] at hB
  simp only [Bool.false_and] at hB
  rw [hB]
  exact jI hd
 have hd:¬120<a.length:=by omega
 rw [decide_eq_true h6,Bool.true_and] at hB
 cases p2
 ·rw [hB]
  exact eJ hd (Z1 c1)
 cases p3
 ·rw [hB]
  exact eJ hd (Z2 c1 c2)
 rw [Bool.true_and,Bool.true_and] at hB
 refine jH hd (Z2 c1 c2) ?_
 refine bQ (fun n st=>∃ i:Nat,n=a.length-i/\i<=a.length/\okP aED [] (a.take i)=true ∧
  st=⟨[],[(1,.ptr 0 0),(3,.d (.int .i64 i))],[(0,.box [.d (.slc 2 (cY a)),.d (.int .i64 ff),.d (.int .i64 fm)])],1⟩) _ ⟨0,rfl,by omega,rfl,?_⟩ ?_
 ·exact qW
 rintro n st ⟨i,rfl,hi,hok,rfl⟩
 by_cases hlt:i<a.length
 ·have ha:=List.getElem?_eq_getElem hlt
  generalize a[i]=x at ha
  have ct:=jZ x.aG (by have:=ht x (List.mem_of_getElem? ha);omega)
  have hbad0:=fun h=>tG (q:=aED) ha h
  have hst:=pT (q:=aED) ha
  rw [hok,Bool.true_and] at hst
  have hbad:aED (a.take i) x=false->B=false:=fun h=>by rw [hB,hbad0 h]
  clear hbad0
  have hq:aED (a.take i) x=(eG x.aG && oR (fun p x=>Go.Op.bytesLess p.aG x.aG) (a.take i) x):=rfl
  rw [hq] at hst hbad
  clear hq
  obtain ⟨xn,xp⟩:=x
  dsimp only at ct hst hbad
  cases htb:eG xn with
  |false=>
   rw [htb] at ct hbad
   have hb:=hbad (by simp)
   rw [hb]
   exact eJ ha (Z1 ct)
  |true=>
   rw [htb] at ct hst hbad
   simp only [Bool.true_and] at hst hbad
   by_cases h0:i=0
   ·have hpi:¬0<i:=by omega
    have hz:oR (fun p x:cV=>Go.Op.bytesLess p.aG x.aG) (a.take i) ⟨xn,xp⟩=true:=by rw [h0];exact qE _ _ _
    rw [hz] at hst
    refine jH (Y2 ha hpi) (Z1 ct) ?_
    refine ⟨a.length-(i+1),by omega,i+1,rfl,hlt,hst,?_⟩
    refine kT ?_
    exact aA (by omega) (by omega)
   ·have hp:=List.getElem?_eq_getElem (show i-1<a.length by omega)
    generalize a[i-1]'_=p at hp
    rw [aCK _ (by omega) hp] at hst hbad
    have hpi:0<i:=by omega
    have hw1:IntKind.i64.wrap ((i:Int)-1)=((i-1:Nat):Int):=by rw [aA (by omega) (by omega)];omega
    obtain ⟨yn,yp⟩:=p
    dsimp only at hst hbad
    cases hbl:Go.Op.bytesLess yn xn with
    |false=>
     have hb:=hbad hbl
     rw [hb]
     exact eJ (Y5 ha hp hpi hw1 hbl) (Z1 ct)
    |true=>
     rw [hbl] at hst
     refine jH (Y5 ha hp hpi hw1 hbl) (Z1 ct) ?_
     refine ⟨a.length-(i+1),by omega,i+1,rfl,hlt,hst,?_⟩
     refine kT ?_
     exact aA (by omega) (by omega)
 ·have hie:i=a.length:=by omega
  subst hie
  rw [List.take_length] at hok
  rw [hok] at hB
  rw [hB]
  exact oI
def aGu (j:gW):Bool:=eG j.aG && inB j.fAt 0 2000000000 && inB j.iU 0 5
def aGt (pre:List gW) (j:gW):Bool:=aGu j && !(pre.any fun t=>t.aG==j.aG)
def gS (q:eP):Bool:=decide (q.bX.length<=120) && okP aGt [] q.bX
def aEC (q:eP):Prop:=q.bX.length<=1048576/\∀ j,j∈q.bX->j.aG.length<=1048576
theorem pH (f:eP) (hf:aEC f):aE PP GG 149 [.agg f.c] (.d (.bool (gS f))) [none]:=by
 refine cv Tryz.func149 [.d (.bool (gS f))] ?_
 obtain ⟨a⟩:=f
 obtain ⟨hl,ht⟩:=hf
 dsimp only at hl ht
 have hB:gS ⟨a⟩=(decide (a.length<=120) && okP aGt [] a):=rfl
 generalize gS ⟨a⟩=B at *
 by_cases h6:a.length<=120
 rotate_left
 ·have hd:120<a.length:=by omega
  rw [decide_eq_false h6] at hB
  simp only [Bool.false_and] at hB
  rw [hB]
  exact jI hd
 have hd:¬120<a.length:=by omega
 rw [decide_eq_true h6,Bool.true_and] at hB
 refine iK hd ?_
 refine bQ (fun n st=>∃ i:Nat,n=a.length-i/\i<=a.length/\okP aGt [] (a.take i)=true ∧
  st=⟨[],[(1,.ptr 0 0),(3,.d (.int .i64 i))],[(0,.box [.d (.slc 3 (fP a))])],1⟩) _ ⟨0,rfl,by omega,rfl,?_⟩ ?_
 ·exact qW
 rintro n st ⟨i,rfl,hi,hok,rfl⟩
 by_cases hlt:i<a.length
 ·have ha:=List.getElem?_eq_getElem hlt
  generalize a[i]=x at ha
  have ct:=jZ x.aG (by have:=ht x (List.mem_of_getElem? ha);omega)
  have c1:aE PP GG 12 [.d (.int .i64 x.fAt),.d (.int .i64 0),.d (.int .i64 2000000000)] (.d (.bool (inB x.fAt 0 2000000000))) [none,none,none]:=bA _ _ _
  have c2:aE PP GG 12 [.d (.int .i64 x.iU),.d (.int .i64 0),.d (.int .i64 5)] (.d (.bool (inB x.iU 0 5))) [none,none,none]:=bA _ _ _
  have hbad0:=fun h=>tG (q:=aGt) ha h
  have hst:=pT (q:=aGt) ha
  rw [hok,Bool.true_and] at hst
  have hbad:aGt (a.take i) x=false->B=false:=fun h=>by rw [hB,hbad0 h]
  clear hbad0
  have hq:aGt (a.take i) x=(eG x.aG && inB x.fAt 0 2000000000 && inB x.iU 0 5 && !((a.take i).any fun t=>t.aG==x.aG)):=rfl
  rw [hq] at hst hbad
  clear hq
  obtain ⟨xn,xa,xt⟩:=x
  dsimp only at ct c1 c2 hst hbad
  generalize eG xn=p1 at *
  generalize inB xa 0 2000000000=p2 at *
  generalize inB xt 0 5=p3 at *
  cases p1
  ·rw [hbad (by simp)]
   exact eJ ha (Z1 ct)
  cases p2
  ·rw [hbad (by simp)]
   exact eJ ha (Z2 ct c1)
  cases p3
  ·rw [hbad (by simp)]
   exact eJ ha (Z3 ct c1 c2)
  refine jH ha (Z3 ct c1 c2) ?_
  refine bQ (fun n st=>∃ k:Nat,n=i-k/\k<=i/\(∀ y,y∈a.take k->(y.aG==xn)=false) ∧
   st=⟨[],[(1,.ptr 0 0),(3,.d (.int .i64 i)),(4,.ptr 1 0),(5,.d (.int .i64 k))],[(0,.box [.d (.slc 3 (fP a))]),(1,.box [.d (.str xn),.d (.int .i64 xa),.d (.int .i64 xt)])],2⟩) _ ⟨0,rfl,by omega,fun y h=>by simp at h,?_⟩ ?_
  ·exact qW
  rintro n st ⟨k,rfl,hk,hn,rfl⟩
  by_cases hkl:k<i
  ·have hak:=List.getElem?_eq_getElem (show k<a.length by omega)
   generalize a[k]'_=y at hak
   obtain ⟨yn,ya,yt⟩:=y
   cases hyn:(yn==xn) with
   |true=>
    rw [hbad (by
     have:(a.take i).any (fun t=>t.aG==xn)=true:=by
      rw [List.any_eq_true]
      exact ⟨_,List.mem_of_getElem? (by rw [List.getElem?_take_of_lt hkl];exact hak),hyn⟩
     rw [this];rfl)]
    exact jI (Y3 hak hkl hyn)
   |false=>
    have hn2:=lI (p:=fun y:gW=>y.aG==xn) hak hn hyn
    refine iK (Y3 hak hkl hyn) ?_
    refine ⟨i-(k+1),by omega,k+1,rfl,hkl,hn2,?_⟩
    refine kT ?_
    exact aA (by omega) (by omega)
  ·have hke:k=i:=by omega
   subst hke
   have:(a.take k).any (fun t=>t.aG==xn)=false:=by
    rw [List.any_eq_false];intro y hy;rw [hn y hy];simp
   rw [this] at hst
   refine iK hkl ?_
   refine ⟨a.length-(k+1),by omega,k+1,rfl,hlt,hst,?_⟩
   refine kT ?_
   exact aA (by omega) (by omega)
 ·have hie:i=a.length:=by omega
  subst hie
  rw [List.take_length] at hok
  rw [hok] at hB
  rw [hB]
  exact oI
theorem oE {α:Type} {q:List α->α->Bool} {l:List α} {i:Nat} {x:α} (h:okP q [] l=true) (hi:l[i]?=some x):q (l.take i) x=true:=by
 cases hq:q (l.take i) x with
 |true=>rfl
 |false=>rw [tG hi hq] at h;cases h
theorem aJl {α:Type} {key:α->Int} {l:List α} (h:∀ (i:Nat) x y,l[i]?=some y->l[i+1]?=some x->key y<key x):l.Pairwise (fun y x=>key y<key x):=by
 rw [List.pairwise_iff_getElem]
 intro i j hi hj hij
 obtain ⟨d,rfl⟩:∃ d,j=i+1+d:=⟨j-i-1,by omega⟩
 induction d with
 |zero=>exact h i _ _ (List.getElem?_eq_getElem hi) (List.getElem?_eq_getElem hj)
 |succ d ih=>
  have h1:=ih (by omega) (by omega)
  have h2:=h (i+1+d) _ _ (List.getElem?_eq_getElem (show i+1+d<l.length by omega)) (List.getElem?_eq_getElem hj)
  exact Int.lt_trans h1 h2
theorem aAC {α:Type} {q:List α->α->Bool} {key:α->Int} (hq:∀ pre x,q pre x=true->oR (fun p x=>decide (key p<key x)) pre x=true) {l:List α} (h:okP q [] l=true):l.Pairwise (fun y x=>key y<key x):=by
 refine aJl fun i x y hy hx=>?_
 have h1:=hq _ _ (oE h hx)
 rw [qF _ hy] at h1
 exact of_decide_eq_true h1
theorem aOP {α:Type} {key:α->Int} {l:List α} (h:l.Pairwise (fun y x=>key y<key x)) {k:Nat} {t:α} (hk:l.length=k+1) (ht:l[k]?=some t) (n:Int):l.all (fun x=>decide (key x<n))=decide (key t<n):=by
 rw [List.pairwise_iff_getElem] at h
 obtain ⟨h1,rfl⟩:=List.getElem?_eq_some_iff.1 ht
 by_cases hn:key l[k]<n
 ·rw [decide_eq_true hn,List.all_eq_true]
  intro x hx
  obtain ⟨i,hi,rfl⟩:=List.mem_iff_getElem.1 hx
  by_cases hik:i=k
  ·subst hik;exact decide_eq_true hn
  ·have:=h i k hi h1 (by omega)
   exact decide_eq_true (by omega)
 ·rw [decide_eq_false hn,List.all_eq_false]
  exact ⟨_,List.getElem_mem h1,by simpa using hn⟩
def nY (f:bK) (n:Int):Bool:=f.aF.all fun t=>decide (t.bU<n)
def aDX (b:dX) (n:Int):Bool:=b.aL.all fun t=>decide (t.bU<n)
def fS (b:dX) (id:Int):Bool:=b.aL.any fun l=>decide (l.bU=id)
def aBs (b:dX) (pre:List cK) (o:cK):Bool:=oR (fun p x=>decide (p.dS<x.dS)) pre o && fS b o.dS && eG o.aG && !(pre.any fun p=>p.aG==o.aG)
def eO (w:aP):Bool:=inB w.cN 0 1000000000 && inB w.bG 1 1000000000 && inB w.eQ 0 1000000000 && bR w.aD && eV w.aV && nT w.bL && gS w.bJ && nY w.aD w.bG && aDX w.aV w.bG && okP (aBs w.aV) [] w.bD
def aDO (w:aP):Prop:=tP w.aD/\aDP w.aV/\pZ w.bL/\aEC w.bJ/\w.bD.length<=1048576/\∀ o,o∈w.bD->o.aG.length<=1048576
theorem aDK {f:bK} (h:bR f=true):f.aF.Pairwise (fun y x=>y.bU<x.bU):=by
 unfold bR at h
 rw [Bool.and_eq_true] at h
 refine aAC (key:=aO.bU) (fun pre x hq=>?_) h.2
 unfold aBi at hq
 simp only [Bool.and_eq_true] at hq
 exact hq.1.2
theorem aPh {f:dX} (h:eV f=true):f.aL.Pairwise (fun y x=>y.bU<x.bU):=by
 unfold eV at h
 rw [Bool.and_eq_true] at h
 refine aAC (key:=aQ.bU) (fun pre x hq=>?_) h.2
 unfold rF at hq
 rw [Bool.and_eq_true] at hq
 exact hq.2
theorem aLq {b:dX} {l:List cK} (h:okP (aBs b) [] l=true):l.Pairwise (fun y x=>y.dS<x.dS):=by
 refine aAC (key:=cK.dS) (fun pre x hq=>?_) h
 unfold aBs at hq
 simp only [Bool.and_eq_true] at hq
 exact hq.1.1.1
theorem aTN {f:bK} (h:bR f=true) (n:Int):(f.aF=[]/\nY f n=true)\/∃ k t,f.aF.length=k+1/\f.aF[k]?=some t/\nY f n=decide (t.bU<n):=by
 by_cases h0:f.aF=[]
 ·exact .inl ⟨h0,by unfold nY;rw [h0];rfl⟩
 ·have hl:=List.length_pos_iff.2 h0
  refine .inr ⟨f.aF.length-1,f.aF[f.aF.length-1],by omega,List.getElem?_eq_getElem (by omega),?_⟩
  exact aOP (key:=aO.bU) (aDK h) (by omega) (List.getElem?_eq_getElem (by omega)) n
theorem aLJ {α β:Type} {ka:α->Int} {kb:β->Int}:∀ (b:List β) (a:List α),a.Pairwise (fun y x=>ka y<ka x)->b.Pairwise (fun y x=>kb y<kb x)->(∀ x,x∈a->∃ y,y∈b/\kb y=ka x)->a.length<=b.length:=by
 intro b
 induction b with
 |nil=>
  intro a _ _ h
  cases a with
  |nil=>simp
  |cons x a=>obtain ⟨y,hy,_⟩:=h x (by simp);simp at hy
 |cons y b ih=>
  intro a ha hb h
  cases a with
  |nil=>simp
  |cons x a=>
   rw [List.pairwise_cons] at ha hb
   by_cases hxy:kb y=ka x
   ·have:=ih a ha.2 hb.2 fun z hz=>by
     obtain ⟨u,hu,e⟩:=h z (by simp [hz])
     have:=ha.1 z hz
     rcases List.mem_cons.1 hu with rfl|hu
     ·omega
     ·exact ⟨u,hu,e⟩
    simp only [List.length_cons];omega
   ·have hgt:∃ u,u∈b/\kb u=ka x:=by
     obtain ⟨u,hu,e⟩:=h x (by simp)
     rcases List.mem_cons.1 hu with rfl|hu
     ·exact absurd e hxy
     ·exact ⟨u,hu,e⟩
    obtain ⟨u,hu,e⟩:=hgt
    have hyx:=hb.1 u hu
    have:=ih (x::a) (List.pairwise_cons.2 ha) hb.2 fun z hz=>by
     obtain ⟨u',hu',e'⟩:=h z hz
     rcases List.mem_cons.1 hu' with rfl|hu'
     ·rcases List.mem_cons.1 hz with rfl|hz
      ·exact absurd e' hxy
      ·have:=ha.1 z hz;omega
     ·exact ⟨u',hu',e'⟩
    simp only [List.length_cons] at this ⊢;omega
theorem aFe {b:dX} {l:List cK} (hb:eV b=true) (h:okP (aBs b) [] l=true):l.length<=b.aL.length:=by
 refine aLJ (ka:=cK.dS) (kb:=aQ.bU) _ _ (aLq h) (aPh hb) fun x hx=>?_
 obtain ⟨i,hi⟩:=List.getElem?_of_mem hx
 have:=oE h hi
 unfold aBs fS at this
 simp only [Bool.and_eq_true,List.any_eq_true,decide_eq_true_eq] at this
 exact this.1.1.2
theorem aNj {α:Type} {lt:α->α->Bool} {a:List α} {i:Nat} {x:α} (hi:i<=a.length):(i=0/\oR lt (a.take i) x=true)\/∃ j p,i=j+1/\a[j]?=some p/\oR lt (a.take i) x=lt p x:=by
 cases i with
 |zero=>exact .inl ⟨rfl,qE _ _ _⟩
 |succ j=>
  have hp:=List.getElem?_eq_getElem (show j<a.length by omega)
  exact .inr ⟨j,_,rfl,hp,qF _ hp _⟩
def aBf:aQ:=⟨0,0,[],0,0,0⟩
def aJt (b:dX) (id:Int):aQ:=if eV b then (b.aL.find? fun l=>decide (l.bU=id)).getD aBf else aBf
theorem aAN {α:Type} {p:α->Bool} {a:List α} {i:Nat} {x:α} (ha:a[i]?=some x) (hn:∀ x,x∈a.take i->p x=false) (hx:p x=true):a.find? p=some x/\a.any p=true:=by
 constructor
 ·rw [List.find?_eq_some_iff_getElem]
  obtain ⟨h,e⟩:=List.getElem?_eq_some_iff.1 ha
  refine ⟨hx,i,h,e,fun j hj=>?_⟩
  have:=hn a[j] (List.mem_take_iff_getElem.2 ⟨j,by omega,rfl⟩);simp [this]
 ·rw [List.any_eq_true];exact ⟨x,List.mem_of_getElem? ha,hx⟩
theorem vZ {α:Type} {p:α->Bool} {a:List α} (hn:∀ x,x∈a->p x=false):a.find? p=none/\a.any p=false:=by
 constructor
 ·rw [List.find?_eq_none];intro x hx;simp [hn x hx]
 ·rw [List.any_eq_false];intro x hx;simp [hn x hx]
theorem aC2 (b:dX) (id:Int) (hf:aDP b):aE PP GG 154 [.agg b.c,.d (.int .i64 id)] (.tup [.agg (aJt b id).o,.d (.bool (eV b && fS b id))]) [none,none]:=by
 refine cv Tryz.func154 [.agg (aJt b id).o,.d (.bool (eV b && fS b id))] ?_
 obtain ⟨a⟩:=b
 have cb:=mE ⟨a⟩ hf
 have hl:=hf.1
 dsimp only at hl cb
 have hF:aJt ⟨a⟩ id=if eV ⟨a⟩ then (a.find? fun l=>decide (l.bU=id)).getD aBf else aBf:=rfl
 have hH:fS ⟨a⟩ id=a.any fun l=>decide (l.bU=id):=rfl
 generalize aJt ⟨a⟩ id=F at *
 generalize fS ⟨a⟩ id=H at *
 cases hb:eV ⟨a⟩ with
 |false=>
  rw [hb] at cb hF
  simp only [Bool.false_eq_true,if_false] at hF
  subst hF
  exact eJ @aBf.eq_1 (Z1 cb)
 |true=>
  rw [hb] at cb hF
  simp only [if_true] at hF
  refine aJ1 (Z1 cb) ?_
  refine bQ (fun n st=>∃ i:Nat,n=a.length-i/\i<=a.length/\(∀ x,x∈a.take i->(decide (x.bU=id))=false) ∧
   st=⟨[],[(1,.d (.int .i64 id)),(2,.ptr 0 0),(4,.ptr 1 0),(6,.d (.int .i64 i))],[(0,.box [.d (.slc 6 (bC a))]),(1,.box [.d (.int .i64 0),.d (.int .i64 0),.d (.str []),.d (.int .i64 0),.d (.int .i64 0),.d (.int .i64 0)])],2⟩) _ ⟨0,rfl,by omega,fun x hx=>by simp at hx,?_⟩ ?_
  ·exact qW
  rintro n st ⟨i,rfl,hi,hn,rfl⟩
  by_cases hlt:i<a.length
  ·have ha:=List.getElem?_eq_getElem hlt
   generalize a[i]=x at ha
   by_cases hx:x.bU=id
   ·obtain ⟨e1,e2⟩:=aAN ha hn (decide_eq_true hx)
    rw [e1] at hF
    rw [e2] at hH
    simp only [Option.getD_some] at hF
    have hxb:(x.bU==id)=true:=decide_eq_true hx
    subst hF hH
    exact jI (Y2 ha hxb)
   ·have hn2:=lI (p:=fun x:aQ=>decide (x.bU=id)) ha hn (decide_eq_false hx)
    have hxb:(x.bU==id)=false:=decide_eq_false hx
    refine iK (Y2 ha hxb) ?_
    refine ⟨a.length-(i+1),by omega,i+1,rfl,hlt,hn2,?_⟩
    refine kT ?_
    exact aA (by omega) (by omega)
  ·have hie:i=a.length:=by omega
   subst hie
   rw [List.take_length] at hn
   obtain ⟨e1,e2⟩:=vZ hn
   rw [e1] at hF
   rw [e2] at hH
   simp only [Option.getD_none] at hF
   subst hF hH
   exact jI @aBf.eq_1
theorem sW (w:aP) (hf:aDO w):aE PP GG 126 [.agg w.c] (.d (.bool (eO w))) [none]:=by
 refine cv Tryz.func126 [.d (.bool (eO w))] ?_
 obtain ⟨now,next,lost,⟨tk⟩,⟨ls⟩,⟨us,ff,fm⟩,⟨js⟩,ow⟩:=w
 obtain ⟨hf1,hf2,hf3,hf4,hol,hon⟩:=hf
 dsimp only at hf1 hf2 hf3 hf4 hol hon
 have c1:aE PP GG 12 [.d (.int .i64 now),.d (.int .i64 0),.d (.int .i64 1000000000)] (.d (.bool (inB now 0 1000000000))) [none,none,none]:=bA _ _ _
 have c2:aE PP GG 12 [.d (.int .i64 next),.d (.int .i64 1),.d (.int .i64 1000000000)] (.d (.bool (inB next 1 1000000000))) [none,none,none]:=bA _ _ _
 have c3:aE PP GG 12 [.d (.int .i64 lost),.d (.int .i64 0),.d (.int .i64 1000000000)] (.d (.bool (inB lost 0 1000000000))) [none,none,none]:=bA _ _ _
 have c4:=jB ⟨tk⟩ hf1
 have c5:=mE ⟨ls⟩ hf2
 have c6:=sY ⟨us,ff,fm⟩ hf3
 have c7:=pH ⟨js⟩ hf4
 have hfl:=fun id=>aC2 ⟨ls⟩ id hf2
 have hOL:=fun h h'=>aFe (b:=⟨ls⟩) (l:=ow) h h'
 have hB:eO ⟨now,next,lost,⟨tk⟩,⟨ls⟩,⟨us,ff,fm⟩,⟨js⟩,ow⟩=(inB now 0 1000000000 && inB next 1 1000000000 && inB lost 0 1000000000 && bR ⟨tk⟩ && eV ⟨ls⟩ && nT ⟨us,ff,fm⟩ && gS ⟨js⟩ && nY ⟨tk⟩ next && aDX ⟨ls⟩ next && okP (aBs ⟨ls⟩) [] ow):=rfl
 have hBT:nY ⟨tk⟩ next=tk.all fun t=>decide (t.bU<next):=rfl
 have hBL:aDX ⟨ls⟩ next=ls.all fun t=>decide (t.bU<next):=rfl
 have htl:=hf1.1
 have hll:=hf2.1
 generalize eO ⟨now,next,lost,⟨tk⟩,⟨ls⟩,⟨us,ff,fm⟩,⟨js⟩,ow⟩=B at *
 dsimp only at c4 c5 c6 c7 htl hll hOL
 generalize inB now 0 1000000000=p1 at *
 generalize inB next 1 1000000000=p2 at *
 generalize inB lost 0 1000000000=p3 at *
 generalize bR ⟨tk⟩=p4 at *
 generalize eV ⟨ls⟩=p5 at *
 generalize nT ⟨us,ff,fm⟩=p6 at *
 generalize gS ⟨js⟩=p7 at *
 generalize nY ⟨tk⟩ next=BT at *
 generalize aDX ⟨ls⟩ next=BL at *
 refine u_1 ?_
 refine aK (aK ?_)
 refine aRK (Z7 c1 c2 c3 c4 c5 c6 c7) 48 (!(p1 && p2 && p3 && p4 && p5 && p6 && p7)) ?_
 refine aR rfl (fun h=>?_) (fun h=>?_)
 ·rw [Bool.not_eq_true'] at h
  have hb:B=false:=by rw [hB,h];simp
  rw [hb]
  exact oI
 rw [Bool.not_eq_false'] at h
 rw [h,Bool.true_and] at hB
 simp only [Bool.and_eq_true] at h
 have hp5:=h.1.1.2
 subst hp5
 simp only [Bool.true_and] at hfl
 have hOL:=hOL rfl
 clear h
 refine aU ?_
 refine lQ ?_
 refine bQ (fun n st=>∃ i:Nat,n=tk.length-i/\i<=tk.length/\(∀ x,x∈tk.take i->(!decide (x.bU<next))=false) ∧
  st=⟨[],[(1,.ptr 0 0),(3,.d (.int .i64 i))],[(0,.box [.d (.int .i64 now),.d (.int .i64 next),.d (.int .i64 lost),.d (.slc 7 (bS tk)),.d (.slc 6 (bC ls)),.d (.slc 2 (cY us)),.d (.int .i64 ff),.d (.int .i64 fm),.d (.slc 3 (fP js)),.d (.slc 2 (dK ow))])],1⟩) _ ⟨0,rfl,by omega,fun x hx=>by simp at hx,?_⟩ ?_
 ·exact qW
 rintro n st ⟨i,rfl,hi,hn,rfl⟩
 by_cases hlt:i<tk.length
 ·have ha:=List.getElem?_eq_getElem hlt
  generalize tk[i]=x at ha
  by_cases hx:next<=x.bU
  ·have hb:BT=false:=by
    rw [hBT,List.all_eq_false]
    exact ⟨x,List.mem_of_getElem? ha,by simp;omega⟩
   rw [hB,hb]
   exact jI (Y2 ha hx)
  ·have hn2:=lI (p:=fun x:aO=>!decide (x.bU<next)) ha hn (by simp;omega)
   refine iK (Y2 ha hx) ?_
   refine ⟨tk.length-(i+1),by omega,i+1,rfl,hlt,hn2,?_⟩
   refine kT ?_
   exact aA (by omega) (by omega)
 have hie:i=tk.length:=by omega
 subst hie
 rw [List.take_length] at hn
 have hb:BT=true:=by
  rw [hBT,List.all_eq_true];intro x hx;simpa using hn x hx
 subst hb
 clear hn hi hlt
 rw [Bool.true_and] at hB
 refine lQ ?_
 refine bQ (fun n st=>∃ i:Nat,n=ls.length-i/\i<=ls.length/\(∀ x,x∈ls.take i->(!decide (x.bU<next))=false) ∧
  st=⟨[],[(1,.ptr 0 0),(4,.d (.int .i64 i))],[(0,.box [.d (.int .i64 now),.d (.int .i64 next),.d (.int .i64 lost),.d (.slc 7 (bS tk)),.d (.slc 6 (bC ls)),.d (.slc 2 (cY us)),.d (.int .i64 ff),.d (.int .i64 fm),.d (.slc 3 (fP js)),.d (.slc 2 (dK ow))])],1⟩) _ ⟨0,rfl,by omega,fun x hx=>by simp at hx,?_⟩ ?_
 ·exact qW
 rintro n st ⟨i,rfl,hi,hn,rfl⟩
 by_cases hlt:i<ls.length
 ·have ha:=List.getElem?_eq_getElem hlt
  generalize ls[i]=x at ha
  by_cases hx:next<=x.bU
  ·have hb:BL=false:=by
    rw [hBL,List.all_eq_false]
    exact ⟨x,List.mem_of_getElem? ha,by simp;omega⟩
   rw [hB,hb]
   exact jI (Y2 ha hx)
  ·have hn2:=lI (p:=fun x:aQ=>!decide (x.bU<next)) ha hn (by simp;omega)
   refine iK (Y2 ha hx) ?_
   refine ⟨ls.length-(i+1),by omega,i+1,rfl,hlt,hn2,?_⟩
   refine kT ?_
   exact aA (by omega) (by omega)
 have hie:i=ls.length:=by omega
 subst hie
 rw [List.take_length] at hn
 have hb:BL=true:=by
  rw [hBL,List.all_eq_true];intro x hx;simpa using hn x hx
 subst hb
 clear hn hi hlt
 rw [Bool.true_and] at hB
 by_cases hol2:ls.length<ow.length
 ·have hb:B=false:=by
   rw [hB]
   cases h:okP (aBs ⟨ls⟩) [] ow with
   |false=>rfl
   |true=>have:=hOL h;omega
  rw [hb]
  exact jI hol2
 clear hOL
 refine iK hol2 ?_
 refine bQ (fun n st=>∃ i:Nat,n=ow.length-i/\i<=ow.length/\okP (aBs ⟨ls⟩) [] (ow.take i)=true ∧
  st=⟨[],[(1,.ptr 0 0),(5,.d (.int .i64 i))],[(0,.box [.d (.int .i64 now),.d (.int .i64 next),.d (.int .i64 lost),.d (.slc 7 (bS tk)),.d (.slc 6 (bC ls)),.d (.slc 2 (cY us)),.d (.int .i64 ff),.d (.int .i64 fm),.d (.slc 3 (fP js)),.d (.slc 2 (dK ow))])],1⟩) _ ⟨0,rfl,by omega,rfl,?_⟩ ?_
 ·exact qW
 rintro n st ⟨i,rfl,hi,hok,rfl⟩
 by_cases hlt:i<ow.length
 rotate_left
 ·have hie:i=ow.length:=by omega
  subst hie
  rw [List.take_length] at hok
  rw [hok] at hB
  rw [hB]
  exact oI
 have ha:=List.getElem?_eq_getElem hlt
 generalize ow[i]=x at ha
 have hst:=pT (q:=aBs ⟨ls⟩) ha
 have hbad:aBs ⟨ls⟩ (ow.take i) x=false->B=false:=fun h=>by rw [hB];exact tG ha h
 rw [hok,Bool.true_and] at hst
 have hq:aBs ⟨ls⟩ (ow.take i) x=(oR (fun p x=>decide (p.dS<x.dS)) (ow.take i) x && fS ⟨ls⟩ x.dS && eG x.aG && !((ow.take i).any fun p=>p.aG==x.aG)):=rfl
 rw [hq] at hst hbad
 clear hq
 have hA:=aNj (lt:=fun p x:cK=>decide (p.dS<x.dS)) (x:=x) hi
 have cn:=jZ x.aG (by have:=hon x (List.mem_of_getElem? ha);omega)
 have cl:=hfl x.dS
 generalize oR (fun p x:cK=>decide (p.dS<x.dS)) (ow.take i) x=A at *
 obtain ⟨xl,xn⟩:=x
 dsimp only at cn cl hst hbad hA
 generalize fS ⟨ls⟩ xl=L at *
 generalize eG xn=N at *
 generalize aJt ⟨ls⟩ xl=FL at *
 refine aK (aK ?_)
 refine u_5 ?_
 refine aR rfl (fun h=>aU ?_) (fun h=>?_)
 rotate_left
 ·exfalso;simp at h;omega
 refine aK (bE (aK ?_))
 refine aL7 ha (Z1 cl) ?_
 refine aK (aK ?_)
 refine aA8 143 (!(A && L && N)) (fun K hK=>?_) ?_
 ·rcases hA with ⟨rfl,hA⟩|⟨j,p,rfl,hp,hA⟩
  ·subst hA
   simp [ha]
   repeat' (first|exact hK _ _ (by clear hK;first|rfl|omega|(exact decide_eq_false (by omega))|(exact decide_eq_true (by omega))|(exact (decide_eq_true (by omega)).symm)|(exact (decide_eq_false (by omega)).symm)|(exact decide_eq_decide.2 (by omega))|(simp only [<-decide_not];exact decide_eq_decide.2 (by omega))|(simp [*];done)|(simp [*];omega)|(simp_all;done)|(simp_all;omega)|(rw [Bool.eq_iff_iff];simp at *;omega))|(with_reducible refine aI (cn) ?_;simp [ha])|(with_reducible refine aM (fun _=>?_) (fun _=>?_)<;>simp [ha])|with_reducible refine And.intro ?_ ?_|with_reducible exact aS rfl|with_reducible assumption|omega)
  ·have hw1:IntKind.i64.wrap (j:Int)=j:=aA (by omega) (by omega)
   rw [hA] at hK
   cases L
   ·simp [hp,ha,hw1]
    repeat' (first|exact hK _ _ (by clear hK;first|rfl|omega|(exact decide_eq_false (by omega))|(exact decide_eq_true (by omega))|(exact (decide_eq_true (by omega)).symm)|(exact (decide_eq_false (by omega)).symm)|(exact decide_eq_decide.2 (by omega))|(simp only [<-decide_not];exact decide_eq_decide.2 (by omega))|(simp [*];done)|(simp [*];omega)|(simp_all;done)|(simp_all;omega)|(rw [Bool.eq_iff_iff];simp at *;omega))|(with_reducible refine aI (cn) ?_;simp [hp,ha,hw1])|(with_reducible refine aM (fun _=>?_) (fun _=>?_)<;>simp [hp,ha,hw1])|with_reducible refine And.intro ?_ ?_|with_reducible exact aS rfl|with_reducible assumption|omega)
   ·cases N
    ·simp [hp,ha,hw1]
     repeat' (first|exact hK _ _ (by clear hK;first|rfl|omega|(exact decide_eq_false (by omega))|(exact decide_eq_true (by omega))|(exact (decide_eq_true (by omega)).symm)|(exact (decide_eq_false (by omega)).symm)|(exact decide_eq_decide.2 (by omega))|(simp only [<-decide_not];exact decide_eq_decide.2 (by omega))|(simp [*];done)|(simp [*];omega)|(simp_all;done)|(simp_all;omega)|(rw [Bool.eq_iff_iff];simp at *;omega))|(with_reducible refine aI (cn) ?_;simp [hp,ha,hw1])|(with_reducible refine aM (fun _=>?_) (fun _=>?_)<;>simp [hp,ha,hw1])|with_reducible refine And.intro ?_ ?_|with_reducible exact aS rfl|with_reducible assumption|omega)
    ·simp only [Bool.and_true] at hK
     simp [hp,ha,hw1]
     repeat' (first|exact hK _ _ (by clear hK;first|rfl|omega|(exact decide_eq_false (by omega))|(exact decide_eq_true (by omega))|(exact (decide_eq_true (by omega)).symm)|(exact (decide_eq_false (by omega)).symm)|(exact decide_eq_decide.2 (by omega))|(simp only [<-decide_not];exact decide_eq_decide.2 (by omega))|(simp [*];done)|(simp [*];omega)|(simp_all;done)|(simp_all;omega)|(rw [Bool.eq_iff_iff];simp at *;omega))|(with_reducible refine aI (cn) ?_;simp [hp,ha,hw1])|(with_reducible refine aM (fun _=>?_) (fun _=>?_)<;>simp [hp,ha,hw1])|with_reducible refine And.intro ?_ ?_|with_reducible exact aS rfl|with_reducible assumption|omega)
 refine aR rfl (fun h=>?_) (fun h=>?_)
 ·rw [Bool.not_eq_true'] at h
  rw [h] at hbad
  rw [hbad rfl]
  exact oI
 rw [Bool.not_eq_false'] at h
 rw [h,Bool.true_and] at hst hbad
 clear h hA
 refine aU ?_
 refine lQ ?_
 refine bQ (fun n st=>∃ k:Nat,n=i-k/\k<=i/\(∀ y,y∈ow.take k->(y.aG==xn)=false) ∧
  st=⟨[],[(1,.ptr 0 0),(5,.d (.int .i64 i)),(8,.d (.int .i64 k))],[(0,.box [.d (.int .i64 now),.d (.int .i64 next),.d (.int .i64 lost),.d (.slc 7 (bS tk)),.d (.slc 6 (bC ls)),.d (.slc 2 (cY us)),.d (.int .i64 ff),.d (.int .i64 fm),.d (.slc 3 (fP js)),.d (.slc 2 (dK ow))])],1⟩) _ ⟨0,rfl,by omega,fun y h=>by simp at h,?_⟩ ?_
 ·exact qW
 rintro n st ⟨k,rfl,hk,hn,rfl⟩
 by_cases hkl:k<i
 ·have hak:=List.getElem?_eq_getElem (show k<ow.length by omega)
  generalize ow[k]'_=y at hak
  obtain ⟨yl,yn⟩:=y
  cases hyn:(yn==xn) with
  |true=>
   rw [hbad (by
    have:(ow.take i).any (fun t=>t.aG==xn)=true:=by
     rw [List.any_eq_true]
     exact ⟨_,List.mem_of_getElem? (by rw [List.getElem?_take_of_lt hkl];exact hak),hyn⟩
    rw [this];rfl)]
   exact jI (Y4 hak ha hkl hyn)
  |false=>
   have hn2:=lI (p:=fun y:cK=>y.aG==xn) hak hn hyn
   refine iK (Y4 hak ha hkl hyn) ?_
   refine ⟨i-(k+1),by omega,k+1,rfl,hkl,hn2,?_⟩
   refine kT ?_
   exact aA (by omega) (by omega)
 ·have hke:k=i:=by omega
  subst hke
  have:(ow.take k).any (fun t=>t.aG==xn)=false:=by
   rw [List.any_eq_false];intro y hy;rw [hn y hy];simp
  rw [this] at hst
  refine iK hkl ?_
  refine ⟨ow.length-(k+1),by omega,k+1,rfl,hlt,hst,?_⟩
  refine kT ?_
  exact aA (by omega) (by omega)
theorem kU {α:Type} {P:List α->Prop} (h0:P []) (h1:∀ l x,P l->P (l++[x])):∀ l,P l:=by
 intro l
 rw [<-List.reverse_reverse l]
 induction l.reverse with
 |nil=>exact h0
 |cons x r ih=>rw [List.reverse_cons];exact h1 _ _ ih
def aAf (p:aO->Bool) (s:List aO×List Int) (t:aO):List aO×List Int:=
 if (p t || s.2.contains t.bV)=true then (s.1,s.2++[t.bU]) else (s.1++[t],s.2)
def wo (p:aO->Bool) (l:List aO):List aO×List Int:=l.foldl (aAf p) ([],[])
theorem vN (p:aO->Bool) (l:List aO) (t:aO):wo p (l++[t])=aAf p (wo p l) t:=by
 unfold wo;rw [List.foldl_append];rfl
theorem aPC {p:aO->Bool} {l:List aO} {i:Nat} {t:aO} (h:l[i]?=some t):wo p (l.take (i+1))=aAf p (wo p (l.take i)) t:=by
 rw [List.take_add_one,h];exact vN p _ t
theorem aFK (p:aO->Bool) (l:List aO):(wo p l).1.length+(wo p l).2.length=l.length:=by
 induction l using kU with
 |h0=>rfl
 |h1 l t ih=>
  rw [vN];unfold aAf
  split<;>simp<;>omega
structure aT6 (p:aO->Bool) (l:List aO) (r:List aO) (G:List Int):Prop where
 sub:∀ x,x∈G->∃ t,t∈l/\t.bU=x
 rec_:∀ t,t∈l->G.contains t.bU=(p t || G.contains t.bV)
 rest:r=l.filter fun t=>!G.contains t.bU
 ids:G=(l.filter fun t=>G.contains t.bU).map aO.bU
theorem aAQ (G:List Int) (y x:Int):(G++[y]).contains x=(G.contains x || decide (x=y)):=by
 rw [Bool.eq_iff_iff];simp [List.contains_iff_mem]
theorem aTk (p:aO->Bool) (l:List aO):l.Pairwise (fun y x=>y.bU<x.bU)->(∀ t,t∈l->t.bV<t.bU)->aT6 p l (wo p l).1 (wo p l).2:=by
 induction l using kU with
 |h0=>intro _ _;exact ⟨fun x h=>by simp [wo] at h,fun t h=>by simp at h,rfl,rfl⟩
 |h1 l t ih=>
  intro hinc hpar
  rw [List.pairwise_append] at hinc
  obtain ⟨hi1,_,hi2⟩:=hinc
  have hlt:∀ s,s∈l->s.bU<t.bU:=fun s hs=>hi2 s hs t (by simp)
  obtain ⟨sub,hrec,rest,ids⟩:=ih hi1 fun s hs=>hpar s (by simp [hs])
  have htp:=hpar t (by simp)
  rw [vN]
  generalize wo p l=s at sub hrec rest ids ⊢
  obtain ⟨r,G⟩:=s
  dsimp only at sub hrec rest ids ⊢
  have hGt:∀ y,y∈G->y<t.bU:=fun y hy=>by obtain ⟨s,hs,rfl⟩:=sub y hy;exact hlt s hs
  have hct:G.contains t.bU=false:=by
   cases h:G.contains t.bU with
   |false=>rfl
   |true=>have:=hGt _ (List.contains_iff_mem.1 h);omega
  unfold aAf
  by_cases hd:(p t || G.contains t.bV)=true
  ·rw [if_pos hd]
   have hc:∀ x,x<t.bU->(G++[t.bU]).contains x=G.contains x:=fun x hx=>by
    rw [aAQ,decide_eq_false (by omega),Bool.or_false]
   have hc2:(G++[t.bU]).contains t.bU=true:=by rw [aAQ,decide_eq_true rfl,Bool.or_true]
   refine ⟨fun x hx=>?_,fun s hs=>?_,?_,?_⟩
   ·rcases List.mem_append.1 hx with h|h
    ·obtain ⟨s,hs,e⟩:=sub x h;exact ⟨s,by simp [hs],e⟩
    ·simp at h;exact ⟨t,by simp,h.symm⟩
   ·rcases List.mem_append.1 hs with h|h
    ·have h1:=hlt s h
     have h2:=hpar s hs
     rw [hc _ h1,hc _ (by omega)]
     exact hrec s h
    ·simp at h;subst h
     rw [hc2,hc _ htp,hd]
   ·simp only
    rw [List.filter_append,List.filter_congr (q:=fun s=>!G.contains s.bU) fun s hs=>by rw [hc _ (hlt s hs)],<-rest]
    simp [hc2]
   ·simp only
    rw [List.filter_append,List.filter_congr (q:=fun s=>G.contains s.bU) fun s hs=>by rw [hc _ (hlt s hs)],List.map_append,<-ids]
    simp
  ·rw [if_neg hd]
   simp only [Bool.not_eq_true] at hd
   refine ⟨fun x hx=>?_,fun s hs=>?_,?_,?_⟩
   ·obtain ⟨s,hs,e⟩:=sub x hx;exact ⟨s,by simp [hs],e⟩
   ·rcases List.mem_append.1 hs with h|h
    ·exact hrec s h
    ·simp at h;subst h;rw [hct,hd]
   ·simp only
    rw [List.filter_append,<-rest]
    simp only [List.filter_cons,List.filter_nil,hct];simp
   ·simp only
    rw [List.filter_append,List.map_append,<-ids]
    simp only [List.filter_cons,List.filter_nil,hct];simp
theorem aLf (p:aO->Bool) (l:List aO):(∀ t,t∈l->p t=false)->wo p l=(l,[]):=by
 induction l using kU with
 |h0=>intro _;rfl
 |h1 l t ih=>
  intro h
  rw [vN,ih fun s hs=>h s (by simp [hs])]
  unfold aAf
  rw [h t (by simp)]
  simp
theorem tO {f:bK} (h:bR f=true):(∀ t,t∈f.aF->t.bV<t.bU)/\(∀ t,t∈f.aF->0<=t.bV/\1<=t.bU/\t.bU<=1000000000)/\(∀ t,t∈f.aF->t.bV=0\/cJ f t.bV=true):=by
 unfold bR at h
 rw [Bool.and_eq_true] at h
 have key:∀ t,t∈f.aF->t.bV<t.bU/\0<=t.bV/\1<=t.bU/\t.bU<=1000000000/\(t.bV=0\/cJ f t.bV=true):=by
  intro t ht
  obtain ⟨i,hi⟩:=List.getElem?_of_mem ht
  have hq:=oE h.2 hi
  unfold aBi fL at hq
  simp only [Bool.and_eq_true,Bool.or_eq_true,decide_eq_true_eq] at hq
  have h1:=cC hq.1.1.1.1.1.1.1.1
  have h2:=cC hq.1.1.1.1.1.1.1.2
  exact ⟨by omega,by omega,by omega,by omega,hq.2⟩
 exact ⟨fun t ht=>(key t ht).1,fun t ht=>⟨(key t ht).2.1,(key t ht).2.2.1,(key t ht).2.2.2.1⟩,fun t ht=>(key t ht).2.2.2.2⟩
theorem sF {f:bK} (h:bR f=true) (p:aO->Bool):aT6 p f.aF (wo p f.aF).1 (wo p f.aF).2:=aTk p _ (aDK h) (tO h).1
theorem aM2 {α:Type} {p:α->Bool} {l:List α} (h:l.any p=true):∃ (k:Nat) (t:α),mA p l=k/\l[k]?=some t/\p t=true:=by
 unfold mA
 cases hf:l.findIdx? p with
 |none=>
  rw [List.findIdx?_eq_none_iff] at hf
  rw [List.any_eq_true] at h
  obtain ⟨x,hx,hp⟩:=h
  rw [hf x hx] at hp;cases hp
 |some i=>
  rw [List.findIdx?_eq_some_iff_getElem] at hf
  obtain ⟨h1,h2,_⟩:=hf
  exact ⟨i,_,rfl,List.getElem?_eq_getElem h1,h2⟩
theorem aPB {f:bK} (h:bR f=true) (p:aO->Bool):(wo p f.aF).2.contains 0=false:=by
 cases hc:(wo p f.aF).2.contains 0 with
 |false=>rfl
 |true=>
  obtain ⟨t,ht,e⟩:=(sF h p).sub 0 (List.contains_iff_mem.1 hc)
  have:=((tO h).2.1 t ht).2.1
  omega
def jQ (ow:List cK) (js:List gW) (s:List UInt8):Bool:=(ow.any fun o=>o.aG==s) || (js.any fun j=>j.aG==s)
theorem mH {α β:Type} {p:α->Bool} {f:α->β} {a:List α} {k:Nat} {x:α} (h:a[k]?=some x):((a.take (k+1)).filter p).map f=((a.take k).filter p).map f++(if p x then [f x] else []):=by
 rw [List.take_add_one,h,List.filter_append,List.map_append]
 simp only [Option.toList_some,List.filter_cons,List.filter_nil]
 split<;>simp
theorem iX {α β:Type} (p:α->Bool) (f:α->β) (a:List α) (k:Nat):(((a.take k).filter p).map f).length<=k:=by
 rw [List.length_map]
 have h1:=List.length_filter_le p (a.take k)
 have h2:(a.take k).length<=k:=by simp;omega
 omega
theorem sR (l:List (List UInt8)) (x:List UInt8):aN (l++[x])=aN l++[[.str x]]:=by simp [aN]
theorem aDC (l:List Int) (i:Nat):(bB l)[i]?=(l[i]?).map fun s=>[.int .i64 s]:=by simp [bB]
theorem jR (l:List Int):(bB l).length=l.length:=by simp [bB]
theorem aEz (x:Int) (a:List Int):decide (0<=mA (fun y=>y==x) a)=a.contains x:=by
 rw [sE,Bool.eq_iff_iff,List.contains_iff_mem,List.any_eq_true]
 constructor
 ·rintro ⟨y,h1,h2⟩;exact (beq_iff_eq.1 h2) ▸ h1
 ·intro h;exact ⟨x,h,beq_self_eq_true x⟩
theorem nQ (a:List Int) (x:Int) (hsz:a.length<=281474976710656):aE PP GG 88 [.d (.slc 1 (bB a)),.d (.int .i64 x)] (.d (.bool (a.contains x))) [none,none]:=by
 refine cv Tryz.func88 [.d (.bool (a.contains x))] ?_
 have hany:=aEz x a
 rw [sE] at hany
 refine iK @jR ?_
 refine bQ (fun n st=>∃ i:Nat,n=a.length-i/\i<=a.length/\(∀ y,y∈a.take i->(y==x)=false) ∧
  st=⟨[],[(0,.d (.slc 1 (bB a))),(1,.d (.int .i64 x)),(5,.d (.int .i64 i))],[],0⟩) _ ⟨0,rfl,by omega,fun x hx=>by simp at hx,?_⟩ ?_
 ·exact iR @jR
 rintro n st ⟨i,rfl,hi,hn,rfl⟩
 by_cases hlt:i<a.length
 ·have ha:=List.getElem?_eq_getElem hlt
  generalize a[i]=y at ha
  cases hx:(y==x) with
  |true=>
   have e:=(aAN (p:=fun y=>y==x) ha hn hx).2
   rw [e] at hany
   rw [<-hany]
   exact jI (Y4 ha @aDC @jR hx)
  |false=>
   have hn2:=lI (p:=fun y=>y==x) ha hn hx
   refine iK (Y4 ha @aDC @jR hx) ?_
   refine ⟨a.length-(i+1),by omega,i+1,rfl,hlt,hn2,?_⟩
   refine aCQ @jR ?_
   exact aA (by omega) (by omega)
 ·have hie:i=a.length:=by omega
  subst hie
  rw [List.take_length] at hn
  rw [(vZ hn).2] at hany
  rw [<-hany]
  exact jI @jR
theorem bT (l:List aO):∀ row,row∈bS l->∀ d,d∈row->nG 1 d:=by
 intro row h d hd
 simp only [bS,List.mem_map] at h
 obtain ⟨x,_,rfl⟩:=h
 simp only [aO.row,List.mem_cons,List.not_mem_nil,or_false] at hd
 rcases hd with rfl|rfl|rfl|rfl|rfl|rfl|rfl<;>simp only [nG]
 exact cD x.eT
theorem aEa (f:bK) (id top:Int) (hf:tP f) (hb:bR f=true) (hid:id=0\/cJ f id=true):
  aE PP GG 118 [.agg f.c,.d (.int .i64 id),.d (.int .i64 top)] (.d (.bool ((wo (fun t=>decide (t.bU=top)) f.aF).2.contains id))) [none,none,none]:=by
 refine cv Tryz.func118 [.d (.bool ((wo (fun t=>decide (t.bU=top)) f.aF).2.contains id))] ?_
 have hw:=sF hb (fun t=>decide (t.bU=top))
 have hz:=aPB hb (fun t=>decide (t.bU=top))
 obtain ⟨hp1,hp2,hp3⟩:=tO hb
 have hat:=fun id=>lY f id hf.1
 obtain ⟨a⟩:=f
 dsimp only at hw hz hp1 hp2 hp3 hat
 generalize (wo (fun t=>decide (t.bU=top)) a).2=G at *
 generalize hR:G.contains id=R
 refine lQ ?_
 refine bQ (fun n st=>∃ x:Int,n=x.toNat/\(x=0\/cJ ⟨a⟩ x=true)/\G.contains x=R ∧
  st=⟨[],[(1,.d (.int .i64 x)),(2,.d (.int .i64 top)),(3,.ptr 0 0)],[(0,.box [.d (.slc 7 (bS a))])],1⟩) _ ⟨id,rfl,hid,hR,?_⟩ ?_
 ·exact qW
 rintro n st ⟨x,rfl,hx,hxR,rfl⟩
 by_cases h0:x=0
 ·subst h0
  rw [hz] at hxR
  subst hxR
  exact oI
 have hne:(x != 0)=true:=by simpa using h0
 have hx:=hx.resolve_left h0
 obtain ⟨k,t,hk,ht,htx⟩:=aM2 (p:=fun t:aO=>decide (t.bU=x)) (l:=a) hx
 have htx:t.bU=x:=by simpa using htx
 have hm:=List.mem_of_getElem? ht
 have hrec:=hw.rec_ t hm
 rw [htx,hxR] at hrec
 have hat:=hat x
 rw [hk] at hat
 have h1:=hp1 t hm
 have h2:=hp2 t hm
 have h3:=hp3 t hm
 obtain ⟨ti,tp,tn,tm,te,tl,tu⟩:=t
 dsimp only at htx hrec h1 h2 h3
 by_cases htop:x=top
 ·have hd:decide (x=top)=true:=decide_eq_true htop
  have hq:(x==top)=true:=by simpa using htop
  rw [hd] at hrec
  simp only [Bool.true_or] at hrec
  subst hrec
  exact jI (Y2 hne hq)
 ·have hd:decide (x=top)=false:=decide_eq_false htop
  have hq:(x==top)=false:=by simpa using htop
  rw [hd,Bool.false_or] at hrec
  have hkl:=(List.getElem?_eq_some_iff.1 ht).1
  refine jH (Y3 hne hq ht) (Z1 hat) ?_
  refine ⟨tp.toNat,by omega,tp,rfl,h3,?_,?_⟩
  ·simpa using hrec.symm
  ·exact qW
def eN (f:bK) (id:Int):List Int:=if bR f then (wo (fun t=>decide (t.bU=id)) f.aF).2 else []
theorem vY (f:bK) (id:Int):(eN f id).length<=f.aF.length:=by
 unfold eN
 split
 ·have:=aFK (fun t=>decide (t.bU=id)) f.aF;omega
 ·simp
theorem aC3 (f:bK) (id:Int) (hf:tP f):aE PP GG 84 [.agg f.c,.d (.int .i64 id)] (.own 0 1 (bB (eN f id))) [none,none]:=by
 refine cv Tryz.func84 [.own 0 1 (bB (eN f id))] ?_
 have cf:=jB f hf
 have cat:=lY f id hf.1
 have hno:decide (mA (fun t=>decide (t.bU=id)) f.aF<0)=!cJ f id:=nS _ _
 have hV:eN f id=if bR f then (wo (fun t=>decide (t.bU=id)) f.aF).2 else []:=rfl
 have hl:=hf.1
 have hun:=fun (h:bR f=true) x hx=>aEa f x id hf h hx
 have hw:=fun (h:bR f=true)=>sF h (fun t=>decide (t.bU=id))
 have hnone:cJ f id=false->(wo (fun t=>decide (t.bU=id)) f.aF).2=[]:=fun h=>by
  rw [aLf]
  intro t ht
  unfold cJ at h
  rw [List.any_eq_false] at h
  simpa using h t ht
 have hhas:∀ (i:Nat) t,f.aF[i]?=some t->cJ f t.bU=true:=fun i t h=>by
  unfold cJ;rw [List.any_eq_true];exact ⟨t,List.mem_of_getElem? h,by simp⟩
 obtain ⟨a⟩:=f
 dsimp only at cf cat hno hV hl hun hw hnone hhas
 generalize eN ⟨a⟩ id=V at *
 generalize (wo (fun t=>decide (t.bU=id)) a).2=G at *
 generalize mA (fun t=>decide (t.bU=id)) a=k at *
 generalize bR ⟨a⟩=B at *
 cases B
 ·simp only [Bool.false_eq_true,if_false] at hV
  subst hV
  exact eJ @bB.eq_1 (Z1 cf)
 simp only [if_true] at hV
 subst hV
 have hw:=hw rfl
 have hun:=hun rfl
 cases hh:cJ ⟨a⟩ id with
 |false=>
  rw [hh] at hno
  simp only [Bool.not_false] at hno
  have hG:=hnone hh
  subst hG
  exact eJ (Y2 hno @bB.eq_1) (Z2 cf cat)
 |true=>
  rw [hh] at hno
  simp only [Bool.not_true] at hno
  refine jH hno (Z2 cf cat) ?_
  refine bQ (fun n st=>∃ i:Nat,n=a.length-i/\i<=a.length ∧
   st=⟨[],[(1,.d (.int .i64 id)),(2,.ptr 0 0),(5,.sl 1),(6,.d (.int .i64 i))],[(0,.box [.d (.slc 7 (bS a))]),(1,.arr 0 0 1 (bB (((a.take i).filter fun t=>V.contains t.bU).map aO.bU)))],2⟩) _ ⟨0,rfl,by omega,?_⟩ ?_
  ·exact iR @bB.eq_1
  rintro n st ⟨i,rfl,hi,rfl⟩
  by_cases hlt:i<a.length
  rotate_left
  ·have hie:i=a.length:=by omega
   subst hie
   rw [List.take_length,<-hw.ids]
   exact oI
  have ha:=List.getElem?_eq_getElem hlt
  generalize a[i]=x at ha
  have hsc:=mH (p:=fun t:aO=>V.contains t.bU) (f:=aO.bU) ha
  have hlen:=iX (fun t:aO=>V.contains t.bU) aO.bU a i
  generalize ((a.take i).filter fun t:aO=>V.contains t.bU).map aO.bU=L at *
  have cu:=hun x.bU (.inr (hhas i x ha))
  obtain ⟨xi,xp,xn,xm,xe,xl,xu⟩:=x
  dsimp only at hsc cu
  cases hc:V.contains xi with
  |true=>
   rw [hc] at hsc cu
   simp only [if_true] at hsc
   refine jH (Y3 ha @aJ.eq_1 @jR) (Z1 cu) ?_
   refine ⟨a.length-(i+1),by omega,i+1,rfl,hlt,?_⟩
   rw [hsc]
   refine aCQ @aDD ?_
   exact aA (by omega) (by omega)
  |false=>
   rw [hc] at hsc cu
   simp only [Bool.false_eq_true,if_false,List.append_nil] at hsc
   refine jH ha (Z1 cu) ?_
   refine ⟨a.length-(i+1),by omega,i+1,rfl,hlt,?_⟩
   rw [hsc]
   refine kT ?_
   exact aA (by omega) (by omega)
theorem sQ {w:aP} (h:eO w=true):bR w.aD=true:=by
 unfold eO at h;simp only [Bool.and_eq_true] at h;exact h.1.1.1.1.1.1.2
theorem aIT {a:List aO} {i:Nat} {x:aO} (h:a[i]?=some x):bS (a.take (i+1))=bS (a.take i)++[x.row]:=by
 rw [List.take_add_one,h,aDb];rfl
theorem aCm (a:List aO) (i:Nat):(bS (a.take i)).length<=i:=by rw [aDa,List.length_take];omega
theorem uP {a:List aQ} {i:Nat} {x:aQ} (h:a[i]?=some x):bC (a.take (i+1))=bC (a.take i)++[x.row]:=by
 rw [List.take_add_one,h,wT];rfl
theorem oU (a:List aQ) (i:Nat):(bC (a.take i)).length<=i:=by rw [tD,List.length_take];omega
theorem aKh {a:List cV} {i:Nat} {x:cV} (h:a[i]?=some x):cY (a.take (i+1))=cY (a.take i)++[x.row]:=by
 rw [List.take_add_one,h,pL];rfl
theorem aC8 (a:List cV) (i:Nat):(cY (a.take i)).length<=i:=by rw [rR,List.length_take];omega
theorem aMs {a:List gW} {i:Nat} {x:gW} (h:a[i]?=some x):fP (a.take (i+1))=fP (a.take i)++[x.row]:=by
 rw [List.take_add_one,h,aIW];rfl
theorem aEo (a:List gW) (i:Nat):(fP (a.take i)).length<=i:=by rw [aIV,List.length_take];omega
theorem aIU {a:List cK} {i:Nat} {x:cK} (h:a[i]?=some x):dK (a.take (i+1))=dK (a.take i)++[x.row]:=by
 rw [List.take_add_one,h,aDc];rfl
theorem aCn (a:List cK) (i:Nat):(dK (a.take i)).length<=i:=by rw [wS,List.length_take];omega
theorem bP (l:List aQ):∀ row,row∈bC l->∀ d,d∈row->nG 0 d:=by
 intro row h d hd
 simp only [bC,List.mem_map] at h
 obtain ⟨x,_,rfl⟩:=h
 simp only [aQ.row,List.mem_cons,List.not_mem_nil,or_false] at hd
 rcases hd with rfl|rfl|rfl|rfl|rfl|rfl<;>trivial
theorem dC (l:List cV):∀ row,row∈cY l->∀ d,d∈row->nG 0 d:=by
 intro row h d hd
 simp only [cY,List.mem_map] at h
 obtain ⟨x,_,rfl⟩:=h
 simp only [cV.row,List.mem_cons,List.not_mem_nil,or_false] at hd
 rcases hd with rfl|rfl<;>trivial
theorem eZ (l:List gW):∀ row,row∈fP l->∀ d,d∈row->nG 0 d:=by
 intro row h d hd
 simp only [fP,List.mem_map] at h
 obtain ⟨x,_,rfl⟩:=h
 simp only [gW.row,List.mem_cons,List.not_mem_nil,or_false] at hd
 rcases hd with rfl|rfl|rfl<;>trivial
theorem dR (l:List cK):∀ row,row∈dK l->∀ d,d∈row->nG 0 d:=by
 intro row h d hd
 simp only [dK,List.mem_map] at h
 obtain ⟨x,_,rfl⟩:=h
 simp only [cK.row,List.mem_cons,List.not_mem_nil,or_false] at hd
 rcases hd with rfl|rfl<;>trivial
theorem aCT (a:List (List UInt8)) (i:Nat):(aN (a.take i)).length<=i:=by rw [bO,List.length_take];omega
theorem aEb (a:List (List UInt8)) (hl:a.length<=1048576):aE PP GG 117 [.d (.slc 1 (aN a))] (.own 0 1 (aN a)) [none]:=by
 refine cv Tryz.func117 [.own 0 1 (aN a)] ?_
 refine iK @bO ?_
 refine bQ (fun n st=>∃ i:Nat,n=a.length-i/\i<=a.length ∧
  st=⟨[],[(0,.d (.slc 1 (aN a))),(3,.sl 0),(4,.d (.int .i64 i))],[(0,.arr 0 0 1 (aN (a.take i)))],1⟩) _ ⟨0,rfl,by omega,?_⟩ ?_
 ·exact iR @aN.eq_1
 rintro n st ⟨i,rfl,hi,rfl⟩
 by_cases hlt:i<a.length
 rotate_left
 ·have hie:i=a.length:=by omega
  subst hie
  rw [List.take_length]
  exact jI @bO
 have ha:=List.getElem?_eq_getElem hlt
 generalize a[i]=x at ha
 have hsc:=aJ3 ha
 have hlen:=aCT a i
 generalize aN (a.take i)=L at *
 refine iK (Y4 ha @eB @aJ.eq_1 @bO) ?_
 refine ⟨a.length-(i+1),by omega,i+1,rfl,hlt,?_⟩
 rw [hsc]
 refine kT ?_
 exact aA (by omega) (by omega)
theorem kO (t:aO) (ht:aQE t):aE PP GG 80 [.agg t.c] (.agg t.o) [none]:=by
 refine cv Tryz.func80 [.agg t.o] ?_
 have cc:=aEb t.eT ht.1
 exact qX (Z1 cc)
theorem mN (a:List aO) (hf:tP ⟨a⟩):aE PP GG 81 [.agg (bK.mk a).c] (.agg (bK.mk a).o) [none]:=by
 refine cv Tryz.func81 [.agg (bK.mk a).o] ?_
 refine lQ ?_
 refine jS 3 0 rfl rfl rfl ?_
 refine lQ ?_
 refine bQ (fun n st=>∃ i:Nat,n=a.length-i/\i<=a.length ∧
  st=⟨[],[(1,.ptr 0 0),(2,.ptr 1 0),(3,.ptr 2 0),(4,.d (.int .i64 i))],[(0,.box [.d (.slc 7 (bS a))]),(1,.box [.nil 1 7]),(2,.box [.sl 3]),(3,.arr 0 1 7 (bS (a.take i)))],4⟩) _ ⟨0,rfl,by omega,?_⟩ ?_
 ·exact iR @bS.eq_1
 rintro n st ⟨i,rfl,hi,rfl⟩
 by_cases hlt:i<a.length
 rotate_left
 ·have hie:i=a.length:=by omega
  subst hie
  rw [List.take_length]
  exact oI
 have ha:=List.getElem?_eq_getElem hlt
 have hm:=List.getElem_mem hlt
 generalize a[i]=x at ha hm
 have hsc:=aIT ha
 have hlen:=aCm a i
 have hir:=bT (a.take i)
 have ct:=kO x (hf.2 x hm)
 have hla:a.length<=1048576:=hf.1
 generalize bS (a.take i)=L at *
 refine jH (Y2 ha @aJ.eq_1) (Z1 ct) ?_
 refine ⟨a.length-(i+1),by omega,i+1,rfl,hlt,?_⟩
 rw [hsc]
 refine kT ?_
 exact aA (by omega) (by omega)
end Go.Proofs.YtiejbbcpihpgpaaGreat.Ab
