/-
  A part of a proof about the given program; what is proved is said where each theorem stands.
-/
import Derived.Test.YtiejbbcpihpgpaaGreatFrameA
import Derived.Test.YtiejbbcpihpgpaaGreatFrameB
import Derived.Test.YtiejbbcpihpgpaaGreatFrameC
import Derived.Test.YtiejbbcpihpgpaaGreatFrameD
import Derived.Test.YtiejbbcpihpgpaaGreatHead
import Derived.Test.YtiejbbcpihpgpaaGreatCodes
import Derived.Test.YtiejbbcpihpgpaaGreatPartA
import Derived.Test.YtiejbbcpihpgpaaGreatPartB
import Derived.Test.YtiejbbcpihpgpaaGreatPartC
import Derived.Test.YtiejbbcpihpgpaaGreatPartD
import Derived.Test.YtiejbbcpihpgpaaGreatPartE
namespace Go.Proofs
end Go.Proofs
set_option linter.unusedSimpArgs false
set_option linter.unusedVariables false
set_option maxRecDepth 100000
set_option maxHeartbeats 2000000
namespace Go.Proofs.YtiejbbcpihpgpaaGreat.Ab
open Go.Proofs
theorem aD3 (k:Int) (ns:List Int) (ts:List (List UInt8)) (h1:ns.length<=100) (h2:ts.length<=100):∃ r:List UInt8×Bool,r.1.length<=4000/\aE PP GG 72 [.agg (aF8 k ns ts)] (.tup [.own 0 1 (aB r.1),.d (.bool r.2)]) [none]:=by
 refine cvD Tryz.func72 (α:=List UInt8×Bool) 2 _ (fun r=>[.own 0 1 (aB r.1),.d (.bool r.2)]) _ (fun _=>rfl) ?_
 have cr:=oC k ns ts (by omega) (by omega)
 have hrp:=@qQ k ns ts
 have hk:jE k ns ts=true->0<=k/\k<=99:=by
  intro h;simp only [jE,Bool.and_eq_true,decide_eq_true_eq] at h;exact h.1
 generalize jE k ns ts=b at *
 cases b
 ·refine dJ (Z1 cr) ?_
  exact ⟨([],false),by simp,by simp [Fin,aB]⟩
 obtain ⟨p1,p2,p3,p4⟩:=hrp rfl
 obtain ⟨k1,k2⟩:=hk rfl
 clear hrp hk
 obtain ⟨kb,hkb⟩:∃ kb:UInt8,IntKind.u8.wrap k=((kb.toNat:Nat):Int):=⟨UInt8.ofNat k.toNat,by rw [IntKind.wrap_u8];simp;omega⟩
 obtain ⟨q1,l1,c1⟩:=aA9 (ns.length:Nat) (by omega) (by omega)
 have j1:=fE [kb] q1 (by simp;omega)
 change aE PP GG 56 [.d (.slc 1 [[.int .u8 kb.toNat]]),.d (.slc 1 (aB q1))] _ _ at j1
 have o0l:([kb]++q1).length<=11:=by simp;omega
 generalize [kb]++q1=o0 at j1 o0l
 have i1:=aW q1
 have i2:=aW o0
 have ik:∀ row,row∈([[.int .u8 kb.toNat]]:List (List D))->∀ d,d∈row->nG 0 d:=aW [kb]
 refine oS ?_
 refine gZ (?_)
 refine gZ ?_
 apply vM
 ·intro K hK
  simp
  repeat' (first|with_reducible exact hK|(with_reducible refine aI (cr) ?_;simp)|(with_reducible refine aM (fun _=>?_) (fun _=>?_)<;>simp)|with_reducible refine And.intro ?_ ?_|with_reducible exact aS rfl|with_reducible assumption|omega)
 refine fH rfl (fun h=>by cases h) (fun h=>iG ?_)
 refine gZ (?_)
 apply aS3
 ·intro K hK
  simp [fX,hkb]
  repeat' (first|with_reducible exact hK|(with_reducible refine aI (c1) ?_;simp [fX,hkb])|(with_reducible refine aI (j1) ?_;simp [fX,hkb])|(with_reducible refine aM (fun _=>?_) (fun _=>?_)<;>simp [fX,hkb])|with_reducible refine And.intro ?_ ?_|with_reducible exact aS rfl|with_reducible assumption|omega)
 refine oB [1,4] (s1:=⟨[],[(1,.ptr 0 0),(4,.sl 1)],[(0,.box [.d (.int .i64 k),.d (.slc 1 (bB ns)),.d (.slc 1 (aN ts))]),(1,.arr 0 0 1 (aB o0))],2⟩) ?_ ?_
 ·exact eI
 clear c1 j1 i1 i2 ik cr
 refine nM [1,4] (fun st'=>∃ o:List UInt8,o.length<=511/\st'=⟨[],[(1,.ptr 0 0),(4,.sl 1)],[(0,.box [.d (.int .i64 k),.d (.slc 1 (bB ns)),.d (.slc 1 (aN ts))]),(1,.arr 0 0 1 (aB o))],2⟩) ?_ ?_
 ·refine lH ?_
  refine fG (fun n st=>∃ i:Nat,n=ns.length-i/\i<=ns.length/\∃ o:List UInt8,o.length<=11+10*i/\st=⟨[],[(1,.ptr 0 0),(4,.sl 1),(5,.d (.int .i64 i))],[(0,.box [.d (.int .i64 k),.d (.slc 1 (bB ns)),.d (.slc 1 (aN ts))]),(1,.arr 0 0 1 (aB o))],2⟩) _ ⟨0,rfl,by omega,o0,by omega,?_⟩ ?_
  ·exact eI
  rintro n st ⟨i,rfl,hi,o,ho,rfl⟩
  by_cases hlt:i<ns.length
  rotate_left
  ·have hie:i=ns.length:=by omega
   subst hie
   refine iD @fX ?_
   refine ⟨o,by omega,?_⟩
   exact eI
  have ha:=List.getElem?_eq_getElem hlt
  have hm:=p3 _ (List.getElem_mem hlt)
  generalize ns[i]=x at ha hm
  have hw:IntKind.i64.wrap ((i:Int)+1)=(i:Int)+1:=aA (by omega) (by omega)
  obtain ⟨q,ql,c⟩:=aA9 x hm.1 hm.2
  have jc:=fE o q (by omega)
  have i1:=aW q
  have i2:=aW (o++q)
  have hql:(o++q).length=o.length+q.length:=by simp
  generalize o++q=oq at *
  refine cI (Y2 @fX ha) (Z2 c jc) ?_
  refine ⟨ns.length-(i+1),by omega,i+1,rfl,hlt,oq,by omega,?_⟩
  exact dL hw
 rintro st ⟨o,ho,rfl⟩
 obtain ⟨q2,l2,c2⟩:=aA9 (ts.length:Nat) (by omega) (by omega)
 have j2:=fE o q2 (by omega)
 have i1:=aW q2
 have i2:=aW (o++q2)
 have hql:(o++q2).length=o.length+q2.length:=by simp
 generalize o++q2=oq at *
 refine gZ (?_)
 apply vM
 ·intro K hK
  simp [bO]
  repeat' (first|with_reducible exact hK|(with_reducible refine aI (c2) ?_;simp [bO])|(with_reducible refine aI (j2) ?_;simp [bO])|(with_reducible refine aM (fun _=>?_) (fun _=>?_)<;>simp [bO])|with_reducible refine And.intro ?_ ?_|with_reducible exact aS rfl|with_reducible assumption|omega)
 refine oB [1,4] (s1:=⟨[],[(1,.ptr 0 0),(4,.sl 1)],[(0,.box [.d (.int .i64 k),.d (.slc 1 (bB ns)),.d (.slc 1 (aN ts))]),(1,.arr 0 0 1 (aB oq))],2⟩) ?_ ?_
 ·exact eI
 clear c2 j2 i1 i2
 refine nM [4] (fun st'=>∃ o:List UInt8,o.length<=20000/\st'=⟨[],[(4,.sl 0)],[(0,.arr 0 0 1 (aB o))],1⟩) ?_ ?_
 ·refine lH ?_
  refine fG (fun n st=>∃ i:Nat,n=ts.length-i/\i<=ts.length/\∃ o:List UInt8,o.length<=530+320*i/\st=⟨[],[(1,.ptr 0 0),(4,.sl 1),(6,.d (.int .i64 i))],[(0,.box [.d (.int .i64 k),.d (.slc 1 (bB ns)),.d (.slc 1 (aN ts))]),(1,.arr 0 0 1 (aB o))],2⟩) _ ⟨0,rfl,by omega,oq,by omega,?_⟩ ?_
  ·exact eI
  rintro n st ⟨i,rfl,hi,o,ho,rfl⟩
  by_cases hlt:i<ts.length
  rotate_left
  ·have hie:i=ts.length:=by omega
   subst hie
   refine iD @bO ?_
   refine ⟨o,by omega,?_⟩
   exact eI
  have ha:=List.getElem?_eq_getElem hlt
  have hm:=p4 _ (List.getElem_mem hlt)
  generalize ts[i]=x at ha hm
  have hw:IntKind.i64.wrap ((i:Int)+1)=(i:Int)+1:=aA (by omega) (by omega)
  obtain ⟨q,ql,c⟩:=aA9 (x.length:Nat) (by omega) (by omega)
  have jc:=fE o q (by omega)
  have hql:(o++q).length=o.length+q.length:=by simp
  generalize o++q=op at *
  have jd:=fE op x (by omega)
  have hqm:(op++x).length=op.length+x.length:=by simp
  generalize op++x=ox at *
  have i1:=aW q
  have i2:=aW op
  have i3:=aW ox
  refine cI (Y3 @bO @eB ha) (Z3 c jc jd) ?_
  refine ⟨ts.length-(i+1),by omega,i+1,rfl,hlt,ox,by omega,?_⟩
  exact dL hw
 rintro st ⟨o,ho,rfl⟩
 have io:=aW o
 have hbl:(aB o).length=o.length:=by simp [aB]
 by_cases h4:o.length<=4000
 ·have h4':((4000:Int)<((o.length:Nat):Int))=False:=by simp;omega
  refine iD (Y2 hbl h4') ?_
  exact ⟨(o,true),h4,by simp [Fin]⟩
 ·have h4':((4000:Int)<((o.length:Nat):Int))=True:=by simp;omega
  refine iD (Y2 hbl h4') ?_
  exact ⟨([],false),by simp,by simp [Fin,aB]⟩
theorem aDw (a b:List UInt8) (h:a.length+b.length<=1048576):aE PP GG 54 [.agg [.d (.slc 1 (aB a)),.d (.slc 1 (aB b))]] (.agg [.own 0 1 (aB a),.own 0 1 (aB b)]) [none]:=by
 refine cv Tryz.func54 [.agg [.own 0 1 (aB a),.own 0 1 (aB b)]] ?_
 have c1:=iJ a (by omega)
 have c2:=iJ b (by omega)
 have i1:=aW a
 have i2:=aW b
 exact qX (Z2 c1 c2)
theorem aEU (k:Int) (ns:List Int) (ts:List (List UInt8)) (h1:ns.length<=100) (h2:ts.length<=100):∃ r:List UInt8×Bool,r.1.length<=5000/\aE PP GG 52 [.agg (aF8 k ns ts)] (.tup [.own 0 1 (aB r.1),.d (.bool r.2)]) [none]:=by
 refine cvD Tryz.func52 (α:=List UInt8×Bool) 2 _ (fun r=>[.own 0 1 (aB r.1),.d (.bool r.2)]) _ (fun _=>rfl) ?_
 obtain ⟨⟨e,ok⟩,he,ce⟩:=aD3 k ns ts h1 h2
 dsimp only at he ce
 have ie:=aW e
 cases ok
 ·refine dJ (Z1 ce) ?_
  exact ⟨([],false),by simp,by simp [Fin,aB]⟩
 have w1:=xF e.length 2 (by omega) (by omega)
 have hd:=sP e (by omega)
 obtain ⟨dn,hdn⟩:∃ dn:Nat,(qK e).tmod 4294967296=(dn:Int)/\dn<4294967296:=by
  have hdg:=tR e
  refine ⟨(qK e % 4294967296).toNat,?_,by omega⟩
  rw [Int.tmod_eq_emod_of_nonneg hdg.1];omega
 have w2:=xF dn 4 (by omega) (by omega)
 have b1:(beN e.length 2).length=2:=by simp [beN]
 have b2:(beN dn 4).length=4:=by simp [beN]
 generalize beN e.length 2=f1 at *
 generalize beN dn 4=f2 at *
 have j1:=fE f1 e (by omega)
 have hfe:(f1++e).length=f1.length+e.length:=by simp
 have i3:=aW (f1++e)
 generalize f1++e=fe at *
 have j2:=fE fe f2 (by omega)
 have hff:(fe++f2).length=fe.length+f2.length:=by simp
 have i4:=aW (fe++f2)
 generalize fe++f2=z at *
 have i1:=aW f1
 have i2:=aW f2
 refine cI hdn.1 (Z6 ce w1 hd w2 j1 j2) ?_
 exact ⟨(z,true),by dsimp only;omega,by simp [Fin]⟩
theorem aJV (a b:List UInt8) (k:Int) (ns:List Int) (ts:List (List UInt8)) (hab:a.length+b.length<=40000) (h1:ns.length<=100) (h2:ts.length<=100):∃ r:List UInt8×List UInt8×Bool,r.1.length+r.2.1.length<=40000 ∧
  aE PP GG 42 [.agg [.d (.slc 1 (aB a)),.d (.slc 1 (aB b))],.agg (aF8 k ns ts)] (.tup [.agg [.own 0 1 (aB r.1),.own 0 1 (aB r.2.1)],.d (.bool r.2.2)]) [none,none]:=by
 refine cvD Tryz.func42 (α:=List UInt8×List UInt8×Bool) 2 _ (fun r=>[.agg [.own 0 1 (aB r.1),.own 0 1 (aB r.2.1)],.d (.bool r.2.2)]) _ (fun _=>rfl) ?_
 obtain ⟨⟨f,ok⟩,hf,cf⟩:=aEU k ns ts h1 h2
 dsimp only at hf cf
 have cd:=mD a b (by omega)
 rw [decide_eq_true hab] at cd
 have cc:=aDw a b (by omega)
 have i1:=aW a
 have i2:=aW b
 have i3:=aW f
 cases ok
 ·refine dJ (Z3 cf cd cc) ?_
  exact ⟨(a,b,false),hab,by simp [Fin]⟩
 have cb:=iJ a (by omega)
 have jc:=fE b f (by omega)
 have i4:=aW (b++f)
 have hbf:(b++f).length=b.length+f.length:=by simp
 generalize b++f=bf at *
 have cd2:=mD a bf (by omega)
 by_cases h4:a.length+bf.length<=40000
 ·rw [decide_eq_true h4] at cd2
  refine dJ (Z5 cf cd cb jc cd2) ?_
  exact ⟨(a,bf,true),h4,by simp [Fin]⟩
 ·rw [decide_eq_false h4] at cd2
  refine dJ (Z6 cf cd cb jc cd2 cc) ?_
  exact ⟨(a,b,false),hab,by simp [Fin]⟩
theorem aK9 (a b:List UInt8) (h:a.length+b.length<=40000):aE PP GG 44 [.agg [.d (.slc 1 (aB a)),.d (.slc 1 (aB b))]] (.agg [.own 0 1 (aB (a++b)),.own 0 1 (aB [])]) [none]:=by
 refine cv Tryz.func44 [.agg [.own 0 1 (aB (a++b)),.own 0 1 (aB [])]] ?_
 have cd:=mD a b (by omega)
 rw [decide_eq_true h] at cd
 have jc:=fE a b (by omega)
 have i4:=aW (a++b)
 have e0:aB []=[]:=rfl
 exact eJ e0 (Z2 cd jc)
theorem aLc (a b:List UInt8) (keep:Int) (h:a.length+b.length<=40000):∃ r:List UInt8,r.length<=40000/\aE PP GG 46 [.agg [.d (.slc 1 (aB a)),.d (.slc 1 (aB b))],.d (.int .i64 keep)] (.agg [.own 0 1 (aB r),.own 0 1 (aB [])]) [none,none]:=by
 refine cvD Tryz.func46 (α:=List UInt8) 1 _ (fun r=>[.agg [.own 0 1 (aB r),.own 0 1 (aB [])]]) _ (fun _=>rfl) ?_
 have cd:=mD a b (by omega)
 rw [decide_eq_true h] at cd
 have e0:aB []=[]:=rfl
 have hbl:(aB b).length=b.length:=by simp [aB]
 have key:∀ n:Nat,n<=b.length->∃ r:List UInt8,r.length<=40000/\(∀ row,row∈aB r->∀ d,d∈row->nG 0 d)/\aE PP GG 56 [.d (.slc 1 (aB a)),.d (.slc 1 ((aB b).take n))] (.own 0 1 (aB r)) [none,none]:=by
  intro n hn
  have jc:=fE a (b.take n) (by simp;omega)
  refine ⟨a++b.take n,by simp;omega,aW _,?_⟩
  have e:aB (b.take n)=(aB b).take n:=by simp [aB,List.map_take]
  rw [e] at jc
  exact jc
 by_cases h0:keep<0
 ·obtain ⟨r,hr,ir,jc⟩:=key 0 (by omega)
  have h0':(keep<0)=True:=by simp [h0]
  simp only [List.take_zero] at jc
  refine cI (Y3 hbl h0' e0) (Z2 cd jc) ?_
  exact ⟨r,hr,by simp [Fin,aB]⟩
 have h0':(keep<0)=False:=by simp [h0]
 by_cases h1:(b.length:Int)<keep
 ·obtain ⟨r,hr,ir,jc⟩:=key b.length (by omega)
  have h1':(((b.length:Nat):Int)<keep)=True:=by simp [h1]
  refine cI (Y4 hbl h0' h1' e0) (Z2 cd jc) ?_
  exact ⟨r,hr,by simp [Fin,aB]⟩
 ·have h1':(((b.length:Nat):Int)<keep)=False:=by simp [h1]
  obtain ⟨n,hn⟩:∃ n:Nat,keep=n:=⟨keep.toNat,by omega⟩
  subst hn
  obtain ⟨r,hr,ir,jc⟩:=key n (by omega)
  refine cI (Y4 hbl h0' h1' e0) (Z2 cd jc) ?_
  exact ⟨r,hr,by simp [Fin,aB]⟩
theorem aOX {b:List UInt8} {a a':Nat} {r:Rec} (h:aGE b a=.ok (r,a')):a'<=b.length/\r.2.1.length<=40/\r.2.2.length<=40:=by
 unfold aGE at h
 simp only at h
 split at h
 ·cases h
 split at h
 ·cases h
 split at h
 ·cases h
 rename_i h1 h2 h3
 split at h
 ·cases h
 rename_i r' hd
 split at h
 ·cases h
  refine ⟨?_,?_⟩
  ·rw [List.length_drop] at h3;omega
  ·unfold aO9 at hd
   split at hd
   ·split at hd
    ·cases hd
    ·split at hd
     ·split at hd
      ·cases hd
      ·split at hd
       ·cases hd
       ·split at hd
        ·split at hd
         ·cases hd
         ·split at hd
          ·rename_i hq
           cases hd
           have:=qQ hq.2
           exact ⟨this.1,this.2.1⟩
          ·cases hd
        ·cases hd
     ·cases hd
   ·cases hd
 ·cases h
theorem aNU {b:List UInt8}:∀ (n a:Nat) (l:List Rec),a<=b.length->(∀ r,r∈l->r.2.1.length<=40/\r.2.2.length<=40)->(aAp b n a l).2.1<=b.length/\∀ r,r∈(aAp b n a l).1->r.2.1.length<=40/\r.2.2.length<=40:=by
 intro n
 induction n with
 |zero=>intro a l h1 h2;exact ⟨h1,h2⟩
 |succ n ih=>
  intro a l h1 h2
  simp only [aAp]
  split
  ·split
   ·exact ⟨h1,h2⟩
   ·rename_i r a' hf
    obtain ⟨q1,q2⟩:=aOX hf
    refine ih a' _ q1 fun x hx=>?_
    rcases List.mem_append.1 hx with hx|hx
    ·exact h2 x hx
    ·simp at hx;subst hx;exact q2
  ·exact ⟨h1,h2⟩
theorem aII (b:List UInt8):(aAo b).2.1<=b.length/\∀ r,r∈(aAo b).1->r.2.1.length<=40/\r.2.2.length<=40:=by
 unfold aAo
 split
 ·exact aNU _ _ _ (by omega) (by simp)
 ·exact ⟨by simp,by simp⟩
theorem aJS (a b:List UInt8) (hab:a.length+b.length<=40000):∃ r:List UInt8×List UInt8×Bool,r.1.length+r.2.1.length<=40000/\aE PP GG 68 [.agg [.d (.slc 1 (aB a)),.d (.slc 1 (aB b))]] (.tup [.agg [.own 0 1 (aB r.1),.own 0 1 (aB r.2.1)],.d (.bool r.2.2)]) [none]:=by
 refine cvD Tryz.func68 (α:=List UInt8×List UInt8×Bool) 2 _ (fun r=>[.agg [.own 0 1 (aB r.1),.own 0 1 (aB r.2.1)],.d (.bool r.2.2)]) _ (fun _=>rfl) ?_
 have cd:=mD a b (by omega)
 rw [decide_eq_true hab] at cd
 have cc:=aDw a b (by omega)
 have i1:=aW a
 have i2:=aW b
 have i3:=aW (a++b)
 have jc:=fE a b (by omega)
 have hs:=aII (a++b)
 have cs:=fun l at' c hr=>tY (a++b) l at' c hr (by simp;omega)
 have hal:(a++b).length=a.length+b.length:=by simp
 generalize a++b=ab at *
 obtain ⟨⟨l,at',c⟩,hr⟩:∃ q,aAo ab=q:=⟨_,rfl⟩
 rw [hr] at hs
 have cs:=cs l at' c hr
 have hat:=hs.1
 dsimp only at hat
 have hlr:=aAK l
 have hbl:(aB ab).length=ab.length:=by simp [aB]
 have cb:=iJ (ab.take at') (by simp;omega)
 have e:aB (ab.take at')=(aB ab).take at':=by simp [aB,List.map_take]
 have i4:=aW (ab.take at')
 rw [e] at cb i4
 by_cases hc:c=2
 ·subst hc
  refine cI hbl (Z4 cd jc cs cc) ?_
  exact ⟨(a,b,false),hab,by simp [Fin]⟩
 ·have hc':(c=2)=False:=by simp [hc]
  refine cI (Y2 hbl hc') (Z4 cd jc cs cb) ?_
  exact ⟨(ab.take at',[],true),by simp;omega,by simp [Fin,e];simp [aB]⟩
theorem aKW {f:bK} {k:Nat} {x y:aO} (h:bR f=true) (hx:f.aF[k]?=some x) (h1:y.bU=x.bU) (h2:y.bV=x.bV) (h3:fL y=true):bR ⟨f.aF.set k y⟩=true/\∀ id,cJ ⟨f.aF.set k y⟩ id=cJ f id:=by
 have hids:(f.aF.set k y).map aO.bU=f.aF.map aO.bU:=by
  rw [List.map_set,h1]
  apply List.ext_getElem?
  intro i
  rw [List.getElem?_set]
  split
  ·rename_i e;subst e
   split
   ·simp [hx]
   ·rename_i hl;simp at hl;simp [hl]
  ·rfl
 have hhas:∀ id,cJ ⟨f.aF.set k y⟩ id=cJ f id:=by
  intro id
  have e:∀ l:List aO,(l.any fun t=>decide (t.bU=id))=(l.map aO.bU).any fun i=>decide (i=id):=fun l=>by rw [List.any_map];rfl
  unfold cJ
  rw [e,e,hids]
 refine ⟨?_,hhas⟩
 rw [fF] at h ⊢
 obtain ⟨a1,a2,a3⟩:=h
 refine ⟨by simpa using a1,fun t ht=>?_,?_⟩
 ·rw [hhas]
  rcases List.mem_or_eq_of_mem_set ht with ht|rfl
  ·exact a2 t ht
  ·exact ⟨h3,by rw [h2];exact (a2 x (List.mem_of_getElem? hx)).2⟩
 ·have e:∀ l:List aO,l.Pairwise (fun y x=>y.bU<x.bU) ↔ (l.map aO.bU).Pairwise (·<·):=fun l=>by rw [List.pairwise_map]
  rw [e,hids,<-e]
  exact a3
theorem aFi {w:aP} {k:Nat} {x y:aO} (h:gH w) (hx:w.aD.aF[k]?=some x) (h1:y.bU=x.bU) (h2:y.bV=x.bV) (h3:fL y=true):gH { w with aD:=⟨w.aD.aF.set k y⟩ }:=by
 have hw:=(cS w).1 h.ok
 obtain ⟨f1,f2⟩:=aKW hw.fo hx h1 h2 h3
 obtain ⟨q1,q2,q3,q4,q5,q6,q7,q8,q9,q10,q11,q12,q13,q14⟩:=hw
 refine ⟨(cS _).2 ⟨q1,q2,q3,f1,q5,q6,q7,fun t ht=>?_,q9,q10,q11,q12,q13,q14⟩,h.str,h.ni,fun l hl=>?_⟩
 ·rcases List.mem_or_eq_of_mem_set ht with ht|rfl
  ·exact q8 t ht
  ·dsimp only;rw [h1];exact q8 x (List.mem_of_getElem? hx)
 ·dsimp only
  rw [f2]
  exact h.ti l hl
theorem aKv {w:aP} {n:Int} (h:gH w) (h1:0<=n) (h2:n<=1000):gH { w with bL:=⟨w.bL.aY,n,w.bL.aZ⟩ }:=by
 have hw:=(cS w).1 h.ok
 have hf:nT ⟨w.bL.aY,n,w.bL.aZ⟩=true:=by
  have:=(lK _).1 hw.fa
  rw [lK]
  obtain ⟨a,b,c⟩:=this
  exact ⟨a,pW h1 h2,c⟩
 obtain ⟨q1,q2,q3,q4,q5,q6,q7,q8,q9,q10,q11,q12,q13,q14⟩:=hw
 exact ⟨(cS _).2 ⟨q1,q2,q3,q4,q5,hf,q7,q8,q9,q10,q11,q12,q13,q14⟩,h.str,h.ni,h.ti⟩
theorem aNF {x:aO} {e:Int} (h:fL x=true) (h1:x.aZ+1<=e) (h2:e<=1000000000) (h3:x.cQ=0\/e<=x.cQ):fL { x with bM:=e }=true:=by
 unfold fL at h ⊢
 simp only [Bool.and_eq_true,Bool.or_eq_true,decide_eq_true_eq,Bool.not_eq_true',decide_eq_false_iff_not] at h ⊢
 obtain ⟨⟨⟨⟨⟨⟨a1,a2⟩,a3⟩,a4⟩,a5⟩,a6⟩,a7⟩:=h
 have hm:=cC a4
 refine ⟨⟨⟨⟨⟨⟨a1,a2⟩,a3⟩,a4⟩,.inr (pW h1 h2)⟩,?_⟩,a7⟩
 rcases h3 with h3|h3
 ·exact .inl h3
 ·rcases a6 with a6|a6
  ·exact .inl a6
  ·exact .inr ⟨⟨a6.1.1,by omega⟩,h3⟩
theorem aNE {x:aO} {u:Int} (h:fL x=true) (h1:0<=u) (h2:u<=1000):fL { x with jG:=u }=true:=by
 unfold fL at h ⊢
 simp only [Bool.and_eq_true] at h ⊢
 exact ⟨h.1,pW h1 h2⟩
theorem aLh {x:aO} (h:fL x=true):0<=x.aZ/\x.aZ<=1000000000/\0<=x.jG/\x.jG<=1000/\(x.cQ=0\/x.aZ+1<=x.cQ):=by
 unfold fL at h
 simp only [Bool.and_eq_true,Bool.or_eq_true,decide_eq_true_eq] at h
 obtain ⟨⟨⟨⟨⟨⟨a1,a2⟩,a3⟩,a4⟩,a5⟩,a6⟩,a7⟩:=h
 have:=cC a4
 have:=cC a7
 refine ⟨by omega,by omega,by omega,by omega,?_⟩
 rcases a6 with a6|a6
 ·exact .inl a6
 ·have:=cC a6.1.1;exact .inr (by omega)
theorem aC9 (l:List aO) (k:Nat) (x:aO):(bS l).set k x.row=bS (l.set k x):=by simp [bS,List.map_set]
def aRv (f:bK) (id:Int) (f':bK):Prop:=∃ (k:Nat) (x:aO),f.aF[k]?=some x/\x.bU=id/\jF f id=x ∧
 ((x.jG=1/\f'=fB f (eN f id))\/(x.jG≠1/\∃ u:Int,0<=u/\u<=1000/\f'=⟨f.aF.set k { x with jG:=u }⟩))
theorem aK8 (f:bK) (id now:Int) (hf:tP f) (hb:bR f=true):∃ r:bK×Int,(tP r.1/\(r.2=0->aRv f id r.1)) ∧
  aE PP GG 60 [.agg f.c,.d (.int .i64 id),.d (.int .i64 now)] (.tup [.agg r.1.o,.d (.int .i64 r.2)]) [none,none,none]:=by
 refine cvD Tryz.func60 (α:=bK×Int) 2 _ (fun r=>[.agg r.1.o,.d (.int .i64 r.2)]) _ (fun _=>rfl) ?_
 have cfo:=jB f hf
 rw [hb] at cfo
 have ccp:=mN f.aF hf
 have cat:=lY f id hf.1
 have cbe:=aC3 f id hf
 have cle:=sV f.aF (eN f id) hf (by have:=vY f id;have:=hf.1;omega)
 have cov:=fun t=>mM t now
 have cin:aE PP GG 12 [.d (.int .i64 now),.d (.int .i64 0),.d (.int .i64 1000000000)] (.d (.bool (inB now 0 1000000000))) [none,none,none]:=bA _ _ _
 have hir:=bT f.aF
 have hig:=gU (eN f id)
 have hlt:=hf.1
 cases hin:inB now 0 1000000000
 ·rw [hin] at cin
  obtain ⟨tk⟩:=f
  dsimp only at *
  refine dJ (Z3 ccp cfo cin) ?_
  exact ⟨(⟨tk⟩,1),⟨hf,by simp⟩,by simp [Fin]⟩
 rw [hin] at cin
 have hno:decide (mA (fun t=>decide (t.bU=id)) f.aF<0)=!cJ f id:=nS _ _
 cases hh:cJ f id
 ·rw [hh] at hno
  simp only [Bool.not_false,decide_eq_true_eq] at hno
  generalize mA (fun t=>decide (t.bU=id)) f.aF=j at *
  obtain ⟨tk⟩:=f
  dsimp only at *
  have hno':(j<0)=True:=by simp [hno]
  refine cI hno' (Z4 ccp cfo cin cat) ?_
  exact ⟨(⟨tk⟩,2),⟨hf,by simp⟩,by simp [Fin]⟩
 obtain ⟨k,x,e1,hx,hxi,hfd⟩:=vW (p:=fun t:aO=>decide (t.bU=id)) (l:=f.aF) hh
 rw [e1] at cat
 have hxi:=of_decide_eq_true hxi
 have hfT:jF f id=x:=by unfold jF;rw [if_pos hb,hfd];rfl
 have htb:=((fF f).1 hb).2.1 x (List.mem_of_getElem? hx)
 obtain ⟨t1,t2,t3,t4,t5⟩:=aLh htb.1
 have hkl:k<f.aF.length:=(List.getElem?_eq_some_iff.1 hx).1
 have hfl:tP (fB f (eN f id)):=⟨Nat.le_trans (List.length_filter_le _ _) hf.1,fun t ht=>hf.2 t (List.mem_filter.1 ht).1⟩
 have hfs:∀ u:Int,tP ⟨f.aF.set k { x with jG:=u }⟩:=fun u=>⟨by simpa using hf.1,fun t ht=>by
  rcases List.mem_or_eq_of_mem_set ht with ht|rfl
  ·exact hf.2 t ht
  ·exact hf.2 x (List.mem_of_getElem? hx)⟩
 have key:aRv f id (if x.jG=1 then fB f (eN f id) else ⟨f.aF.set k { x with jG:=if 1<x.jG then x.jG-1 else x.jG }⟩):=by
  refine ⟨k,x,hx,hxi,hfT,?_⟩
  by_cases hu:x.jG=1
  ·exact .inl ⟨hu,by rw [if_pos hu]⟩
  ·refine .inr ⟨hu,(if 1<x.jG then x.jG-1 else x.jG),by split<;>omega,by split<;>omega,by rw [if_neg hu]⟩
 have cov:=cov x
 clear e1 hfd hno hh hin hfT htb
 obtain ⟨x1,x2,x3,x4,x5,x6,x7⟩:=x
 dsimp only at *
 generalize kX x5 now=bo at cov
 have hxr:∀ u:Int,(bS f.aF).set k [.int .i64 x1,.int .i64 x2,.slc 1 (aN x3),.int .i64 x4,.int .i64 x5,.int .i64 x6,.int .i64 u]=bS (f.aF.set k ⟨x1,x2,x3,x4,x5,x6,u⟩):=fun u=>aC9 f.aF k ⟨x1,x2,x3,x4,x5,x6,u⟩
 generalize hg:eN f id=g at *
 generalize hL:fB f g=L at *
 have hiL:=bT L.aF
 obtain ⟨tk⟩:=f
 dsimp only at *
 cases bo
 rotate_left
 ·refine cI hx (Z5 ccp cfo cin cat cov) ?_
  exact ⟨(⟨tk⟩,3),⟨hf,by simp⟩,by simp [Fin]⟩
 by_cases hm:now<x4
 ·have hm':(now<x4)=True:=by simp [hm]
  refine cI (Y2 hx hm') (Z5 ccp cfo cin cat cov) ?_
  exact ⟨(⟨tk⟩,3),⟨hf,by simp⟩,by simp [Fin]⟩
 have hm':(now<x4)=False:=by simp [hm]
 by_cases hu:x7=1
 ·subst hu
  rw [if_pos rfl] at key
  refine cI (Y2 hx hm') (Z7 ccp cfo cin cat cov cbe cle) ?_
  exact ⟨(L,0),⟨hfl,fun _=>key⟩,by simp [Fin]⟩
 have hu':(x7=1)=False:=by simp [hu]
 rw [if_neg hu] at key
 by_cases hu1:1<x7
 ·have hu1':(1<x7)=True:=by simp [hu1]
  rw [if_pos hu1] at key
  have hw:IntKind.i64.wrap (x7-1)=x7-1:=aA (by omega) (by omega)
  refine cI (Y5 hx hm' hu' hu1' hw) (Z5 ccp cfo cin cat cov) ?_
  exact ⟨(⟨tk.set k ⟨x1,x2,x3,x4,x5,x6,x7-1⟩⟩,0),⟨hfs _,fun _=>key⟩,by simp [Fin,hxr]⟩
 ·have hu1':(1<x7)=False:=by simp [hu1]
  rw [if_neg hu1] at key
  have hself:tk.set k ⟨x1,x2,x3,x4,x5,x6,x7⟩=tk:=by
   apply List.ext_getElem?
   intro i
   rw [List.getElem?_set]
   split
   ·rename_i e;subst e;first|rw [hx]|rw [if_pos hkl,hx]
   ·rfl
  rw [hself] at key
  refine cI (Y4 hx hm' hu' hu1') (Z5 ccp cfo cin cat cov) ?_
  exact ⟨(⟨tk⟩,0),⟨hf,fun _=>key⟩,by simp [Fin]⟩
def aT8 (f:bK) (f':bK):Prop:=∃ (k:Nat) (x:aO) (e:Int),f.aF[k]?=some x/\x.aZ+1<=e/\e<=1000000000/\(x.cQ=0\/e<=x.cQ)/\f'=⟨f.aF.set k { x with bM:=e }⟩
theorem aIj (f:bK) (id now by_:Int) (hf:tP f) (hb:bR f=true):∃ r:bK×Int,(tP r.1/\(r.2=0->aT8 f r.1)) ∧
  aE PP GG 97 [.agg f.c,.d (.int .i64 id),.d (.int .i64 now),.d (.int .i64 by_)] (.tup [.agg r.1.o,.d (.int .i64 r.2)]) [none,none,none,none]:=by
 refine cvD Tryz.func97 (α:=bK×Int) 2 _ (fun r=>[.agg r.1.o,.d (.int .i64 r.2)]) _ (fun _=>rfl) ?_
 have cfo:=jB f hf
 rw [hb] at cfo
 have ccp:=mN f.aF hf
 have cat:=lY f id hf.1
 have cov:=fun t=>mM t now
 have cin:aE PP GG 12 [.d (.int .i64 now),.d (.int .i64 0),.d (.int .i64 1000000000)] (.d (.bool (inB now 0 1000000000))) [none,none,none]:=bA _ _ _
 have cin2:aE PP GG 12 [.d (.int .i64 by_),.d (.int .i64 1),.d (.int .i64 1000000000)] (.d (.bool (inB by_ 1 1000000000))) [none,none,none]:=bA _ _ _
 have hir:=bT f.aF
 have hlt:=hf.1
 cases hin:inB now 0 1000000000
 ·rw [hin] at cin
  obtain ⟨tk⟩:=f
  dsimp only at *
  refine dJ (Z3 ccp cfo cin) ?_
  exact ⟨(⟨tk⟩,1),⟨hf,by simp⟩,by simp [Fin]⟩
 rw [hin] at cin
 cases hin2:inB by_ 1 1000000000
 ·rw [hin2] at cin2
  obtain ⟨tk⟩:=f
  dsimp only at *
  refine dJ (Z4 ccp cfo cin cin2) ?_
  exact ⟨(⟨tk⟩,1),⟨hf,by simp⟩,by simp [Fin]⟩
 rw [hin2] at cin2
 have hn:=cC hin
 have hby:=cC hin2
 have hno:decide (mA (fun t=>decide (t.bU=id)) f.aF<0)=!cJ f id:=nS _ _
 cases hh:cJ f id
 ·rw [hh] at hno
  simp only [Bool.not_false,decide_eq_true_eq] at hno
  generalize mA (fun t=>decide (t.bU=id)) f.aF=j at *
  obtain ⟨tk⟩:=f
  dsimp only at *
  have hno':(j<0)=True:=by simp [hno]
  refine cI hno' (Z5 ccp cfo cin cin2 cat) ?_
  exact ⟨(⟨tk⟩,2),⟨hf,by simp⟩,by simp [Fin]⟩
 obtain ⟨k,x,e1,hx,hxi,hfd⟩:=vW (p:=fun t:aO=>decide (t.bU=id)) (l:=f.aF) hh
 rw [e1] at cat
 have htb:=((fF f).1 hb).2.1 x (List.mem_of_getElem? hx)
 obtain ⟨t1,t2,t3,t4,t5⟩:=aLh htb.1
 have hkl:k<f.aF.length:=(List.getElem?_eq_some_iff.1 hx).1
 have hfs:∀ u:Int,tP ⟨f.aF.set k { x with bM:=u }⟩:=fun u=>⟨by simpa using hf.1,fun t ht=>by
  rcases List.mem_or_eq_of_mem_set ht with ht|rfl
  ·exact hf.2 t ht
  ·exact hf.2 x (List.mem_of_getElem? hx)⟩
 have cov:=cov x
 clear e1 hfd hno hh hin hin2 htb hxi
 have key:∀ e:Int,x.aZ+1<=e->e<=1000000000->(x.cQ=0\/e<=x.cQ)->aT8 f ⟨f.aF.set k { x with bM:=e }⟩:=fun e h1 h2 h3=>⟨k,x,e,hx,h1,h2,h3,rfl⟩
 have hw:IntKind.i64.wrap (now+by_)=now+by_:=aA (by omega) (by omega)
 obtain ⟨x1,x2,x3,x4,x5,x6,x7⟩:=x
 dsimp only at *
 generalize kX x5 now=bo at cov
 have hxr:∀ u:Int,(bS f.aF).set k [.int .i64 x1,.int .i64 x2,.slc 1 (aN x3),.int .i64 x4,.int .i64 u,.int .i64 x6,.int .i64 x7]=bS (f.aF.set k ⟨x1,x2,x3,x4,u,x6,x7⟩):=fun u=>aC9 f.aF k ⟨x1,x2,x3,x4,u,x6,x7⟩
 obtain ⟨tk⟩:=f
 dsimp only at *
 cases bo
 rotate_left
 ·refine cI hx (Z6 ccp cfo cin cin2 cat cov) ?_
  exact ⟨(⟨tk⟩,3),⟨hf,by simp⟩,by simp [Fin]⟩
 by_cases hm:now<x4
 ·have hm':(now<x4)=True:=by simp [hm]
  refine cI (Y2 hx hm') (Z6 ccp cfo cin cin2 cat cov) ?_
  exact ⟨(⟨tk⟩,3),⟨hf,by simp⟩,by simp [Fin]⟩
 have hm':(now<x4)=False:=by simp [hm]
 by_cases h6:x6=0
 ·have h6':(x6=0)=True:=by simp [h6]
  by_cases h7:1000000000<now+by_
  ·have h7':(1000000000<now+by_)=True:=by simp [h7]
   refine cI (Y5 hx hm' h6' h7' hw) (Z6 ccp cfo cin cin2 cat cov) ?_
   exact ⟨(⟨tk⟩,4),⟨hf,by simp⟩,by simp [Fin]⟩
  ·have h7':(1000000000<now+by_)=False:=by simp [h7]
   refine cI (Y5 hx hm' h6' h7' hw) (Z6 ccp cfo cin cin2 cat cov) ?_
   exact ⟨(⟨tk.set k ⟨x1,x2,x3,x4,now+by_,x6,x7⟩⟩,0),⟨hfs _,fun _=>key _ (by omega) (by omega) (.inl h6)⟩,by simp [Fin,hxr]⟩
 have h6':(x6=0)=False:=by simp [h6]
 by_cases h8:x6<now+by_
 ·have h8':(x6<now+by_)=True:=by simp [h8]
  by_cases h7:1000000000<x6
  ·have h7':(1000000000<x6)=True:=by simp [h7]
   refine cI (Y6 hx hm' h6' h7' h8' hw) (Z6 ccp cfo cin cin2 cat cov) ?_
   exact ⟨(⟨tk⟩,4),⟨hf,by simp⟩,by simp [Fin]⟩
  ·have h7':(1000000000<x6)=False:=by simp [h7]
   refine cI (Y6 hx hm' h6' h7' h8' hw) (Z6 ccp cfo cin cin2 cat cov) ?_
   exact ⟨(⟨tk.set k ⟨x1,x2,x3,x4,x6,x6,x7⟩⟩,0),⟨hfs _,fun _=>key _ (by omega) (by omega) (.inr (by omega))⟩,by simp [Fin,hxr]⟩
 ·have h8':(x6<now+by_)=False:=by simp [h8]
  by_cases h7:1000000000<now+by_
  ·have h7':(1000000000<now+by_)=True:=by simp [h7]
   refine cI (Y6 hx hm' h6' h7' h8' hw) (Z6 ccp cfo cin cin2 cat cov) ?_
   exact ⟨(⟨tk⟩,4),⟨hf,by simp⟩,by simp [Fin]⟩
  ·have h7':(1000000000<now+by_)=False:=by simp [h7]
   refine cI (Y6 hx hm' h6' h7' h8' hw) (Z6 ccp cfo cin cin2 cat cov) ?_
   exact ⟨(⟨tk.set k ⟨x1,x2,x3,x4,now+by_,x6,x7⟩⟩,0),⟨hfs _,fun _=>key _ (by omega) (by omega) (.inr (by omega))⟩,by simp [Fin,hxr]⟩
theorem aCb (l:List cW):∀ row,row∈cM l->∀ d,d∈row->nG 1 d:=by
 intro row h d hd
 simp only [cM,List.mem_map] at h
 obtain ⟨x,_,rfl⟩:=h
 simp only [cW.row,List.mem_cons,List.not_mem_nil,or_false] at hd
 rcases hd with rfl|rfl
 ·trivial
 ·exact pO x.nU
theorem aBA (p:cW) (hf:aNa p):aE PP GG 77 [.agg p.c] (.agg p.o) [none]:=by
 refine cv Tryz.func77 [.agg p.o] ?_
 obtain ⟨nm,a⟩:=p
 obtain ⟨-,h2,-⟩:=hf
 dsimp only at h2 ⊢
 refine lQ ?_
 refine jS 3 1 rfl rfl rfl ?_
 refine lQ ?_
 refine bQ (fun n st=>∃ i:Nat,n=a.length-i/\i<=a.length ∧
  st=⟨[],[(1,.ptr 0 0),(2,.ptr 1 0),(3,.ptr 2 0),(4,.d (.int .i64 i))],[(0,.box [.d (.str nm),.d (.slc 2 (gM a))]),(1,.box [.d (.str []),.nil 0 2]),(2,.box [.d (.str nm),.sl 3]),(3,.arr 0 0 2 (gM (a.take i)))],4⟩) _ ⟨0,rfl,by omega,?_⟩ ?_
 ·exact iR @gM.eq_1
 rintro n st ⟨i,rfl,hi,rfl⟩
 by_cases hlt:i<a.length
 rotate_left
 ·have hie:i=a.length:=by omega
  subst hie
  rw [List.take_length]
  exact oI
 have ha:=List.getElem?_eq_getElem hlt
 have hsc:∀ x,a[i]?=some x->gM (a.take (i+1))=gM (a.take i)++[x.row]:=fun x hx=>by rw [List.take_add_one,hx];simp [gM]
 have hlen:(gM (a.take i)).length<=i:=by rw [aMq,List.length_take];omega
 have hir:=pO (a.take i)
 have hsc:=hsc _ ha
 generalize a[i]=x at ha hsc
 generalize gM (a.take i)=L at *
 refine iK (Y2 ha @aJ.eq_1) ?_
 refine ⟨a.length-(i+1),by omega,i+1,rfl,hlt,?_⟩
 rw [hsc]
 refine kT ?_
 exact aA (by omega) (by omega)
theorem aEw (ps:List cW) (hl:ps.length<=4096) (hf:∀ p,p∈ps->aNa p):∃ b:Bool,True/\aE PP GG 75 [.d (.slc 2 (cM ps))] (.d (.bool b)) [none]:=by
 refine cvD Tryz.func75 (α:=Bool) 1 _ (fun b=>[.d (.bool b)]) _ (fun _=>rfl) ?_
 refine aPI ?_ ?_
 ·exact ⟨false,trivial,by simp [Fin]⟩
 refine fG (fun n st=>∃ i:Nat,n=ps.length-i/\i<=ps.length/\st=⟨[],[(0,.d (.slc 2 (cM ps))),(3,.d (.int .i64 i))],[],0⟩) _ ⟨0,rfl,by omega,?_⟩ ?_
 ·exact eI
 rintro n st ⟨i,rfl,hi,rfl⟩
 by_cases hlt:i<ps.length
 rotate_left
 ·have hie:i=ps.length:=by omega
  subst hie
  refine lH ?_
  exact ⟨true,trivial,by simp [Fin]⟩
 have ha:=List.getElem?_eq_getElem hlt
 have hm:=hf _ (List.getElem_mem hlt)
 generalize ps[i]=x at ha hm
 have hw:IntKind.i64.wrap ((i:Int)+1)=(i:Int)+1:=aA (by omega) (by omega)
 obtain ⟨b1,-,c1⟩:=tU x hm
 cases b1
 ·refine cI ha (Z1 c1) ?_
  exact ⟨false,trivial,by simp [Fin]⟩
 by_cases h0:0<i
 ·have h0':((0:Int)<(i:Int))=True:=by simp;omega
  obtain ⟨j,hj⟩:∃ j,i=j+1:=⟨i-1,by omega⟩
  have hwj:IntKind.i64.wrap ((i:Int)-1)=(j:Int):=by rw [aA (by omega) (by omega)];omega
  have hq:=List.getElem?_eq_getElem (show j<ps.length by omega)
  have hjl:j<ps.length:=by omega
  generalize ps[j]=q at hq
  refine aRE (Y4 ha h0' hwj hq) (Z1 c1) ?_ ?_
  ·exact ⟨false,trivial,by simp [Fin]⟩
  ·refine ⟨ps.length-(i+1),by omega,i+1,rfl,hlt,?_⟩
   exact dL hw
 ·have h0':((0:Int)<(i:Int))=False:=by simp;omega
  refine cI (Y2 ha h0') (Z1 c1) ?_
  refine ⟨ps.length-(i+1),by omega,i+1,rfl,hlt,?_⟩
  exact dL hw
theorem aLa (f:bK) (id:Int) (ps:List cW) (hf:tP f) (hl:ps.length<=4096) (hp:∀ p,p∈ps->aNa p):∃ r:List cW×Bool,(r.1.length<=4096/\∀ p,p∈r.1->p∈ps) ∧
  aE PP GG 58 [.agg f.c,.d (.int .i64 id),.d (.slc 2 (cM ps))] (.tup [.own 1 2 (cM r.1),.d (.bool r.2)]) [none,none,none]:=by
 refine cvD Tryz.func58 (α:=List cW×Bool) 2 _ (fun r=>[.own 1 2 (cM r.1),.d (.bool r.2)]) _ (fun _=>rfl) ?_
 have cf:=kV f id hf
 obtain ⟨b,-,cp⟩:=aEw ps hl hp
 have hT:(jF f id).eT.length<=281474976710656:=by
  unfold jF
  split
  ·cases h:f.aF.find? (fun t=>decide (t.bU=id)) with
   |none=>simp [aFI]
   |some t=>have:=(hf.2 t (List.mem_of_find?_eq_some h)).1;simp;omega
  ·simp [aFI]
 generalize jF f id=t at *
 generalize (bR f && cJ f id)=ok at *
 have chs:=fun s=>tX t.eT s hT
 have e0:cM []=[]:=rfl
 have hi1:=cD t.eT
 cases ok
 ·refine dJ (Z1 cf) ?_
  exact ⟨([],false),⟨by simp,by simp⟩,by simp [Fin,e0]⟩
 cases b
 ·refine dJ (Z2 cf cp) ?_
  exact ⟨([],false),⟨by simp,by simp⟩,by simp [Fin,e0]⟩
 obtain ⟨t1,t2,t3,t4,t5,t6,t7⟩:=t
 dsimp only at *
 refine dJ (Z2 cf cp) ?_
 refine fG (fun n st=>∃ i:Nat,n=ps.length-i/\i<=ps.length/\∃ L:List cW,L.length<=i/\(∀ p,p∈L->p∈ps) ∧
  st=⟨[],[(2,.d (.slc 2 (cM ps))),(8,.sl 0),(9,.ptr 1 0),(11,.d (.int .i64 i))],[(0,.arr 0 1 2 (cM L)),(1,.box [.d (.int .i64 t1),.d (.int .i64 t2),.sl 2,.d (.int .i64 t4),.d (.int .i64 t5),.d (.int .i64 t6),.d (.int .i64 t7)]),(2,.arr 0 0 1 (aN t3))],3⟩) _ ⟨0,rfl,by omega,[],by simp,by simp,?_⟩ ?_
 ·exact dL e0
 clear cf cp
 rintro n st ⟨i,rfl,hi,L,hL,hLp,rfl⟩
 have hiL:=aCb L
 by_cases hlt:i<ps.length
 rotate_left
 ·have hie:i=ps.length:=by omega
  subst hie
  refine lH ?_
  exact ⟨(L,true),⟨by dsimp only;omega,hLp⟩,by simp [Fin]⟩
 have ha:=List.getElem?_eq_getElem hlt
 have hm:=List.getElem_mem hlt
 generalize ps[i]=x at ha hm
 have hw:IntKind.i64.wrap ((i:Int)+1)=(i:Int)+1:=aA (by omega) (by omega)
 have cc:=aBA x (hp x hm)
 have ch:=chs x.aG
 generalize t3.contains x.aG=b at ch
 have hir:=pO x.nU
 cases b
 ·refine cI ha (Z1 ch) ?_
  refine ⟨ps.length-(i+1),by omega,i+1,rfl,hlt,L,by omega,hLp,?_⟩
  exact dL hw
 ·refine cI (Y2 ha @aJ.eq_1) (Z2 ch cc) ?_
  refine ⟨ps.length-(i+1),by omega,i+1,rfl,hlt,L++[x],by simp;omega,fun p hq=>?_,?_⟩
  ·rcases List.mem_append.1 hq with hq|hq
   ·exact hLp p hq
   ·simp at hq;subst hq;exact hm
  ·exact dL (Y2 hw @cM.eq_1)
@[simp] abbrev aT.q (x:aT):List C:=[.d (.int .i64 x.aC.cN),.d (.int .i64 x.aC.bG),.d (.int .i64 x.aC.eQ),.own 1 7 (bS x.aC.aD.aF),.own 0 6 (bC x.aC.aV.aL),.own 0 2 (cY x.aC.bL.aY),.d (.int .i64 x.aC.bL.fU),.d (.int .i64 x.aC.bL.aZ),.own 0 3 (fP x.aC.bJ.bX),.own 0 2 (dK x.aC.bD),.d (.slc 2 (cM x.gK)),.d (.slc 4 (jM x.kA)),.d (.slc 3 (bI x.mB.gF)),.d (.int .i64 x.fZ.iP),.d (.int .i64 x.fZ.bG),.own 1 6 (gX x.fZ.cP),.d (.int .i64 x.gC.iQ),.d (.int .i64 x.gC.qV),.own 0 7 (eK x.gC.dM),.own 0 1 (aB x.gA.nK),.own 0 1 (aB x.gA.iF),.d (.int .i64 x.iP)]
abbrev rsp (c n:Int) (nm dt:List UInt8) (l:List (List UInt8)):List C:=[.d (.int .i64 c),.d (.int .i64 n),.d (.str nm),.d (.str dt),.own 0 1 (aN l)]
theorem gD (s:aT) (code:Int):aE PP GG 41 [.agg (aT.q s),.d (.int .i64 code)] (.tup [.agg (aT.q s),.agg (rsp code 0 [] [] [])]) [none,none]:=by
 refine cv Tryz.func41 [.agg (aT.q s),.agg (rsp code 0 [] [] [])] ?_
 obtain ⟨⟨now,next,lost,⟨tk⟩,⟨bk⟩,⟨us,ff,fm⟩,⟨jb⟩,ow⟩,ps,rl,⟨en⟩,⟨rk,rn,rw⟩,⟨cf,cs,cn⟩,⟨ds,dl⟩,key⟩:=s
 have e0:aN []=[]:=rfl
 exact jI e0
structure Zed (w:aP):Prop where
 now:w.cN=0
 next:w.bG=0
 tk:w.aD.aF=[]
 bk:w.aV.aL=[]
 us:w.bL.aY=[]
 md:w.bL.aZ=0
 jb:w.bJ.bX=[]
 ow:w.bD=[]
def WI (w:aP):Prop:=gH w\/Zed w
theorem WI.fit {w:aP} (h:WI w):aDO w:=by
 rcases h with h|h
 ·exact fT h.ok
 ·refine ⟨⟨by rw [h.tk];simp,fun t ht=>by rw [h.tk] at ht;simp at ht⟩,⟨by rw [h.bk];simp,fun t ht=>by rw [h.bk] at ht;simp at ht⟩,⟨by rw [h.us];simp,fun t ht=>by rw [h.us] at ht;simp at ht⟩,⟨by rw [h.jb];simp,fun t ht=>by rw [h.jb] at ht;simp at ht⟩,by rw [h.ow];simp,fun t ht=>by rw [h.ow] at ht;simp at ht⟩
theorem WI.fo {w:aP} (h:WI w):bR w.aD=true:=by
 rcases h with h|h
 ·exact ((cS w).1 h.ok).fo
 ·rw [fF,h.tk];simp
theorem WI.now {w:aP} (h:WI w):0<=w.cN/\w.cN<=1000000000:=by
 rcases h with h|h
 ·exact ((cS w).1 h.ok).now
 ·rw [h.now];omega
theorem Zed.bad {w:aP} (h:Zed w):eO w=false:=by
 cases hb:eO w with
 |false=>rfl
 |true=>have:=((cS w).1 hb).next;rw [h.next] at this;omega
theorem WI.pt {w:aP} (h:WI w) (now:Int):WI (ptW w now)/\(ptW w now).bL.aZ=w.bL.aZ:=by
 refine ⟨?_,aP7 w now⟩
 rcases h with h|h
 ·exact .inl (aOp h now)
 ·have hb:ptB w now=false:=by unfold ptB;rw [Zed.bad h];rfl
  have e:ptW w now=w:=by unfold ptW;rw [hb];rfl
  rw [e];exact .inr h
structure dQ (n:Nat) (s:aT):Prop where
 lv:WI s.aC
 md:s.aC.bL.aZ<=n
 pl:s.gK.length<=n+1
 pf:∀ p,p∈s.gK->sG p
 rl:s.kA.length<=n
 rf:∀ r,r∈s.kA->r.aG.length<=512/\r.gO.length<=512
 en:rH n s.mB.gF
 rk:s.fZ.cost<=n*1200
 ch:s.gC.cost<=n*1000
 co:s.gC.ok
 dk:s.gA.nK.length+s.gA.iF.length<=40000
 ky:cH s.iP
theorem dQ.up {n m:Nat} {s:aT} (h:dQ n s) (hm:n<=m):dQ m s:=by
 obtain ⟨h1,h2,h3,h4,h5,h6,h7,h8,h9,h10,h11,h12⟩:=h
 exact ⟨h1,by omega,by omega,h4,by omega,h6,rH.mono h7 hm,by omega,by omega,h10,h11,h12⟩
def iB (key:Int):aT:=⟨⟨0,2,0,⟨[⟨1,0,[[100,101,118],[111,112,115],[114,111,111,116],[119,101,98]],0,0,0,0⟩]⟩,⟨[]⟩,⟨[],0,0⟩,⟨[]⟩,[]⟩,[⟨[114,111,111,116],[⟨[42],31⟩]⟩],[],⟨[]⟩,⟨key,1,[]⟩,⟨0,key,[]⟩,⟨[],[]⟩,key⟩
theorem aIB:gH (iB 0).aC:=by
 have hw:eO (iB 0).aC=true:=by decide +kernel
 exact ⟨hw,by decide +kernel,aKu.ni,fun l hl=>by simp [iB] at hl⟩
theorem aIA {key:Int} (hk:cH key):dQ 0 (iB key):=
 ⟨.inl aIB,by simp [iB],by simp [iB],fun p hp=>by
  simp [iB] at hp;subst hp
  exact ⟨by simp,by simp,fun r hr=>by simp at hr;subst hr;simp⟩,by simp [iB],by simp [iB],⟨by simp [iB],by simp [iB]⟩,by simp [iB,dV.cost,cX],by simp [iB,dO.cost,cX],⟨by simp [iB,cH],hk,by simp [iB],by simp [iB]⟩,by simp [iB],hk⟩
def kF:aT:=⟨⟨0,0,0,⟨[]⟩,⟨[]⟩,⟨[],0,0⟩,⟨[]⟩,[]⟩,[],[],⟨[]⟩,⟨0,0,[]⟩,⟨0,0,[]⟩,⟨[],[]⟩,0⟩
theorem aPA:dQ 0 kF:=
 ⟨.inr ⟨rfl,rfl,rfl,rfl,rfl,rfl,rfl,rfl⟩,by simp [kF],by simp [kF],by simp [kF],by simp [kF],by simp [kF],⟨by simp [kF],by simp [kF]⟩,by simp [kF,dV.cost,cX],by simp [kF,dO.cost,cX],⟨by simp [kF,cH],by simp [kF,cH],by simp [kF],by simp [kF]⟩,by simp [kF],by simp [kF,cH]⟩
theorem aSW {P:Program} {vl:List Nat} {nt:Nat×List Nat} {V:FuncId->List C->C->List (Option C)->Prop} {st:St} {Kn:St->Prop} {Ke:Nat->St->Prop} {Kr:St->Prop} {ac:aH} (live:List Nat) {s1:St} (e:gc live st=s1) (h:W P vl nt V ac s1 Kn Ke Kr):W P vl nt V ac st Kn Ke Kr:=aSY live (by rw [e];exact h)
theorem aB7 (key:Int):aE PP GG 19 [.d (.int .i64 key)] (.agg (aT.q (iB key))) [none]:=by
 refine cv Tryz.func19 [.agg (aT.q (iB key))] ?_
 have eE:bI []=[]:=rfl
 have eR:jM []=[]:=rfl
 refine u_1 ?_
 refine u_1 ?_
 refine u_1 ?_
 refine mL @aJ.eq_1 ?_
 refine mL @aJ.eq_1 ?_
 refine aSW [0,2,3] (s1:=⟨[],[(0,.d (.int .i64 key)),(2,.ptr 0 0),(3,.ptr 1 0)],[(0,.box [.d (.int .i64 0),.d (.int .i64 0),.d (.int .i64 0),.nil 1 7,.nil 0 6,.nil 0 2,.d (.int .i64 0),.d (.int .i64 0),.nil 0 3,.nil 0 2,.nil 1 2,.nil 0 4,.nil 2 3,.d (.int .i64 0),.d (.int .i64 0),.nil 1 6,.d (.int .i64 0),.d (.int .i64 0),.nil 0 7,.nil 0 1,.nil 0 1,.d (.int .i64 0)]),
  (1,.box [.d (.int .i64 0),.d (.int .i64 2),.d (.int .i64 0),.sl 2,.nil 0 6,.nil 0 2,.d (.int .i64 0),.d (.int .i64 0),.nil 0 3,.nil 0 2,.sl 3,.nil 0 4,.nil 2 3,.d (.int .i64 0),.d (.int .i64 0),.nil 1 6,.d (.int .i64 0),.d (.int .i64 0),.nil 0 7,.nil 0 1,.nil 0 1,.d (.int .i64 key)]),
  (2,.arr 0 1 7 (bS (iB key).aC.aD.aF)),(3,.arr 0 1 2 (cM (iB key).gK))],4⟩) ?_ ?_
 ·exact iR (Y5 @bS.eq_1 @cM.eq_1 @gM.eq_1 @iB.eq_1 @aN.eq_1)
 refine aIg 1 10 rfl rfl rfl ?_
 refine aK7 1 11 rfl rfl ?_
 refine aIg 1 11 rfl rfl rfl ?_
 refine aK7 1 12 rfl rfl ?_
 refine aIg 1 12 rfl rfl rfl ?_
 repeat' (first|refine aK ?_|refine aU ?_|refine bE ?_|refine dN ?_|refine cG rfl ?_|refine cU rfl ?_|((first|refine qG fun K hK=>?_|refine nE fun K hK=>?_|refine sN ?_);simp [Fin,bS,bC,cY,fP,dK,cM,jM,bI,gX,eK,aB,aN,gM])|(with_reducible refine hK _ ?_;clear hK K)|(with_reducible refine aM (fun h=>?_) (fun h=>?_)<;>first|(exfalso;simp at h;first|done|omega|contradiction)|((try simp at h);simp [bS,bC,cY,fP,dK,cM,jM,bI,gX,eK,aB,aN,gM]))|with_reducible refine And.intro ?_ ?_|with_reducible exact aS rfl|with_reducible assumption|(refine aR rfl (fun h=>?_) (fun h=>?_)<;>first|(exfalso;simp at h;first|done|omega|contradiction)|(exfalso;simp_all;done)|(try simp at h))|omega)
 all_goals rfl
theorem aJe (l:List Int) (hl:l.length<=4096) (hi64:∀ x,x∈l->cH x):∃ r:List (List UInt8),True/\aE PP GG 96 [.d (.slc 1 (bB l))] (.own 0 1 (aN r)) [none]:=by
 refine cvD Tryz.func96 (α:=List (List UInt8)) 1 _ (fun r=>[.own 0 1 (aN r)]) _ (fun _=>rfl) ?_
 refine lH ?_
 refine fG (fun n st=>∃ i:Nat,n=l.length-i/\i<=l.length/\∃ L:List (List UInt8),L.length<=i ∧
  st=⟨[],[(0,.d (.slc 1 (bB l))),(3,.sl 0),(4,.d (.int .i64 i))],[(0,.arr 0 0 1 (aN L))],1⟩) _ ⟨0,rfl,by omega,[],by simp,?_⟩ ?_
 ·exact dL @aN.eq_1
 rintro n st ⟨i,rfl,hi,L,hL,rfl⟩
 have hli:=cD L
 by_cases hlt:i<l.length
 rotate_left
 ·have hie:i=l.length:=by omega
  subst hie
  refine iD @fX ?_
  exact ⟨L,trivial,by simp [Fin]⟩
 have ha:=List.getElem?_eq_getElem hlt
 have hm:=hi64 _ (List.getElem_mem hlt)
 generalize l[i]=x at ha hm
 have hw:IntKind.i64.wrap ((i:Int)+1)=(i:Int)+1:=aA (by omega) (by omega)
 have cn:=mG x hm
 generalize Lib.itoa x=t at cn
 refine cI (Y4 @fX ha @bO @aJ.eq_1) (Z1 cn) ?_
 refine ⟨l.length-(i+1),by omega,i+1,rfl,hlt,L++[t],by simp;omega,?_⟩
 exact dL (Y2 hw @aN.eq_1)
theorem aJd (ps:List cW) (p:cW) (hl:ps.length<=4096):∃ r:List cW,(r.length<=ps.length+1/\∀ x,x∈r->x=p\/x∈ps)/\aE PP GG 93 [.d (.slc 2 (cM ps)),.agg p.c] (.d (.slc 2 (cM r))) [none,none]:=by
 refine cvD Tryz.func93 (α:=List cW) 1 _ (fun r=>[.d (.slc 2 (cM r))]) _ (fun _=>rfl) ?_
 obtain ⟨pn,pr⟩:=p
 have e0:cM []=[]:=rfl
 refine iD e0 ?_
 refine fG (fun n st=>∃ i:Nat,n=ps.length-i/\i<=ps.length/\∃ (L:List cW) (b:Bool),L.length<=i+1/\(b=false->L.length<=i)/\(∀ x,x∈L->x=⟨pn,pr⟩\/x∈ps)/\∃ kk:Nat,(kk=if L=[] then 1 else 0) ∧
  st=⟨[],[(0,.d (.slc 2 (cM ps))),(3,.ptr 0 0),(5,.sl 1),(6,.d (.bool b)),(7,.d (.int .i64 i))],[(0,.box [.d (.str pn),.d (.slc 2 (gM pr))]),(1,.arr 0 kk 2 (cM L))],2⟩) _ ⟨0,rfl,by omega,[],false,by simp,by simp,by simp,1,by simp,?_⟩ ?_
 ·exact dL e0
 rintro n st ⟨i,rfl,hi,L,b,h1,h2,h3,kk,hkk,rfl⟩
 have h3p:∀ M:List cW,(∀ x,x∈M->x=⟨pn,pr⟩\/x∈ps)->∀ x,x∈M++[⟨pn,pr⟩]->x=⟨pn,pr⟩\/x∈ps:=fun M h x hx=>by
  rcases List.mem_append.1 hx with hx|hx
  ·exact h x hx
  ·simp at hx;exact .inl hx
 by_cases hlt:i<ps.length
 rotate_left
 ·have hie:i=ps.length:=by omega
  subst hie
  cases b
  ·have h2:=h2 rfl
   by_cases hLe:L=[]
   ·subst hLe
    simp only [if_pos] at hkk
    subst hkk
    refine iD (Y2 @aJ.eq_1 e0) ?_
    exact ⟨[⟨pn,pr⟩],⟨by simp,h3p [] (by simp)⟩,by simp [Fin,cM]⟩
   ·rw [if_neg hLe] at hkk
    subst hkk
    refine iD (Y2 @aJ.eq_1 e0) ?_
    exact ⟨L++[⟨pn,pr⟩],⟨by simp;omega,h3p _ h3⟩,by simp [Fin,cM]⟩
  ·refine lH ?_
   exact ⟨L,⟨h1,h3⟩,by simp [Fin]⟩
 have ha:=List.getElem?_eq_getElem hlt
 have hmem:=List.getElem_mem hlt
 generalize ps[i]=x at ha hmem
 have hw:IntKind.i64.wrap ((i:Int)+1)=(i:Int)+1:=aA (by omega) (by omega)
 have h3x:∀ M:List cW,(∀ x,x∈M->x=⟨pn,pr⟩\/x∈ps)->∀ y,y∈M++[x]->y=⟨pn,pr⟩\/y∈ps:=fun M h y hy=>by
  rcases List.mem_append.1 hy with hy|hy
  ·exact h y hy
  ·simp at hy;subst hy;exact .inr hmem
 obtain ⟨xn,xr⟩:=x
 by_cases hne:xn=pn
 ·have hne':(xn=pn)=True:=by simp [hne]
  by_cases hLe:L=[]
  ·subst hLe
   simp only [if_pos] at hkk
   subst hkk
   cases b
   ·cases hq:(Go.Op.bytesLess pn xn || pn==xn)
    ·exfalso;rw [hne] at hq;simp at hq
    ·refine iD (Y5 ha @aJ.eq_1 e0 hq hne') ?_
     refine ⟨ps.length-(i+1),by omega,i+1,rfl,hlt,[⟨pn,pr⟩],true,by simp,by simp,h3p [] (by simp),0,by simp,?_⟩
     exact dL (Y2 hw @cM.eq_1)
   ·refine iD (Y4 ha @aJ.eq_1 e0 hne') ?_
    refine ⟨ps.length-(i+1),by omega,i+1,rfl,hlt,[],true,by simp,by simp,by simp,1,by simp,?_⟩
    exact dL (Y2 hw e0)
  ·rw [if_neg hLe] at hkk
   subst hkk
   cases b
   ·have h2:=h2 rfl
    cases hq:(Go.Op.bytesLess pn xn || pn==xn)
    ·exfalso;rw [hne] at hq;simp at hq
    ·refine iD (Y5 ha @aJ.eq_1 e0 hq hne') ?_
     refine ⟨ps.length-(i+1),by omega,i+1,rfl,hlt,L++[⟨pn,pr⟩],true,by simp;omega,by simp,h3p _ h3,0,by simp,?_⟩
     exact dL (Y2 hw @cM.eq_1)
   ·refine iD (Y4 ha @aJ.eq_1 e0 hne') ?_
    refine ⟨ps.length-(i+1),by omega,i+1,rfl,hlt,L,true,by omega,by simp,h3,0,by simp [hLe],?_⟩
    exact dL hw
 ·have hne':(xn=pn)=False:=by simp [hne]
  by_cases hLe:L=[]
  ·subst hLe
   simp only [if_pos] at hkk
   subst hkk
   cases b
   ·cases hq:(Go.Op.bytesLess pn xn || pn==xn)
    ·refine iD (Y5 ha @aJ.eq_1 e0 hq hne') ?_
     refine ⟨ps.length-(i+1),by omega,i+1,rfl,hlt,[⟨xn,xr⟩],false,by simp,by simp,h3x [] (by simp),0,by simp,?_⟩
     exact dL (Y2 hw @cM.eq_1)
    ·refine iD (Y5 ha @aJ.eq_1 e0 hq hne') ?_
     refine ⟨ps.length-(i+1),by omega,i+1,rfl,hlt,[⟨pn,pr⟩]++[⟨xn,xr⟩],true,by simp,by simp,h3x _ (by simp),0,by simp,?_⟩
     exact dL (Y2 hw @cM.eq_1)
   ·refine iD (Y4 ha @aJ.eq_1 e0 hne') ?_
    refine ⟨ps.length-(i+1),by omega,i+1,rfl,hlt,[⟨xn,xr⟩],true,by simp,by simp,h3x [] (by simp),0,by simp,?_⟩
    exact dL (Y2 hw @cM.eq_1)
  ·rw [if_neg hLe] at hkk
   subst hkk
   cases b
   ·have h2:=h2 rfl
    cases hq:(Go.Op.bytesLess pn xn || pn==xn)
    ·refine iD (Y5 ha @aJ.eq_1 e0 hq hne') ?_
     refine ⟨ps.length-(i+1),by omega,i+1,rfl,hlt,L++[⟨xn,xr⟩],false,by simp;omega,by simp;omega,h3x _ h3,0,by simp,?_⟩
     exact dL (Y2 hw @cM.eq_1)
    ·refine iD (Y5 ha @aJ.eq_1 e0 hq hne') ?_
     refine ⟨ps.length-(i+1),by omega,i+1,rfl,hlt,(L++[⟨pn,pr⟩])++[⟨xn,xr⟩],true,by simp;omega,by simp,h3x _ (h3p _ h3),0,by simp,?_⟩
     exact dL (Y2 hw @cM.eq_1)
   ·refine iD (Y4 ha @aJ.eq_1 e0 hne') ?_
    refine ⟨ps.length-(i+1),by omega,i+1,rfl,hlt,L++[⟨xn,xr⟩],true,by simp;omega,by simp,h3x _ h3,0,by simp,?_⟩
    exact dL (Y2 hw @cM.eq_1)
theorem aMN (ps:List eS) (p:eS) (hl:ps.length<=4096):∃ r:List eS,(r.length<=ps.length+1/\∀ x,x∈r->x=p\/x∈ps)/\aE PP GG 103 [.d (.slc 4 (jM ps)),.agg p.c] (.d (.slc 4 (jM r))) [none,none]:=by
 refine cvD Tryz.func103 (α:=List eS) 1 _ (fun r=>[.d (.slc 4 (jM r))]) _ (fun _=>rfl) ?_
 obtain ⟨pn,pr,p3,p4⟩:=p
 have e0:jM []=[]:=rfl
 refine iD e0 ?_
 refine fG (fun n st=>∃ i:Nat,n=ps.length-i/\i<=ps.length/\∃ (L:List eS) (b:Bool),L.length<=i+1/\(b=false->L.length<=i)/\(∀ x,x∈L->x=⟨pn,pr,p3,p4⟩\/x∈ps) ∧
  st=⟨[],[(0,.d (.slc 4 (jM ps))),(3,.ptr 0 0),(5,.sl 1),(6,.d (.bool b)),(7,.d (.int .i64 i))],[(0,.box [.d (.str pn),.d (.str pr),.d (.int .i64 p3),.d (.int .i64 p4)]),(1,.arr 0 0 4 (jM L))],2⟩) _ ⟨0,rfl,by omega,[],false,by simp,by simp,by simp,?_⟩ ?_
 ·exact dL e0
 rintro n st ⟨i,rfl,hi,L,b,h1,h2,h3,rfl⟩
 have h3p:∀ M:List eS,(∀ x,x∈M->x=⟨pn,pr,p3,p4⟩\/x∈ps)->∀ x,x∈M++[⟨pn,pr,p3,p4⟩]->x=⟨pn,pr,p3,p4⟩\/x∈ps:=fun M h x hx=>by
  rcases List.mem_append.1 hx with hx|hx
  ·exact h x hx
  ·simp at hx;exact .inl hx
 by_cases hlt:i<ps.length
 rotate_left
 ·have hie:i=ps.length:=by omega
  subst hie
  cases b
  ·have h2:=h2 rfl
   refine iD @aJ.eq_1 ?_
   exact ⟨L++[⟨pn,pr,p3,p4⟩],⟨by simp;omega,h3p _ h3⟩,by simp [Fin,jM]⟩
  ·refine lH ?_
   exact ⟨L,⟨h1,h3⟩,by simp [Fin]⟩
 have ha:=List.getElem?_eq_getElem hlt
 have hmem:=List.getElem_mem hlt
 generalize ps[i]=x at ha hmem
 have hw:IntKind.i64.wrap ((i:Int)+1)=(i:Int)+1:=aA (by omega) (by omega)
 have h3x:∀ M:List eS,(∀ x,x∈M->x=⟨pn,pr,p3,p4⟩\/x∈ps)->∀ y,y∈M++[x]->y=⟨pn,pr,p3,p4⟩\/y∈ps:=fun M h y hy=>by
  rcases List.mem_append.1 hy with hy|hy
  ·exact h y hy
  ·simp at hy;subst hy;exact .inr hmem
 obtain ⟨xn,xr,x3,x4⟩:=x
 by_cases hne:xn=pn
 ·have hne':(xn=pn)=True:=by simp [hne]
  cases b
  ·have h2:=h2 rfl
   cases hq:(Go.Op.bytesLess pn xn || pn==xn)
   ·exfalso;rw [hne] at hq;simp at hq
   ·refine iD (Y4 ha @aJ.eq_1 hq hne') ?_
    refine ⟨ps.length-(i+1),by omega,i+1,rfl,hlt,L++[⟨pn,pr,p3,p4⟩],true,by simp;omega,by simp,h3p _ h3,?_⟩
    exact dL (Y2 hw @jM.eq_1)
  ·refine iD (Y3 ha @aJ.eq_1 hne') ?_
   refine ⟨ps.length-(i+1),by omega,i+1,rfl,hlt,L,true,by omega,by simp,h3,?_⟩
   exact dL hw
 ·have hne':(xn=pn)=False:=by simp [hne]
  cases b
  ·have h2:=h2 rfl
   cases hq:(Go.Op.bytesLess pn xn || pn==xn)
   ·refine iD (Y4 ha @aJ.eq_1 hq hne') ?_
    refine ⟨ps.length-(i+1),by omega,i+1,rfl,hlt,L++[⟨xn,xr,x3,x4⟩],false,by simp;omega,by simp;omega,h3x _ h3,?_⟩
    exact dL (Y2 hw @jM.eq_1)
   ·refine iD (Y4 ha @aJ.eq_1 hq hne') ?_
    refine ⟨ps.length-(i+1),by omega,i+1,rfl,hlt,(L++[⟨pn,pr,p3,p4⟩])++[⟨xn,xr,x3,x4⟩],true,by simp;omega,by simp,h3x _ (h3p _ h3),?_⟩
    exact dL (Y2 hw @jM.eq_1)
  ·refine iD (Y3 ha @aJ.eq_1 hne') ?_
   refine ⟨ps.length-(i+1),by omega,i+1,rfl,hlt,L++[⟨xn,xr,x3,x4⟩],true,by simp;omega,by simp,h3x _ h3,?_⟩
   exact dL (Y2 hw @jM.eq_1)
theorem fD (k t m:Int) (n p d:List UInt8) (hn:n.length<=512) (hp:p.length<=512):∃ r:Int×List UInt8,r.2.length<=n.length+p.length+12/\aE PP GG 57 [.agg (lU k t n p d m)] (.tup [.d (.int .i64 r.1),.d (.str r.2)]) [none]:=by
 refine cvD Tryz.func57 (α:=Int×List UInt8) 2 _ (fun r=>[.d (.int .i64 r.1),.d (.str r.2)]) _ (fun _=>rfl) ?_
 repeat' (first|refine lF ?_|refine gZ ?_|refine iG ?_|refine iA ?_|refine kE ?_|refine cG rfl ?_|refine cU rfl ?_|((first|refine jD fun K hK=>?_|refine gQ fun K hK=>?_);simp [Fin,jN])|(with_reducible refine hK _ ?_;clear hK K)|(with_reducible refine aM (fun h=>?_) (fun h=>?_)<;>first|(exfalso;simp at h;first|done|omega|contradiction)|((try simp at h);simp [jN]))|with_reducible refine And.intro ?_ ?_|with_reducible exact aS rfl|with_reducible assumption|(refine fH rfl (fun h=>?_) (fun h=>?_)<;>first|(exfalso;simp at h;first|done|omega|contradiction)|(exfalso;simp_all;done)|(try simp at h))|omega)
 all_goals (refine ⟨(_,_),?_,by simp [Fin];exact ⟨rfl,rfl⟩⟩;dsimp only;simp only [List.length_append,List.length_cons,List.length_nil];omega)
@[simp] abbrev aT.bx (x:aT) (n:Nat):List A:=[.d (.int .i64 x.aC.cN),.d (.int .i64 x.aC.bG),.d (.int .i64 x.aC.eQ),.sl n,.sl (n+1),.sl (n+2),.d (.int .i64 x.aC.bL.fU),.d (.int .i64 x.aC.bL.aZ),.sl (n+3),.sl (n+4),.d (.slc 2 (cM x.gK)),.d (.slc 4 (jM x.kA)),.d (.slc 3 (bI x.mB.gF)),.d (.int .i64 x.fZ.iP),.d (.int .i64 x.fZ.bG),.sl (n+5),.d (.int .i64 x.gC.iQ),.d (.int .i64 x.gC.qV),.sl (n+6),.sl (n+7),.sl (n+8),.d (.int .i64 x.iP)]
@[simp] abbrev aT.ob (x:aT) (n:Nat):List (Nat×O):=[(n,.arr 0 1 7 (bS x.aC.aD.aF)),(n+1,.arr 0 0 6 (bC x.aC.aV.aL)),(n+2,.arr 0 0 2 (cY x.aC.bL.aY)),(n+3,.arr 0 0 3 (fP x.aC.bJ.bX)),(n+4,.arr 0 0 2 (dK x.aC.bD)),(n+5,.arr 0 1 6 (gX x.fZ.cP)),(n+6,.arr 0 0 7 (eK x.gC.dM)),(n+7,.arr 0 0 1 (aB x.gA.nK)),(n+8,.arr 0 0 1 (aB x.gA.iF))]
abbrev zS:List A:=[.d (.int .i64 0),.d (.int .i64 0),.d (.int .i64 0),.nil 1 7,.nil 0 6,.nil 0 2,.d (.int .i64 0),.d (.int .i64 0),.nil 0 3,.nil 0 2,.nil 1 2,.nil 0 4,.nil 2 3,.d (.int .i64 0),.d (.int .i64 0),.nil 1 6,.d (.int .i64 0),.d (.int .i64 0),.nil 0 7,.nil 0 1,.nil 0 1,.d (.int .i64 0)]
theorem aJY {w:aP} {id:Int} {g:List Int} (h:gH w) (hg:∀ l,l∈w.aV.aL->cJ (fB w.aD (eN w.aD id)) l.dG=true\/g.contains l.dG=true):
  gH (iH { w with aD:=fB w.aD (eN w.aD id),aV:=iZ w.aV g } (lA w.aV g)):=by
 have hw:=(cS w).1 h.ok
 have hgo:eN w.aD id=(wo (fun t=>decide (t.bU=id)) w.aD.aF).2:=by unfold eN;rw [if_pos hw.fo]
 rw [hgo] at hg ⊢
 have hfo:=aDs hw.fo (fun t=>decide (t.bU=id))
 generalize (wo (fun t=>decide (t.bU=id)) w.aD.aF).2=G at *
 refine xD (now:=w.cN) (f:=fB w.aD G) (ls:=lA w.aV g) (fun l=>!g.contains l.dG) h hw.now hfo (fun t ht=>(List.mem_filter.1 ht).1) (fun l hl hp=>List.mem_filter.2 ⟨hl,by simpa using hp⟩) fun l hl hp=>?_
 rcases hg l hl with h1|h1
 ·exact h1
 ·rw [h1] at hp;cases hp
theorem aMM (w:aP) (s:aT) (id:Int) (old:aO) (h:gH w) (hs:s.aC={ w with aD:=fB w.aD (eN w.aD id) }):∃ w':aP,(gH w'/\w'.bL.aZ=w.bL.aZ) ∧
  aE PP GG 62 [.agg (aT.q s),.d (.int .i64 id),.agg old.o] (.agg (aT.q { s with aC:=w' })) [none,none,none]:=by
 refine cvD Tryz.func62 (α:=aP) 1 _ (fun w'=>[.agg (aT.q { s with aC:=w' })]) _ (fun _=>rfl) ?_
 have hw:=(cS w).1 h.ok
 have hfit:=fT h.ok
 have hul:=fun g hg=>aJY (id:=id) (g:=g) h hg
 have hbl:w.aV.aL.length<=150:=((oO w.aV).1 hw.bo).1
 have hfl:(fB w.aD (eN w.aD id)).aF.length<=120:=Nat.le_trans (List.length_filter_le _ _) ((fF w.aD).1 hw.fo).1
 have hhas:∀ x,cJ (fB w.aD (eN w.aD id)) x=((fB w.aD (eN w.aD id)).aF.map aO.bU).contains x:=by
  intro x
  unfold cJ
  rw [Bool.eq_iff_iff,List.any_eq_true,List.contains_iff_mem,List.mem_map]
  constructor
  ·rintro ⟨t,ht,e⟩;exact ⟨t,ht,of_decide_eq_true e⟩
  ·rintro ⟨t,ht,e⟩;exact ⟨t,ht,decide_eq_true e⟩
 have hlet:=fun b=>(aBx hfit h.ok (fB w.aD (eN w.aD id)) b).1
 obtain ⟨sw,ps,rl,en,rk,ch,dk,key⟩:=s
 dsimp only at hs
 subst hs
 generalize fB w.aD (eN w.aD id)=F at *
 obtain ⟨o1,o2,o3,o4,o5,o6,o7⟩:=old
 refine lH ?_
 refine fG (fun n st=>∃ i:Nat,n=F.aF.length-i/\i<=F.aF.length ∧
  st=⟨[],[(3,.ptr 0 0),(6,.ptr 1 0),(7,.sl 2),(8,.d (.int .i64 i))],[(0,.box (aT.bx (aT.mk { w with aD:=F } ps rl en rk ch dk key) 3)),(1,.box zS),(2,.arr 0 0 1 (bB ((F.aF.take i).map aO.bU)))]++aT.ob (aT.mk { w with aD:=F } ps rl en rk ch dk key) 3,12⟩) _ ⟨0,rfl,by omega,?_⟩ ?_
 ·exact dL @bB.eq_1
 rintro n st ⟨i,rfl,hi,rfl⟩
 by_cases hlt:i<F.aF.length
 ·have ha:=List.getElem?_eq_getElem hlt
  have hsc:∀ x,F.aF[i]?=some x->bB ((F.aF.take (i+1)).map aO.bU)=bB ((F.aF.take i).map aO.bU)++[[.int .i64 x.bU]]:=fun x hx=>by rw [List.take_add_one,hx];simp [bB]
  have hsc:=hsc _ ha
  have hlen:(bB ((F.aF.take i).map aO.bU)).length<=i:=by simp [bB,List.length_take];omega
  generalize F.aF[i]=x at ha hsc
  generalize bB ((F.aF.take i).map aO.bU)=L at *
  have hw1:IntKind.i64.wrap ((i:Int)+1)=(i:Int)+1:=aA (by omega) (by omega)
  obtain ⟨x1,x2,x3,x4,x5,x6,x7⟩:=x
  refine iD (Y2 ha @aJ.eq_1) ?_
  refine ⟨F.aF.length-(i+1),by omega,i+1,rfl,hlt,?_⟩
  rw [hsc]
  exact dL hw1
 have hie:i=F.aF.length:=by omega
 subst hie
 rw [List.take_length]
 generalize hL:F.aF.map aO.bU=L at *
 have hLl:L.length<=120:=by rw [<-hL];simpa using hfl
 clear hi hlt
 refine lH ?_
 refine fG (fun n st=>∃ i:Nat,n=w.aV.aL.length-i/\i<=w.aV.aL.length/\∃ g:List Int,g.length<=i/\(∀ l,l∈w.aV.aL.take i->L.contains l.dG=true\/g.contains l.dG=true) ∧
  st=⟨[],[(3,.ptr 0 0),(6,.ptr 1 0),(7,.sl 2),(9,.sl 3),(10,.d (.int .i64 i))],[(0,.box (aT.bx (aT.mk { w with aD:=F } ps rl en rk ch dk key) 4)),(1,.box zS),(2,.arr 0 0 1 (bB L)),(3,.arr 0 0 1 (bB g))]++aT.ob (aT.mk { w with aD:=F } ps rl en rk ch dk key) 4,13⟩) _ ⟨0,rfl,by omega,[],by simp,by simp,?_⟩ ?_
 ·exact dL @bB.eq_1
 rintro n st ⟨i,rfl,hi,g,hgl,hg,rfl⟩
 by_cases hlt:i<w.aV.aL.length
 ·have ha:=List.getElem?_eq_getElem hlt
  have hstep:∀ x,w.aV.aL[i]?=some x->∀ g2:List Int,(∀ y,g.contains y=true->g2.contains y=true)->(L.contains x.dG=true\/g2.contains x.dG=true)->∀ l,l∈w.aV.aL.take (i+1)->L.contains l.dG=true\/g2.contains l.dG=true:=by
   intro x hx g2 h1 h2 l hl
   rw [List.take_add_one,hx] at hl
   rcases List.mem_append.1 hl with hl|hl
   ·exact (hg l hl).imp (fun h=>h) (h1 _)
   ·simp at hl;subst hl;exact h2
  have hstep:=hstep _ ha
  generalize w.aV.aL[i]=x at ha hstep
  have hw1:IntKind.i64.wrap ((i:Int)+1)=(i:Int)+1:=aA (by omega) (by omega)
  obtain ⟨x1,x2,x3,x4,x5,x6⟩:=x
  dsimp only at hstep
  have c1:=nQ L x2 (by omega)
  have c2:=nQ g x2 (by omega)
  have i1:=gU L
  have i2:=gU g
  cases h1:L.contains x2
  ·rw [h1] at c1
   cases h2:g.contains x2
   ·rw [h2] at c2
    refine cI (Y3 ha @aJ.eq_1 @fX) (Z2 c1 c2) ?_
    refine ⟨w.aV.aL.length-(i+1),by omega,i+1,rfl,hlt,g++[x2],by simp;omega,hstep _ (fun y hy=>by simp at hy ⊢;exact .inl hy) (.inr (by simp)),?_⟩
    exact dL (Y2 hw1 @bB.eq_1)
   ·rw [h2] at c2
    refine cI (Y2 ha @fX) (Z2 c1 c2) ?_
    refine ⟨w.aV.aL.length-(i+1),by omega,i+1,rfl,hlt,g,by omega,hstep g (fun _ h=>h) (.inr h2),?_⟩
    exact dL hw1
  ·rw [h1] at c1
   refine cI (Y2 ha @fX) (Z1 c1) ?_
   refine ⟨w.aV.aL.length-(i+1),by omega,i+1,rfl,hlt,g,by omega,hstep g (fun _ h=>h) (.inl h1),?_⟩
   exact dL hw1
 have hie:i=w.aV.aL.length:=by omega
 subst hie
 rw [List.take_length] at hg
 have hL2:=hul g fun l hl=>by rw [hhas];exact hg l hl
 have cd:=uK w.aV g hfit.2.1 hw.bo (by omega)
 have cl:=qZ { w with aD:=F,aV:=iZ w.aV g } (lA w.aV g) (hlet _) (Nat.le_trans (List.length_filter_le _ _) (by omega))
 have hm:(iH { w with aD:=F,aV:=iZ w.aV g } (lA w.aV g)).bL.aZ=w.bL.aZ:=xC _ _
 have hir1:=bP (iZ w.aV g).aL
 have hir2:=bP (lA w.aV g)
 have hig:=gU g
 have j6:=cD (iS (aX { w with aD:=F,aV:=iZ w.aV g } (lA w.aV g))).done
 have j7:=cD (iS (aX { w with aD:=F,aV:=iZ w.aV g } (lA w.aV g))).failed
 generalize iH { w with aD:=F,aV:=iZ w.aV g } (lA w.aV g)=wN at *
 generalize iZ w.aV g=bN at *
 generalize lA w.aV g=lN at *
 clear hul hhas hg hlet
 have j1:=bT wN.aD.aF
 have j2:=bP wN.aV.aL
 have j3:=dC wN.bL.aY
 have j4:=eZ wN.bJ.bX
 have j5:=dR wN.bD
 refine dJ (Z2 cd cl) ?_
 exact ⟨wN,⟨hL2,hm⟩,by simp [Fin]⟩
abbrev kK:=aT×Int×Int×List UInt8×List UInt8×List (List UInt8)
abbrev kY (a:kK):List C:=[.agg (aT.q a.1),.agg (rsp a.2.1 a.2.2.1 a.2.2.2.1 a.2.2.2.2.1 a.2.2.2.2.2)]
def gB (n:Nat) (a:kK):Prop:=dQ n a.1/\0<=a.2.1/\a.2.1<=100
abbrev zR:List A:=[.d (.int .i64 0),.d (.int .i64 0),.d (.str []),.d (.str []),.nil 0 1]
abbrev rqA (k t m:Int) (n p d:List UInt8):List A:=[.d (.int .i64 k),.d (.int .i64 t),.d (.str n),.d (.str p),.d (.str d),.d (.int .i64 m)]
theorem dQ.w {n m:Nat} {s:aT} {w:aP} (h:dQ n s) (hm:n<=m) (hw:WI w) (hd:w.bL.aZ<=m):dQ m { s with aC:=w }:=by
 obtain ⟨h1,h2,h3,h4,h5,h6,h7,h8,h9,h10,h11,h12⟩:=dQ.up h hm
 exact ⟨hw,hd,h3,h4,h5,h6,h7,h8,h9,h10,h11,h12⟩
theorem aQo (f:bK) (t:aO):0<=mkC f t/\mkC f t<=5:=by
 unfold mkC
 repeat' split
 all_goals omega
theorem aKG (n:Nat) (s:aT) (k t m:Int) (nm p d:List UInt8) (hs:dQ n s) (hv:gH s.aC) (hd:d.length<=512):∃ a:kK,gB (n+1) a/\aE PP GG 94 [.agg (aT.q s),.agg (lU k t nm p d m)] (.tup (kY a)) [none,none]:=by
 refine cvD Tryz.func94 (α:=kK) 2 _ kY _ (fun _=>rfl) ?_
 have hw:=(cS s.aC).1 hv.ok
 have hfit:=fT hv.ok
 have hno:∀ c:Int,0<=c->c<=100->gB (n+1) (s,c,0,[],[],[]):=fun c h1 h2=>⟨dQ.up hs (by omega),h1,h2⟩
 have cno:=fun c:Int=>gD s c
 have ci:aE PP GG 12 [.d (.int .i64 m),.d (.int .i64 0),.d (.int .i64 1000000000)] (.d (.bool (inB m 0 1000000000))) [none,none,none]:=bA _ _ _
 have e0:aN []=[]:=rfl
 refine gZ (?_)
 apply vM
 ·intro K hK
  simp
  repeat' (first|with_reducible exact hK|(with_reducible refine aM (fun _=>?_) (fun _=>?_)<;>simp)|with_reducible refine And.intro ?_ ?_|with_reducible exact aS rfl|with_reducible assumption|omega)
 refine nM [2,3,4,5] (fun st'=>s.aC.bG<1000000000/\st'=⟨[],[(2,.ptr 0 0),(3,.ptr 1 0),(4,.ptr 2 0),(5,.ptr 3 0)],[(0,.box (aT.bx s 4)),(1,.box (rqA k t m nm p d)),(2,.box zS),(3,.box zR)]++aT.ob s 4,13⟩) ?_ ?_
 ·cases hin:inB m 0 1000000000
  ·rw [hin] at ci
   have cn:=cno 1
   repeat' (first|refine lF ?_|refine gZ ?_|refine iG ?_|refine iA ?_|refine kE ?_|refine cG rfl ?_|refine cU rfl ?_|((first|refine jD fun K hK=>?_|refine gQ fun K hK=>?_|with_reducible refine aI (ci) ?_|with_reducible refine aI (cn) ?_);simp [Fin])|(with_reducible refine hK _ ?_;clear hK K)|(with_reducible refine aM (fun h=>?_) (fun h=>?_)<;>first|(exfalso;simp at h;first|done|omega|contradiction)|((try simp at h);simp))|with_reducible refine And.intro ?_ ?_|with_reducible exact aS rfl|with_reducible assumption|(refine fH rfl (fun h=>?_) (fun h=>?_)<;>first|(exfalso;simp at h;first|done|omega|contradiction)|(exfalso;simp_all;done)|(try simp at h))|omega)
   exact ⟨(s,1,0,[],[],[]),hno 1 (by omega) (by omega),by simp [Fin,e0]⟩
  ·rw [hin] at ci
   have hnx:=hw.next
   by_cases hq:s.aC.bG=1000000000
   ·have hq':(s.aC.bG=1000000000)=True:=by simp [hq]
    have cn:=cno 1
    repeat' (first|refine lF ?_|refine gZ ?_|refine iG ?_|refine iA ?_|refine kE ?_|refine cG rfl ?_|refine cU rfl ?_|((first|refine jD fun K hK=>?_|refine gQ fun K hK=>?_|with_reducible refine aI (ci) ?_|with_reducible refine aI (cn) ?_);simp [Fin,hq'])|(with_reducible refine hK _ ?_;clear hK K)|(with_reducible refine aM (fun h=>?_) (fun h=>?_)<;>first|(exfalso;simp at h;first|done|omega|contradiction)|((try simp at h);simp [hq']))|with_reducible refine And.intro ?_ ?_|with_reducible exact aS rfl|with_reducible assumption|(refine fH rfl (fun h=>?_) (fun h=>?_)<;>first|(exfalso;simp at h;first|done|omega|contradiction)|(exfalso;simp_all;done)|(try simp at h))|omega)
    exact ⟨(s,1,0,[],[],[]),hno 1 (by omega) (by omega),by simp [Fin,e0]⟩
   ·have hq':(s.aC.bG=1000000000)=False:=by simp [hq]
    repeat' (first|refine lF ?_|refine gZ ?_|refine iG ?_|refine iA ?_|refine kE ?_|refine cG rfl ?_|refine cU rfl ?_|((first|refine jD fun K hK=>?_|refine gQ fun K hK=>?_|with_reducible refine aI (ci) ?_);simp [Fin,hq'])|(with_reducible refine hK _ ?_;clear hK K)|(with_reducible refine aM (fun h=>?_) (fun h=>?_)<;>first|(exfalso;simp at h;first|done|omega|contradiction)|((try simp at h);simp [hq']))|with_reducible refine And.intro ?_ ?_|with_reducible exact aS rfl|with_reducible assumption|(refine fH rfl (fun h=>?_) (fun h=>?_)<;>first|(exfalso;simp at h;first|done|omega|contradiction)|(exfalso;simp_all;done)|(try simp at h))|omega)
    simp [gc,bW,cZ,gcV,gcO,dZ,dI,fJ,bF,cB,cR,eC]
 rintro st ⟨hnx,rfl⟩
 clear ci
 refine gZ (?_)
 apply vM
 ·intro K hK
  simp
  repeat' (first|with_reducible exact hK|(with_reducible refine aM (fun _=>?_) (fun _=>?_)<;>simp)|with_reducible refine And.intro ?_ ?_|with_reducible exact aS rfl|with_reducible assumption|omega)
 refine lS 6 2 rfl rfl rfl ?_
 refine oB [2,3,4,5,6] (s1:=⟨[],[(2,.ptr 0 0),(3,.ptr 1 0),(4,.ptr 2 0),(5,.ptr 3 0),(6,.ptr 4 0)],[(0,.box (aT.bx s 5)),(1,.box (rqA k t m nm p d)),(2,.box zS),(3,.box zR),(4,.box [.d (.int .i64 s.aC.bG),.d (.int .i64 t),.sl 14,.d (.int .i64 s.aC.cN),.d (.int .i64 0),.d (.int .i64 0),.d (.int .i64 0)])]++aT.ob s 5++[(14,.arr 0 0 1 [])],15⟩) ?_ ?_
 ·simp [gc,bW,cZ,gcV,gcO,dZ,dI,fJ,bF,cB,cR,eC]
 refine nM [2,3,4,5,6] (fun st'=>∃ L:List (List UInt8),(L.length<=1048576/\∀ x,x∈L->x.length<=1048576)/\st'=⟨[],[(2,.ptr 0 0),(3,.ptr 1 0),(4,.ptr 2 0),(5,.ptr 3 0),(6,.ptr 4 0)],[(0,.box (aT.bx s 5)),(1,.box (rqA k t m nm p d)),(2,.box zS),(3,.box zR),(4,.box [.d (.int .i64 s.aC.bG),.d (.int .i64 t),.sl 14,.d (.int .i64 s.aC.cN),.d (.int .i64 0),.d (.int .i64 0),.d (.int .i64 0)])]++aT.ob s 5++[(14,.arr 0 0 1 (aN L))],15⟩) ?_ ?_
 ·by_cases h0:d=[]
  ·have h0':(d=[])=True:=by simp [h0]
   repeat' (first|refine lF ?_|refine gZ ?_|refine iG ?_|refine iA ?_|refine kE ?_|refine cG rfl ?_|refine cU rfl ?_|((first|refine jD fun K hK=>?_|refine gQ fun K hK=>?_);simp [Fin,h0'])|(with_reducible refine hK _ ?_;clear hK K)|(with_reducible refine aM (fun h=>?_) (fun h=>?_)<;>first|(exfalso;simp at h;first|done|omega|contradiction)|((try simp at h);simp [h0']))|with_reducible refine And.intro ?_ ?_|with_reducible exact aS rfl|with_reducible assumption|(refine fH rfl (fun h=>?_) (fun h=>?_)<;>first|(exfalso;simp at h;first|done|omega|contradiction)|(exfalso;simp_all;done)|(try simp at h))|omega)
   refine ⟨[],⟨by simp,by simp⟩,?_⟩
   simp [gc,bW,cZ,gcV,gcO,dZ,dI,fJ,bF,cB,cR,eC,e0]
  ·have h0':(d=[])=False:=by simp [h0]
   have cc:aE PP GG 49 [.d (.str d),.d (.int .u8 44)] _ _:=iI d 44 (by omega)
   have h1:=lL 44 d
   have h2:=fun q=>sK (c:=44) d (p:=q)
   generalize fK 44 d=L at *
   repeat' (first|refine lF ?_|refine gZ ?_|refine iG ?_|refine iA ?_|refine kE ?_|refine cG rfl ?_|refine cU rfl ?_|((first|refine jD fun K hK=>?_|refine gQ fun K hK=>?_|with_reducible refine aI (cc) ?_);simp [Fin,h0'])|(with_reducible refine hK _ ?_;clear hK K)|(with_reducible refine aM (fun h=>?_) (fun h=>?_)<;>first|(exfalso;simp at h;first|done|omega|contradiction)|((try simp at h);simp [h0']))|with_reducible refine And.intro ?_ ?_|with_reducible exact aS rfl|with_reducible assumption|(refine fH rfl (fun h=>?_) (fun h=>?_)<;>first|(exfalso;simp at h;first|done|omega|contradiction)|(exfalso;simp_all;done)|(try simp at h))|omega)
   refine ⟨L,⟨by omega,fun x hx=>by have:=h2 x hx;omega⟩,?_⟩
   simp [gc,bW,cZ,gcV,gcO,dZ,dI,fJ,bF,cB,cR,eC]
 rintro st ⟨L,hL,rfl⟩
 refine nM [2,4,5,6] (fun st'=>∃ e:Int,st'=⟨[],[(2,.ptr 0 0),(4,.ptr 1 0),(5,.ptr 2 0),(6,.ptr 3 0)],[(0,.box (aT.bx s 4)),(1,.box zS),(2,.box zR),(3,.box [.d (.int .i64 s.aC.bG),.d (.int .i64 t),.sl 13,.d (.int .i64 s.aC.cN),.d (.int .i64 e),.d (.int .i64 e),.d (.int .i64 0)])]++aT.ob s 4++[(13,.arr 0 0 1 (aN L))],14⟩) ?_ ?_
 ·repeat' (first|refine lF ?_|refine gZ ?_|refine iG ?_|refine iA ?_|refine kE ?_|refine cG rfl ?_|refine cU rfl ?_|((first|refine jD fun K hK=>?_|refine gQ fun K hK=>?_);simp [Fin])|(with_reducible refine hK _ ?_;clear hK K)|(with_reducible refine aM (fun h=>?_) (fun h=>?_)<;>first|(exfalso;simp at h;first|done|omega|contradiction)|((try simp at h);simp))|with_reducible refine And.intro ?_ ?_|with_reducible exact aS rfl|with_reducible assumption|(refine fH rfl (fun h=>?_) (fun h=>?_)<;>first|(exfalso;simp at h;first|done|omega|contradiction)|(exfalso;simp_all;done)|(try simp at h))|omega)
  ·simp [gc,bW,cZ,gcV,gcO,dZ,dI,fJ,bF,cB,cR,eC]
  ·simp [gc,bW,cZ,gcV,gcO,dZ,dI,fJ,bF,cB,cR,eC]
 rintro st ⟨e,rfl⟩
 have cm:=aC0 s.aC.aD (aO.mk s.aC.bG t L s.aC.cN e e 0) hfit.1 hL hw.fo
 have hlv:=fun hc=>aOq hv (t:=(aO.mk s.aC.bG t L s.aC.cN e e 0)) hc rfl hnx
 have hr:=aQo s.aC.aD (aO.mk s.aC.bG t L s.aC.cN e e 0)
 generalize mkC s.aC.aD (aO.mk s.aC.bG t L s.aC.cN e e 0)=c at *
 generalize mkF s.aC.aD (aO.mk s.aC.bG t L s.aC.cN e e 0)=F at *
 have cw:=iY s.aC hfit
 have hiF:=bT F.aF
 have j1:=bT s.aC.aD.aF
 have j2:=bP s.aC.aV.aL
 have j3:=dC s.aC.bL.aY
 have j4:=eZ s.aC.bJ.bX
 have j5:=dR s.aC.bD
 have hiL:=cD L
 by_cases hc1:c=1
 ·subst hc1
  have cn:=cno 1
  repeat' (first|refine lF ?_|refine gZ ?_|refine iG ?_|refine iA ?_|refine kE ?_|refine cG rfl ?_|refine cU rfl ?_|((first|refine jD fun K hK=>?_|refine gQ fun K hK=>?_|with_reducible refine aI (cm) ?_|with_reducible refine aI (cn) ?_);simp [Fin])|(with_reducible refine hK _ ?_;clear hK K)|(with_reducible refine aM (fun h=>?_) (fun h=>?_)<;>first|(exfalso;simp at h;first|done|omega|contradiction)|((try simp at h);simp))|with_reducible refine And.intro ?_ ?_|with_reducible exact aS rfl|with_reducible assumption|(refine fH rfl (fun h=>?_) (fun h=>?_)<;>first|(exfalso;simp at h;first|done|omega|contradiction)|(exfalso;simp_all;done)|(try simp at h))|omega)
  exact ⟨(s,1,0,[],[],[]),hno 1 (by omega) (by omega),by simp [Fin,e0]⟩
 by_cases hc2:c=2
 ·subst hc2
  have cn:=cno 2
  repeat' (first|refine lF ?_|refine gZ ?_|refine iG ?_|refine iA ?_|refine kE ?_|refine cG rfl ?_|refine cU rfl ?_|((first|refine jD fun K hK=>?_|refine gQ fun K hK=>?_|with_reducible refine aI (cm) ?_|with_reducible refine aI (cn) ?_);simp [Fin])|(with_reducible refine hK _ ?_;clear hK K)|(with_reducible refine aM (fun h=>?_) (fun h=>?_)<;>first|(exfalso;simp at h;first|done|omega|contradiction)|((try simp at h);simp))|with_reducible refine And.intro ?_ ?_|with_reducible exact aS rfl|with_reducible assumption|(refine fH rfl (fun h=>?_) (fun h=>?_)<;>first|(exfalso;simp at h;first|done|omega|contradiction)|(exfalso;simp_all;done)|(try simp at h))|omega)
  exact ⟨(s,2,0,[],[],[]),hno 2 (by omega) (by omega),by simp [Fin,e0]⟩
 by_cases hc3:c=3
 ·subst hc3
  have cn:=cno 2
  repeat' (first|refine lF ?_|refine gZ ?_|refine iG ?_|refine iA ?_|refine kE ?_|refine cG rfl ?_|refine cU rfl ?_|((first|refine jD fun K hK=>?_|refine gQ fun K hK=>?_|with_reducible refine aI (cm) ?_|with_reducible refine aI (cn) ?_);simp [Fin])|(with_reducible refine hK _ ?_;clear hK K)|(with_reducible refine aM (fun h=>?_) (fun h=>?_)<;>first|(exfalso;simp at h;first|done|omega|contradiction)|((try simp at h);simp))|with_reducible refine And.intro ?_ ?_|with_reducible exact aS rfl|with_reducible assumption|(refine fH rfl (fun h=>?_) (fun h=>?_)<;>first|(exfalso;simp at h;first|done|omega|contradiction)|(exfalso;simp_all;done)|(try simp at h))|omega)
  exact ⟨(s,2,0,[],[],[]),hno 2 (by omega) (by omega),by simp [Fin,e0]⟩
 by_cases hc4:c=4
 ·subst hc4
  have cn:=cno 3
  repeat' (first|refine lF ?_|refine gZ ?_|refine iG ?_|refine iA ?_|refine kE ?_|refine cG rfl ?_|refine cU rfl ?_|((first|refine jD fun K hK=>?_|refine gQ fun K hK=>?_|with_reducible refine aI (cm) ?_|with_reducible refine aI (cn) ?_);simp [Fin])|(with_reducible refine hK _ ?_;clear hK K)|(with_reducible refine aM (fun h=>?_) (fun h=>?_)<;>first|(exfalso;simp at h;first|done|omega|contradiction)|((try simp at h);simp))|with_reducible refine And.intro ?_ ?_|with_reducible exact aS rfl|with_reducible assumption|(refine fH rfl (fun h=>?_) (fun h=>?_)<;>first|(exfalso;simp at h;first|done|omega|contradiction)|(exfalso;simp_all;done)|(try simp at h))|omega)
  exact ⟨(s,3,0,[],[],[]),hno 3 (by omega) (by omega),by simp [Fin,e0]⟩
 by_cases hc5:c=5
 ·subst hc5
  have cn:=cno 6
  repeat' (first|refine lF ?_|refine gZ ?_|refine iG ?_|refine iA ?_|refine kE ?_|refine cG rfl ?_|refine cU rfl ?_|((first|refine jD fun K hK=>?_|refine gQ fun K hK=>?_|with_reducible refine aI (cm) ?_|with_reducible refine aI (cn) ?_);simp [Fin])|(with_reducible refine hK _ ?_;clear hK K)|(with_reducible refine aM (fun h=>?_) (fun h=>?_)<;>first|(exfalso;simp at h;first|done|omega|contradiction)|((try simp at h);simp))|with_reducible refine And.intro ?_ ?_|with_reducible exact aS rfl|with_reducible assumption|(refine fH rfl (fun h=>?_) (fun h=>?_)<;>first|(exfalso;simp at h;first|done|omega|contradiction)|(exfalso;simp_all;done)|(try simp at h))|omega)
  exact ⟨(s,6,0,[],[],[]),hno 6 (by omega) (by omega),by simp [Fin,e0]⟩
 have hc0:c=0:=by omega
 subst hc0
 have hL2:=hlv rfl
 have hwr:IntKind.i64.wrap (s.aC.bG+1)=s.aC.bG+1:=by have:=hw.next;exact aA (by omega) (by omega)
 repeat' (first|refine lF ?_|refine gZ ?_|refine iG ?_|refine iA ?_|refine kE ?_|refine cG rfl ?_|refine cU rfl ?_|((first|refine jD fun K hK=>?_|refine gQ fun K hK=>?_|with_reducible refine aI (cm) ?_|with_reducible refine aI (cw) ?_);simp [Fin,hwr])|(with_reducible refine hK _ ?_;clear hK K)|(with_reducible refine aM (fun h=>?_) (fun h=>?_)<;>first|(exfalso;simp at h;first|done|omega|contradiction)|((try simp at h);simp [hwr]))|with_reducible refine And.intro ?_ ?_|with_reducible exact aS rfl|with_reducible assumption|(refine fH rfl (fun h=>?_) (fun h=>?_)<;>first|(exfalso;simp at h;first|done|omega|contradiction)|(exfalso;simp_all;done)|(try simp at h))|omega)
 exact ⟨({ s with aC:={ s.aC with aD:=F,bG:=s.aC.bG+1 } },0,s.aC.bG,[],[],[]),⟨dQ.w hs (by omega) (.inl hL2) (by have:=hs.md;dsimp only;omega),by dsimp only;omega,by dsimp only;omega⟩,by simp [Fin,e0]⟩
theorem aNu (p:aO->Bool) (l:List aO):∀ x,x∈(wo p l).2->∃ t,t∈l/\t.bU=x:=by
 induction l using kU with
 |h0=>intro x hx;simp [wo] at hx
 |h1 l t ih=>
  intro x hx
  rw [vN] at hx
  unfold aAf at hx
  split at hx
  ·rcases List.mem_append.1 hx with hx|hx
   ·obtain ⟨y,hy,e⟩:=ih x hx;exact ⟨y,List.mem_append.2 (.inl hy),e⟩
   ·simp at hx;exact ⟨t,by simp,hx.symm⟩
  ·obtain ⟨y,hy,e⟩:=ih x hx;exact ⟨y,List.mem_append.2 (.inl hy),e⟩
theorem aIs {x:aO} (h:fL x=true):cH x.bU:=by
 unfold fL at h
 simp only [Bool.and_eq_true] at h
 have:=cC h.1.1.1.1.1.1
 unfold cH;omega
end Go.Proofs.YtiejbbcpihpgpaaGreat.Ab
