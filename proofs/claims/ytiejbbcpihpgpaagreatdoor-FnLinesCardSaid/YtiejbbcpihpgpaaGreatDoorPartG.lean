/-
  A part of a proof about the given program; what is proved is said where each theorem stands.
-/
import Derived.Test.YtiejbbcpihpgpaaGreatDoorPartF
namespace Go.Proofs
end Go.Proofs
set_option linter.unusedSimpArgs false
set_option linter.unusedVariables false
set_option maxRecDepth 100000
set_option maxHeartbeats 2000000
namespace Go.Proofs.YtiejbbcpihpgpaaGreatDoor.Ab
open Go.Proofs
theorem aFn (k:Int) (ns:List Int) (ts:List (List UInt8)) (h1:ns.length<=100) (h2:ts.length<=100):∃ r:List UInt8×Bool,r.1.length<=4000/\aC PP GG 131 [.agg (aQB k ns ts)] (.tup [.own 0 1 (aB r.1),.d (.bool r.2)]) [none]:=by
 refine cvD Tryz.func131 (α:=List UInt8×Bool) 2 _ (fun r=>[.own 0 1 (aB r.1),.d (.bool r.2)]) _ (fun _=>rfl) ?_
 have cr:=pI k ns ts (by omega) (by omega)
 have hrp:=@sJ k ns ts
 have hk:mN k ns ts=true->0<=k/\k<=99:=by
  intro h;simp only [mN,Bool.and_eq_true,decide_eq_true_eq] at h;exact h.1
 generalize mN k ns ts=b at *
 cases b
 ·refine eA (Z1 cr) ?_
  exact ⟨([],false),by simp,by simp [Fin,aB]⟩
 obtain ⟨p1,p2,p3,p4⟩:=hrp rfl
 obtain ⟨k1,k2⟩:=hk rfl
 clear hrp hk
 obtain ⟨kb,hkb⟩:∃ kb:UInt8,IntKind.u8.wrap k=((kb.toNat:Nat):Int):=⟨UInt8.ofNat k.toNat,by rw [IntKind.wrap_u8];simp;omega⟩
 obtain ⟨q1,l1,c1⟩:=aB6 (ns.length:Nat) (by omega) (by omega)
 have j1:=gD [kb] q1 (by simp;omega)
 change aC PP GG 104 [.d (.slc 1 [[.int .u8 kb.toNat]]),.d (.slc 1 (aB q1))] _ _ at j1
 have o0l:([kb]++q1).length<=11:=by simp;omega
 generalize [kb]++q1=o0 at j1 o0l
 have i1:=aZ q1
 have i2:=aZ o0
 have ik:∀ row,row∈([[.int .u8 kb.toNat]]:List (List D))->∀ d,d∈row->oB 0 d:=aZ [kb]
 refine rE ?_
 refine eL (?_)
 refine eL ?_
 apply sT
 ·intro K hK
  simp
  repeat' (first|with_reducible exact hK|(with_reducible refine aF (cr) ?_;simp)|(with_reducible refine aJ (fun _=>?_) (fun _=>?_)<;>simp)|with_reducible refine And.intro ?_ ?_|with_reducible exact aL rfl|with_reducible assumption|omega)
 refine dN rfl (fun h=>by cases h) (fun h=>eC ?_)
 refine eL (?_)
 apply aV0
 ·intro K hK
  simp [gW,hkb]
  repeat' (first|with_reducible exact hK|(with_reducible refine aF (c1) ?_;simp [gW,hkb])|(with_reducible refine aF (j1) ?_;simp [gW,hkb])|(with_reducible refine aJ (fun _=>?_) (fun _=>?_)<;>simp [gW,hkb])|with_reducible refine And.intro ?_ ?_|with_reducible exact aL rfl|with_reducible assumption|omega)
 refine pH [1,4] (s1:=⟨[],[(1,.ptr 0 0),(4,.sl 1)],[(0,.box [.d (.int .i64 k),.d (.slc 1 (bM ns)),.d (.slc 1 (aK ts))]),(1,.arr 0 0 1 (aB o0))],2⟩) ?_ ?_
 ·exact fI
 clear c1 j1 i1 i2 ik cr
 refine oD [1,4] (fun st'=>∃ o:List UInt8,o.length<=511/\st'=⟨[],[(1,.ptr 0 0),(4,.sl 1)],[(0,.box [.d (.int .i64 k),.d (.slc 1 (bM ns)),.d (.slc 1 (aK ts))]),(1,.arr 0 0 1 (aB o))],2⟩) ?_ ?_
 ·refine mG ?_
  refine gA (fun n st=>∃ i:Nat,n=ns.length-i/\i<=ns.length/\∃ o:List UInt8,o.length<=11+10*i/\st=⟨[],[(1,.ptr 0 0),(4,.sl 1),(5,.d (.int .i64 i))],[(0,.box [.d (.int .i64 k),.d (.slc 1 (bM ns)),.d (.slc 1 (aK ts))]),(1,.arr 0 0 1 (aB o))],2⟩) _ ⟨0,rfl,by omega,o0,by omega,?_⟩ ?_
  ·exact fI
  rintro n st ⟨i,rfl,hi,o,ho,rfl⟩
  by_cases hlt:i<ns.length
  rotate_left
  ·have hie:i=ns.length:=by omega
   subst hie
   refine iZ @gW ?_
   refine ⟨o,by omega,?_⟩
   exact fI
  have ha:=List.getElem?_eq_getElem hlt
  have hm:=p3 _ (List.getElem_mem hlt)
  generalize ns[i]=x at ha hm
  have hw:IntKind.i64.wrap ((i:Int)+1)=(i:Int)+1:=aA (by omega) (by omega)
  obtain ⟨q,ql,c⟩:=aB6 x hm.1 hm.2
  have jc:=gD o q (by omega)
  have i1:=aZ q
  have i2:=aZ (o++q)
  have hql:(o++q).length=o.length+q.length:=by simp
  generalize o++q=oq at *
  refine cP (Y2 @gW ha) (Z2 c jc) ?_
  refine ⟨ns.length-(i+1),by omega,i+1,rfl,hlt,oq,by omega,?_⟩
  exact dV hw
 rintro st ⟨o,ho,rfl⟩
 obtain ⟨q2,l2,c2⟩:=aB6 (ts.length:Nat) (by omega) (by omega)
 have j2:=gD o q2 (by omega)
 have i1:=aZ q2
 have i2:=aZ (o++q2)
 have hql:(o++q2).length=o.length+q2.length:=by simp
 generalize o++q2=oq at *
 refine eL (?_)
 apply sT
 ·intro K hK
  simp [bV]
  repeat' (first|with_reducible exact hK|(with_reducible refine aF (c2) ?_;simp [bV])|(with_reducible refine aF (j2) ?_;simp [bV])|(with_reducible refine aJ (fun _=>?_) (fun _=>?_)<;>simp [bV])|with_reducible refine And.intro ?_ ?_|with_reducible exact aL rfl|with_reducible assumption|omega)
 refine pH [1,4] (s1:=⟨[],[(1,.ptr 0 0),(4,.sl 1)],[(0,.box [.d (.int .i64 k),.d (.slc 1 (bM ns)),.d (.slc 1 (aK ts))]),(1,.arr 0 0 1 (aB oq))],2⟩) ?_ ?_
 ·exact fI
 clear c2 j2 i1 i2
 refine oD [4] (fun st'=>∃ o:List UInt8,o.length<=20000/\st'=⟨[],[(4,.sl 0)],[(0,.arr 0 0 1 (aB o))],1⟩) ?_ ?_
 ·refine mG ?_
  refine gA (fun n st=>∃ i:Nat,n=ts.length-i/\i<=ts.length/\∃ o:List UInt8,o.length<=530+320*i/\st=⟨[],[(1,.ptr 0 0),(4,.sl 1),(6,.d (.int .i64 i))],[(0,.box [.d (.int .i64 k),.d (.slc 1 (bM ns)),.d (.slc 1 (aK ts))]),(1,.arr 0 0 1 (aB o))],2⟩) _ ⟨0,rfl,by omega,oq,by omega,?_⟩ ?_
  ·exact fI
  rintro n st ⟨i,rfl,hi,o,ho,rfl⟩
  by_cases hlt:i<ts.length
  rotate_left
  ·have hie:i=ts.length:=by omega
   subst hie
   refine iZ @bV ?_
   refine ⟨o,by omega,?_⟩
   exact fI
  have ha:=List.getElem?_eq_getElem hlt
  have hm:=p4 _ (List.getElem_mem hlt)
  generalize ts[i]=x at ha hm
  have hw:IntKind.i64.wrap ((i:Int)+1)=(i:Int)+1:=aA (by omega) (by omega)
  obtain ⟨q,ql,c⟩:=aB6 (x.length:Nat) (by omega) (by omega)
  have jc:=gD o q (by omega)
  have hql:(o++q).length=o.length+q.length:=by simp
  generalize o++q=op at *
  have jd:=gD op x (by omega)
  have hqm:(op++x).length=op.length+x.length:=by simp
  generalize op++x=ox at *
  have i1:=aZ q
  have i2:=aZ op
  have i3:=aZ ox
  refine cP (Y3 @bV @eX ha) (Z3 c jc jd) ?_
  refine ⟨ts.length-(i+1),by omega,i+1,rfl,hlt,ox,by omega,?_⟩
  exact dV hw
 rintro st ⟨o,ho,rfl⟩
 have io:=aZ o
 have hbl:(aB o).length=o.length:=by simp [aB]
 by_cases h4:o.length<=4000
 ·have h4':((4000:Int)<((o.length:Nat):Int))=False:=by simp;omega
  refine iZ (Y2 hbl h4') ?_
  exact ⟨(o,true),h4,by simp [Fin]⟩
 ·have h4':((4000:Int)<((o.length:Nat):Int))=True:=by simp;omega
  refine iZ (Y2 hbl h4') ?_
  exact ⟨([],false),by simp,by simp [Fin,aB]⟩
theorem aEQ (a b:List UInt8) (h:a.length+b.length<=1048576):aC PP GG 102 [.agg [.d (.slc 1 (aB a)),.d (.slc 1 (aB b))]] (.agg [.own 0 1 (aB a),.own 0 1 (aB b)]) [none]:=by
 refine cv Tryz.func102 [.agg [.own 0 1 (aB a),.own 0 1 (aB b)]] ?_
 have c1:=jH a (by omega)
 have c2:=jH b (by omega)
 have i1:=aZ a
 have i2:=aZ b
 exact oE (Z2 c1 c2)
theorem aGl (k:Int) (ns:List Int) (ts:List (List UInt8)) (h1:ns.length<=100) (h2:ts.length<=100):∃ r:List UInt8×Bool,r.1.length<=5000/\aC PP GG 100 [.agg (aQB k ns ts)] (.tup [.own 0 1 (aB r.1),.d (.bool r.2)]) [none]:=by
 refine cvD Tryz.func100 (α:=List UInt8×Bool) 2 _ (fun r=>[.own 0 1 (aB r.1),.d (.bool r.2)]) _ (fun _=>rfl) ?_
 obtain ⟨⟨e,ok⟩,he,ce⟩:=aFn k ns ts h1 h2
 dsimp only at he ce
 have ie:=aZ e
 cases ok
 ·refine eA (Z1 ce) ?_
  exact ⟨([],false),by simp,by simp [Fin,aB]⟩
 have w1:=zE e.length 2 (by omega) (by omega)
 have hd:=tX e (by omega)
 obtain ⟨dn,hdn⟩:∃ dn:Nat,(rZ e).tmod 4294967296=(dn:Int)/\dn<4294967296:=by
  have hdg:=vB e
  refine ⟨(rZ e % 4294967296).toNat,?_,by omega⟩
  rw [Int.tmod_eq_emod_of_nonneg hdg.1];omega
 have w2:=zE dn 4 (by omega) (by omega)
 have b1:(beN e.length 2).length=2:=by simp [beN]
 have b2:(beN dn 4).length=4:=by simp [beN]
 generalize beN e.length 2=f1 at *
 generalize beN dn 4=f2 at *
 have j1:=gD f1 e (by omega)
 have hfe:(f1++e).length=f1.length+e.length:=by simp
 have i3:=aZ (f1++e)
 generalize f1++e=fe at *
 have j2:=gD fe f2 (by omega)
 have hff:(fe++f2).length=fe.length+f2.length:=by simp
 have i4:=aZ (fe++f2)
 generalize fe++f2=z at *
 have i1:=aZ f1
 have i2:=aZ f2
 refine cP hdn.1 (Z6 ce w1 hd w2 j1 j2) ?_
 exact ⟨(z,true),by dsimp only;omega,by simp [Fin]⟩
theorem aL2 (a b:List UInt8) (k:Int) (ns:List Int) (ts:List (List UInt8)) (hab:a.length+b.length<=40000) (h1:ns.length<=100) (h2:ts.length<=100):∃ r:List UInt8×List UInt8×Bool,r.1.length+r.2.1.length<=40000 ∧
  aC PP GG 79 [.agg [.d (.slc 1 (aB a)),.d (.slc 1 (aB b))],.agg (aQB k ns ts)] (.tup [.agg [.own 0 1 (aB r.1),.own 0 1 (aB r.2.1)],.d (.bool r.2.2)]) [none,none]:=by
 refine cvD Tryz.func79 (α:=List UInt8×List UInt8×Bool) 2 _ (fun r=>[.agg [.own 0 1 (aB r.1),.own 0 1 (aB r.2.1)],.d (.bool r.2.2)]) _ (fun _=>rfl) ?_
 obtain ⟨⟨f,ok⟩,hf,cf⟩:=aGl k ns ts h1 h2
 dsimp only at hf cf
 have cd:=nD a b (by omega)
 rw [decide_eq_true hab] at cd
 have cc:=aEQ a b (by omega)
 have i1:=aZ a
 have i2:=aZ b
 have i3:=aZ f
 cases ok
 ·refine eA (Z3 cf cd cc) ?_
  exact ⟨(a,b,false),hab,by simp [Fin]⟩
 have cb:=jH a (by omega)
 have jc:=gD b f (by omega)
 have i4:=aZ (b++f)
 have hbf:(b++f).length=b.length+f.length:=by simp
 generalize b++f=bf at *
 have cd2:=nD a bf (by omega)
 by_cases h4:a.length+bf.length<=40000
 ·rw [decide_eq_true h4] at cd2
  refine eA (Z5 cf cd cb jc cd2) ?_
  exact ⟨(a,bf,true),h4,by simp [Fin]⟩
 ·rw [decide_eq_false h4] at cd2
  refine eA (Z6 cf cd cb jc cd2 cc) ?_
  exact ⟨(a,b,false),hab,by simp [Fin]⟩
theorem aNj (a b:List UInt8) (h:a.length+b.length<=40000):aC PP GG 81 [.agg [.d (.slc 1 (aB a)),.d (.slc 1 (aB b))]] (.agg [.own 0 1 (aB (a++b)),.own 0 1 (aB [])]) [none]:=by
 refine cv Tryz.func81 [.agg [.own 0 1 (aB (a++b)),.own 0 1 (aB [])]] ?_
 have cd:=nD a b (by omega)
 rw [decide_eq_true h] at cd
 have jc:=gD a b (by omega)
 have i4:=aZ (a++b)
 have e0:aB []=[]:=rfl
 exact dO e0 (Z2 cd jc)
theorem aNm (a b:List UInt8) (keep:Int) (h:a.length+b.length<=40000):∃ r:List UInt8,r.length<=40000/\aC PP GG 83 [.agg [.d (.slc 1 (aB a)),.d (.slc 1 (aB b))],.d (.int .i64 keep)] (.agg [.own 0 1 (aB r),.own 0 1 (aB [])]) [none,none]:=by
 refine cvD Tryz.func83 (α:=List UInt8) 1 _ (fun r=>[.agg [.own 0 1 (aB r),.own 0 1 (aB [])]]) _ (fun _=>rfl) ?_
 have cd:=nD a b (by omega)
 rw [decide_eq_true h] at cd
 have e0:aB []=[]:=rfl
 have hbl:(aB b).length=b.length:=by simp [aB]
 have key:∀ n:Nat,n<=b.length->∃ r:List UInt8,r.length<=40000/\(∀ row,row∈aB r->∀ d,d∈row->oB 0 d)/\aC PP GG 104 [.d (.slc 1 (aB a)),.d (.slc 1 ((aB b).take n))] (.own 0 1 (aB r)) [none,none]:=by
  intro n hn
  have jc:=gD a (b.take n) (by simp;omega)
  refine ⟨a++b.take n,by simp;omega,aZ _,?_⟩
  have e:aB (b.take n)=(aB b).take n:=by simp [aB,List.map_take]
  rw [e] at jc
  exact jc
 by_cases h0:keep<0
 ·obtain ⟨r,hr,ir,jc⟩:=key 0 (by omega)
  have h0':(keep<0)=True:=by simp [h0]
  simp only [List.take_zero] at jc
  refine cP (Y3 hbl h0' e0) (Z2 cd jc) ?_
  exact ⟨r,hr,by simp [Fin,aB]⟩
 have h0':(keep<0)=False:=by simp [h0]
 by_cases h1:(b.length:Int)<keep
 ·obtain ⟨r,hr,ir,jc⟩:=key b.length (by omega)
  have h1':(((b.length:Nat):Int)<keep)=True:=by simp [h1]
  refine cP (Y4 hbl h0' h1' e0) (Z2 cd jc) ?_
  exact ⟨r,hr,by simp [Fin,aB]⟩
 ·have h1':(((b.length:Nat):Int)<keep)=False:=by simp [h1]
  obtain ⟨n,hn⟩:∃ n:Nat,keep=n:=⟨keep.toNat,by omega⟩
  subst hn
  obtain ⟨r,hr,ir,jc⟩:=key n (by omega)
  refine cP (Y4 hbl h0' h1' e0) (Z2 cd jc) ?_
  exact ⟨r,hr,by simp [Fin,aB]⟩
theorem aRB {b:List UInt8} {a a':Nat} {r:Rec} (h:aIt b a=.ok (r,a')):a'<=b.length/\r.2.1.length<=40/\r.2.2.length<=40:=by
 unfold aIt at h
 simp only at h
 split at h
 ·cases h
 split at h
 ·cases h
 split at h
 ·cases h
 rename_i h1 h2 h3
 split at h
 ·cases h
 rename_i r' hd
 split at h
 ·cases h
  refine ⟨?_,?_⟩
  ·rw [List.length_drop] at h3;omega
  ·unfold aRP at hd
   split at hd
   ·split at hd
    ·cases hd
    ·split at hd
     ·split at hd
      ·cases hd
      ·split at hd
       ·cases hd
       ·split at hd
        ·split at hd
         ·cases hd
         ·split at hd
          ·rename_i hq
           cases hd
           have:=sJ hq.2
           exact ⟨this.1,this.2.1⟩
          ·cases hd
        ·cases hd
     ·cases hd
   ·cases hd
 ·cases h
theorem aQu {b:List UInt8}:∀ (n a:Nat) (l:List Rec),a<=b.length->(∀ r,r∈l->r.2.1.length<=40/\r.2.2.length<=40)->(aBe b n a l).2.1<=b.length/\∀ r,r∈(aBe b n a l).1->r.2.1.length<=40/\r.2.2.length<=40:=by
 intro n
 induction n with
 |zero=>intro a l h1 h2;exact ⟨h1,h2⟩
 |succ n ih=>
  intro a l h1 h2
  simp only [aBe]
  split
  ·split
   ·exact ⟨h1,h2⟩
   ·rename_i r a' hf
    obtain ⟨q1,q2⟩:=aRB hf
    refine ih a' _ q1 fun x hx=>?_
    rcases List.mem_append.1 hx with hx|hx
    ·exact h2 x hx
    ·simp at hx;subst hx;exact q2
  ·exact ⟨h1,h2⟩
theorem aKD (b:List UInt8):(aBd b).2.1<=b.length/\∀ r,r∈(aBd b).1->r.2.1.length<=40/\r.2.2.length<=40:=by
 unfold aBd
 split
 ·exact aQu _ _ _ (by omega) (by simp)
 ·exact ⟨by simp,by simp⟩
theorem aLX (a b:List UInt8) (hab:a.length+b.length<=40000):∃ r:List UInt8×List UInt8×Bool,r.1.length+r.2.1.length<=40000/\aC PP GG 115 [.agg [.d (.slc 1 (aB a)),.d (.slc 1 (aB b))]] (.tup [.agg [.own 0 1 (aB r.1),.own 0 1 (aB r.2.1)],.d (.bool r.2.2)]) [none]:=by
 refine cvD Tryz.func115 (α:=List UInt8×List UInt8×Bool) 2 _ (fun r=>[.agg [.own 0 1 (aB r.1),.own 0 1 (aB r.2.1)],.d (.bool r.2.2)]) _ (fun _=>rfl) ?_
 have cd:=nD a b (by omega)
 rw [decide_eq_true hab] at cd
 have cc:=aEQ a b (by omega)
 have i1:=aZ a
 have i2:=aZ b
 have i3:=aZ (a++b)
 have jc:=gD a b (by omega)
 have hs:=aKD (a++b)
 have cs:=fun l at' c hr=>vI (a++b) l at' c hr (by simp;omega)
 have hal:(a++b).length=a.length+b.length:=by simp
 generalize a++b=ab at *
 obtain ⟨⟨l,at',c⟩,hr⟩:∃ q,aBd ab=q:=⟨_,rfl⟩
 rw [hr] at hs
 have cs:=cs l at' c hr
 have hat:=hs.1
 dsimp only at hat
 have hlr:=aBD l
 have hbl:(aB ab).length=ab.length:=by simp [aB]
 have cb:=jH (ab.take at') (by simp;omega)
 have e:aB (ab.take at')=(aB ab).take at':=by simp [aB,List.map_take]
 have i4:=aZ (ab.take at')
 rw [e] at cb i4
 by_cases hc:c=2
 ·subst hc
  refine cP hbl (Z4 cd jc cs cc) ?_
  exact ⟨(a,b,false),hab,by simp [Fin]⟩
 ·have hc':(c=2)=False:=by simp [hc]
  refine cP (Y2 hbl hc') (Z4 cd jc cs cb) ?_
  exact ⟨(ab.take at',[],true),by simp;omega,by simp [Fin,e];simp [aB]⟩
theorem aM3 {f:bQ} {k:Nat} {x y:aR} (h:bX f=true) (hx:f.aG[k]?=some x) (h1:y.bZ=x.bZ) (h2:y.cE=x.cE) (h3:gI y=true):bX ⟨f.aG.set k y⟩=true/\∀ id,cN ⟨f.aG.set k y⟩ id=cN f id:=by
 have hids:(f.aG.set k y).map aR.bZ=f.aG.map aR.bZ:=by
  rw [List.map_set,h1]
  apply List.ext_getElem?
  intro i
  rw [List.getElem?_set]
  split
  ·rename_i e;subst e
   split
   ·simp [hx]
   ·rename_i hl;simp at hl;simp [hl]
  ·rfl
 have hhas:∀ id,cN ⟨f.aG.set k y⟩ id=cN f id:=by
  intro id
  have e:∀ l:List aR,(l.any fun t=>decide (t.bZ=id))=(l.map aR.bZ).any fun i=>decide (i=id):=fun l=>by rw [List.any_map];rfl
  unfold cN
  rw [e,e,hids]
 refine ⟨?_,hhas⟩
 rw [fN] at h ⊢
 obtain ⟨a1,a2,a3⟩:=h
 refine ⟨by simpa using a1,fun t ht=>?_,?_⟩
 ·rw [hhas]
  rcases List.mem_or_eq_of_mem_set ht with ht|rfl
  ·exact a2 t ht
  ·exact ⟨h3,by rw [h2];exact (a2 x (List.mem_of_getElem? hx)).2⟩
 ·have e:∀ l:List aR,l.Pairwise (fun y x=>y.bZ<x.bZ) ↔ (l.map aR.bZ).Pairwise (·<·):=fun l=>by rw [List.pairwise_map]
  rw [e,hids,<-e]
  exact a3
theorem aGS {w:aS} {k:Nat} {x y:aR} (h:iG w) (hx:w.aE.aG[k]?=some x) (h1:y.bZ=x.bZ) (h2:y.cE=x.cE) (h3:gI y=true):iG { w with aE:=⟨w.aE.aG.set k y⟩ }:=by
 have hw:=(cZ w).1 h.ok
 obtain ⟨f1,f2⟩:=aM3 hw.fo hx h1 h2 h3
 obtain ⟨q1,q2,q3,q4,q5,q6,q7,q8,q9,q10,q11,q12,q13,q14⟩:=hw
 refine ⟨(cZ _).2 ⟨q1,q2,q3,f1,q5,q6,q7,fun t ht=>?_,q9,q10,q11,q12,q13,q14⟩,h.str,h.ni,fun l hl=>?_⟩
 ·rcases List.mem_or_eq_of_mem_set ht with ht|rfl
  ·exact q8 t ht
  ·dsimp only;rw [h1];exact q8 x (List.mem_of_getElem? hx)
 ·dsimp only
  rw [f2]
  exact h.ti l hl
theorem aMF {w:aS} {n:Int} (h:iG w) (h1:0<=n) (h2:n<=1000):iG { w with bT:=⟨w.bT.bE,n,w.bT.bF⟩ }:=by
 have hw:=(cZ w).1 h.ok
 have hf:oV ⟨w.bT.bE,n,w.bT.bF⟩=true:=by
  have:=(mJ _).1 hw.fa
  rw [mJ]
  obtain ⟨a,b,c⟩:=this
  exact ⟨a,rL h1 h2,c⟩
 obtain ⟨q1,q2,q3,q4,q5,q6,q7,q8,q9,q10,q11,q12,q13,q14⟩:=hw
 exact ⟨(cZ _).2 ⟨q1,q2,q3,q4,q5,hf,q7,q8,q9,q10,q11,q12,q13,q14⟩,h.str,h.ni,h.ti⟩
theorem aQb {x:aR} {e:Int} (h:gI x=true) (h1:x.bF+1<=e) (h2:e<=1000000000) (h3:x.cX=0\/e<=x.cX):gI { x with bS:=e }=true:=by
 unfold gI at h ⊢
 simp only [Bool.and_eq_true,Bool.or_eq_true,decide_eq_true_eq,Bool.not_eq_true',decide_eq_false_iff_not] at h ⊢
 obtain ⟨⟨⟨⟨⟨⟨a1,a2⟩,a3⟩,a4⟩,a5⟩,a6⟩,a7⟩:=h
 have hm:=cD a4
 refine ⟨⟨⟨⟨⟨⟨a1,a2⟩,a3⟩,a4⟩,.inr (rL h1 h2)⟩,?_⟩,a7⟩
 rcases h3 with h3|h3
 ·exact .inl h3
 ·rcases a6 with a6|a6
  ·exact .inl a6
  ·exact .inr ⟨⟨a6.1.1,by omega⟩,h3⟩
theorem aQa {x:aR} {u:Int} (h:gI x=true) (h1:0<=u) (h2:u<=1000):gI { x with kH:=u }=true:=by
 unfold gI at h ⊢
 simp only [Bool.and_eq_true] at h ⊢
 exact ⟨h.1,rL h1 h2⟩
theorem aNs {x:aR} (h:gI x=true):0<=x.bF/\x.bF<=1000000000/\0<=x.kH/\x.kH<=1000/\(x.cX=0\/x.bF+1<=x.cX):=by
 unfold gI at h
 simp only [Bool.and_eq_true,Bool.or_eq_true,decide_eq_true_eq] at h
 obtain ⟨⟨⟨⟨⟨⟨a1,a2⟩,a3⟩,a4⟩,a5⟩,a6⟩,a7⟩:=h
 have:=cD a4
 have:=cD a7
 refine ⟨by omega,by omega,by omega,by omega,?_⟩
 rcases a6 with a6|a6
 ·exact .inl a6
 ·have:=cD a6.1.1;exact .inr (by omega)
theorem aEq (l:List aR) (k:Nat) (x:aR):(cA l).set k x.row=cA (l.set k x):=by simp [cA,List.map_set]
def aUu (f:bQ) (id:Int) (f':bQ):Prop:=∃ (k:Nat) (x:aR),f.aG[k]?=some x/\x.bZ=id/\kG f id=x ∧
 ((x.kH=1/\f'=gB f (fG f id))\/(x.kH≠1/\∃ u:Int,0<=u/\u<=1000/\f'=⟨f.aG.set k { x with kH:=u }⟩))
theorem aNi (f:bQ) (id now:Int) (hf:uZ f) (hb:bX f=true):∃ r:bQ×Int,(uZ r.1/\(r.2=0->aUu f id r.1)) ∧
  aC PP GG 108 [.agg f.c,.d (.int .i64 id),.d (.int .i64 now)] (.tup [.agg r.1.o,.d (.int .i64 r.2)]) [none,none,none]:=by
 refine cvD Tryz.func108 (α:=bQ×Int) 2 _ (fun r=>[.agg r.1.o,.d (.int .i64 r.2)]) _ (fun _=>rfl) ?_
 have cfo:=kE f hf
 rw [hb] at cfo
 have ccp:=nM f.aG hf
 have cat:=mX f id hf.1
 have cbe:=aEj f id hf
 have cle:=uD f.aG (fG f id) hf (by have:=xO f id;have:=hf.1;omega)
 have cov:=fun t=>nL t now
 have cin:aC PP GG 20 [.d (.int .i64 now),.d (.int .i64 0),.d (.int .i64 1000000000)] (.d (.bool (inB now 0 1000000000))) [none,none,none]:=bD _ _ _
 have hir:=cB f.aG
 have hig:=jE (fG f id)
 have hlt:=hf.1
 cases hin:inB now 0 1000000000
 ·rw [hin] at cin
  obtain ⟨tk⟩:=f
  dsimp only at *
  refine eA (Z3 ccp cfo cin) ?_
  exact ⟨(⟨tk⟩,1),⟨hf,by simp⟩,by simp [Fin]⟩
 rw [hin] at cin
 have hno:decide (nA (fun t=>decide (t.bZ=id)) f.aG<0)=!cN f id:=oU _ _
 cases hh:cN f id
 ·rw [hh] at hno
  simp only [Bool.not_false,decide_eq_true_eq] at hno
  generalize nA (fun t=>decide (t.bZ=id)) f.aG=j at *
  obtain ⟨tk⟩:=f
  dsimp only at *
  have hno':(j<0)=True:=by simp [hno]
  refine cP hno' (Z4 ccp cfo cin cat) ?_
  exact ⟨(⟨tk⟩,2),⟨hf,by simp⟩,by simp [Fin]⟩
 obtain ⟨k,x,e1,hx,hxi,hfd⟩:=xL (p:=fun t:aR=>decide (t.bZ=id)) (l:=f.aG) hh
 rw [e1] at cat
 have hxi:=of_decide_eq_true hxi
 have hfT:kG f id=x:=by unfold kG;rw [if_pos hb,hfd];rfl
 have htb:=((fN f).1 hb).2.1 x (List.mem_of_getElem? hx)
 obtain ⟨t1,t2,t3,t4,t5⟩:=aNs htb.1
 have hkl:k<f.aG.length:=(List.getElem?_eq_some_iff.1 hx).1
 have hfl:uZ (gB f (fG f id)):=⟨Nat.le_trans (List.length_filter_le _ _) hf.1,fun t ht=>hf.2 t (List.mem_filter.1 ht).1⟩
 have hfs:∀ u:Int,uZ ⟨f.aG.set k { x with kH:=u }⟩:=fun u=>⟨by simpa using hf.1,fun t ht=>by
  rcases List.mem_or_eq_of_mem_set ht with ht|rfl
  ·exact hf.2 t ht
  ·exact hf.2 x (List.mem_of_getElem? hx)⟩
 have key:aUu f id (if x.kH=1 then gB f (fG f id) else ⟨f.aG.set k { x with kH:=if 1<x.kH then x.kH-1 else x.kH }⟩):=by
  refine ⟨k,x,hx,hxi,hfT,?_⟩
  by_cases hu:x.kH=1
  ·exact .inl ⟨hu,by rw [if_pos hu]⟩
  ·refine .inr ⟨hu,(if 1<x.kH then x.kH-1 else x.kH),by split<;>omega,by split<;>omega,by rw [if_neg hu]⟩
 have cov:=cov x
 clear e1 hfd hno hh hin hfT htb
 obtain ⟨x1,x2,x3,x4,x5,x6,x7⟩:=x
 dsimp only at *
 generalize lY x5 now=bo at cov
 have hxr:∀ u:Int,(cA f.aG).set k [.int .i64 x1,.int .i64 x2,.slc 1 (aK x3),.int .i64 x4,.int .i64 x5,.int .i64 x6,.int .i64 u]=cA (f.aG.set k ⟨x1,x2,x3,x4,x5,x6,u⟩):=fun u=>aEq f.aG k ⟨x1,x2,x3,x4,x5,x6,u⟩
 generalize hg:fG f id=g at *
 generalize hL:gB f g=L at *
 have hiL:=cB L.aG
 obtain ⟨tk⟩:=f
 dsimp only at *
 cases bo
 rotate_left
 ·refine cP hx (Z5 ccp cfo cin cat cov) ?_
  exact ⟨(⟨tk⟩,3),⟨hf,by simp⟩,by simp [Fin]⟩
 by_cases hm:now<x4
 ·have hm':(now<x4)=True:=by simp [hm]
  refine cP (Y2 hx hm') (Z5 ccp cfo cin cat cov) ?_
  exact ⟨(⟨tk⟩,3),⟨hf,by simp⟩,by simp [Fin]⟩
 have hm':(now<x4)=False:=by simp [hm]
 by_cases hu:x7=1
 ·subst hu
  rw [if_pos rfl] at key
  refine cP (Y2 hx hm') (Z7 ccp cfo cin cat cov cbe cle) ?_
  exact ⟨(L,0),⟨hfl,fun _=>key⟩,by simp [Fin]⟩
 have hu':(x7=1)=False:=by simp [hu]
 rw [if_neg hu] at key
 by_cases hu1:1<x7
 ·have hu1':(1<x7)=True:=by simp [hu1]
  rw [if_pos hu1] at key
  have hw:IntKind.i64.wrap (x7-1)=x7-1:=aA (by omega) (by omega)
  refine cP (Y5 hx hm' hu' hu1' hw) (Z5 ccp cfo cin cat cov) ?_
  exact ⟨(⟨tk.set k ⟨x1,x2,x3,x4,x5,x6,x7-1⟩⟩,0),⟨hfs _,fun _=>key⟩,by simp [Fin,hxr]⟩
 ·have hu1':(1<x7)=False:=by simp [hu1]
  rw [if_neg hu1] at key
  have hself:tk.set k ⟨x1,x2,x3,x4,x5,x6,x7⟩=tk:=by
   apply List.ext_getElem?
   intro i
   rw [List.getElem?_set]
   split
   ·rename_i e;subst e;first|rw [hx]|rw [if_pos hkl,hx]
   ·rfl
  rw [hself] at key
  refine cP (Y4 hx hm' hu' hu1') (Z5 ccp cfo cin cat cov) ?_
  exact ⟨(⟨tk⟩,0),⟨hf,fun _=>key⟩,by simp [Fin]⟩
def aXc (f:bQ) (f':bQ):Prop:=∃ (k:Nat) (x:aR) (e:Int),f.aG[k]?=some x/\x.bF+1<=e/\e<=1000000000/\(x.cX=0\/e<=x.cX)/\f'=⟨f.aG.set k { x with bS:=e }⟩
theorem aJ8 (f:bQ) (id now by_:Int) (hf:uZ f) (hb:bX f=true):∃ r:bQ×Int,(uZ r.1/\(r.2=0->aXc f r.1)) ∧
  aC PP GG 156 [.agg f.c,.d (.int .i64 id),.d (.int .i64 now),.d (.int .i64 by_)] (.tup [.agg r.1.o,.d (.int .i64 r.2)]) [none,none,none,none]:=by
 refine cvD Tryz.func156 (α:=bQ×Int) 2 _ (fun r=>[.agg r.1.o,.d (.int .i64 r.2)]) _ (fun _=>rfl) ?_
 have cfo:=kE f hf
 rw [hb] at cfo
 have ccp:=nM f.aG hf
 have cat:=mX f id hf.1
 have cov:=fun t=>nL t now
 have cin:aC PP GG 20 [.d (.int .i64 now),.d (.int .i64 0),.d (.int .i64 1000000000)] (.d (.bool (inB now 0 1000000000))) [none,none,none]:=bD _ _ _
 have cin2:aC PP GG 20 [.d (.int .i64 by_),.d (.int .i64 1),.d (.int .i64 1000000000)] (.d (.bool (inB by_ 1 1000000000))) [none,none,none]:=bD _ _ _
 have hir:=cB f.aG
 have hlt:=hf.1
 cases hin:inB now 0 1000000000
 ·rw [hin] at cin
  obtain ⟨tk⟩:=f
  dsimp only at *
  refine eA (Z3 ccp cfo cin) ?_
  exact ⟨(⟨tk⟩,1),⟨hf,by simp⟩,by simp [Fin]⟩
 rw [hin] at cin
 cases hin2:inB by_ 1 1000000000
 ·rw [hin2] at cin2
  obtain ⟨tk⟩:=f
  dsimp only at *
  refine eA (Z4 ccp cfo cin cin2) ?_
  exact ⟨(⟨tk⟩,1),⟨hf,by simp⟩,by simp [Fin]⟩
 rw [hin2] at cin2
 have hn:=cD hin
 have hby:=cD hin2
 have hno:decide (nA (fun t=>decide (t.bZ=id)) f.aG<0)=!cN f id:=oU _ _
 cases hh:cN f id
 ·rw [hh] at hno
  simp only [Bool.not_false,decide_eq_true_eq] at hno
  generalize nA (fun t=>decide (t.bZ=id)) f.aG=j at *
  obtain ⟨tk⟩:=f
  dsimp only at *
  have hno':(j<0)=True:=by simp [hno]
  refine cP hno' (Z5 ccp cfo cin cin2 cat) ?_
  exact ⟨(⟨tk⟩,2),⟨hf,by simp⟩,by simp [Fin]⟩
 obtain ⟨k,x,e1,hx,hxi,hfd⟩:=xL (p:=fun t:aR=>decide (t.bZ=id)) (l:=f.aG) hh
 rw [e1] at cat
 have htb:=((fN f).1 hb).2.1 x (List.mem_of_getElem? hx)
 obtain ⟨t1,t2,t3,t4,t5⟩:=aNs htb.1
 have hkl:k<f.aG.length:=(List.getElem?_eq_some_iff.1 hx).1
 have hfs:∀ u:Int,uZ ⟨f.aG.set k { x with bS:=u }⟩:=fun u=>⟨by simpa using hf.1,fun t ht=>by
  rcases List.mem_or_eq_of_mem_set ht with ht|rfl
  ·exact hf.2 t ht
  ·exact hf.2 x (List.mem_of_getElem? hx)⟩
 have cov:=cov x
 clear e1 hfd hno hh hin hin2 htb hxi
 have key:∀ e:Int,x.bF+1<=e->e<=1000000000->(x.cX=0\/e<=x.cX)->aXc f ⟨f.aG.set k { x with bS:=e }⟩:=fun e h1 h2 h3=>⟨k,x,e,hx,h1,h2,h3,rfl⟩
 have hw:IntKind.i64.wrap (now+by_)=now+by_:=aA (by omega) (by omega)
 obtain ⟨x1,x2,x3,x4,x5,x6,x7⟩:=x
 dsimp only at *
 generalize lY x5 now=bo at cov
 have hxr:∀ u:Int,(cA f.aG).set k [.int .i64 x1,.int .i64 x2,.slc 1 (aK x3),.int .i64 x4,.int .i64 u,.int .i64 x6,.int .i64 x7]=cA (f.aG.set k ⟨x1,x2,x3,x4,u,x6,x7⟩):=fun u=>aEq f.aG k ⟨x1,x2,x3,x4,u,x6,x7⟩
 obtain ⟨tk⟩:=f
 dsimp only at *
 cases bo
 rotate_left
 ·refine cP hx (Z6 ccp cfo cin cin2 cat cov) ?_
  exact ⟨(⟨tk⟩,3),⟨hf,by simp⟩,by simp [Fin]⟩
 by_cases hm:now<x4
 ·have hm':(now<x4)=True:=by simp [hm]
  refine cP (Y2 hx hm') (Z6 ccp cfo cin cin2 cat cov) ?_
  exact ⟨(⟨tk⟩,3),⟨hf,by simp⟩,by simp [Fin]⟩
 have hm':(now<x4)=False:=by simp [hm]
 by_cases h6:x6=0
 ·have h6':(x6=0)=True:=by simp [h6]
  by_cases h7:1000000000<now+by_
  ·have h7':(1000000000<now+by_)=True:=by simp [h7]
   refine cP (Y5 hx hm' h6' h7' hw) (Z6 ccp cfo cin cin2 cat cov) ?_
   exact ⟨(⟨tk⟩,4),⟨hf,by simp⟩,by simp [Fin]⟩
  ·have h7':(1000000000<now+by_)=False:=by simp [h7]
   refine cP (Y5 hx hm' h6' h7' hw) (Z6 ccp cfo cin cin2 cat cov) ?_
   exact ⟨(⟨tk.set k ⟨x1,x2,x3,x4,now+by_,x6,x7⟩⟩,0),⟨hfs _,fun _=>key _ (by omega) (by omega) (.inl h6)⟩,by simp [Fin,hxr]⟩
 have h6':(x6=0)=False:=by simp [h6]
 by_cases h8:x6<now+by_
 ·have h8':(x6<now+by_)=True:=by simp [h8]
  by_cases h7:1000000000<x6
  ·have h7':(1000000000<x6)=True:=by simp [h7]
   refine cP (Y6 hx hm' h6' h7' h8' hw) (Z6 ccp cfo cin cin2 cat cov) ?_
   exact ⟨(⟨tk⟩,4),⟨hf,by simp⟩,by simp [Fin]⟩
  ·have h7':(1000000000<x6)=False:=by simp [h7]
   refine cP (Y6 hx hm' h6' h7' h8' hw) (Z6 ccp cfo cin cin2 cat cov) ?_
   exact ⟨(⟨tk.set k ⟨x1,x2,x3,x4,x6,x6,x7⟩⟩,0),⟨hfs _,fun _=>key _ (by omega) (by omega) (.inr (by omega))⟩,by simp [Fin,hxr]⟩
 ·have h8':(x6<now+by_)=False:=by simp [h8]
  by_cases h7:1000000000<now+by_
  ·have h7':(1000000000<now+by_)=True:=by simp [h7]
   refine cP (Y6 hx hm' h6' h7' h8' hw) (Z6 ccp cfo cin cin2 cat cov) ?_
   exact ⟨(⟨tk⟩,4),⟨hf,by simp⟩,by simp [Fin]⟩
  ·have h7':(1000000000<now+by_)=False:=by simp [h7]
   refine cP (Y6 hx hm' h6' h7' h8' hw) (Z6 ccp cfo cin cin2 cat cov) ?_
   exact ⟨(⟨tk.set k ⟨x1,x2,x3,x4,now+by_,x6,x7⟩⟩,0),⟨hfs _,fun _=>key _ (by omega) (by omega) (.inr (by omega))⟩,by simp [Fin,hxr]⟩
theorem aDj (l:List dE):∀ row,row∈cV l->∀ d,d∈row->oB 1 d:=by
 intro row h d hd
 simp only [cV,List.mem_map] at h
 obtain ⟨x,_,rfl⟩:=h
 simp only [dE.row,List.mem_cons,List.not_mem_nil,or_false] at hd
 rcases hd with rfl|rfl
 ·trivial
 ·exact qZ x.nY
theorem aCB (p:dE) (hf:aPy p):aC PP GG 136 [.agg p.c] (.agg p.o) [none]:=by
 refine cv Tryz.func136 [.agg p.o] ?_
 obtain ⟨nm,a⟩:=p
 obtain ⟨-,h2,-⟩:=hf
 dsimp only at h2 ⊢
 refine jJ ?_
 refine kX 3 1 rfl rfl rfl ?_
 refine jJ ?_
 refine bH (fun n st=>∃ i:Nat,n=a.length-i/\i<=a.length ∧
  st=⟨[],[(1,.ptr 0 0),(2,.ptr 1 0),(3,.ptr 2 0),(4,.d (.int .i64 i))],[(0,.box [.d (.str nm),.d (.slc 2 (iL a))]),(1,.box [.d (.str []),.nil 0 2]),(2,.box [.d (.str nm),.sl 3]),(3,.arr 0 0 2 (iL (a.take i)))],4⟩) _ ⟨0,rfl,by omega,?_⟩ ?_
 ·exact gE @iL.eq_1
 rintro n st ⟨i,rfl,hi,rfl⟩
 by_cases hlt:i<a.length
 rotate_left
 ·have hie:i=a.length:=by omega
  subst hie
  rw [List.take_length]
  exact nK
 have ha:=List.getElem?_eq_getElem hlt
 have hsc:∀ x,a[i]?=some x->iL (a.take (i+1))=iL (a.take i)++[x.row]:=fun x hx=>by rw [List.take_add_one,hx];simp [iL]
 have hlen:(iL (a.take i)).length<=i:=by rw [aOK,List.length_take];omega
 have hir:=qZ (a.take i)
 have hsc:=hsc _ ha
 generalize a[i]=x at ha hsc
 generalize iL (a.take i)=L at *
 refine eT (Y2 ha @aM.eq_1) ?_
 refine ⟨a.length-(i+1),by omega,i+1,rfl,hlt,?_⟩
 rw [hsc]
 refine kN ?_
 exact aA (by omega) (by omega)
theorem aFV (ps:List dE) (hl:ps.length<=4096) (hf:∀ p,p∈ps->aPy p):∃ b:Bool,True/\aC PP GG 134 [.d (.slc 2 (cV ps))] (.d (.bool b)) [none]:=by
 refine cvD Tryz.func134 (α:=Bool) 1 _ (fun b=>[.d (.bool b)]) _ (fun _=>rfl) ?_
 refine aUD ?_ ?_
 ·exact ⟨false,trivial,by simp [Fin]⟩
 refine gA (fun n st=>∃ i:Nat,n=ps.length-i/\i<=ps.length/\st=⟨[],[(0,.d (.slc 2 (cV ps))),(3,.d (.int .i64 i))],[],0⟩) _ ⟨0,rfl,by omega,?_⟩ ?_
 ·exact fI
 rintro n st ⟨i,rfl,hi,rfl⟩
 by_cases hlt:i<ps.length
 rotate_left
 ·have hie:i=ps.length:=by omega
  subst hie
  refine mG ?_
  exact ⟨true,trivial,by simp [Fin]⟩
 have ha:=List.getElem?_eq_getElem hlt
 have hm:=hf _ (List.getElem_mem hlt)
 generalize ps[i]=x at ha hm
 have hw:IntKind.i64.wrap ((i:Int)+1)=(i:Int)+1:=aA (by omega) (by omega)
 obtain ⟨b1,-,c1⟩:=vE x hm
 cases b1
 ·refine cP ha (Z1 c1) ?_
  exact ⟨false,trivial,by simp [Fin]⟩
 by_cases h0:0<i
 ·have h0':((0:Int)<(i:Int))=True:=by simp;omega
  obtain ⟨j,hj⟩:∃ j,i=j+1:=⟨i-1,by omega⟩
  have hwj:IntKind.i64.wrap ((i:Int)-1)=(j:Int):=by rw [aA (by omega) (by omega)];omega
  have hq:=List.getElem?_eq_getElem (show j<ps.length by omega)
  have hjl:j<ps.length:=by omega
  generalize ps[j]=q at hq
  refine aUC (Y4 ha h0' hwj hq) (Z1 c1) ?_ ?_
  ·exact ⟨false,trivial,by simp [Fin]⟩
  ·refine ⟨ps.length-(i+1),by omega,i+1,rfl,hlt,?_⟩
   exact dV hw
 ·have h0':((0:Int)<(i:Int))=False:=by simp;omega
  refine cP (Y2 ha h0') (Z1 c1) ?_
  refine ⟨ps.length-(i+1),by omega,i+1,rfl,hlt,?_⟩
  exact dV hw
theorem aNk (f:bQ) (id:Int) (ps:List dE) (hf:uZ f) (hl:ps.length<=4096) (hp:∀ p,p∈ps->aPy p):∃ r:List dE×Bool,(r.1.length<=4096/\∀ p,p∈r.1->p∈ps) ∧
  aC PP GG 106 [.agg f.c,.d (.int .i64 id),.d (.slc 2 (cV ps))] (.tup [.own 1 2 (cV r.1),.d (.bool r.2)]) [none,none,none]:=by
 refine cvD Tryz.func106 (α:=List dE×Bool) 2 _ (fun r=>[.own 1 2 (cV r.1),.d (.bool r.2)]) _ (fun _=>rfl) ?_
 have cf:=lW f id hf
 obtain ⟨b,-,cp⟩:=aFV ps hl hp
 have hT:(kG f id).fO.length<=281474976710656:=by
  unfold kG
  split
  ·cases h:f.aG.find? (fun t=>decide (t.bZ=id)) with
   |none=>simp [aHq]
   |some t=>have:=(hf.2 t (List.mem_of_find?_eq_some h)).1;simp;omega
  ·simp [aHq]
 generalize kG f id=t at *
 generalize (bX f && cN f id)=ok at *
 have chs:=fun s=>vH t.fO s hT
 have e0:cV []=[]:=rfl
 have hi1:=cC t.fO
 cases ok
 ·refine eA (Z1 cf) ?_
  exact ⟨([],false),⟨by simp,by simp⟩,by simp [Fin,e0]⟩
 cases b
 ·refine eA (Z2 cf cp) ?_
  exact ⟨([],false),⟨by simp,by simp⟩,by simp [Fin,e0]⟩
 obtain ⟨t1,t2,t3,t4,t5,t6,t7⟩:=t
 dsimp only at *
 refine eA (Z2 cf cp) ?_
 refine gA (fun n st=>∃ i:Nat,n=ps.length-i/\i<=ps.length/\∃ L:List dE,L.length<=i/\(∀ p,p∈L->p∈ps) ∧
  st=⟨[],[(2,.d (.slc 2 (cV ps))),(8,.sl 0),(9,.ptr 1 0),(11,.d (.int .i64 i))],[(0,.arr 0 1 2 (cV L)),(1,.box [.d (.int .i64 t1),.d (.int .i64 t2),.sl 2,.d (.int .i64 t4),.d (.int .i64 t5),.d (.int .i64 t6),.d (.int .i64 t7)]),(2,.arr 0 0 1 (aK t3))],3⟩) _ ⟨0,rfl,by omega,[],by simp,by simp,?_⟩ ?_
 ·exact dV e0
 clear cf cp
 rintro n st ⟨i,rfl,hi,L,hL,hLp,rfl⟩
 have hiL:=aDj L
 by_cases hlt:i<ps.length
 rotate_left
 ·have hie:i=ps.length:=by omega
  subst hie
  refine mG ?_
  exact ⟨(L,true),⟨by dsimp only;omega,hLp⟩,by simp [Fin]⟩
 have ha:=List.getElem?_eq_getElem hlt
 have hm:=List.getElem_mem hlt
 generalize ps[i]=x at ha hm
 have hw:IntKind.i64.wrap ((i:Int)+1)=(i:Int)+1:=aA (by omega) (by omega)
 have cc:=aCB x (hp x hm)
 have ch:=chs x.aH
 generalize t3.contains x.aH=b at ch
 have hir:=qZ x.nY
 cases b
 ·refine cP ha (Z1 ch) ?_
  refine ⟨ps.length-(i+1),by omega,i+1,rfl,hlt,L,by omega,hLp,?_⟩
  exact dV hw
 ·refine cP (Y2 ha @aM.eq_1) (Z2 ch cc) ?_
  refine ⟨ps.length-(i+1),by omega,i+1,rfl,hlt,L++[x],by simp;omega,fun p hq=>?_,?_⟩
  ·rcases List.mem_append.1 hq with hq|hq
   ·exact hLp p hq
   ·simp at hq;subst hq;exact hm
  ·exact dV (Y2 hw @cV.eq_1)
@[simp] abbrev aV.q (x:aV):List C:=[.d (.int .i64 x.aD.cT),.d (.int .i64 x.aD.bJ),.d (.int .i64 x.aD.fL),.own 1 7 (cA x.aD.aE.aG),.own 0 6 (bG x.aD.bA.aP),.own 0 2 (dG x.aD.bT.bE),.d (.int .i64 x.aD.bT.gT),.d (.int .i64 x.aD.bT.bF),.own 0 3 (gM x.aD.bO.cF),.own 0 2 (dW x.aD.bI),.d (.slc 2 (cV x.iJ)),.d (.slc 4 (kP x.lI)),.d (.slc 3 (bL x.nB.iF)),.d (.int .i64 x.gS.jK),.d (.int .i64 x.gS.bJ),.own 1 6 (jA x.gS.cS),.d (.int .i64 x.iA.jO),.d (.int .i64 x.iA.sN),.own 0 7 (fD x.iA.dY),.own 0 1 (aB x.gY.oH),.own 0 1 (aB x.gY.jF),.d (.int .i64 x.jK)]
abbrev rsp (c n:Int) (nm dt:List UInt8) (l:List (List UInt8)):List C:=[.d (.int .i64 c),.d (.int .i64 n),.d (.str nm),.d (.str dt),.own 0 1 (aK l)]
theorem iD (s:aV) (code:Int):aC PP GG 78 [.agg (aV.q s),.d (.int .i64 code)] (.tup [.agg (aV.q s),.agg (rsp code 0 [] [] [])]) [none,none]:=by
 refine cv Tryz.func78 [.agg (aV.q s),.agg (rsp code 0 [] [] [])] ?_
 obtain ⟨⟨now,next,lost,⟨tk⟩,⟨bk⟩,⟨us,ff,fm⟩,⟨jb⟩,ow⟩,ps,rl,⟨en⟩,⟨rk,rn,rw⟩,⟨cf,cs,cn⟩,⟨ds,dl⟩,key⟩:=s
 have e0:aK []=[]:=rfl
 exact fC e0
structure Zed (w:aS):Prop where
 now:w.cT=0
 next:w.bJ=0
 tk:w.aE.aG=[]
 bk:w.bA.aP=[]
 us:w.bT.bE=[]
 md:w.bT.bF=0
 jb:w.bO.cF=[]
 ow:w.bI=[]
def WI (w:aS):Prop:=iG w\/Zed w
theorem WI.fit {w:aS} (h:WI w):aE6 w:=by
 rcases h with h|h
 ·exact gR h.ok
 ·refine ⟨⟨by rw [h.tk];simp,fun t ht=>by rw [h.tk] at ht;simp at ht⟩,⟨by rw [h.bk];simp,fun t ht=>by rw [h.bk] at ht;simp at ht⟩,⟨by rw [h.us];simp,fun t ht=>by rw [h.us] at ht;simp at ht⟩,⟨by rw [h.jb];simp,fun t ht=>by rw [h.jb] at ht;simp at ht⟩,by rw [h.ow];simp,fun t ht=>by rw [h.ow] at ht;simp at ht⟩
theorem WI.fo {w:aS} (h:WI w):bX w.aE=true:=by
 rcases h with h|h
 ·exact ((cZ w).1 h.ok).fo
 ·rw [fN,h.tk];simp
theorem WI.now {w:aS} (h:WI w):0<=w.cT/\w.cT<=1000000000:=by
 rcases h with h|h
 ·exact ((cZ w).1 h.ok).now
 ·rw [h.now];omega
theorem Zed.bad {w:aS} (h:Zed w):fH w=false:=by
 cases hb:fH w with
 |false=>rfl
 |true=>have:=((cZ w).1 hb).next;rw [h.next] at this;omega
theorem WI.pt {w:aS} (h:WI w) (now:Int):WI (ptW w now)/\(ptW w now).bT.bF=w.bT.bF:=by
 refine ⟨?_,aS2 w now⟩
 rcases h with h|h
 ·exact .inl (aQ0 h now)
 ·have hb:ptB w now=false:=by unfold ptB;rw [Zed.bad h];rfl
  have e:ptW w now=w:=by unfold ptW;rw [hb];rfl
  rw [e];exact .inr h
def vK (r:dZ):Prop:=aX r.bJ/\∀ w,w∈r.cS->aX w.bZ
theorem aSW {r:dZ} (h:vK r) (kind plain:List UInt8) (now ttl:Int):vK (aDF r kind plain now ttl):=by
 unfold aDF
 split
 ·rename_i hp
  have hp:=hp.1
  simp only [aBo,lE,Bool.and_eq_true] at hp
  have hn:=cD hp.1.1.1.1.1.1.1.1.2
  refine ⟨by show aX (r.bJ+1);unfold aX;omega,fun w hw=>?_⟩
  have hw:w∈r.cS++[{ bZ:=r.bJ,bS:=now+ttl,cY:=kind,oW:=yB r.jK r.bJ plain }]:=hw
  rcases List.mem_append.1 hw with hw|hw
  ·exact h.2 w hw
  ·simp at hw;subst hw;exact h.1
 ·exact h
theorem aKK {r:dZ} (h:vK r) (id:Int):vK (aC9 r id):=⟨h.1,fun w hw=>h.2 w (List.mem_filter.1 hw).1⟩
theorem aQx {r:dZ} (h:vK r) (id now:Int):vK (tI r id now).1:=by
 unfold tI
 split
 ·exact h
 ·split
  ·exact h
  ·split
   ·exact aKK h id
   ·split<;>exact aKK h id
theorem aOH {r:dZ} (h:vK r) (now:Int):vK (qC r now).1:=by
 unfold qC
 split
 ·exact ⟨h.1,fun w hw=>h.2 w (List.mem_filter.1 hw).1⟩
 ·exact h
structure eD (n:Nat) (s:aV):Prop where
 lv:WI s.aD
 md:s.aD.bT.bF<=n
 pl:s.iJ.length<=n+1
 pf:∀ p,p∈s.iJ->tQ p
 rl:s.lI.length<=n
 rf:∀ r,r∈s.lI->r.aH.length<=512/\r.iM.length<=512
 en:sS n s.nB.iF
 rk:s.gS.cost<=n*1200/\vK s.gS
 ch:s.iA.cost<=n*1000
 co:s.iA.ok
 dk:s.gY.oH.length+s.gY.jF.length<=40000
 ky:aX s.jK
theorem eD.up {n m:Nat} {s:aV} (h:eD n s) (hm:n<=m):eD m s:=by
 obtain ⟨h1,h2,h3,h4,h5,h6,h7,h8,h9,h10,h11,h12⟩:=h
 exact ⟨h1,by omega,by omega,h4,by omega,h6,sS.mono h7 hm,⟨by omega,h8.2⟩,by omega,h10,h11,h12⟩
def iP (key:Int):aV:=⟨⟨0,2,0,⟨[⟨1,0,[[100,101,118],[111,112,115],[114,111,111,116],[119,101,98]],0,0,0,0⟩]⟩,⟨[]⟩,⟨[],0,0⟩,⟨[]⟩,[]⟩,[⟨[114,111,111,116],[⟨[42],31⟩]⟩],[],⟨[]⟩,⟨key,1,[]⟩,⟨0,key,[]⟩,⟨[],[]⟩,key⟩
theorem aKu:iG (iP 0).aD:=by
 have hw:fH (iP 0).aD=true:=by decide +kernel
 exact ⟨hw,by decide +kernel,aME.ni,fun l hl=>by simp [iP] at hl⟩
theorem aKt {key:Int} (hk:aX key):eD 0 (iP key):=
 ⟨.inl aKu,by simp [iP],by simp [iP],fun p hp=>by
  simp [iP] at hp;subst hp
  exact ⟨by simp,by simp,fun r hr=>by simp at hr;subst hr;simp⟩,by simp [iP],by simp [iP],⟨by simp [iP],by simp [iP]⟩,⟨by simp [iP,dZ.cost,dF],by simp [vK,iP,aX]⟩,by simp [iP,eB.cost,dF],⟨by simp [iP,aX],hk,by simp [iP],by simp [iP]⟩,by simp [iP],hk⟩
def kZ:aV:=⟨⟨0,0,0,⟨[]⟩,⟨[]⟩,⟨[],0,0⟩,⟨[]⟩,[]⟩,[],[],⟨[]⟩,⟨0,0,[]⟩,⟨0,0,[]⟩,⟨[],[]⟩,0⟩
theorem aSi:eD 0 kZ:=
 ⟨.inr ⟨rfl,rfl,rfl,rfl,rfl,rfl,rfl,rfl⟩,by simp [kZ],by simp [kZ],by simp [kZ],by simp [kZ],by simp [kZ],⟨by simp [kZ],by simp [kZ]⟩,⟨by simp [kZ,dZ.cost,dF],by simp [vK,kZ,aX]⟩,by simp [kZ,eB.cost,dF],⟨by simp [kZ,aX],by simp [kZ,aX],by simp [kZ],by simp [kZ]⟩,by simp [kZ],by simp [kZ,aX]⟩
theorem aVT {P:Program} {vl:List Nat} {nt:Nat×List Nat} {V:FuncId->List C->C->List (Option C)->Prop} {st:St} {Kn:St->Prop} {Ke:Nat->St->Prop} {Kr:St->Prop} {ac:aI} (live:List Nat) {s1:St} (e:gc live st=s1) (h:W P vl nt V ac s1 Kn Ke Kr):W P vl nt V ac st Kn Ke Kr:=aVV live (by rw [e];exact h)
theorem aDg (key:Int):aC PP GG 51 [.d (.int .i64 key)] (.agg (aV.q (iP key))) [none]:=by
 refine cv Tryz.func51 [.agg (aV.q (iP key))] ?_
 have eE:bL []=[]:=rfl
 have eR:kP []=[]:=rfl
 refine u_1 ?_
 refine u_1 ?_
 refine u_1 ?_
 refine u_6 @aM.eq_1 ?_
 refine u_6 @aM.eq_1 ?_
 refine aVT [0,2,3] (s1:=⟨[],[(0,.d (.int .i64 key)),(2,.ptr 0 0),(3,.ptr 1 0)],[(0,.box [.d (.int .i64 0),.d (.int .i64 0),.d (.int .i64 0),.nil 1 7,.nil 0 6,.nil 0 2,.d (.int .i64 0),.d (.int .i64 0),.nil 0 3,.nil 0 2,.nil 1 2,.nil 0 4,.nil 2 3,.d (.int .i64 0),.d (.int .i64 0),.nil 1 6,.d (.int .i64 0),.d (.int .i64 0),.nil 0 7,.nil 0 1,.nil 0 1,.d (.int .i64 0)]),
  (1,.box [.d (.int .i64 0),.d (.int .i64 2),.d (.int .i64 0),.sl 2,.nil 0 6,.nil 0 2,.d (.int .i64 0),.d (.int .i64 0),.nil 0 3,.nil 0 2,.sl 3,.nil 0 4,.nil 2 3,.d (.int .i64 0),.d (.int .i64 0),.nil 1 6,.d (.int .i64 0),.d (.int .i64 0),.nil 0 7,.nil 0 1,.nil 0 1,.d (.int .i64 key)]),
  (2,.arr 0 1 7 (cA (iP key).aD.aE.aG)),(3,.arr 0 1 2 (cV (iP key).iJ))],4⟩) ?_ ?_
 ·exact gE (Y5 @cA.eq_1 @cV.eq_1 @iL.eq_1 @iP.eq_1 @aK.eq_1)
 refine aJ5 1 10 rfl rfl rfl ?_
 refine aNh 1 11 rfl rfl ?_
 refine aJ5 1 11 rfl rfl rfl ?_
 refine aNh 1 12 rfl rfl ?_
 refine aJ5 1 12 rfl rfl rfl ?_
 repeat' (first|refine aN ?_|refine aQ ?_|refine aU ?_|refine cR ?_|refine aW rfl ?_|refine bB rfl ?_|((first|refine iX fun K hK=>?_|refine fS fun K hK=>?_|refine kI ?_);simp [Fin,cA,bG,dG,gM,dW,cV,kP,bL,jA,fD,aB,aK,iL])|(with_reducible refine hK _ ?_;clear hK K)|(with_reducible refine aJ (fun h=>?_) (fun h=>?_)<;>first|(exfalso;simp at h;first|done|omega|contradiction)|((try simp at h);simp [cA,bG,dG,gM,dW,cV,kP,bL,jA,fD,aB,aK,iL]))|with_reducible refine And.intro ?_ ?_|with_reducible exact aL rfl|with_reducible assumption|(refine aO rfl (fun h=>?_) (fun h=>?_)<;>first|(exfalso;simp at h;first|done|omega|contradiction)|(exfalso;simp_all;done)|(try simp at h))|omega)
 all_goals rfl
theorem aLg (l:List Int) (hl:l.length<=4096) (hi64:∀ x,x∈l->aX x):∃ r:List (List UInt8),True/\aC PP GG 155 [.d (.slc 1 (bM l))] (.own 0 1 (aK r)) [none]:=by
 refine cvD Tryz.func155 (α:=List (List UInt8)) 1 _ (fun r=>[.own 0 1 (aK r)]) _ (fun _=>rfl) ?_
 refine mG ?_
 refine gA (fun n st=>∃ i:Nat,n=l.length-i/\i<=l.length/\∃ L:List (List UInt8),L.length<=i ∧
  st=⟨[],[(0,.d (.slc 1 (bM l))),(3,.sl 0),(4,.d (.int .i64 i))],[(0,.arr 0 0 1 (aK L))],1⟩) _ ⟨0,rfl,by omega,[],by simp,?_⟩ ?_
 ·exact dV @aK.eq_1
 rintro n st ⟨i,rfl,hi,L,hL,rfl⟩
 have hli:=cC L
 by_cases hlt:i<l.length
 rotate_left
 ·have hie:i=l.length:=by omega
  subst hie
  refine iZ @gW ?_
  exact ⟨L,trivial,by simp [Fin]⟩
 have ha:=List.getElem?_eq_getElem hlt
 have hm:=hi64 _ (List.getElem_mem hlt)
 generalize l[i]=x at ha hm
 have hw:IntKind.i64.wrap ((i:Int)+1)=(i:Int)+1:=aA (by omega) (by omega)
 have cn:=kT x hm
 generalize Lib.itoa x=t at cn
 refine cP (Y4 @gW ha @bV @aM.eq_1) (Z1 cn) ?_
 refine ⟨l.length-(i+1),by omega,i+1,rfl,hlt,L++[t],by simp;omega,?_⟩
 exact dV (Y2 hw @aK.eq_1)
theorem aLf (ps:List dE) (p:dE) (hl:ps.length<=4096):∃ r:List dE,(r.length<=ps.length+1/\∀ x,x∈r->x=p\/x∈ps)/\aC PP GG 152 [.d (.slc 2 (cV ps)),.agg p.c] (.d (.slc 2 (cV r))) [none,none]:=by
 refine cvD Tryz.func152 (α:=List dE) 1 _ (fun r=>[.d (.slc 2 (cV r))]) _ (fun _=>rfl) ?_
 obtain ⟨pn,pr⟩:=p
 have e0:cV []=[]:=rfl
 refine iZ e0 ?_
 refine gA (fun n st=>∃ i:Nat,n=ps.length-i/\i<=ps.length/\∃ (L:List dE) (b:Bool),L.length<=i+1/\(b=false->L.length<=i)/\(∀ x,x∈L->x=⟨pn,pr⟩\/x∈ps)/\∃ kk:Nat,(kk=if L=[] then 1 else 0) ∧
  st=⟨[],[(0,.d (.slc 2 (cV ps))),(3,.ptr 0 0),(5,.sl 1),(6,.d (.bool b)),(7,.d (.int .i64 i))],[(0,.box [.d (.str pn),.d (.slc 2 (iL pr))]),(1,.arr 0 kk 2 (cV L))],2⟩) _ ⟨0,rfl,by omega,[],false,by simp,by simp,by simp,1,by simp,?_⟩ ?_
 ·exact dV e0
 rintro n st ⟨i,rfl,hi,L,b,h1,h2,h3,kk,hkk,rfl⟩
 have h3p:∀ M:List dE,(∀ x,x∈M->x=⟨pn,pr⟩\/x∈ps)->∀ x,x∈M++[⟨pn,pr⟩]->x=⟨pn,pr⟩\/x∈ps:=fun M h x hx=>by
  rcases List.mem_append.1 hx with hx|hx
  ·exact h x hx
  ·simp at hx;exact .inl hx
 by_cases hlt:i<ps.length
 rotate_left
 ·have hie:i=ps.length:=by omega
  subst hie
  cases b
  ·have h2:=h2 rfl
   by_cases hLe:L=[]
   ·subst hLe
    simp only [if_pos] at hkk
    subst hkk
    refine iZ (Y2 @aM.eq_1 e0) ?_
    exact ⟨[⟨pn,pr⟩],⟨by simp,h3p [] (by simp)⟩,by simp [Fin,cV]⟩
   ·rw [if_neg hLe] at hkk
    subst hkk
    refine iZ (Y2 @aM.eq_1 e0) ?_
    exact ⟨L++[⟨pn,pr⟩],⟨by simp;omega,h3p _ h3⟩,by simp [Fin,cV]⟩
  ·refine mG ?_
   exact ⟨L,⟨h1,h3⟩,by simp [Fin]⟩
 have ha:=List.getElem?_eq_getElem hlt
 have hmem:=List.getElem_mem hlt
 generalize ps[i]=x at ha hmem
 have hw:IntKind.i64.wrap ((i:Int)+1)=(i:Int)+1:=aA (by omega) (by omega)
 have h3x:∀ M:List dE,(∀ x,x∈M->x=⟨pn,pr⟩\/x∈ps)->∀ y,y∈M++[x]->y=⟨pn,pr⟩\/y∈ps:=fun M h y hy=>by
  rcases List.mem_append.1 hy with hy|hy
  ·exact h y hy
  ·simp at hy;subst hy;exact .inr hmem
 obtain ⟨xn,xr⟩:=x
 by_cases hne:xn=pn
 ·have hne':(xn=pn)=True:=by simp [hne]
  by_cases hLe:L=[]
  ·subst hLe
   simp only [if_pos] at hkk
   subst hkk
   cases b
   ·cases hq:(Go.Op.bytesLess pn xn || pn==xn)
    ·exfalso;rw [hne] at hq;simp at hq
    ·refine iZ (Y5 ha @aM.eq_1 e0 hq hne') ?_
     refine ⟨ps.length-(i+1),by omega,i+1,rfl,hlt,[⟨pn,pr⟩],true,by simp,by simp,h3p [] (by simp),0,by simp,?_⟩
     exact dV (Y2 hw @cV.eq_1)
   ·refine iZ (Y4 ha @aM.eq_1 e0 hne') ?_
    refine ⟨ps.length-(i+1),by omega,i+1,rfl,hlt,[],true,by simp,by simp,by simp,1,by simp,?_⟩
    exact dV (Y2 hw e0)
  ·rw [if_neg hLe] at hkk
   subst hkk
   cases b
   ·have h2:=h2 rfl
    cases hq:(Go.Op.bytesLess pn xn || pn==xn)
    ·exfalso;rw [hne] at hq;simp at hq
    ·refine iZ (Y5 ha @aM.eq_1 e0 hq hne') ?_
     refine ⟨ps.length-(i+1),by omega,i+1,rfl,hlt,L++[⟨pn,pr⟩],true,by simp;omega,by simp,h3p _ h3,0,by simp,?_⟩
     exact dV (Y2 hw @cV.eq_1)
   ·refine iZ (Y4 ha @aM.eq_1 e0 hne') ?_
    refine ⟨ps.length-(i+1),by omega,i+1,rfl,hlt,L,true,by omega,by simp,h3,0,by simp [hLe],?_⟩
    exact dV hw
 ·have hne':(xn=pn)=False:=by simp [hne]
  by_cases hLe:L=[]
  ·subst hLe
   simp only [if_pos] at hkk
   subst hkk
   cases b
   ·cases hq:(Go.Op.bytesLess pn xn || pn==xn)
    ·refine iZ (Y5 ha @aM.eq_1 e0 hq hne') ?_
     refine ⟨ps.length-(i+1),by omega,i+1,rfl,hlt,[⟨xn,xr⟩],false,by simp,by simp,h3x [] (by simp),0,by simp,?_⟩
     exact dV (Y2 hw @cV.eq_1)
    ·refine iZ (Y5 ha @aM.eq_1 e0 hq hne') ?_
     refine ⟨ps.length-(i+1),by omega,i+1,rfl,hlt,[⟨pn,pr⟩]++[⟨xn,xr⟩],true,by simp,by simp,h3x _ (by simp),0,by simp,?_⟩
     exact dV (Y2 hw @cV.eq_1)
   ·refine iZ (Y4 ha @aM.eq_1 e0 hne') ?_
    refine ⟨ps.length-(i+1),by omega,i+1,rfl,hlt,[⟨xn,xr⟩],true,by simp,by simp,h3x [] (by simp),0,by simp,?_⟩
    exact dV (Y2 hw @cV.eq_1)
  ·rw [if_neg hLe] at hkk
   subst hkk
   cases b
   ·have h2:=h2 rfl
    cases hq:(Go.Op.bytesLess pn xn || pn==xn)
    ·refine iZ (Y5 ha @aM.eq_1 e0 hq hne') ?_
     refine ⟨ps.length-(i+1),by omega,i+1,rfl,hlt,L++[⟨xn,xr⟩],false,by simp;omega,by simp;omega,h3x _ h3,0,by simp,?_⟩
     exact dV (Y2 hw @cV.eq_1)
    ·refine iZ (Y5 ha @aM.eq_1 e0 hq hne') ?_
     refine ⟨ps.length-(i+1),by omega,i+1,rfl,hlt,(L++[⟨pn,pr⟩])++[⟨xn,xr⟩],true,by simp;omega,by simp,h3x _ (h3p _ h3),0,by simp,?_⟩
     exact dV (Y2 hw @cV.eq_1)
   ·refine iZ (Y4 ha @aM.eq_1 e0 hne') ?_
    refine ⟨ps.length-(i+1),by omega,i+1,rfl,hlt,L++[⟨xn,xr⟩],true,by simp;omega,by simp,h3x _ h3,0,by simp,?_⟩
    exact dV (Y2 hw @cV.eq_1)
theorem aPb (ps:List fM) (p:fM) (hl:ps.length<=4096):∃ r:List fM,(r.length<=ps.length+1/\∀ x,x∈r->x=p\/x∈ps)/\aC PP GG 162 [.d (.slc 4 (kP ps)),.agg p.c] (.d (.slc 4 (kP r))) [none,none]:=by
 refine cvD Tryz.func162 (α:=List fM) 1 _ (fun r=>[.d (.slc 4 (kP r))]) _ (fun _=>rfl) ?_
 obtain ⟨pn,pr,p3,p4⟩:=p
 have e0:kP []=[]:=rfl
 refine iZ e0 ?_
 refine gA (fun n st=>∃ i:Nat,n=ps.length-i/\i<=ps.length/\∃ (L:List fM) (b:Bool),L.length<=i+1/\(b=false->L.length<=i)/\(∀ x,x∈L->x=⟨pn,pr,p3,p4⟩\/x∈ps) ∧
  st=⟨[],[(0,.d (.slc 4 (kP ps))),(3,.ptr 0 0),(5,.sl 1),(6,.d (.bool b)),(7,.d (.int .i64 i))],[(0,.box [.d (.str pn),.d (.str pr),.d (.int .i64 p3),.d (.int .i64 p4)]),(1,.arr 0 0 4 (kP L))],2⟩) _ ⟨0,rfl,by omega,[],false,by simp,by simp,by simp,?_⟩ ?_
 ·exact dV e0
 rintro n st ⟨i,rfl,hi,L,b,h1,h2,h3,rfl⟩
 have h3p:∀ M:List fM,(∀ x,x∈M->x=⟨pn,pr,p3,p4⟩\/x∈ps)->∀ x,x∈M++[⟨pn,pr,p3,p4⟩]->x=⟨pn,pr,p3,p4⟩\/x∈ps:=fun M h x hx=>by
  rcases List.mem_append.1 hx with hx|hx
  ·exact h x hx
  ·simp at hx;exact .inl hx
 by_cases hlt:i<ps.length
 rotate_left
 ·have hie:i=ps.length:=by omega
  subst hie
  cases b
  ·have h2:=h2 rfl
   refine iZ @aM.eq_1 ?_
   exact ⟨L++[⟨pn,pr,p3,p4⟩],⟨by simp;omega,h3p _ h3⟩,by simp [Fin,kP]⟩
  ·refine mG ?_
   exact ⟨L,⟨h1,h3⟩,by simp [Fin]⟩
 have ha:=List.getElem?_eq_getElem hlt
 have hmem:=List.getElem_mem hlt
 generalize ps[i]=x at ha hmem
 have hw:IntKind.i64.wrap ((i:Int)+1)=(i:Int)+1:=aA (by omega) (by omega)
 have h3x:∀ M:List fM,(∀ x,x∈M->x=⟨pn,pr,p3,p4⟩\/x∈ps)->∀ y,y∈M++[x]->y=⟨pn,pr,p3,p4⟩\/y∈ps:=fun M h y hy=>by
  rcases List.mem_append.1 hy with hy|hy
  ·exact h y hy
  ·simp at hy;subst hy;exact .inr hmem
 obtain ⟨xn,xr,x3,x4⟩:=x
 by_cases hne:xn=pn
 ·have hne':(xn=pn)=True:=by simp [hne]
  cases b
  ·have h2:=h2 rfl
   cases hq:(Go.Op.bytesLess pn xn || pn==xn)
   ·exfalso;rw [hne] at hq;simp at hq
   ·refine iZ (Y4 ha @aM.eq_1 hq hne') ?_
    refine ⟨ps.length-(i+1),by omega,i+1,rfl,hlt,L++[⟨pn,pr,p3,p4⟩],true,by simp;omega,by simp,h3p _ h3,?_⟩
    exact dV (Y2 hw @kP.eq_1)
  ·refine iZ (Y3 ha @aM.eq_1 hne') ?_
   refine ⟨ps.length-(i+1),by omega,i+1,rfl,hlt,L,true,by omega,by simp,h3,?_⟩
   exact dV hw
 ·have hne':(xn=pn)=False:=by simp [hne]
  cases b
  ·have h2:=h2 rfl
   cases hq:(Go.Op.bytesLess pn xn || pn==xn)
   ·refine iZ (Y4 ha @aM.eq_1 hq hne') ?_
    refine ⟨ps.length-(i+1),by omega,i+1,rfl,hlt,L++[⟨xn,xr,x3,x4⟩],false,by simp;omega,by simp;omega,h3x _ h3,?_⟩
    exact dV (Y2 hw @kP.eq_1)
   ·refine iZ (Y4 ha @aM.eq_1 hq hne') ?_
    refine ⟨ps.length-(i+1),by omega,i+1,rfl,hlt,(L++[⟨pn,pr,p3,p4⟩])++[⟨xn,xr,x3,x4⟩],true,by simp;omega,by simp,h3x _ (h3p _ h3),?_⟩
    exact dV (Y2 hw @kP.eq_1)
  ·refine iZ (Y3 ha @aM.eq_1 hne') ?_
   refine ⟨ps.length-(i+1),by omega,i+1,rfl,hlt,L++[⟨xn,xr,x3,x4⟩],true,by simp;omega,by simp,h3x _ h3,?_⟩
   exact dV (Y2 hw @kP.eq_1)
theorem gC (k t m:Int) (n p d:List UInt8) (hn:n.length<=512) (hp:p.length<=512):∃ r:Int×List UInt8,r.2.length<=n.length+p.length+12/\aC PP GG 105 [.agg (qP k t n p d m)] (.tup [.d (.int .i64 r.1),.d (.str r.2)]) [none]:=by
 refine cvD Tryz.func105 (α:=Int×List UInt8) 2 _ (fun r=>[.d (.int .i64 r.1),.d (.str r.2)]) _ (fun _=>rfl) ?_
 repeat' (first|refine gH ?_|refine eL ?_|refine eC ?_|refine dR ?_|refine eW ?_|refine aW rfl ?_|refine bB rfl ?_|((first|refine eQ fun K hK=>?_|refine dQ fun K hK=>?_);simp [Fin,dP])|(with_reducible refine hK _ ?_;clear hK K)|(with_reducible refine aJ (fun h=>?_) (fun h=>?_)<;>first|(exfalso;simp at h;first|done|omega|contradiction)|((try simp at h);simp [dP]))|with_reducible refine And.intro ?_ ?_|with_reducible exact aL rfl|with_reducible assumption|(refine dN rfl (fun h=>?_) (fun h=>?_)<;>first|(exfalso;simp at h;first|done|omega|contradiction)|(exfalso;simp_all;done)|(try simp at h))|omega)
 all_goals (refine ⟨(_,_),?_,by simp [Fin];exact ⟨rfl,rfl⟩⟩;dsimp only;simp only [List.length_append,List.length_cons,List.length_nil];omega)
@[simp] abbrev aV.bx (x:aV) (n:Nat):List A:=[.d (.int .i64 x.aD.cT),.d (.int .i64 x.aD.bJ),.d (.int .i64 x.aD.fL),.sl n,.sl (n+1),.sl (n+2),.d (.int .i64 x.aD.bT.gT),.d (.int .i64 x.aD.bT.bF),.sl (n+3),.sl (n+4),.d (.slc 2 (cV x.iJ)),.d (.slc 4 (kP x.lI)),.d (.slc 3 (bL x.nB.iF)),.d (.int .i64 x.gS.jK),.d (.int .i64 x.gS.bJ),.sl (n+5),.d (.int .i64 x.iA.jO),.d (.int .i64 x.iA.sN),.sl (n+6),.sl (n+7),.sl (n+8),.d (.int .i64 x.jK)]
@[simp] abbrev aV.ob (x:aV) (n:Nat):List (Nat×O):=[(n,.arr 0 1 7 (cA x.aD.aE.aG)),(n+1,.arr 0 0 6 (bG x.aD.bA.aP)),(n+2,.arr 0 0 2 (dG x.aD.bT.bE)),(n+3,.arr 0 0 3 (gM x.aD.bO.cF)),(n+4,.arr 0 0 2 (dW x.aD.bI)),(n+5,.arr 0 1 6 (jA x.gS.cS)),(n+6,.arr 0 0 7 (fD x.iA.dY)),(n+7,.arr 0 0 1 (aB x.gY.oH)),(n+8,.arr 0 0 1 (aB x.gY.jF))]
abbrev zS:List A:=[.d (.int .i64 0),.d (.int .i64 0),.d (.int .i64 0),.nil 1 7,.nil 0 6,.nil 0 2,.d (.int .i64 0),.d (.int .i64 0),.nil 0 3,.nil 0 2,.nil 1 2,.nil 0 4,.nil 2 3,.d (.int .i64 0),.d (.int .i64 0),.nil 1 6,.d (.int .i64 0),.d (.int .i64 0),.nil 0 7,.nil 0 1,.nil 0 1,.d (.int .i64 0)]
theorem aL6 {w:aS} {id:Int} {g:List Int} (h:iG w) (hg:∀ l,l∈w.bA.aP->cN (gB w.aE (fG w.aE id)) l.cL=true\/g.contains l.cL=true):
  iG (jG { w with aE:=gB w.aE (fG w.aE id),bA:=jX w.bA g } (mA w.bA g)):=by
 have hw:=(cZ w).1 h.ok
 have hgo:fG w.aE id=(wo (fun t=>decide (t.bZ=id)) w.aE.aG).2:=by unfold fG;rw [if_pos hw.fo]
 rw [hgo] at hg ⊢
 have hfo:=aEL hw.fo (fun t=>decide (t.bZ=id))
 generalize (wo (fun t=>decide (t.bZ=id)) w.aE.aG).2=G at *
 refine zC (now:=w.cT) (f:=gB w.aE G) (ls:=mA w.bA g) (fun l=>!g.contains l.cL) h hw.now hfo (fun t ht=>(List.mem_filter.1 ht).1) (fun l hl hp=>List.mem_filter.2 ⟨hl,by simpa using hp⟩) fun l hl hp=>?_
 rcases hg l hl with h1|h1
 ·exact h1
 ·rw [h1] at hp;cases hp
theorem aPa (w:aS) (s:aV) (id:Int) (old:aR) (h:iG w) (hs:s.aD={ w with aE:=gB w.aE (fG w.aE id) }):∃ w':aS,(iG w'/\w'.bT.bF=w.bT.bF) ∧
  aC PP GG 110 [.agg (aV.q s),.d (.int .i64 id),.agg old.o] (.agg (aV.q { s with aD:=w' })) [none,none,none]:=by
 refine cvD Tryz.func110 (α:=aS) 1 _ (fun w'=>[.agg (aV.q { s with aD:=w' })]) _ (fun _=>rfl) ?_
 have hw:=(cZ w).1 h.ok
 have hfit:=gR h.ok
 have hul:=fun g hg=>aL6 (id:=id) (g:=g) h hg
 have hbl:w.bA.aP.length<=150:=((pX w.bA).1 hw.bo).1
 have hfl:(gB w.aE (fG w.aE id)).aG.length<=120:=Nat.le_trans (List.length_filter_le _ _) ((fN w.aE).1 hw.fo).1
 have hhas:∀ x,cN (gB w.aE (fG w.aE id)) x=((gB w.aE (fG w.aE id)).aG.map aR.bZ).contains x:=by
  intro x
  unfold cN
  rw [Bool.eq_iff_iff,List.any_eq_true,List.contains_iff_mem,List.mem_map]
  constructor
  ·rintro ⟨t,ht,e⟩;exact ⟨t,ht,of_decide_eq_true e⟩
  ·rintro ⟨t,ht,e⟩;exact ⟨t,ht,decide_eq_true e⟩
 have hlet:=fun b=>(aCx hfit h.ok (gB w.aE (fG w.aE id)) b).1
 obtain ⟨sw,ps,rl,en,rk,ch,dk,key⟩:=s
 dsimp only at hs
 subst hs
 generalize gB w.aE (fG w.aE id)=F at *
 obtain ⟨o1,o2,o3,o4,o5,o6,o7⟩:=old
 refine mG ?_
 refine gA (fun n st=>∃ i:Nat,n=F.aG.length-i/\i<=F.aG.length ∧
  st=⟨[],[(3,.ptr 0 0),(6,.ptr 1 0),(7,.sl 2),(8,.d (.int .i64 i))],[(0,.box (aV.bx (aV.mk { w with aE:=F } ps rl en rk ch dk key) 3)),(1,.box zS),(2,.arr 0 0 1 (bM ((F.aG.take i).map aR.bZ)))]++aV.ob (aV.mk { w with aE:=F } ps rl en rk ch dk key) 3,12⟩) _ ⟨0,rfl,by omega,?_⟩ ?_
 ·exact dV @bM.eq_1
 rintro n st ⟨i,rfl,hi,rfl⟩
 by_cases hlt:i<F.aG.length
 ·have ha:=List.getElem?_eq_getElem hlt
  have hsc:∀ x,F.aG[i]?=some x->bM ((F.aG.take (i+1)).map aR.bZ)=bM ((F.aG.take i).map aR.bZ)++[[.int .i64 x.bZ]]:=fun x hx=>by rw [List.take_add_one,hx];simp [bM]
  have hsc:=hsc _ ha
  have hlen:(bM ((F.aG.take i).map aR.bZ)).length<=i:=by simp [bM,List.length_take];omega
  generalize F.aG[i]=x at ha hsc
  generalize bM ((F.aG.take i).map aR.bZ)=L at *
  have hw1:IntKind.i64.wrap ((i:Int)+1)=(i:Int)+1:=aA (by omega) (by omega)
  obtain ⟨x1,x2,x3,x4,x5,x6,x7⟩:=x
  refine iZ (Y2 ha @aM.eq_1) ?_
  refine ⟨F.aG.length-(i+1),by omega,i+1,rfl,hlt,?_⟩
  rw [hsc]
  exact dV hw1
 have hie:i=F.aG.length:=by omega
 subst hie
 rw [List.take_length]
 generalize hL:F.aG.map aR.bZ=L at *
 have hLl:L.length<=120:=by rw [<-hL];simpa using hfl
 clear hi hlt
 refine mG ?_
 refine gA (fun n st=>∃ i:Nat,n=w.bA.aP.length-i/\i<=w.bA.aP.length/\∃ g:List Int,g.length<=i/\(∀ l,l∈w.bA.aP.take i->L.contains l.cL=true\/g.contains l.cL=true) ∧
  st=⟨[],[(3,.ptr 0 0),(6,.ptr 1 0),(7,.sl 2),(9,.sl 3),(10,.d (.int .i64 i))],[(0,.box (aV.bx (aV.mk { w with aE:=F } ps rl en rk ch dk key) 4)),(1,.box zS),(2,.arr 0 0 1 (bM L)),(3,.arr 0 0 1 (bM g))]++aV.ob (aV.mk { w with aE:=F } ps rl en rk ch dk key) 4,13⟩) _ ⟨0,rfl,by omega,[],by simp,by simp,?_⟩ ?_
 ·exact dV @bM.eq_1
 rintro n st ⟨i,rfl,hi,g,hgl,hg,rfl⟩
 by_cases hlt:i<w.bA.aP.length
 ·have ha:=List.getElem?_eq_getElem hlt
  have hstep:∀ x,w.bA.aP[i]?=some x->∀ g2:List Int,(∀ y,g.contains y=true->g2.contains y=true)->(L.contains x.cL=true\/g2.contains x.cL=true)->∀ l,l∈w.bA.aP.take (i+1)->L.contains l.cL=true\/g2.contains l.cL=true:=by
   intro x hx g2 h1 h2 l hl
   rw [List.take_add_one,hx] at hl
   rcases List.mem_append.1 hl with hl|hl
   ·exact (hg l hl).imp (fun h=>h) (h1 _)
   ·simp at hl;subst hl;exact h2
  have hstep:=hstep _ ha
  generalize w.bA.aP[i]=x at ha hstep
  have hw1:IntKind.i64.wrap ((i:Int)+1)=(i:Int)+1:=aA (by omega) (by omega)
  obtain ⟨x1,x2,x3,x4,x5,x6⟩:=x
  dsimp only at hstep
  have c1:=oS L x2 (by omega)
  have c2:=oS g x2 (by omega)
  have i1:=jE L
  have i2:=jE g
  cases h1:L.contains x2
  ·rw [h1] at c1
   cases h2:g.contains x2
   ·rw [h2] at c2
    refine cP (Y3 ha @aM.eq_1 @gW) (Z2 c1 c2) ?_
    refine ⟨w.bA.aP.length-(i+1),by omega,i+1,rfl,hlt,g++[x2],by simp;omega,hstep _ (fun y hy=>by simp at hy ⊢;exact .inl hy) (.inr (by simp)),?_⟩
    exact dV (Y2 hw1 @bM.eq_1)
   ·rw [h2] at c2
    refine cP (Y2 ha @gW) (Z2 c1 c2) ?_
    refine ⟨w.bA.aP.length-(i+1),by omega,i+1,rfl,hlt,g,by omega,hstep g (fun _ h=>h) (.inr h2),?_⟩
    exact dV hw1
  ·rw [h1] at c1
   refine cP (Y2 ha @gW) (Z1 c1) ?_
   refine ⟨w.bA.aP.length-(i+1),by omega,i+1,rfl,hlt,g,by omega,hstep g (fun _ h=>h) (.inl h1),?_⟩
   exact dV hw1
 have hie:i=w.bA.aP.length:=by omega
 subst hie
 rw [List.take_length] at hg
 have hL2:=hul g fun l hl=>by rw [hhas];exact hg l hl
 have cd:=vZ w.bA g hfit.2.1 hw.bo (by omega)
 have cl:=sO { w with aE:=F,bA:=jX w.bA g } (mA w.bA g) (hlet _) (Nat.le_trans (List.length_filter_le _ _) (by omega))
 have hm:(jG { w with aE:=F,bA:=jX w.bA g } (mA w.bA g)).bT.bF=w.bT.bF:=zB _ _
 have hir1:=bW (jX w.bA g).aP
 have hir2:=bW (mA w.bA g)
 have hig:=jE g
 have j6:=cC (jP (bC { w with aE:=F,bA:=jX w.bA g } (mA w.bA g))).done
 have j7:=cC (jP (bC { w with aE:=F,bA:=jX w.bA g } (mA w.bA g))).failed
 generalize jG { w with aE:=F,bA:=jX w.bA g } (mA w.bA g)=wN at *
 generalize jX w.bA g=bN at *
 generalize mA w.bA g=lN at *
 clear hul hhas hg hlet
 have j1:=cB wN.aE.aG
 have j2:=bW wN.bA.aP
 have j3:=dH wN.bT.bE
 have j4:=fY wN.bO.cF
 have j5:=eI wN.bI
 refine eA (Z2 cd cl) ?_
 exact ⟨wN,⟨hL2,hm⟩,by simp [Fin]⟩
abbrev lM:=aV×Int×Int×List UInt8×List UInt8×List (List UInt8)
abbrev lZ (a:lM):List C:=[.agg (aV.q a.1),.agg (rsp a.2.1 a.2.2.1 a.2.2.2.1 a.2.2.2.2.1 a.2.2.2.2.2)]
def gZ (n:Nat) (a:lM):Prop:=eD n a.1/\0<=a.2.1/\a.2.1<=100
abbrev zR:List A:=[.d (.int .i64 0),.d (.int .i64 0),.d (.str []),.d (.str []),.nil 0 1]
abbrev rqA (k t m:Int) (n p d:List UInt8):List A:=[.d (.int .i64 k),.d (.int .i64 t),.d (.str n),.d (.str p),.d (.str d),.d (.int .i64 m)]
theorem eD.w {n m:Nat} {s:aV} {w:aS} (h:eD n s) (hm:n<=m) (hw:WI w) (hd:w.bT.bF<=m):eD m { s with aD:=w }:=by
 obtain ⟨h1,h2,h3,h4,h5,h6,h7,h8,h9,h10,h11,h12⟩:=eD.up h hm
 exact ⟨hw,hd,h3,h4,h5,h6,h7,h8,h9,h10,h11,h12⟩
theorem aTl (f:bQ) (t:aR):0<=mkC f t/\mkC f t<=5:=by
 unfold mkC
 repeat' split
 all_goals omega
theorem aMN (n:Nat) (s:aV) (k t m:Int) (nm p d:List UInt8) (hs:eD n s) (hv:iG s.aD) (hd:d.length<=512):∃ a:lM,gZ (n+1) a/\aC PP GG 153 [.agg (aV.q s),.agg (qP k t nm p d m)] (.tup (lZ a)) [none,none]:=by
 refine cvD Tryz.func153 (α:=lM) 2 _ lZ _ (fun _=>rfl) ?_
 have hw:=(cZ s.aD).1 hv.ok
 have hfit:=gR hv.ok
 have hno:∀ c:Int,0<=c->c<=100->gZ (n+1) (s,c,0,[],[],[]):=fun c h1 h2=>⟨eD.up hs (by omega),h1,h2⟩
 have cno:=fun c:Int=>iD s c
 have ci:aC PP GG 20 [.d (.int .i64 m),.d (.int .i64 0),.d (.int .i64 1000000000)] (.d (.bool (inB m 0 1000000000))) [none,none,none]:=bD _ _ _
 have e0:aK []=[]:=rfl
 refine eL (?_)
 apply sT
 ·intro K hK
  simp
  repeat' (first|with_reducible exact hK|(with_reducible refine aJ (fun _=>?_) (fun _=>?_)<;>simp)|with_reducible refine And.intro ?_ ?_|with_reducible exact aL rfl|with_reducible assumption|omega)
 refine oD [2,3,4,5] (fun st'=>s.aD.bJ<1000000000/\st'=⟨[],[(2,.ptr 0 0),(3,.ptr 1 0),(4,.ptr 2 0),(5,.ptr 3 0)],[(0,.box (aV.bx s 4)),(1,.box (rqA k t m nm p d)),(2,.box zS),(3,.box zR)]++aV.ob s 4,13⟩) ?_ ?_
 ·cases hin:inB m 0 1000000000
  ·rw [hin] at ci
   have cn:=cno 1
   repeat' (first|refine gH ?_|refine eL ?_|refine eC ?_|refine dR ?_|refine eW ?_|refine aW rfl ?_|refine bB rfl ?_|((first|refine eQ fun K hK=>?_|refine dQ fun K hK=>?_|with_reducible refine aF (ci) ?_|with_reducible refine aF (cn) ?_);simp [Fin])|(with_reducible refine hK _ ?_;clear hK K)|(with_reducible refine aJ (fun h=>?_) (fun h=>?_)<;>first|(exfalso;simp at h;first|done|omega|contradiction)|((try simp at h);simp))|with_reducible refine And.intro ?_ ?_|with_reducible exact aL rfl|with_reducible assumption|(refine dN rfl (fun h=>?_) (fun h=>?_)<;>first|(exfalso;simp at h;first|done|omega|contradiction)|(exfalso;simp_all;done)|(try simp at h))|omega)
   exact ⟨(s,1,0,[],[],[]),hno 1 (by omega) (by omega),by simp [Fin,e0]⟩
  ·rw [hin] at ci
   have hnx:=hw.next
   by_cases hq:s.aD.bJ=1000000000
   ·have hq':(s.aD.bJ=1000000000)=True:=by simp [hq]
    have cn:=cno 1
    repeat' (first|refine gH ?_|refine eL ?_|refine eC ?_|refine dR ?_|refine eW ?_|refine aW rfl ?_|refine bB rfl ?_|((first|refine eQ fun K hK=>?_|refine dQ fun K hK=>?_|with_reducible refine aF (ci) ?_|with_reducible refine aF (cn) ?_);simp [Fin,hq'])|(with_reducible refine hK _ ?_;clear hK K)|(with_reducible refine aJ (fun h=>?_) (fun h=>?_)<;>first|(exfalso;simp at h;first|done|omega|contradiction)|((try simp at h);simp [hq']))|with_reducible refine And.intro ?_ ?_|with_reducible exact aL rfl|with_reducible assumption|(refine dN rfl (fun h=>?_) (fun h=>?_)<;>first|(exfalso;simp at h;first|done|omega|contradiction)|(exfalso;simp_all;done)|(try simp at h))|omega)
    exact ⟨(s,1,0,[],[],[]),hno 1 (by omega) (by omega),by simp [Fin,e0]⟩
   ·have hq':(s.aD.bJ=1000000000)=False:=by simp [hq]
    repeat' (first|refine gH ?_|refine eL ?_|refine eC ?_|refine dR ?_|refine eW ?_|refine aW rfl ?_|refine bB rfl ?_|((first|refine eQ fun K hK=>?_|refine dQ fun K hK=>?_|with_reducible refine aF (ci) ?_);simp [Fin,hq'])|(with_reducible refine hK _ ?_;clear hK K)|(with_reducible refine aJ (fun h=>?_) (fun h=>?_)<;>first|(exfalso;simp at h;first|done|omega|contradiction)|((try simp at h);simp [hq']))|with_reducible refine And.intro ?_ ?_|with_reducible exact aL rfl|with_reducible assumption|(refine dN rfl (fun h=>?_) (fun h=>?_)<;>first|(exfalso;simp at h;first|done|omega|contradiction)|(exfalso;simp_all;done)|(try simp at h))|omega)
    simp [gc,bP,cI,gcV,gcO,dS,cU,eH,aY,bR,bU,dU]
 rintro st ⟨hnx,rfl⟩
 clear ci
 refine eL (?_)
 apply sT
 ·intro K hK
  simp
  repeat' (first|with_reducible exact hK|(with_reducible refine aJ (fun _=>?_) (fun _=>?_)<;>simp)|with_reducible refine And.intro ?_ ?_|with_reducible exact aL rfl|with_reducible assumption|omega)
 refine mR 6 2 rfl rfl rfl ?_
 refine pH [2,3,4,5,6] (s1:=⟨[],[(2,.ptr 0 0),(3,.ptr 1 0),(4,.ptr 2 0),(5,.ptr 3 0),(6,.ptr 4 0)],[(0,.box (aV.bx s 5)),(1,.box (rqA k t m nm p d)),(2,.box zS),(3,.box zR),(4,.box [.d (.int .i64 s.aD.bJ),.d (.int .i64 t),.sl 14,.d (.int .i64 s.aD.cT),.d (.int .i64 0),.d (.int .i64 0),.d (.int .i64 0)])]++aV.ob s 5++[(14,.arr 0 0 1 [])],15⟩) ?_ ?_
 ·simp [gc,bP,cI,gcV,gcO,dS,cU,eH,aY,bR,bU,dU]
 refine oD [2,3,4,5,6] (fun st'=>∃ L:List (List UInt8),(L.length<=1048576/\∀ x,x∈L->x.length<=1048576)/\st'=⟨[],[(2,.ptr 0 0),(3,.ptr 1 0),(4,.ptr 2 0),(5,.ptr 3 0),(6,.ptr 4 0)],[(0,.box (aV.bx s 5)),(1,.box (rqA k t m nm p d)),(2,.box zS),(3,.box zR),(4,.box [.d (.int .i64 s.aD.bJ),.d (.int .i64 t),.sl 14,.d (.int .i64 s.aD.cT),.d (.int .i64 0),.d (.int .i64 0),.d (.int .i64 0)])]++aV.ob s 5++[(14,.arr 0 0 1 (aK L))],15⟩) ?_ ?_
 ·by_cases h0:d=[]
  ·have h0':(d=[])=True:=by simp [h0]
   repeat' (first|refine gH ?_|refine eL ?_|refine eC ?_|refine dR ?_|refine eW ?_|refine aW rfl ?_|refine bB rfl ?_|((first|refine eQ fun K hK=>?_|refine dQ fun K hK=>?_);simp [Fin,h0'])|(with_reducible refine hK _ ?_;clear hK K)|(with_reducible refine aJ (fun h=>?_) (fun h=>?_)<;>first|(exfalso;simp at h;first|done|omega|contradiction)|((try simp at h);simp [h0']))|with_reducible refine And.intro ?_ ?_|with_reducible exact aL rfl|with_reducible assumption|(refine dN rfl (fun h=>?_) (fun h=>?_)<;>first|(exfalso;simp at h;first|done|omega|contradiction)|(exfalso;simp_all;done)|(try simp at h))|omega)
   refine ⟨[],⟨by simp,by simp⟩,?_⟩
   simp [gc,bP,cI,gcV,gcO,dS,cU,eH,aY,bR,bU,dU,e0]
  ·have h0':(d=[])=False:=by simp [h0]
   have cc:aC PP GG 35 [.d (.str d),.d (.int .u8 44)] _ _:=fP d 44 (by omega)
   have h1:=iK 44 d
   have h2:=fun q=>kW (c:=44) d (p:=q)
   generalize cJ 44 d=L at *
   repeat' (first|refine gH ?_|refine eL ?_|refine eC ?_|refine dR ?_|refine eW ?_|refine aW rfl ?_|refine bB rfl ?_|((first|refine eQ fun K hK=>?_|refine dQ fun K hK=>?_|with_reducible refine aF (cc) ?_);simp [Fin,h0'])|(with_reducible refine hK _ ?_;clear hK K)|(with_reducible refine aJ (fun h=>?_) (fun h=>?_)<;>first|(exfalso;simp at h;first|done|omega|contradiction)|((try simp at h);simp [h0']))|with_reducible refine And.intro ?_ ?_|with_reducible exact aL rfl|with_reducible assumption|(refine dN rfl (fun h=>?_) (fun h=>?_)<;>first|(exfalso;simp at h;first|done|omega|contradiction)|(exfalso;simp_all;done)|(try simp at h))|omega)
   refine ⟨L,⟨by omega,fun x hx=>by have:=h2 x hx;omega⟩,?_⟩
   simp [gc,bP,cI,gcV,gcO,dS,cU,eH,aY,bR,bU,dU]
 rintro st ⟨L,hL,rfl⟩
 refine oD [2,4,5,6] (fun st'=>∃ e:Int,st'=⟨[],[(2,.ptr 0 0),(4,.ptr 1 0),(5,.ptr 2 0),(6,.ptr 3 0)],[(0,.box (aV.bx s 4)),(1,.box zS),(2,.box zR),(3,.box [.d (.int .i64 s.aD.bJ),.d (.int .i64 t),.sl 13,.d (.int .i64 s.aD.cT),.d (.int .i64 e),.d (.int .i64 e),.d (.int .i64 0)])]++aV.ob s 4++[(13,.arr 0 0 1 (aK L))],14⟩) ?_ ?_
 ·repeat' (first|refine gH ?_|refine eL ?_|refine eC ?_|refine dR ?_|refine eW ?_|refine aW rfl ?_|refine bB rfl ?_|((first|refine eQ fun K hK=>?_|refine dQ fun K hK=>?_);simp [Fin])|(with_reducible refine hK _ ?_;clear hK K)|(with_reducible refine aJ (fun h=>?_) (fun h=>?_)<;>first|(exfalso;simp at h;first|done|omega|contradiction)|((try simp at h);simp))|with_reducible refine And.intro ?_ ?_|with_reducible exact aL rfl|with_reducible assumption|(refine dN rfl (fun h=>?_) (fun h=>?_)<;>first|(exfalso;simp at h;first|done|omega|contradiction)|(exfalso;simp_all;done)|(try simp at h))|omega)
  ·simp [gc,bP,cI,gcV,gcO,dS,cU,eH,aY,bR,bU,dU]
  ·simp [gc,bP,cI,gcV,gcO,dS,cU,eH,aY,bR,bU,dU]
 rintro st ⟨e,rfl⟩
 have cm:=aEg s.aD.aE (aR.mk s.aD.bJ t L s.aD.cT e e 0) hfit.1 hL hw.fo
 have hlv:=fun hc=>aQ1 hv (t:=(aR.mk s.aD.bJ t L s.aD.cT e e 0)) hc rfl hnx
 have hr:=aTl s.aD.aE (aR.mk s.aD.bJ t L s.aD.cT e e 0)
 generalize mkC s.aD.aE (aR.mk s.aD.bJ t L s.aD.cT e e 0)=c at *
 generalize mkF s.aD.aE (aR.mk s.aD.bJ t L s.aD.cT e e 0)=F at *
 have cw:=jV s.aD hfit
 have hiF:=cB F.aG
 have j1:=cB s.aD.aE.aG
 have j2:=bW s.aD.bA.aP
 have j3:=dH s.aD.bT.bE
 have j4:=fY s.aD.bO.cF
 have j5:=eI s.aD.bI
 have hiL:=cC L
 by_cases hc1:c=1
 ·subst hc1
  have cn:=cno 1
  repeat' (first|refine gH ?_|refine eL ?_|refine eC ?_|refine dR ?_|refine eW ?_|refine aW rfl ?_|refine bB rfl ?_|((first|refine eQ fun K hK=>?_|refine dQ fun K hK=>?_|with_reducible refine aF (cm) ?_|with_reducible refine aF (cn) ?_);simp [Fin])|(with_reducible refine hK _ ?_;clear hK K)|(with_reducible refine aJ (fun h=>?_) (fun h=>?_)<;>first|(exfalso;simp at h;first|done|omega|contradiction)|((try simp at h);simp))|with_reducible refine And.intro ?_ ?_|with_reducible exact aL rfl|with_reducible assumption|(refine dN rfl (fun h=>?_) (fun h=>?_)<;>first|(exfalso;simp at h;first|done|omega|contradiction)|(exfalso;simp_all;done)|(try simp at h))|omega)
  exact ⟨(s,1,0,[],[],[]),hno 1 (by omega) (by omega),by simp [Fin,e0]⟩
 by_cases hc2:c=2
 ·subst hc2
  have cn:=cno 2
  repeat' (first|refine gH ?_|refine eL ?_|refine eC ?_|refine dR ?_|refine eW ?_|refine aW rfl ?_|refine bB rfl ?_|((first|refine eQ fun K hK=>?_|refine dQ fun K hK=>?_|with_reducible refine aF (cm) ?_|with_reducible refine aF (cn) ?_);simp [Fin])|(with_reducible refine hK _ ?_;clear hK K)|(with_reducible refine aJ (fun h=>?_) (fun h=>?_)<;>first|(exfalso;simp at h;first|done|omega|contradiction)|((try simp at h);simp))|with_reducible refine And.intro ?_ ?_|with_reducible exact aL rfl|with_reducible assumption|(refine dN rfl (fun h=>?_) (fun h=>?_)<;>first|(exfalso;simp at h;first|done|omega|contradiction)|(exfalso;simp_all;done)|(try simp at h))|omega)
  exact ⟨(s,2,0,[],[],[]),hno 2 (by omega) (by omega),by simp [Fin,e0]⟩
 by_cases hc3:c=3
 ·subst hc3
  have cn:=cno 2
  repeat' (first|refine gH ?_|refine eL ?_|refine eC ?_|refine dR ?_|refine eW ?_|refine aW rfl ?_|refine bB rfl ?_|((first|refine eQ fun K hK=>?_|refine dQ fun K hK=>?_|with_reducible refine aF (cm) ?_|with_reducible refine aF (cn) ?_);simp [Fin])|(with_reducible refine hK _ ?_;clear hK K)|(with_reducible refine aJ (fun h=>?_) (fun h=>?_)<;>first|(exfalso;simp at h;first|done|omega|contradiction)|((try simp at h);simp))|with_reducible refine And.intro ?_ ?_|with_reducible exact aL rfl|with_reducible assumption|(refine dN rfl (fun h=>?_) (fun h=>?_)<;>first|(exfalso;simp at h;first|done|omega|contradiction)|(exfalso;simp_all;done)|(try simp at h))|omega)
  exact ⟨(s,2,0,[],[],[]),hno 2 (by omega) (by omega),by simp [Fin,e0]⟩
 by_cases hc4:c=4
 ·subst hc4
  have cn:=cno 3
  repeat' (first|refine gH ?_|refine eL ?_|refine eC ?_|refine dR ?_|refine eW ?_|refine aW rfl ?_|refine bB rfl ?_|((first|refine eQ fun K hK=>?_|refine dQ fun K hK=>?_|with_reducible refine aF (cm) ?_|with_reducible refine aF (cn) ?_);simp [Fin])|(with_reducible refine hK _ ?_;clear hK K)|(with_reducible refine aJ (fun h=>?_) (fun h=>?_)<;>first|(exfalso;simp at h;first|done|omega|contradiction)|((try simp at h);simp))|with_reducible refine And.intro ?_ ?_|with_reducible exact aL rfl|with_reducible assumption|(refine dN rfl (fun h=>?_) (fun h=>?_)<;>first|(exfalso;simp at h;first|done|omega|contradiction)|(exfalso;simp_all;done)|(try simp at h))|omega)
  exact ⟨(s,3,0,[],[],[]),hno 3 (by omega) (by omega),by simp [Fin,e0]⟩
 by_cases hc5:c=5
 ·subst hc5
  have cn:=cno 6
  repeat' (first|refine gH ?_|refine eL ?_|refine eC ?_|refine dR ?_|refine eW ?_|refine aW rfl ?_|refine bB rfl ?_|((first|refine eQ fun K hK=>?_|refine dQ fun K hK=>?_|with_reducible refine aF (cm) ?_|with_reducible refine aF (cn) ?_);simp [Fin])|(with_reducible refine hK _ ?_;clear hK K)|(with_reducible refine aJ (fun h=>?_) (fun h=>?_)<;>first|(exfalso;simp at h;first|done|omega|contradiction)|((try simp at h);simp))|with_reducible refine And.intro ?_ ?_|with_reducible exact aL rfl|with_reducible assumption|(refine dN rfl (fun h=>?_) (fun h=>?_)<;>first|(exfalso;simp at h;first|done|omega|contradiction)|(exfalso;simp_all;done)|(try simp at h))|omega)
  exact ⟨(s,6,0,[],[],[]),hno 6 (by omega) (by omega),by simp [Fin,e0]⟩
 have hc0:c=0:=by omega
 subst hc0
 have hL2:=hlv rfl
 have hwr:IntKind.i64.wrap (s.aD.bJ+1)=s.aD.bJ+1:=by have:=hw.next;exact aA (by omega) (by omega)
 repeat' (first|refine gH ?_|refine eL ?_|refine eC ?_|refine dR ?_|refine eW ?_|refine aW rfl ?_|refine bB rfl ?_|((first|refine eQ fun K hK=>?_|refine dQ fun K hK=>?_|with_reducible refine aF (cm) ?_|with_reducible refine aF (cw) ?_);simp [Fin,hwr])|(with_reducible refine hK _ ?_;clear hK K)|(with_reducible refine aJ (fun h=>?_) (fun h=>?_)<;>first|(exfalso;simp at h;first|done|omega|contradiction)|((try simp at h);simp [hwr]))|with_reducible refine And.intro ?_ ?_|with_reducible exact aL rfl|with_reducible assumption|(refine dN rfl (fun h=>?_) (fun h=>?_)<;>first|(exfalso;simp at h;first|done|omega|contradiction)|(exfalso;simp_all;done)|(try simp at h))|omega)
 exact ⟨({ s with aD:={ s.aD with aE:=F,bJ:=s.aD.bJ+1 } },0,s.aD.bJ,[],[],[]),⟨eD.w hs (by omega) (.inl hL2) (by have:=hs.md;dsimp only;omega),by dsimp only;omega,by dsimp only;omega⟩,by simp [Fin,e0]⟩
theorem aPX (p:aR->Bool) (l:List aR):∀ x,x∈(wo p l).2->∃ t,t∈l/\t.bZ=x:=by
 induction l using lV with
 |h0=>intro x hx;simp [wo] at hx
 |h1 l t ih=>
  intro x hx
  rw [xC] at hx
  unfold aA4 at hx
  split at hx
  ·rcases List.mem_append.1 hx with hx|hx
   ·obtain ⟨y,hy,e⟩:=ih x hx;exact ⟨y,List.mem_append.2 (.inl hy),e⟩
   ·simp at hx;exact ⟨t,by simp,hx.symm⟩
  ·obtain ⟨y,hy,e⟩:=ih x hx;exact ⟨y,List.mem_append.2 (.inl hy),e⟩
theorem aD5 {x:aR} (h:gI x=true):aX x.bZ:=by
 unfold gI at h
 simp only [Bool.and_eq_true] at h
 have:=cD h.1.1.1.1.1.1
 unfold aX;omega
end Go.Proofs.YtiejbbcpihpgpaaGreatDoor.Ab
