/-
  A part of a proof about the given program; what is proved is said where each theorem stands.
-/
import Derived.Test.YtiejbbcpihpgpaaGreatFrameA
import Derived.Test.YtiejbbcpihpgpaaGreatFrameB
import Derived.Test.YtiejbbcpihpgpaaGreatFrameC
import Derived.Test.YtiejbbcpihpgpaaGreatFrameD
import Derived.Test.YtiejbbcpihpgpaaGreatHead
import Derived.Test.YtiejbbcpihpgpaaGreatCodes
import Derived.Test.YtiejbbcpihpgpaaGreatPartA
import Derived.Test.YtiejbbcpihpgpaaGreatPartB
import Derived.Test.YtiejbbcpihpgpaaGreatPartC
namespace Go.Proofs
end Go.Proofs
set_option linter.unusedSimpArgs false
set_option linter.unusedVariables false
set_option maxRecDepth 100000
set_option maxHeartbeats 2000000
namespace Go.Proofs.YtiejbbcpihpgpaaGreat.Ab
open Go.Proofs
theorem aRW {α:Type} (P A B S:List α) (h1:0<A.length) (h2:0<B.length):rot P.length (P.length+A.length) (P.length+A.length+B.length) (P++(A++(B++S)))=P++(B++(A++S)):=by
 unfold rot
 have:=aF5 (A.length+B.length) P A B S (Nat.le_refl _) h1 h2
 rw [show P.length+A.length+B.length-P.length=A.length+B.length by omega,show P.length+A.length-P.length=A.length by omega,show P.length+A.length+B.length-(P.length+A.length)=B.length by omega]
 exact this
theorem aNy {α:Type}:∀ (B P S:List α) (x:α),upS B.length P.length (P++x::(B++S))=P++(B++x::S)
 |[],P,S,x=>rfl
 |y::B,P,S,x=>by
  simp only [List.length_cons]
  rw [upS,List.cons_append,aRP]
  have:=aNy B (P++[y]) S x
  simpa using this
theorem aO8 {α:Type}:∀ (n:Nat) (B P S:List α) (x:α),B.length=n->dnS B.length (P.length+B.length) (P++(B++x::S))=P++x::(B++S)
 |0,B,P,S,x,h=>by cases B with|nil=>rfl|cons y B=>simp at h
 |n+1,B,P,S,x,h=>by
  obtain ⟨B',y,rfl⟩:∃ B' y,B=B'++[y]:=⟨B.dropLast,B.getLast (by intro e;simp [e] at h),(List.dropLast_concat_getLast _).symm⟩
  simp only [List.length_append,List.length_singleton] at h ⊢
  rw [dnS]
  have:=aNM (P++B') S y x
  have e:sw2 (P++(B'++[y]++x::S)) (P.length+(B'.length+1)) (P.length+(B'.length+1)-1)=P++(B'++x::(y::S)):=by
   rw [show P.length+(B'.length+1)-1=(P++B').length by simp<;>omega,show P.length+(B'.length+1)=(P++B').length+1 by simp<;>omega]
   simpa using this
  rw [e,show P.length+(B'.length+1)-1=P.length+B'.length by omega,aO8 n B' P (y::S) x (by omega)]
  simp
theorem aDV (f:Nat->Bool) (i0 j0:Nat):∀ (k i j:Nat),j-i<=k->i<=j->i0<=i->j<=j0->(i=i0\/f (i-1)=true)->(j=j0\/f j=false) →
  i0<=bsG f k i j/\bsG f k i j<=j0/\(bsG f k i j=i0\/(i0<bsG f k i j/\f (bsG f k i j-1)=true))/\(bsG f k i j=j0\/f (bsG f k i j)=false)
 |0,i,j,h1,h2,h3,h4,h5,h6=>by
  have:i=j:=by omega
  subst this
  simp only [bsG]
  exact ⟨h3,h4,by by_cases e:i=i0<;>simp [e]<;>rcases h5 with h5|h5<;>first|exact absurd h5 e|exact ⟨by omega,h5⟩,h6⟩
 |k+1,i,j,h1,h2,h3,h4,h5,h6=>by
  rw [bsG]
  split
  ·split
   ·rename_i hf
    exact aDV f i0 j0 k _ j (by omega) (by omega) (by omega) h4 (Or.inr (by simpa using hf)) h6
   ·rename_i hf
    exact aDV f i0 j0 k i _ (by omega) (by omega) h3 (by omega) h5 (Or.inr (by simpa using hf))
  ·have:i=j:=by omega
   subst this
   exact ⟨h3,h4,by by_cases e:i=i0<;>simp [e]<;>rcases h5 with h5|h5<;>first|exact absurd h5 e|exact ⟨by omega,h5⟩,h6⟩
theorem aCH (f:Nat->Bool) (i j:Nat) (h:i<=j):i<=bs f i j/\bs f i j<=j/\(bs f i j=i\/(i<bs f i j/\f (bs f i j-1)=true))/\(bs f i j=j\/f (bs f i j)=false):=
 aDV f i j (j-i) i j (Nat.le_refl _) h (Nat.le_refl _) (Nat.le_refl _) (Or.inl rfl) (Or.inl rfl)
def TB {α:Type} (lt:α->α->Bool) (R:α->α->Prop) (u x:α):Prop:=(lt x u=true->R x u)/\(lt x u=false->R u x)
theorem vR {α:Type} (lt:α->α->Bool) {l:List α} {i j:Nat} {x y:α} (h1:l[i]?=some x) (h2:l[j]?=some y):ltA lt l i j=lt x y:=by unfold ltA;rw [h1,h2]
theorem aPk {α:Type} (P S:List α) (x:α):(P++x::S)[P.length]?=some x:=by simp
theorem aLI {α:Type} {lt:α->α->Bool} {R:α->α->Prop} (htr:∀ a b c:α,R a b->R b c->R a c):∀ (n:Nat) (P U V:List α) (x:α),U.length=n->U.Pairwise R->(∀ u,u∈U->TB lt R u x) →
  ∃ W,aJj lt P.length (P.length+U.length) (P++(U++x::V))=P++(W++V)/\W.Perm (U++[x])/\W.Pairwise R
 |0,P,U,V,x,hn,_,_=>by
  have:U=[]:=List.length_eq_zero_iff.1 hn
  subst this
  refine ⟨[x],?_,List.Perm.refl _,List.pairwise_singleton _ _⟩
  have:aJj lt P.length P.length (P++x::V)=P++x::V:=by
   cases hP:P.length with
   |zero=>rfl
   |succ k=>rw [aJj,if_neg (by omega)]
  simpa using this
 |n+1,P,U,V,x,hn,hs,ht=>by
  obtain ⟨U',y,rfl⟩:∃ U' y,U=U'++[y]:=⟨U.dropLast,U.getLast (by intro e;simp [e] at hn),(List.dropLast_concat_getLast _).symm⟩
  simp only [List.length_append,List.length_singleton] at hn ⊢
  have ty:=ht y (by simp)
  rw [show P.length+(U'.length+1)=(P.length+U'.length)+1 by omega,aJj,if_pos (by omega)]
  have e1:(P++(U'++[y]++x::V))[P.length+U'.length+1]?=some x:=by
   have:=aPk (P++(U'++[y])) V x
   rw [show (P++(U'++[y])).length=P.length+U'.length+1 by simp<;>omega] at this
   simpa using this
  have e2:(P++(U'++[y]++x::V))[P.length+U'.length]?=some y:=by
   have:=aPk (P++U') (x::V) y
   rw [show (P++U').length=P.length+U'.length by simp] at this
   simp
  rw [e1,e2];simp only []
  have hs':=List.pairwise_append.1 hs
  split
  ·rename_i hlt
   have e3:sw2 (P++(U'++[y]++x::V)) (P.length+U'.length+1) (P.length+U'.length)=P++(U'++x::(y::V)):=by
    have:=aNM (P++U') V y x
    rw [show (P++U').length=P.length+U'.length by simp] at this
    simpa using this
   rw [e3]
   obtain ⟨W,hW,hp,hw⟩:=aLI htr n P U' (y::V) x (by omega) hs'.1 fun u hu=>ht u (by simp [hu])
   refine ⟨W++[y],by rw [hW];simp,?_,?_⟩
   ·have:(U'++[y]++[x]).Perm (U'++[x]++[y]):=by
     simp only [List.append_assoc];exact List.Perm.append_left _ (List.Perm.swap _ _ _)
    exact (List.Perm.append_right [y] hp).trans this.symm
   ·refine List.pairwise_append.2 ⟨hw,List.pairwise_singleton _ _,fun a ha b hb=>?_⟩
    simp at hb;subst hb
    have:=hp.mem_iff.1 ha
    simp at this
    rcases this with h|h
    ·exact hs'.2.2 a h b (by simp)
    ·subst h;exact ty.1 hlt
  ·rename_i hlt
   refine ⟨U'++[y]++[x],by simp,List.Perm.refl _,?_⟩
   refine List.pairwise_append.2 ⟨hs,List.pairwise_singleton _ _,fun a ha b hb=>?_⟩
   simp at hb;subst hb
   have hyx:=ty.2 (by simpa using hlt)
   simp at ha
   rcases ha with h|h
   ·exact htr _ _ _ (hs'.2.2 a h y (by simp)) hyx
   ·subst h;exact hyx
theorem aLH {α:Type} {lt:α->α->Bool} {R:α->α->Prop} (htr:∀ a b c:α,R a b->R b c->R a c):∀ (X P U V:List α),U.Pairwise R->(∀ u,u∈U->∀ x,x∈X->TB lt R u x)->X.Pairwise (TB lt R) →
  ∃ W,aMW lt P.length X.length (P.length+U.length) (P++(U++(X++V)))=P++(W++V)/\W.Perm (U++X)/\W.Pairwise R
 |[],P,U,V,hs,_,_=>⟨U,rfl,by simp,hs⟩
 |x::X,P,U,V,hs,ht,hx=>by
  simp only [List.length_cons]
  obtain ⟨W,hW,hp,hw⟩:=aLI htr U.length P U (X++V) x rfl hs fun u hu=>ht u hu x (by simp)
  have hx':=List.pairwise_cons.1 hx
  obtain ⟨W2,hW2,hp2,hw2⟩:=aLH htr X P W V hw (fun u hu y hy=>by
   have:=hp.mem_iff.1 hu
   simp at this
   rcases this with h|h
   ·exact ht u h y (by simp [hy])
   ·subst h;exact hx'.1 y hy) hx'.2
  have hl:W.length=U.length+1:=by simpa using hp.length_eq
  refine ⟨W2,?_,?_,hw2⟩
  ·rw [aMW,List.cons_append,hW,<-hW2,hl,Nat.add_assoc]
  ·refine hp2.trans ?_
   have:=List.Perm.append_right X hp
   simpa using this
theorem aGv {α:Type} {lt:α->α->Bool} {R:α->α->Prop} (htr:∀ a b c:α,R a b->R b c->R a c) (P X V:List α) (hx:X.Pairwise (TB lt R)):∃ W,aKO lt P.length (P.length+X.length) (P++(X++V))=P++(W++V)/\W.Perm X/\W.Pairwise R:=by
 cases X with
 |nil=>
  refine ⟨[],?_,List.Perm.refl _,List.Pairwise.nil⟩
  unfold aKO
  rw [show P.length+([]:List α).length-(P.length+1)=0 by simp<;>omega]
  rfl
 |cons x X=>
  have hx':=List.pairwise_cons.1 hx
  obtain ⟨W,hW,hp,hw⟩:=aLH htr X P [x] V (List.pairwise_singleton _ _) (fun u hu y hy=>by simp at hu;subst hu;exact hx'.1 y hy) hx'.2
  refine ⟨W,?_,by simpa using hp,hw⟩
  unfold aKO
  rw [show P.length+(x::X).length-(P.length+1)=X.length by simp<;>omega]
  simpa using hW
def SMk {α:Type} (lt:α->α->Bool) (R:α->α->Prop) (k:Nat):Prop:=∀ P A B S:List α,A.length+B.length<=k->0<A.length->0<B.length->A.Pairwise R->B.Pairwise R->(∀ x,x∈A->∀ y,y∈B->TB lt R x y) →
 ∃ C,aCg lt k P.length (P.length+A.length) (P.length+A.length+B.length) (P++(A++(B++S)))=P++(C++S)/\C.Perm (A++B)/\C.Pairwise R
theorem aIG {α:Type} {lt:α->α->Bool} {R:α->α->Prop} {k:Nat} (ih:SMk lt R k) {a m b:Nat} (P A B S:List α) (ha:a=P.length) (hm:m=P.length+A.length) (hb:b=P.length+A.length+B.length) (h:A.length+B.length<=k) (h1:A.Pairwise R) (h2:B.Pairwise R) (h3:∀ x,x∈A->∀ y,y∈B->TB lt R x y) {p:Prop} [Decidable p] (hp:p ↔ (0<A.length/\0<B.length)):
  ∃ C,aFN p (aCg lt k a m b) (P++(A++(B++S)))=P++(C++S)/\C.Perm (A++B)/\C.Pairwise R:=by
 unfold aFN
 by_cases hc:p
 ·rw [if_pos hc,ha,hm,hb]
  exact ih P A B S h (hp.1 hc).1 (hp.1 hc).2 h1 h2 h3
 ·rw [if_neg hc]
  refine ⟨A++B,by simp,List.Perm.refl _,?_⟩
  have:A=[]\/B=[]:=by
   by_cases e:A.length=0
   ·exact Or.inl (List.length_eq_zero_iff.1 e)
   ·exact Or.inr (List.length_eq_zero_iff.1 (by by_cases e2:B.length=0;exact e2;exact absurd (hp.2 ⟨by omega,by omega⟩) hc))
  rcases this with h|h
  ·subst h;simpa using h2
  ·subst h;simpa using h1
theorem aMn {α:Type} {s m e:Nat} (Q A B S:List α) (hs:s=Q.length) (hm:m=Q.length+A.length) (he:e=Q.length+A.length+B.length):aFN (s<m/\m<e) (rot s m e) (Q++(A++(B++S)))=Q++(B++(A++S)):=by
 unfold aFN
 by_cases hc:s<m/\m<e
 ·rw [if_pos hc,hs,hm,he];exact aRW Q A B S (by omega) (by omega)
 ·rw [if_neg hc]
  by_cases e:A.length=0
  ·rw [List.length_eq_zero_iff.1 e];simp
  ·have:B=[]:=List.length_eq_zero_iff.1 (by omega)
   subst this;simp
theorem aGq {α:Type} {l:List α} (h:0<l.length):∃ l' x,l=l'++[x]:=⟨l.dropLast,l.getLast (by intro e;simp [e] at h),(List.dropLast_concat_getLast _).symm⟩
theorem aGy {α:Type} {l:List α} (h:0<l.length):∃ x l',l=x::l':=by cases l with|nil=>simp at h|cons x l'=>exact ⟨x,l',rfl⟩
theorem aGo {α:Type} {R:α->α->Prop} (htr:∀ a b c:α,R a b->R b c->R a c) {l:List α} {u x z:α} (hs:(l++[u]).Pairwise R) (hx:x∈l++[u]) (h:R u z):R x z:=by
 simp at hx
 rcases hx with hx|hx
 ·exact htr _ _ _ ((List.pairwise_append.1 hs).2.2 x hx u (by simp)) h
 ·subst hx;exact h
theorem aGD {α:Type} {R:α->α->Prop} (htr:∀ a b c:α,R a b->R b c->R a c) {l:List α} {v y z:α} (hs:(v::l).Pairwise R) (hy:y∈v::l) (h:R z v):R z y:=by
 simp at hy
 rcases hy with hy|hy
 ·subst hy;exact h
 ·exact htr _ _ _ h ((List.pairwise_cons.1 hs).1 y hy)
theorem aRj {α:Type} {R:α->α->Prop} (htr:∀ a b c:α,R a b->R b c->R a c) {A B:List α} (hA:A.Pairwise R) (hB:B.Pairwise R) (h:∀ A' u v B',A=A'++[u]->B=v::B'->R u v):∀ x,x∈A->∀ y,y∈B->R x y:=by
 intro x hx y hy
 obtain ⟨A',u,rfl⟩:=aGq (List.length_pos_of_mem hx)
 obtain ⟨v,B',rfl⟩:=aGy (List.length_pos_of_mem hy)
 exact aGD htr hB hy (aGo htr hA hx (h A' u v B' rfl rfl))
theorem aCJ {α:Type} (P A S:List α) (u:α) (i:Nat) (h:i=P.length+A.length):(P++(A++[u]++S))[i]?=some u:=by
 subst h
 simp
theorem aA6 {α:Type} (P A S:List α) (v:α) (i:Nat) (h:i=P.length+A.length):(P++(A++(v::S)))[i]?=some v:=by
 subst h
 simp
theorem aNJ {α:Type} {lt:α->α->Bool} {R:α->α->Prop} (htr:∀ a b c:α,R a b->R b c->R a c) {k:Nat} (P B S:List α) (x:α) (hB:0<B.length) (h2:B.Pairwise R) (h3:∀ y,y∈B->TB lt R x y):
  ∃ C,aCg lt (k+1) P.length (P.length+1) (P.length+1+B.length) (P++([x]++(B++S)))=P++(C++S)/\C.Perm ([x]++B)/\C.Pairwise R:=by
 rw [aCg,if_pos (by omega)]
 generalize hl:P++([x]++(B++S))=l
 have hsp:=aCH (fun h=>ltA lt l h P.length) (P.length+1) (P.length+1+B.length) (by omega)
 generalize bs (fun h=>ltA lt l h P.length) (P.length+1) (P.length+1+B.length)=s at hsp
 obtain ⟨g1,g2,g3,g4⟩:=hsp
 obtain ⟨B1,B2,rfl,hlen⟩:=pR B (s-(P.length+1)) (by omega)
 have hp:=List.pairwise_append.1 h2
 have hx0:l[P.length]?=some x:=by rw [<-hl];simp
 have k1:∀ y,y∈B1->R y x:=fun y hy=>by
  obtain ⟨B',u,rfl⟩:=aGq (List.length_pos_of_mem hy)
  refine aGo htr hp.1 hy ?_
  have e:l[s-1]?=some u:=by rw [<-hl];have:=aCJ (P++[x]) B' (B2++S) u (s-1) (by simp at hlen ⊢;omega);simpa using this
  have:=g3.resolve_left (by simp at hlen;omega)
  have:=this.2
  simp only [vR lt e hx0] at this
  exact (h3 u (by simp)).1 this
 have k2:∀ y,y∈B2->R x y:=fun y hy=>by
  obtain ⟨v,B',rfl⟩:=aGy (List.length_pos_of_mem hy)
  refine aGD htr hp.2.1 hy ?_
  have e:l[s]?=some v:=by rw [<-hl];have:=aA6 (P++[x]) B1 (B'++S) v s (by simp;omega);simpa using this
  have:=g4.resolve_left (by simp;omega)
  simp only [vR lt e hx0] at this
  exact (h3 v (by simp)).2 this
 refine ⟨B1++x::B2,?_,?_,?_⟩
 ·rw [show s-1-P.length=B1.length by omega,<-hl]
  have:=aNy B1 P (B2++S) x
  simpa using this
 ·simp
 ·refine List.pairwise_append.2 ⟨hp.1,List.pairwise_cons.2 ⟨k2,hp.2.1⟩,fun a ha b hb=>?_⟩
  simp at hb
  rcases hb with hb|hb
  ·subst hb;exact k1 a ha
  ·exact hp.2.2 a ha b hb
theorem aMa {α:Type} {lt:α->α->Bool} {R:α->α->Prop} (htr:∀ a b c:α,R a b->R b c->R a c) {k:Nat} (P A S:List α) (y:α) (hA:1<A.length) (h1:A.Pairwise R) (h3:∀ x,x∈A->TB lt R x y):
  ∃ C,aCg lt (k+1) P.length (P.length+A.length) (P.length+A.length+1) (P++(A++([y]++S)))=P++(C++S)/\C.Perm (A++[y])/\C.Pairwise R:=by
 rw [aCg,if_neg (by omega),if_pos (by omega)]
 generalize hl:P++(A++([y]++S))=l
 have hsp:=aCH (fun h=>!ltA lt l (P.length+A.length) h) P.length (P.length+A.length) (by omega)
 generalize bs (fun h=>!ltA lt l (P.length+A.length) h) P.length (P.length+A.length)=s at hsp
 obtain ⟨g1,g2,g3,g4⟩:=hsp
 have hy0:l[P.length+A.length]?=some y:=by rw [<-hl];exact aA6 P A S y _ rfl
 generalize hm:P.length+A.length=m at *
 obtain ⟨A1,A2,rfl,hlen⟩:=pR A (s-P.length) (by omega)
 have hp:=List.pairwise_append.1 h1
 simp only [List.length_append] at hm
 have k1:∀ x,x∈A1->R x y:=fun x hx=>by
  obtain ⟨B',u,rfl⟩:=aGq (List.length_pos_of_mem hx)
  refine aGo htr hp.1 hx ?_
  have e:l[s-1]?=some u:=by rw [<-hl];have:=aCJ P B' (A2++([y]++S)) u (s-1) (by simp at hlen;omega);simpa using this
  have:=(g3.resolve_left (by simp at hlen;omega)).2
  simp only [vR lt hy0 e] at this
  exact (h3 u (by simp)).2 (by simpa using this)
 have k2:∀ x,x∈A2->R y x:=fun x hx=>by
  obtain ⟨v,B',rfl⟩:=aGy (List.length_pos_of_mem hx)
  refine aGD htr hp.2.1 hx ?_
  have e:l[s]?=some v:=by rw [<-hl];have:=aA6 P A1 (B'++([y]++S)) v s (by omega);simpa using this
  have:=g4.resolve_left (by simp at hm;omega)
  simp only [vR lt hy0 e] at this
  exact (h3 v (by simp)).1 (by simpa using this)
 refine ⟨A1++y::A2,?_,?_,?_⟩
 ·rw [<-hl,show m-s=A2.length by omega]
  have:=aO8 A2.length A2 (P++A1) S y rfl
  rw [show (P++A1).length+A2.length=m by simp;omega] at this
  simpa using this
 ·have:=(List.perm_append_comm (l₁:=A2) (l₂:=[y]))
  have:=List.Perm.append_left A1 this
  simpa using this.symm
 ·refine List.pairwise_append.2 ⟨hp.1,List.pairwise_cons.2 ⟨k2,hp.2.1⟩,fun a ha b hb=>?_⟩
  simp at hb
  rcases hb with hb|hb
  ·subst hb;exact k1 a ha
  ·exact hp.2.2 a ha b hb
theorem aNK {α:Type} {lt:α->α->Bool} (a m b:Nat) (l:List α) (h1:a<m) (h2:m<b):a<=wC lt a m b l/\wC lt a m b l<=m/\wC lt a m b l<=(a+b) / 2/\(a+b) / 2+m-b<=wC lt a m b l ∧
  (wC lt a m b l=a\/(a+b) / 2+m-wC lt a m b l=b\/(a<wC lt a m b l/\ltA lt l ((a+b) / 2+m-wC lt a m b l) (wC lt a m b l-1)=false)) ∧
  (wC lt a m b l=m\/(a+b) / 2+m-wC lt a m b l=m\/ltA lt l ((a+b) / 2+m-wC lt a m b l-1) (wC lt a m b l)=true):=by
 unfold wC
 by_cases hc:(a+b) / 2<m
 ·rw [if_pos hc]
  have hsp:=aCH (fun c=>!ltA lt l ((a+b) / 2+m-1-c) c) ((a+b) / 2+m-b) ((a+b) / 2) (by omega)
  generalize bs (fun c=>!ltA lt l ((a+b) / 2+m-1-c) c) ((a+b) / 2+m-b) ((a+b) / 2)=s at hsp
  obtain ⟨g1,g2,g3,g4⟩:=hsp
  refine ⟨by omega,by omega,g2,g1,?_,?_⟩
  ·rcases g3 with g3|⟨g3,g5⟩
   ·exact Or.inr (Or.inl (by omega))
   ·refine Or.inr (Or.inr ⟨by omega,?_⟩)
    rw [show (a+b) / 2+m-1-(s-1)=(a+b) / 2+m-s by omega] at g5
    simpa using g5
  ·rcases g4 with g4|g4
   ·exact Or.inr (Or.inl (by omega))
   ·refine Or.inr (Or.inr ?_)
    rw [show (a+b) / 2+m-1-s=(a+b) / 2+m-s-1 by omega] at g4
    simpa using g4
 ·rw [if_neg hc]
  have hsp:=aCH (fun c=>!ltA lt l ((a+b) / 2+m-1-c) c) a m (by omega)
  generalize bs (fun c=>!ltA lt l ((a+b) / 2+m-1-c) c) a m=s at hsp
  obtain ⟨g1,g2,g3,g4⟩:=hsp
  refine ⟨by omega,by omega,by omega,by omega,?_,?_⟩
  ·rcases g3 with g3|⟨g3,g5⟩
   ·exact Or.inl g3
   ·refine Or.inr (Or.inr ⟨by omega,?_⟩)
    rw [show (a+b) / 2+m-1-(s-1)=(a+b) / 2+m-s by omega] at g5
    simpa using g5
  ·rcases g4 with g4|g4
   ·exact Or.inl g4
   ·refine Or.inr (Or.inr ?_)
    rw [show (a+b) / 2+m-1-s=(a+b) / 2+m-s-1 by omega] at g4
    simpa using g4
set_option maxHeartbeats 2000000 in
theorem aFM {α:Type} {lt:α->α->Bool} {R:α->α->Prop} (htr:∀ a b c:α,R a b->R b c->R a c):∀ k,SMk lt R k
 |0=>fun P A B S h h1 _ _ _ _=>by omega
 |k+1=>fun P A B S h hA hB h1 h2 h3=>by
  by_cases c1:A.length=1
  ·obtain ⟨x,rfl⟩:=List.length_eq_one_iff.1 c1
   exact aNJ htr P B S x hB h2 fun y hy=>h3 x (by simp) y hy
  by_cases c2:B.length=1
  ·obtain ⟨y,rfl⟩:=List.length_eq_one_iff.1 c2
   exact aMa htr P A S y (by omega) h1 fun x hx=>h3 x hx y (by simp)
  have ih:SMk lt R k:=aFM htr k
  rw [aCg,if_neg (by omega),if_neg (by omega)]
  have hcut:=aNK (lt:=lt) P.length (P.length+A.length) (P.length+A.length+B.length) (P++(A++(B++S))) (by omega) (by omega)
  unfold aRO
  generalize wC lt P.length (P.length+A.length) (P.length+A.length+B.length) (P++(A++(B++S)))=s at hcut ⊢
  obtain ⟨g1,g2,g3,g4,g5,g6⟩:=hcut
  generalize hmid:(P.length+(P.length+A.length+B.length)) / 2=mid at *
  generalize he:mid+(P.length+A.length)-s=e at *
  obtain ⟨A1,A2,rfl,hA1⟩:=pR A (s-P.length) (by omega)
  obtain ⟨B1,B2,rfl,hB1⟩:=pR B (e-(P.length+(A1++A2).length)) (by omega)
  simp only [List.length_append] at *
  have pA:=List.pairwise_append.1 h1
  have pB:=List.pairwise_append.1 h2
  have x1:∀ x,x∈A1->∀ y,y∈B2->R x y:=aRj htr pA.1 pB.2.1 fun A' u v B' ea eb=>by
   subst ea;subst eb
   simp only [List.length_append,List.length_cons,List.length_nil] at *
   have:=(g5.resolve_left (by omega)).resolve_left (by omega)
   have e1:(P++(A'++[u]++A2++(B1++v::B'++S)))[s-1]?=some u:=by have:=aCJ P A' (A2++(B1++v::B'++S)) u (s-1) (by omega);simpa using this
   have e2:(P++(A'++[u]++A2++(B1++v::B'++S)))[e]?=some v:=by have:=aA6 (P++(A'++[u]++A2)) B1 (B'++S) v e (by simp;omega);simpa using this
   rw [vR lt e2 e1] at this
   exact (h3 u (by simp) v (by simp)).2 this.2
  have x2:∀ y,y∈B1->∀ x,x∈A2->R y x:=aRj htr pB.1 pA.2.1 fun B' v u A' eb ea=>by
   subst ea;subst eb
   simp only [List.length_append,List.length_cons,List.length_nil] at *
   have:=(g6.resolve_left (by omega)).resolve_left (by omega)
   have e1:(P++(A1++u::A'++(B'++[v]++B2++S)))[s]?=some u:=by have:=aA6 P A1 (A'++(B'++[v]++B2++S)) u s (by omega);simpa using this
   have e2:(P++(A1++u::A'++(B'++[v]++B2++S)))[e-1]?=some v:=by have:=aCJ (P++(A1++u::A')) B' (B2++S) v (e-1) (by simp;omega);simpa using this
   rw [vR lt e2 e1] at this
   exact (h3 u (by simp) v (by simp)).1 this
  have r1:=aMn (s:=s) (m:=P.length+(A1.length+A2.length)) (e:=e) (P++A1) A2 B1 (B2++S) (by simp;omega) (by simp;omega) (by simp;omega)
  have e0:P++(A1++A2++(B1++B2++S))=P++A1++(A2++(B1++(B2++S))):=by simp
  rw [e0,r1]
  obtain ⟨C1,hC1,pC1,sC1⟩:=aIG ih (a:=P.length) (m:=s) (b:=mid) (p:=P.length<s/\s<mid) P A1 B1 (A2++(B2++S)) rfl (by omega) (by omega) (by omega) pA.1 pB.1 (fun x hx y hy=>h3 x (by simp [hx]) y (by simp [hy])) (by constructor<;>intro h<;>omega)
  have e1:P++A1++(B1++(A2++(B2++S)))=P++(A1++(B1++(A2++(B2++S)))):=by simp
  rw [e1,hC1]
  have lC1:=pC1.length_eq
  simp only [List.length_append] at lC1
  obtain ⟨C2,hC2,pC2,sC2⟩:=aIG ih (a:=mid) (m:=e) (b:=P.length+(A1.length+A2.length)+(B1.length+B2.length)) (p:=mid<e/\e<P.length+(A1.length+A2.length)+(B1.length+B2.length)) (P++C1) A2 B2 S (by simp;omega) (by simp;omega) (by simp;omega) (by omega) pA.2.1 pB.2.1 (fun x hx y hy=>h3 x (by simp [hx]) y (by simp [hy])) (by constructor<;>intro h<;>omega)
  have e2:P++(C1++(A2++(B2++S)))=P++C1++(A2++(B2++S)):=by simp
  rw [e2,hC2]
  refine ⟨C1++C2,by simp,?_,?_⟩
  ·refine (pC1.append pC2).trans ?_
   simp only [List.append_assoc]
   refine List.Perm.append_left A1 ?_
   rw [<-List.append_assoc,<-List.append_assoc]
   exact List.Perm.append_right B2 List.perm_append_comm
  ·refine List.pairwise_append.2 ⟨sC1,sC2,fun x hx y hy=>?_⟩
   have mx:=pC1.mem_iff.1 hx
   have my:=pC2.mem_iff.1 hy
   simp at mx my
   rcases mx with mx|mx<;>rcases my with my|my
   ·exact pA.2.2 x mx y my
   ·exact x1 x mx y my
   ·exact x2 x mx y my
   ·exact pB.2.2 x mx y my
inductive aCx {α:Type} (lt:α->α->Bool) (R:α->α->Prop) (s:Nat):List α->Prop
 |last (X:List α):X.length<=s->X.Pairwise R->aCx lt R s X
 |cons (X Y:List α):X.length=s->X.Pairwise R->(∀ x,x∈X->∀ y,y∈Y->TB lt R x y)->aCx lt R s Y->aCx lt R s (X++Y)
theorem aCI {α:Type} {lt:α->α->Bool} {R:α->α->Prop} {s:Nat} {Z:List α} (h:aCx lt R s Z) (hl:Z.length<=s):Z.Pairwise R:=by
 cases h with
 |last _ _ h2=>exact h2
 |cons X Y h1 h2 h3 h4=>
  simp only [List.length_append] at hl
  have:Y=[]:=List.length_eq_zero_iff.1 (by omega)
  subst this;simpa using h2
theorem aLT {α:Type} {lt:α->α->Bool} {R:α->α->Prop} {s:Nat} {Z:List α} (h:aCx lt R s Z) (hl:s<Z.length):∃ X Y,Z=X++Y/\X.length=s/\X.Pairwise R/\(∀ x,x∈X->∀ y,y∈Y->TB lt R x y)/\aCx lt R s Y:=by
 cases h with
 |last _ h1 _=>omega
 |cons X Y h1 h2 h3 h4=>exact ⟨X,Y,rfl,h1,h2,h3,h4⟩
theorem aQQ {α:Type} {lt:α->α->Bool} {R:α->α->Prop} {s:Nat} {Z:List α} (h:aCx lt R s Z) (hl:s<=Z.length):∃ X Y,Z=X++Y/\X.length=s/\X.Pairwise R/\(∀ x,x∈X->∀ y,y∈Y->TB lt R x y)/\aCx lt R s Y:=by
 cases h with
 |last _ h1 h2=>exact ⟨Z,[],by simp,by omega,h2,fun x _ y hy=>by simp at hy,.last [] (by simp) List.Pairwise.nil⟩
 |cons X Y h1 h2 h3 h4=>exact ⟨X,Y,rfl,h1,h2,h3,h4⟩
theorem aIE {α:Type} {lt:α->α->Bool} {R:α->α->Prop} (htr:∀ a b c:α,R a b->R b c->R a c):∀ (k:Nat) (P X:List α),X.length<=k->X.Pairwise (TB lt R)->∃ Y,aCV lt (P.length+X.length) k P.length (P++X)=P++Y/\Y.Perm X/\aCx lt R 20 Y
 |0,P,X,h,hx=>by
  obtain ⟨W,hW,hp,hw⟩:=aGv htr P X [] hx
  simp only [List.append_nil] at hW
  exact ⟨W,hW,hp,.last W (by rw [hp.length_eq];omega) hw⟩
 |k+1,P,X,h,hx=>by
  rw [aCV]
  split
  ·obtain ⟨X1,X2,rfl,hl⟩:=pR X 20 (by omega)
   have hp:=List.pairwise_append.1 hx
   obtain ⟨W,hW,hpm,hw⟩:=aGv htr P X1 X2 hp.1
   rw [hl] at hW
   rw [hW]
   have hwl:=hpm.length_eq
   obtain ⟨Y,hY,hpY,hb⟩:=aIE htr k (P++W) X2 (by simp only [List.length_append] at h;omega) hp.2.1
   refine ⟨W++Y,?_,hpm.append hpY,.cons W Y (by omega) hw (fun x hx y hy=>hp.2.2 x (hpm.mem_iff.1 hx) y (hpY.mem_iff.1 hy)) hb⟩
   simp only [List.length_append] at hY ⊢
   rw [show P.length+(X1.length+X2.length)=P.length+W.length+X2.length by omega,show P.length+20=P.length+W.length by omega,<-List.append_assoc,hY]
   simp
  ·obtain ⟨W,hW,hp,hw⟩:=aGv htr P X [] hx
   simp only [List.append_nil] at hW
   exact ⟨W,hW,hp,.last W (by rw [hp.length_eq];omega) hw⟩
theorem aID {α:Type} {lt:α->α->Bool} {R:α->α->Prop} (htr:∀ a b c:α,R a b->R b c->R a c) (s:Nat) (hs:0<s):∀ (k:Nat) (P Z:List α),Z.length<=k->aCx lt R s Z->∃ Y,aE4 lt (P.length+Z.length) s k P.length (P++Z)=P++Y/\Y.Perm Z/\aCx lt R (2*s) Y
 |0,P,Z,h,hb=>by
  have:Z=[]:=List.length_eq_zero_iff.1 (by omega)
  subst this
  exact ⟨[],rfl,List.Perm.refl _,.last [] (by simp) List.Pairwise.nil⟩
 |k+1,P,Z,h,hb=>by
  rw [aE4]
  split
  ·rename_i hc
   obtain ⟨X1,Y1,rfl,l1,s1,t1,b1⟩:=aLT hb (by omega)
   simp only [List.length_append] at h hc ⊢
   obtain ⟨X2,Z2,rfl,l2,s2,t2,b2⟩:=aQQ b1 (by omega)
   simp only [List.length_append] at h hc ⊢
   obtain ⟨C,hC,pC,sC⟩:=aFM htr (2*s) P X1 X2 Z2 (by omega) (by omega) (by omega) s1 s2 (fun x hx y hy=>t1 x hx y (by simp [hy]))
   have lC:=pC.length_eq
   simp only [List.length_append] at lC
   rw [l1,l2,show P.length+s+s=P.length+2*s by omega] at hC
   rw [hC]
   obtain ⟨Y,hY,pY,bY⟩:=aID htr s hs k (P++C) Z2 (by omega) b2
   refine ⟨C++Y,?_,?_,.cons C Y (by omega) sC (fun x hx y hy=>?_) bY⟩
   ·simp only [List.length_append] at hY
    rw [show P.length+(X1.length+(X2.length+Z2.length))=P.length+C.length+Z2.length by omega,show P.length+2*s=P.length+C.length by omega,<-List.append_assoc,hY]
    simp
   ·have:=pC.append pY
    simpa using this
   ·have hx:=pC.mem_iff.1 hx
    have hy:=pY.mem_iff.1 hy
    rcases List.mem_append.1 hx with hx|hx
    ·exact t1 x hx y (by simp [hy])
    ·exact t2 x hx y hy
  ·split
   ·rename_i hc hd
    obtain ⟨X1,Y1,rfl,l1,s1,t1,b1⟩:=aLT hb (by omega)
    simp only [List.length_append] at h hc hd ⊢
    have s2:=aCI b1 (by omega)
    obtain ⟨C,hC,pC,sC⟩:=aFM htr (P.length+(X1.length+Y1.length)-P.length) P X1 Y1 [] (by omega) (by omega) (by omega) s1 s2 t1
    have lC:=pC.length_eq
    simp only [List.length_append] at lC
    rw [l1] at hC
    simp only [List.append_nil] at hC
    refine ⟨C,?_,pC,.last C (by omega) sC⟩
    rw [<-hC,l1,show P.length+(s+Y1.length)=P.length+s+Y1.length by omega]
   ·rename_i hc hd
    exact ⟨Z,rfl,List.Perm.refl _,.last Z (by omega) (aCI hb (by omega))⟩
theorem aLk {α:Type} {lt:α->α->Bool} {R:α->α->Prop} (htr:∀ a b c:α,R a b->R b c->R a c):∀ (k s:Nat) (Z:List α),0<s->Z.length<=s+k->aCx lt R s Z->(aJ5 lt Z.length k s Z).Perm Z/\(aJ5 lt Z.length k s Z).Pairwise R
 |0,s,Z,hs,h,hb=>⟨List.Perm.refl _,aCI (Z:=Z) hb (by omega)⟩
 |k+1,s,Z,hs,h,hb=>by
  rw [aJ5]
  split
  ·obtain ⟨Y,hY,pY,bY⟩:=aID htr s hs Z.length [] Z (Nat.le_refl _) hb
   simp only [List.length_nil,Nat.zero_add,List.nil_append] at hY
   have ly:=pY.length_eq
   have:=aLk htr k (2*s) Y (by omega) (by omega) bY
   rw [hY,<-ly]
   exact ⟨this.1.trans pY,this.2⟩
  ·exact ⟨List.Perm.refl _,aCI hb (by omega)⟩
theorem aE2 {α:Type} {lt:α->α->Bool} {R:α->α->Prop} (htr:∀ a b c:α,R a b->R b c->R a c) (l:List α) (h:l.Pairwise (TB lt R)):(wR lt l).Perm l/\(wR lt l).Pairwise R:=by
 unfold wR
 obtain ⟨Y,hY,pY,bY⟩:=aIE htr l.length [] l (Nat.le_refl _) h
 simp only [List.length_nil,Nat.zero_add,List.nil_append] at hY
 have ly:=pY.length_eq
 rw [hY,<-ly]
 have:=aLk htr Y.length 20 Y (by omega) (by omega) bY
 exact ⟨this.1.trans pY,this.2⟩
def ltE (x y:aQ):Bool:=decide (x.bM<y.bM)
def aB8 (b:dX) (now:Int):dX:=⟨b.aL.filter fun l=>!decide (l.bM<=now)⟩
def wK (b:dX) (now:Int):List aQ:=wR ltE (b.aL.filter fun l=>decide (l.bM<=now))
def wX (x u:aQ):Prop:=x.bM<u.bM\/x.bM=u.bM/\x.bU<u.bU
theorem aGi (a b c:aQ) (h1:wX a b) (h2:wX b c):wX a c:=by unfold wX at *;omega
def aCs (l:aQ):List aQ->List aQ
 |[]=>[l]
 |g::r=>if l.bM<g.bM then l::g::r else g::aCs l r
def goE (l:aQ):List aQ->List aQ->Bool->List aQ
 |[],nx,put=>if put then nx else nx++[l]
 |g::r,nx,put=>if !put && decide (l.bM<g.bM) then goE l r (nx++[l]++[g]) true else goE l r (nx++[g]) put
def foE (now:Int):List aQ->List aQ->List aQ
 |G,[]=>G
 |G,l::r=>foE now (if l.bM<=now then aCs l G else G) r
theorem aJp (l:aQ):∀ (G nx:List aQ),goE l G nx true=nx++G
 |[],nx=>by simp [goE]
 |g::r,nx=>by rw [goE];simp [aJp l r]
theorem aFs (l:aQ):∀ (G nx:List aQ),goE l G nx false=nx++aCs l G
 |[],nx=>by simp [goE,aCs]
 |g::r,nx=>by
  rw [goE,aCs]
  by_cases h:l.bM<g.bM
  ·simp [h,aJp]
  ·simp [h,aFs l r]
theorem sD (l:aQ):∀ G:List aQ,(aCs l G).Perm (G++[l])
 |[]=>List.Perm.refl _
 |g::r=>by
  rw [aCs]
  split
  ·have:=List.perm_append_comm (l₁:=[l]) (l₂:=g::r);simpa using this
  ·exact (sD l r).cons g
theorem aOL (l:aQ) (G:List aQ):(aCs l G).length=G.length+1:=by simpa using (sD l G).length_eq
theorem aCa (l:aQ):∀ G:List aQ,G.Pairwise wX->(∀ g,g∈G->g.bU<l.bU)->(aCs l G).Pairwise wX
 |[],_,_=>List.pairwise_singleton _ _
 |g::r,hs,hi=>by
  have h2:=List.pairwise_cons.1 hs
  rw [aCs]
  split
  ·rename_i h
   refine List.pairwise_cons.2 ⟨fun y hy=>?_,hs⟩
   simp at hy
   rcases hy with hy|hy
   ·subst hy;exact Or.inl h
   ·exact aGi l g y (Or.inl h) (h2.1 y hy)
  ·rename_i h
   refine List.pairwise_cons.2 ⟨fun y hy=>?_,aCa l r h2.2 fun g hg=>hi g (by simp [hg])⟩
   have:=(sD l r).mem_iff.1 hy
   simp at this
   rcases this with hy|hy
   ·exact h2.1 y hy
   ·subst hy
    have:=hi g (by simp)
    unfold wX;omega
theorem aDL (now:Int):∀ (a G:List aQ),G.Pairwise wX->a.Pairwise (fun x y=>x.bU<y.bU)->(∀ g,g∈G->∀ l,l∈a->g.bU<l.bU)->(foE now G a).Perm (G++a.filter fun l=>decide (l.bM<=now))/\(foE now G a).Pairwise wX
 |[],G,hs,_,_=>⟨by simp [foE],hs⟩
 |l::r,G,hs,ha,hi=>by
  have h2:=List.pairwise_cons.1 ha
  rw [foE]
  split
  ·rename_i h
   have:=aDL now r (aCs l G) (aCa l G hs fun g hg=>hi g hg l (by simp)) h2.2 fun g hg x hx=>by
    have:=(sD l G).mem_iff.1 hg
    simp at this
    rcases this with hg|hg
    ·exact hi g hg x (by simp [hx])
    ·subst hg;exact h2.1 x hx
   refine ⟨this.1.trans ?_,this.2⟩
   rw [List.filter_cons_of_pos (by simpa using h)]
   have:=(sD l G).append_right (r.filter fun l=>decide (l.bM<=now))
   simpa using this
  ·rename_i h
   have:=aDL now r G hs h2.2 fun g hg x hx=>hi g hg x (by simp [hx])
   rw [List.filter_cons_of_neg (by simpa using h)]
   exact this
theorem aOc {b:dX} (now:Int) (h:b.aL.Pairwise fun x y=>x.bU<y.bU):wK b now=foE now [] b.aL:=by
 have h1:=aDL now b.aL [] List.Pairwise.nil h (fun g hg=>by simp at hg)
 have hT:(b.aL.filter fun l=>decide (l.bM<=now)).Pairwise (TB ltE wX):=by
  refine (h.filter _).imp fun {x y} hxy=>⟨fun hl=>?_,fun hl=>?_⟩
  ·exact Or.inl (of_decide_eq_true hl)
  ·have:=of_decide_eq_false hl
   unfold wX;omega
 have h2:=aE2 aGi _ hT
 unfold wK
 refine List.Perm.eq_of_pairwise (le:=wX) (fun x y _ _ hxy hyx=>?_) h2.2 h1.2 (h2.1.trans (by simpa using h1.1.symm))
 unfold wX at hxy hyx;omega
theorem aFE {b:dX} (h:eV b=true):b.aL.Pairwise fun x y=>x.bU<y.bU:=by
 unfold eV at h
 rw [Bool.and_eq_true] at h
 have:=aAC (q:=rF) (key:=fun l:aQ=>l.bU) (fun pre x hq=>by unfold rF at hq;rw [Bool.and_eq_true] at hq;exact hq.2) h.2
 exact this
theorem aEk (b:dX) (now:Int) (hf:aDP b) (hb:eV b=true):
  aE PP GG 143 [.agg b.c,.d (.int .i64 now)] (.tup [.agg (aB8 b now).o,.own 0 6 (bC (wK b now))]) [none,none]:=by
 refine cv Tryz.func143 [.agg (aB8 b now).o,.own 0 6 (bC (wK b now))] ?_
 have hK:aB8 b now=⟨b.aL.filter fun l=>!decide (l.bM<=now)⟩:=rfl
 have cbo:=mE b hf
 rw [hb] at cbo
 rw [hK,aOc now (aFE hb)]
 clear hK
 have hl:=hf.1
 obtain ⟨a⟩:=b
 dsimp only at hl
 generalize hT:foE now [] a=T
 refine aJ1 (Z1 cbo) ?_
 refine jS 6 0 rfl rfl rfl ?_
 refine lQ ?_
 refine bQ (fun n st=>∃ (i:Nat) (G:List aQ),n=a.length-i/\i<=a.length/\G.length<=i/\foE now G (a.drop i)=T ∧
  st=⟨[],[(1,.d (.int .i64 now)),(2,.ptr 0 0),(4,.ptr 1 0),(6,.ptr 2 0),(7,.sl 3),(8,.d (.int .i64 i))],[(0,.box [.d (.slc 6 (bC a))]),(1,.box [.nil 0 6]),(2,.box [.sl 4]),(3,.arr 0 0 6 (bC G)),(4,.arr 0 0 6 (bC ((a.take i).filter fun l=>!decide (l.bM<=now))))],5⟩) _ ⟨0,[],rfl,by omega,by simp,hT,?_⟩ ?_
 ·exact iR @bC.eq_1
 rintro n st ⟨i,G,rfl,hi,hG,hs,rfl⟩
 by_cases hlt:i<a.length
 rotate_left
 ·have hie:i=a.length:=by omega
  subst hie
  rw [List.drop_length] at hs
  rw [foE] at hs
  subst hs
  rw [List.take_length]
  have hi4:=bP G
  have hi5:=bP (a.filter fun l=>!decide (l.bM<=now))
  generalize (a.filter fun l=>!decide (l.bM<=now))=b2 at *
  exact oI
 have ha:=List.getElem?_eq_getElem hlt
 rw [List.drop_eq_getElem_cons hlt,foE] at hs
 generalize a[i]=x at ha hs
 have hsc2:=mH (p:=fun l:aQ=>!decide (l.bM<=now)) (f:=aQ.row) ha
 have hlen2:=iX (fun l:aQ=>!decide (l.bM<=now)) aQ.row a i
 rw [show ∀ l:List aQ,(l.filter fun l=>!decide (l.bM<=now)).map aQ.row=bC (l.filter fun l=>!decide (l.bM<=now)) from fun l=>rfl] at hsc2 hlen2
 rw [show ∀ l:List aQ,(l.filter fun l=>!decide (l.bM<=now)).map aQ.row=bC (l.filter fun l=>!decide (l.bM<=now)) from fun l=>rfl] at hsc2
 generalize bC ((a.take i).filter fun l=>!decide (l.bM<=now))=L2 at *
 obtain ⟨x1,x2,x3,x4,x5,x6⟩:=x
 dsimp only at hsc2 hs
 have e1:IntKind.i64.wrap ((i:Int)+1)=(i:Int)+1:=aA (by omega) (by omega)
 by_cases hx:x5<=now
 rotate_left
 ·rw [decide_eq_false hx] at hsc2
  rw [if_neg hx] at hs
  simp only [Bool.not_false,if_true] at hsc2
  have hx2:now<x5:=by omega
  refine iK (Y3 ha @aJ.eq_1 e1) ?_
  refine ⟨a.length-(i+1),by omega,i+1,G,rfl,hlt,by omega,hs,?_⟩
  rw [hsc2]
  exact qW
 ·rw [decide_eq_true hx] at hsc2
  rw [if_pos hx] at hs
  simp only [Bool.not_true,Bool.false_eq_true,if_false,List.append_nil] at hsc2
  generalize hU:aCs ⟨x1,x2,x3,x4,x5,x6⟩ G=U at hs
  have hUl:U.length=G.length+1:=by rw [<-hU,aOL]
  have hgo:=aFs ⟨x1,x2,x3,x4,x5,x6⟩ G []
  rw [hU,List.nil_append] at hgo
  refine iK (Y2 ha @aJ.eq_1) ?_
  refine bQ (fun n st=>∃ (k:Nat) (nx:List aQ) (put:Bool),n=G.length-k/\k<=G.length/\nx.length<=k+put.toNat/\goE ⟨x1,x2,x3,x4,x5,x6⟩ (G.drop k) nx put=U ∧
   st=⟨[],[(1,.d (.int .i64 now)),(2,.ptr 0 0),(4,.ptr 1 0),(6,.ptr 2 0),(7,.sl 3),(8,.d (.int .i64 i)),(9,.ptr 4 0),(10,.sl 5),(11,.d (.bool put)),(12,.d (.int .i64 k))],
    [(0,.box [.d (.slc 6 (bC a))]),(1,.box [.nil 0 6]),(2,.box [.sl 6]),(3,.arr 0 0 6 (bC G)),(4,.box [.d (.int .i64 x1),.d (.int .i64 x2),.d (.str x3),.d (.int .i64 x4),.d (.int .i64 x5),.d (.int .i64 x6)]),(5,.arr 0 0 6 (bC nx)),(6,.arr 0 0 6 L2)],7⟩) _ ⟨0,[],false,rfl,by omega,by simp,hgo,?_⟩ ?_
  ·exact iR @bC.eq_1
  rintro n st ⟨k,nx,put,rfl,hk,hnx,hg,rfl⟩
  by_cases hkl:k<G.length
  ·have hgk:=List.getElem?_eq_getElem hkl
   rw [List.drop_eq_getElem_cons hkl,goE] at hg
   generalize G[k]=y at hgk hg
   obtain ⟨y1,y2,y3,y4,y5,y6⟩:=y
   dsimp only at hg
   have e2:IntKind.i64.wrap ((k:Int)+1)=(k:Int)+1:=aA (by omega) (by omega)
   have hlx:=tD nx
   cases put with
   |true=>
    simp only [Bool.toNat_true] at hnx
    simp only [Bool.not_true,Bool.false_and,Bool.false_eq_true,if_false] at hg
    refine iK (Y3 hgk @aJ.eq_1 e2) ?_
    refine ⟨G.length-(k+1),by omega,k+1,_,true,rfl,hkl,?_,hg,?_⟩
    ·simp;omega
    ·exact iR @bC.eq_1
   |false=>
    simp only [Bool.toNat_false,Nat.add_zero] at hnx
    simp only [Bool.not_false,Bool.true_and] at hg
    by_cases hxy:x5<y5
    ·rw [if_pos (decide_eq_true hxy)] at hg
     refine iK (Y3 hgk @aJ.eq_1 e2) ?_
     refine ⟨G.length-(k+1),by omega,k+1,_,true,rfl,hkl,?_,hg,?_⟩
     ·simp;omega
     ·exact iR @bC.eq_1
    ·rw [if_neg (by simpa using hxy)] at hg
     refine iK (Y3 hgk @aJ.eq_1 e2) ?_
     refine ⟨G.length-(k+1),by omega,k+1,_,false,rfl,hkl,?_,hg,?_⟩
     ·simp;omega
     ·exact iR @bC.eq_1
  ·have hke:k=G.length:=by omega
   subst hke
   rw [List.drop_length,goE] at hg
   have hlx:=tD nx
   cases put with
   |true=>
    simp only [Bool.toNat_true] at hnx
    simp only [if_true] at hg
    subst hg
    refine iK e1 ?_
    refine ⟨a.length-(i+1),by omega,i+1,nx,rfl,hlt,by omega,hs,?_⟩
    rw [hsc2]
    exact qW
   |false=>
    simp only [Bool.toNat_false,Nat.add_zero] at hnx
    simp only [Bool.false_eq_true,if_false] at hg
    refine iK (Y2 e1 @aJ.eq_1) ?_
    refine ⟨a.length-(i+1),by omega,i+1,U,rfl,hlt,by omega,hs,?_⟩
    rw [hsc2,<-hg]
    exact iR @bC.eq_1
theorem aRA {p:aO->Bool} {l:List aO}:∀ x,x∈(wo p l).2->∃ t,t∈l/\t.bU=x:=by
 induction l using kU with
 |h0=>intro x hx;simp [wo] at hx
 |h1 l t ih=>
  intro x hx
  rw [vN] at hx
  unfold aAf at hx
  split at hx
  ·rcases List.mem_append.1 hx with hx|hx
   ·obtain ⟨s,hs,e⟩:=ih x hx;exact ⟨s,by simp [hs],e⟩
   ·simp at hx;exact ⟨t,by simp,hx.symm⟩
  ·obtain ⟨s,hs,e⟩:=ih x hx;exact ⟨s,by simp [hs],e⟩
theorem aFJ {f:bK} (h:bR f=true) (p:aO->Bool) (i:Nat):(wo p (f.aF.take i)).2.contains 0=false:=by
 cases hc:(wo p (f.aF.take i)).2.contains 0 with
 |false=>rfl
 |true=>
  obtain ⟨t,ht,e⟩:=aRA 0 (List.contains_iff_mem.1 hc)
  have:=((tO h).2.1 t (List.mem_of_mem_take ht)).2.1
  omega
def fM (f:bK) (now:Int):List Int:=(wo (fun t=>kX t.bM now) f.aF).2
theorem aBn (f:bK) (now:Int) (hf:tP f) (hb:bR f=true):
  aE PP GG 142 [.agg f.c,.d (.int .i64 now)] (.tup [.agg (fB f (fM f now)).o,.own 0 1 (bB (fM f now))]) [none,none]:=by
 refine cv Tryz.func142 [.agg (fB f (fM f now)).o,.own 0 1 (bB (fM f now))] ?_
 have cfo:=jB f hf
 rw [hb] at cfo
 have hz:=fun i=>aFJ hb (fun t=>kX t.bM now) i
 have hwl:=fun l=>aFK (fun t:aO=>kX t.bM now) l
 have hSw:fM f now=(wo (fun t=>kX t.bM now) f.aF).2:=rfl
 have hsl:(fM f now).length<=f.aF.length:=by rw [hSw];have:=hwl f.aF;omega
 have hf1:=hf.1
 have hig:=gU (fM f now)
 have cle:=sV f.aF (fM f now) hf (by omega)
 obtain ⟨a⟩:=f
 dsimp only at hf1 hz hSw hsl cle
 refine jH @bB.eq_1 (Z1 cfo) ?_
 refine bQ (fun n st=>∃ i:Nat,n=a.length-i/\i<=a.length ∧
  st=⟨[],[(1,.d (.int .i64 now)),(2,.ptr 0 0),(4,.ptr 1 0),(6,.sl 2),(7,.d (.int .i64 i))],[(0,.box [.d (.slc 7 (bS a))]),(1,.box [.nil 1 7]),(2,.arr 0 0 1 (bB (wo (fun t=>kX t.bM now) (a.take i)).2))],3⟩) _ ⟨0,rfl,by omega,?_⟩ ?_
 ·exact iR (Y2 @wo.eq_1 @bB.eq_1)
 rintro n st ⟨i,rfl,hi,rfl⟩
 by_cases hlt:i<a.length
 rotate_left
 ·have hie:i=a.length:=by omega
  subst hie
  rw [List.take_length,<-hSw]
  clear hSw hz hwl cfo
  generalize fM ⟨a⟩ now=G at *
  generalize fB ⟨a⟩ G=LF at *
  obtain ⟨lf⟩:=LF
  have hi6:=bT lf
  have hi7:=bT a
  exact qX (Z1 cle)
 have ha:=List.getElem?_eq_getElem hlt
 generalize a[i]=x at ha
 have hws:=aPC (p:=fun t:aO=>kX t.bM now) ha
 have hwl1:=hwl (a.take i)
 have hz1:=hz i
 have htl:(a.take i).length<=i:=by rw [List.length_take];omega
 generalize wo (fun t=>kX t.bM now) (a.take i)=S at *
 obtain ⟨r,G⟩:=S
 dsimp only at hwl1 hz1
 unfold aAf at hws
 dsimp only at hws
 have hgl:=jR G
 have cov:=mM x now
 have chas:=nQ G x.bV (by omega)
 have hin:=cD x.eT
 have e1:IntKind.i64.wrap ((i:Int)+1)=(i:Int)+1:=aA (by omega) (by omega)
 obtain ⟨x1,x2,x3,x4,x5,x6,x7⟩:=x
 dsimp only at hws cov chas hin
 clear cle hSw hz hwl cfo
 cases hov:kX x5 now with
 |true=>
  rw [hov] at cov
  simp only [hov,Bool.true_or,if_true] at hws
  refine jH (Y4 ha hgl e1 @aJ.eq_1) (Z2 cov chas) ?_
  refine ⟨a.length-(i+1),by omega,i+1,rfl,hlt,?_⟩
  rw [hws]
  exact iR @bB.eq_1
 |false=>
  rw [hov] at cov
  simp only [hov,Bool.false_or] at hws
  by_cases hx2:x2=0
  ·subst hx2
   simp only [hz1,Bool.false_eq_true,if_false] at hws
   refine jH (Y4 ha hgl e1 @aJ.eq_1) (Z1 cov) ?_
   refine ⟨a.length-(i+1),by omega,i+1,rfl,hlt,?_⟩
   rw [hws]
   exact iR @bB.eq_1
  ·have hx3:(x2 != 0)=true:=by simpa using hx2
   cases hcn:G.contains x2 with
   |true=>
    rw [hcn] at chas
    simp only [hcn,if_true] at hws
    refine jH (Y5 ha hgl hx3 e1 @aJ.eq_1) (Z2 cov chas) ?_
    refine ⟨a.length-(i+1),by omega,i+1,rfl,hlt,?_⟩
    rw [hws]
    exact iR @bB.eq_1
   |false=>
    rw [hcn] at chas
    simp only [hcn,Bool.false_eq_true,if_false] at hws
    refine jH (Y5 ha hgl hx3 e1 @aJ.eq_1) (Z2 cov chas) ?_
    refine ⟨a.length-(i+1),by omega,i+1,rfl,hlt,?_⟩
    rw [hws]
    exact iR @bB.eq_1
structure vJ where
 aF:List Int
 aL:List Int
 vD:List (List UInt8)
 xI:List (List UInt8)
 deriving DecidableEq
@[simp] abbrev vJ.row (x:vJ):List D:=[.slc 1 (bB x.aF),.slc 1 (bB x.aL),.slc 1 (aN x.vD),.slc 1 (aN x.xI)]
@[simp] abbrev vJ.c (x:vJ):List C:=[.d (.slc 1 (bB x.aF)),.d (.slc 1 (bB x.aL)),.d (.slc 1 (aN x.vD)),.d (.slc 1 (aN x.xI))]
@[simp] abbrev vJ.o (x:vJ):List C:=[.own 0 1 (bB x.aF),.own 0 1 (bB x.aL),.own 0 1 (aN x.vD),.own 0 1 (aN x.xI)]
def vJ.cost (x:vJ):Nat:=x.aF.length+x.aL.length+(x.vD.length+cX List.length x.vD)+(x.xI.length+cX List.length x.xI)
def vJ.ok (x:vJ):Prop:=x.aF.length<=maxLen/\(∀ y,y∈x.aF->cH y)/\x.aL.length<=maxLen/\(∀ y,y∈x.aL->cH y)/\x.vD.length<=maxLen/\(∀ y,y∈x.vD->y.length<=maxLen)/\x.xI.length<=maxLen/\(∀ y,y∈x.xI->y.length<=maxLen)
def ptB (w:aP) (now:Int):Bool:=eO w && inB now w.cN 1000000000
def ptK (w:aP) (now:Int):dX:=iZ w.aV (fM w.aD now)
def ptL (w:aP) (now:Int):List aQ:=lA w.aV (fM w.aD now)++wK (ptK w now) now
def ptX (w:aP) (now:Int):aP:={ w with cN:=now,aD:=fB w.aD (fM w.aD now),aV:=aB8 (ptK w now) now }
def ptW (w:aP) (now:Int):aP:=if ptB w now then iH (ptX w now) (ptL w now) else w
def ptR (w:aP) (now:Int):RQ:=iS (aX (ptX w now) (ptL w now))
def ptT (w:aP) (now:Int):vJ:=if ptB w now then ⟨fM w.aD now,(ptL w now).map aQ.bU,(ptR w now).done,(ptR w now).failed⟩ else ⟨[],[],[],[]⟩
theorem aKK {b:dX} (g:List Int) (h:eV b=true):eV (iZ b g)=true:=by
 have hl:b.aL.length<=150:=by unfold eV at h;rw [Bool.and_eq_true] at h;exact of_decide_eq_true h.1
 have hi:=aFE h
 unfold eV at h ⊢
 rw [Bool.and_eq_true] at h ⊢
 refine ⟨decide_eq_true (Nat.le_trans (List.length_filter_le _ _) hl),aGk fun i x hx=>?_⟩
 have hm:=List.mem_of_getElem? hx
 unfold iZ at hm
 dsimp only at hm
 obtain ⟨j,hj⟩:=List.getElem?_of_mem (List.mem_filter.1 hm).1
 have hq:=oE h.2 hj
 unfold rF at hq ⊢
 rw [Bool.and_eq_true] at hq ⊢
 refine ⟨hq.1,?_⟩
 have hi2:(iZ b g).aL.Pairwise fun y x=>y.bU<x.bU:=hi.filter _
 cases i with
 |zero=>simp [oR]
 |succ i=>
  have hy:=List.getElem?_eq_getElem (show i<(iZ b g).aL.length by have:=(List.getElem?_eq_some_iff.1 hx).1;omega)
  rw [qF _ hy]
  refine decide_eq_true ?_
  rw [List.pairwise_iff_getElem] at hi2
  obtain ⟨h1,rfl⟩:=List.getElem?_eq_some_iff.1 hx
  exact hi2 i (i+1) (by omega) h1 (by omega)
theorem aMT {b:dX} (g:List Int) (h:aDP b):aDP (iZ b g):=
 ⟨Nat.le_trans (List.length_filter_le _ _) h.1,fun t ht=>h.2 t (List.mem_filter.1 ht).1⟩
theorem aR7 {w:aP} {now:Int} (hf:aDO w) (h:ptB w now=true):pE (ptX w now)/\aKl (ptX w now)/\eO w=true/\eV w.aV=true/\bR w.aD=true:=by
 unfold ptB at h
 rw [Bool.and_eq_true] at h
 obtain ⟨hL,hI,hb⟩:=aBx hf h.1 (fB w.aD (fM w.aD now)) (aB8 (ptK w now) now)
 obtain ⟨a1,a2,a3,a4,a5,a6,a7,a8⟩:=hL
 have hin:=cC h.2
 have hn:0<=w.cN:=a1.1
 exact ⟨⟨⟨by show 0<=now;omega,hin.2⟩,a2,a3,a4,a5,a6,a7,a8⟩,hI,h.1,hb,sQ h.1⟩
theorem aJ4 {α:Type} (lt:α->α->Bool) (l:List α):(wR lt l).length=l.length:=by unfold wR;rw [aIF,aE5]
theorem aP8 (w:aP) (now:Int):(ptL w now).length<=2*w.aV.aL.length:=by
 unfold ptL
 have h1:=aFr w.aV (fM w.aD now)
 have h2:(wK (ptK w now) now).length<=w.aV.aL.length:=by
  unfold wK
  rw [aJ4]
  exact Nat.le_trans (List.length_filter_le _ _) (List.length_filter_le _ _)
 rw [List.length_append];omega
theorem aMb {w:aP} (now:Int) (h:bR w.aD=true):(fM w.aD now).length<=120:=by
 unfold fM
 have h1:=aFK (fun t:aO=>kX t.bM now) w.aD.aF
 unfold bR at h
 simp only [Bool.and_eq_true,decide_eq_true_eq] at h
 omega
theorem aEg (w:aP) (now:Int) (hf:aDO w):
  aE PP GG 107 [.agg w.c,.d (.int .i64 now)] (.tup [.agg (ptW w now).o,.agg (ptT w now).o,.d (.bool (ptB w now))]) [none,none]:=by
 refine cv Tryz.func107 [.agg (ptW w now).o,.agg (ptT w now).o,.d (.bool (ptB w now))] ?_
 have cw:=sW w hf
 have ccp:=iY w hf
 have cin:aE PP GG 12 [.d (.int .i64 now),.d (.int .i64 w.cN),.d (.int .i64 1000000000)] (.d (.bool (inB now w.cN 1000000000))) [none,none,none]:=bA _ _ _
 have hB:ptB w now=(eO w && inB now w.cN 1000000000):=rfl
 have hW:ptW w now=if ptB w now then iH (ptX w now) (ptL w now) else w:=rfl
 have hT:ptT w now=if ptB w now then ⟨fM w.aD now,(ptL w now).map aQ.bU,(ptR w now).done,(ptR w now).failed⟩ else ⟨[],[],[],[]⟩:=rfl
 have hi1:=bT w.aD.aF
 have hi2:=bP w.aV.aL
 have hi3:=dC w.bL.aY
 have hi4:=eZ w.bJ.bX
 have hi5:=dR w.bD
 cases hb:ptB w now with
 |false=>
  rw [hb] at hW hT
  simp only [Bool.false_eq_true,if_false] at hW hT
  rw [hW,hT]
  cases hWB:eO w with
  |false=>
   rw [hWB] at cw
   clear hW hT hB
   exact eJ (Y2 @bB.eq_1 @aN.eq_1) (Z2 ccp cw)
  |true=>
   rw [hb,hWB,Bool.true_and] at hB
   rw [hWB] at cw
   rw [<-hB] at cin
   clear hW hT hB
   exact eJ (Y2 @bB.eq_1 @aN.eq_1) (Z3 ccp cw cin)
 |true=>
  obtain ⟨hL,hI,hWB,hbb,hfb⟩:=aR7 hf hb
  rw [hb] at hW hT
  simp only [if_true] at hW hT
  rw [hb,hWB,Bool.true_and] at hB
  rw [hWB] at cw
  rw [<-hB] at cin
  have csw:=aBn w.aD now hf.1 hfb
  have hsl:=aMb now hfb
  have cdo:=uK w.aV (fM w.aD now) hf.2.1 hbb (by omega)
  have cdv:=aEk (ptK w now) now (aMT _ hf.2.1) (aKK _ hbb)
  have hll:=aP8 w now
  have hbl:=hf.2.1.1
  have cgo:=qZ (ptX w now) (ptL w now) hL (by have:=hbb;unfold eV at this;rw [Bool.and_eq_true] at this;have:=of_decide_eq_true this.1;omega)
  rw [hW,hT]
  have hX:ptX w now={ w with cN:=now,aD:=fB w.aD (fM w.aD now),aV:=aB8 (ptK w now) now }:=rfl
  have hLs:ptL w now=lA w.aV (fM w.aD now)++wK (ptK w now) now:=rfl
  have hR:ptR w now=iS (aX (ptX w now) (ptL w now)):=rfl
  rw [show iZ w.aV (fM w.aD now)=ptK w now from rfl] at cdo
  rw [<-hR] at cgo
  clear hR hW hT hB hL hI
  generalize iH (ptX w now) (ptL w now)=Z at *
  generalize ptR w now=R at *
  rw [hX] at cgo
  clear hX
  generalize ptL w now=LS at *
  generalize fM w.aD now=G at *
  generalize lA w.aV G=GL at *
  generalize fB w.aD G=LF at *
  generalize wK (ptK w now) now=OL at *
  generalize aB8 (ptK w now) now=KO at *
  generalize ptK w now=KB at *
  obtain ⟨lf⟩:=LF
  obtain ⟨ko⟩:=KO
  obtain ⟨kb⟩:=KB
  have hg1:=gU G
  have hg2:=bT lf
  have hg3:=bP ko
  have hg4:=bP kb
  have hg5:=bP GL
  have hg6:=bP OL
  have hll2:GL.length+OL.length=LS.length:=by rw [hLs,List.length_append]
  have hap:bC GL++bC OL=bC LS:=by rw [hLs,wT]
  clear hLs
  refine aJ1 (Z6 ccp cw cin csw cdo cdv) ?_
  refine jS 13 1 rfl rfl rfl ?_
  refine bQ (fun n st=>∃ i:Nat,n=GL.length-i/\i<=GL.length/\st=⟨[],[(4,.ptr 0 0),(5,.ptr 1 0),(7,.ptr 2 0),(8,.ptr 3 0),(10,.ptr 4 0),(11,.sl 5),(12,.sl 6),(13,.ptr 7 0),(14,.sl 8),(15,.d (.int .i64 i))],
   [(0,.box [.d (.int .i64 0),.d (.int .i64 0),.d (.int .i64 0),.nil 1 7,.nil 0 6,.nil 0 2,.d (.int .i64 0),.d (.int .i64 0),.nil 0 3,.nil 0 2]),(1,.box [.nil 0 1,.nil 0 1,.nil 0 1,.nil 0 1]),(2,.box [.d (.int .i64 now),.d (.int .i64 w.bG),.d (.int .i64 w.eQ),.sl 9,.sl 10,.sl 11,.d (.int .i64 w.bL.fU),.d (.int .i64 w.bL.aZ),.sl 12,.sl 13]),(3,.box [.sl 14]),(4,.box [.sl 15]),(5,.arr 0 0 6 (bC GL)),(6,.arr 0 0 6 (bC OL)),(7,.box [.sl 16,.sl 17,.nil 0 1,.nil 0 1]),(8,.arr 0 0 6 (bC (GL.take i))),(9,.arr 0 1 7 (bS w.aD.aF)),(10,.arr 0 0 6 (bC w.aV.aL)),(11,.arr 0 0 2 (cY w.bL.aY)),(12,.arr 0 0 3 (fP w.bJ.bX)),(13,.arr 0 0 2 (dK w.bD)),(14,.arr 0 1 7 (bS lf)),(15,.arr 0 0 6 (bC ko)),(16,.arr 0 0 1 (bB G)),(17,.arr 0 0 1 [])],18⟩) _ ⟨0,rfl,by omega,?_⟩ ?_
  ·exact iR @bC.eq_1
  clear ccp cw cin csw cdo cdv
  rintro n st ⟨i,rfl,hi,rfl⟩
  by_cases hlt:i<GL.length
  ·have ha:=List.getElem?_eq_getElem hlt
   generalize GL[i]=x at ha
   have hsc:=uP ha
   have hlen:=oU GL i
   have e1:IntKind.i64.wrap ((i:Int)+1)=(i:Int)+1:=aA (by omega) (by omega)
   generalize bC (GL.take i)=L at *
   obtain ⟨x1,x2,x3,x4,x5,x6⟩:=x
   refine iK (Y3 ha @aJ.eq_1 e1) ?_
   refine ⟨GL.length-(i+1),by omega,i+1,rfl,hlt,?_⟩
   rw [hsc]
   exact qW
  ·have hie:i=GL.length:=by omega
   subst hie
   rw [List.take_length]
   refine lQ ?_
   refine bQ (fun n st=>∃ i:Nat,n=OL.length-i/\i<=OL.length/\st=⟨[],[(4,.ptr 0 0),(5,.ptr 1 0),(7,.ptr 2 0),(8,.ptr 3 0),(10,.ptr 4 0),(12,.sl 5),(13,.ptr 6 0),(14,.sl 7),(16,.d (.int .i64 i))],
   [(0,.box [.d (.int .i64 0),.d (.int .i64 0),.d (.int .i64 0),.nil 1 7,.nil 0 6,.nil 0 2,.d (.int .i64 0),.d (.int .i64 0),.nil 0 3,.nil 0 2]),(1,.box [.nil 0 1,.nil 0 1,.nil 0 1,.nil 0 1]),(2,.box [.d (.int .i64 now),.d (.int .i64 w.bG),.d (.int .i64 w.eQ),.sl 8,.sl 9,.sl 10,.d (.int .i64 w.bL.fU),.d (.int .i64 w.bL.aZ),.sl 11,.sl 12]),(3,.box [.sl 13]),(4,.box [.sl 14]),(5,.arr 0 0 6 (bC OL)),(6,.box [.sl 15,.sl 16,.nil 0 1,.nil 0 1]),(7,.arr 0 0 6 (bC GL++bC (OL.take i))),(8,.arr 0 1 7 (bS w.aD.aF)),(9,.arr 0 0 6 (bC w.aV.aL)),(10,.arr 0 0 2 (cY w.bL.aY)),(11,.arr 0 0 3 (fP w.bJ.bX)),(12,.arr 0 0 2 (dK w.bD)),(13,.arr 0 1 7 (bS lf)),(14,.arr 0 0 6 (bC ko)),(15,.arr 0 0 1 (bB G)),(16,.arr 0 0 1 [])],17⟩) _ ⟨0,rfl,by omega,?_⟩ ?_
   ·exact iR @bC.eq_1
   rintro n st ⟨i,rfl,hi,rfl⟩
   by_cases hlt:i<OL.length
   ·have ha:=List.getElem?_eq_getElem hlt
    generalize OL[i]=x at ha
    have hsc:=uP ha
    have hlen:=oU OL i
    have e1:IntKind.i64.wrap ((i:Int)+1)=(i:Int)+1:=aA (by omega) (by omega)
    generalize bC (OL.take i)=L at *
    obtain ⟨x1,x2,x3,x4,x5,x6⟩:=x
    have hgll:=tD GL
    refine iK (Y4 ha @aJ.eq_1 e1 hgll) ?_
    refine ⟨OL.length-(i+1),by omega,i+1,rfl,hlt,?_⟩
    rw [hsc]
    exact qW
   ·have hie:i=OL.length:=by omega
    subst hie
    rw [List.take_length,hap]
    refine lQ ?_
    refine bQ (fun n st=>∃ i:Nat,n=LS.length-i/\i<=LS.length/\st=⟨[],[(4,.ptr 0 0),(5,.ptr 1 0),(7,.ptr 2 0),(8,.ptr 3 0),(10,.ptr 4 0),(13,.ptr 5 0),(14,.sl 6),(17,.d (.int .i64 i))],
     [(0,.box [.d (.int .i64 0),.d (.int .i64 0),.d (.int .i64 0),.nil 1 7,.nil 0 6,.nil 0 2,.d (.int .i64 0),.d (.int .i64 0),.nil 0 3,.nil 0 2]),(1,.box [.nil 0 1,.nil 0 1,.nil 0 1,.nil 0 1]),(2,.box [.d (.int .i64 now),.d (.int .i64 w.bG),.d (.int .i64 w.eQ),.sl 7,.sl 8,.sl 9,.d (.int .i64 w.bL.fU),.d (.int .i64 w.bL.aZ),.sl 10,.sl 11]),(3,.box [.sl 12]),(4,.box [.sl 13]),(5,.box [.sl 14,.sl 15,.nil 0 1,.nil 0 1]),(6,.arr 0 0 6 (bC LS)),(7,.arr 0 1 7 (bS w.aD.aF)),(8,.arr 0 0 6 (bC w.aV.aL)),(9,.arr 0 0 2 (cY w.bL.aY)),(10,.arr 0 0 3 (fP w.bJ.bX)),(11,.arr 0 0 2 (dK w.bD)),(12,.arr 0 1 7 (bS lf)),(13,.arr 0 0 6 (bC ko)),(14,.arr 0 0 1 (bB G)),(15,.arr 0 0 1 (bB ((LS.take i).map aQ.bU)))],16⟩) _ ⟨0,rfl,by omega,?_⟩ ?_
    ·exact iR @bB.eq_1
    rintro n st ⟨i,rfl,hi,rfl⟩
    by_cases hlt:i<LS.length
    ·have ha:=List.getElem?_eq_getElem hlt
     generalize LS[i]=x at ha
     have hsc:bB ((LS.take (i+1)).map aQ.bU)=bB ((LS.take i).map aQ.bU)++[[.int .i64 x.bU]]:=by rw [List.take_add_one,ha];simp [bB]
     have hlen:(bB ((LS.take i).map aQ.bU)).length<=i:=by rw [jR,List.length_map,List.length_take];omega
     have e1:IntKind.i64.wrap ((i:Int)+1)=(i:Int)+1:=aA (by omega) (by omega)
     generalize bB ((LS.take i).map aQ.bU)=L at *
     obtain ⟨x1,x2,x3,x4,x5,x6⟩:=x
     dsimp only at hsc
     refine iK (Y3 ha @aJ.eq_1 e1) ?_
     refine ⟨LS.length-(i+1),by omega,i+1,rfl,hlt,?_⟩
     rw [hsc]
     exact qW
    ·have hie:i=LS.length:=by omega
     subst hie
     rw [List.take_length]
     obtain ⟨Zn,Zx,Zl,⟨Zf⟩,⟨Zb⟩,⟨Zu,Zfl,Zfm⟩,⟨Zq⟩,Zo⟩:=Z
     have hj1:=bT Zf
     have hj2:=bP Zb
     have hj3:=dC Zu
     have hj4:=eZ Zq
     have hj5:=dR Zo
     have hj6:=cD R.done
     have hj7:=cD R.failed
     have hj8:=gU (LS.map aQ.bU)
     have hj9:=bP LS
     exact qX (Z1 cgo)
theorem pW {x lo hi:Int} (h1:lo<=x) (h2:x<=hi):inB x lo hi=true:=by simp [inB,h1,h2]
theorem aI7 {α:Type} {l:List α} {i j:Nat} {y:α} (hij:i<j) (hy:l[i]?=some y):y∈l.take j:=by
 refine List.mem_of_getElem? (i:=i) ?_
 rw [List.getElem?_take_of_lt hij];exact hy
theorem aR3 {α:Type} {R:α->α->Prop} {l:List α}:(∀ (i:Nat) x,l[i]?=some x->∀ y,y∈l.take i->R y x) ↔ l.Pairwise R:=by
 constructor
 ·intro h
  rw [List.pairwise_iff_getElem]
  intro i j hi hj hij
  exact h j _ (List.getElem?_eq_getElem hj) _ (aI7 hij (List.getElem?_eq_getElem hi))
 ·intro h i x hx y hy
  obtain ⟨j,hj⟩:=List.getElem?_of_mem hy
  have hjl:=(List.getElem?_eq_some_iff.1 hj).1
  rw [List.length_take] at hjl
  rw [List.getElem?_take_of_lt (by omega)] at hj
  exact aKk h (by omega) hj hx
theorem aGm {α:Type} {q:List α->α->Bool} {l:List α}:okP q [] l=true ↔ ∀ (i:Nat) x,l[i]?=some x->q (l.take i) x=true:=
 ⟨fun h _ _ hi=>oE h hi,aGk⟩
theorem aGl {α:Type} {key:α->Int} {A:α->Bool} {q:List α->α->Bool} {l:List α} (hq:∀ pre x,q pre x=(A x && oR (fun p x=>decide (key p<key x)) pre x)):
  okP q [] l=true ↔ (∀ x,x∈l->A x=true)/\l.Pairwise (fun y x=>key y<key x):=by
 constructor
 ·intro h
  refine ⟨fun x hx=>?_,aAC (fun pre x hh=>?_) h⟩
  ·obtain ⟨i,hi⟩:=List.getElem?_of_mem hx
   have:=oE h hi
   rw [hq,Bool.and_eq_true] at this
   exact this.1
  ·rw [hq,Bool.and_eq_true] at hh;exact hh.2
 ·rintro ⟨h1,h2⟩
  refine aGk fun i x hx=>?_
  rw [hq,h1 x (List.mem_of_getElem? hx),Bool.true_and]
  cases i with
  |zero=>exact qE _ _ _
  |succ j=>
   have hy:=List.getElem?_eq_getElem (show j<l.length by have:=(List.getElem?_eq_some_iff.1 hx).1;omega)
   rw [qF _ hy]
   exact decide_eq_true (aKk h2 (Nat.lt_succ_self j) hy hx)
theorem aLw {α:Type} {q q1 q2:List α->α->Bool} {l:List α} (hq:∀ pre x,q pre x=(q1 pre x && q2 pre x)):okP q [] l=true ↔ okP q1 [] l=true/\okP q2 [] l=true:=by
 simp only [aGm,hq,Bool.and_eq_true]
 exact ⟨fun h=>⟨fun i x hx=>(h i x hx).1,fun i x hx=>(h i x hx).2⟩,fun h i x hx=>⟨h.1 i x hx,h.2 i x hx⟩⟩
theorem aLv {α:Type} {r:α->α->Bool} {l:List α}:okP (fun pre x=>!(pre.any fun p=>r p x)) [] l=true ↔ l.Pairwise (fun y x=>r y x=false):=by
 rw [<-aR3,aGm]
 simp only [Bool.not_eq_true',List.any_eq_false,Bool.not_eq_true]
theorem aQk {α:Type} {A:α->Bool} {l:List α}:okP (fun _ x=>A x) [] l=true ↔ ∀ x,x∈l->A x=true:=by
 rw [aGm]
 exact ⟨fun h x hx=>by obtain ⟨i,hi⟩:=List.getElem?_of_mem hx;exact h i x hi,fun h i x hx=>h x (List.mem_of_getElem? hx)⟩
theorem fF (f:bK):bR f=true ↔ f.aF.length<=120/\(∀ t,t∈f.aF->fL t=true/\(t.bV=0\/cJ f t.bV=true))/\f.aF.Pairwise (fun y x=>y.bU<x.bU):=by
 unfold bR
 rw [Bool.and_eq_true,decide_eq_true_iff,aGl (key:=aO.bU) (A:=fun t=>fL t && (decide (t.bV=0) || cJ f t.bV))]
 ·simp only [Bool.and_eq_true,Bool.or_eq_true,decide_eq_true_eq]
 ·intro pre x
  unfold aBi
  rw [Bool.and_assoc,Bool.and_comm (oR _ _ _),<-Bool.and_assoc]
theorem oO (b:dX):eV b=true ↔ b.aL.length<=150/\(∀ t,t∈b.aL->tM t=true)/\b.aL.Pairwise (fun y x=>y.bU<x.bU):=by
 unfold eV
 rw [Bool.and_eq_true,decide_eq_true_iff,aGl (key:=aQ.bU) (A:=tM)]
 intro pre x;rfl
theorem vQ (q:eP):gS q=true ↔ q.bX.length<=120/\(∀ t,t∈q.bX->aGu t=true)/\q.bX.Pairwise (fun y x=>y.aG≠x.aG):=by
 unfold gS
 rw [Bool.and_eq_true,decide_eq_true_iff,aLw (q:=aGt) (q1:=fun _ x=>aGu x) (q2:=fun pre x=>!(pre.any fun t=>t.aG==x.aG)) (fun _ _=>rfl),aQk,aLv (r:=fun (t x:gW)=>t.aG==x.aG)]
 simp only [beq_eq_false_iff_ne]
theorem aLr (b:dX) (l:List cK):okP (aBs b) [] l=true ↔ (∀ o,o∈l->fS b o.dS=true/\eG o.aG=true)/\l.Pairwise (fun y x=>y.dS<x.dS)/\l.Pairwise (fun y x=>y.aG≠x.aG):=by
 rw [aLw (q1:=fun pre x=>(fS b x.dS && eG x.aG) && oR (fun p x=>decide (p.dS<x.dS)) pre x) (q2:=fun pre x=>!(pre.any fun t=>t.aG==x.aG)),
  aGl (key:=cK.dS) (A:=fun x=>fS b x.dS && eG x.aG) (fun _ _=>rfl),aLv (r:=fun (t x:cK)=>t.aG==x.aG)]
 ·simp only [beq_eq_false_iff_ne,Bool.and_eq_true,and_assoc]
 ·intro pre x
  unfold aBs
  simp only [Bool.and_assoc]
  rw [Bool.and_left_comm,Bool.and_left_comm (oR _ _ _)]
structure WOk (w:aP) (ls:List aQ):Prop where
 now:0<=w.cN/\w.cN<=1000000000
 next:1<=w.bG/\w.bG<=1000000000
 lost:0<=w.eQ/\w.eQ<=1000000000
 fo:bR w.aD=true
 bo:eV w.aV=true
 fa:nT w.bL=true
 qu:gS w.bJ=true
 bt:∀ t,t∈w.aD.aF->t.bU<w.bG
 bl:∀ l,l∈w.aV.aL->l.bU<w.bG
 oi:w.bD.Pairwise (fun y x=>y.dS<x.dS)
 ol:∀ o,o∈w.bD->(ls.any fun l=>decide (l.bU=o.dS))=false->fS w.aV o.dS=true
 on:∀ o,o∈w.bD->eG o.aG=true
 od:w.bD.Pairwise (fun y x=>y.aG≠x.aG)
 len:w.bD.length<=1048576
theorem cS (w:aP):eO w=true ↔ WOk w []:=by
 unfold eO
 simp only [Bool.and_eq_true,nY,aDX,List.all_eq_true,decide_eq_true_eq]
 constructor
 ·rintro ⟨⟨⟨⟨⟨⟨⟨⟨⟨h1,h2⟩,h3⟩,h4⟩,h5⟩,h6⟩,h7⟩,h8⟩,h9⟩,h0⟩
  have hl:=aFe h5 h0
  obtain ⟨h10,h11,h12⟩:=(aLr _ _).1 h0
  have hb:w.aV.aL.length<=150:=((oO _).1 h5).1
  exact ⟨cC h1,cC h2,cC h3,h4,h5,h6,h7,h8,h9,h11,fun o ho _=>(h10 o ho).1,fun o ho=>(h10 o ho).2,h12,by omega⟩
 ·rintro ⟨h1,h2,h3,h4,h5,h6,h7,h8,h9,h11,h10,h13,h12,-⟩
  exact ⟨⟨⟨⟨⟨⟨⟨⟨⟨pW h1.1 h1.2,pW h2.1 h2.2⟩,pW h3.1 h3.2⟩,h4⟩,h5⟩,h6⟩,h7⟩,h8⟩,h9⟩,(aLr _ _).2 ⟨fun o ho=>⟨h10 o ho rfl,h13 o ho⟩,h11,h12⟩⟩
theorem aAD {s:List UInt8} (h:eG s=true):s.length<=12:=by
 unfold eG at h
 simp only [Bool.and_eq_true,decide_eq_true_eq] at h
 exact h.1.2
def jV (us:List cV) (ow:List cK) (js:List gW):Nat:=(us.filter fun u=>!jQ ow js u.aG).length
theorem aK1 {α:Type} {p q r:α->Bool} {l:List α} (h:∀ u,u∈l->p u=true->q u=true\/r u=true):(l.filter p).length<=(l.filter q).length+(l.filter r).length:=by
 induction l with
 |nil=>simp
 |cons a t ih=>
  have ih:=ih fun u hu=>h u (List.mem_cons_of_mem _ hu)
  have ha:=h a (List.mem_cons_self ..)
  simp only [List.filter_cons]
  cases hp:p a<;>cases hq:q a<;>cases hr:r a<;>simp_all<;>omega
theorem aSj {α:Type} {key:α->List UInt8} {l:List α} (h:l.Pairwise (fun y x=>key y≠key x)) (s:List UInt8):(l.filter fun u=>key u==s).length<=1:=by
 induction l with
 |nil=>simp
 |cons a t ih=>
  rw [List.pairwise_cons] at h
  simp only [List.filter_cons]
  split
  ·rename_i ha
   have:t.filter (fun u=>key u==s)=[]:=by
    rw [List.filter_eq_nil_iff]
    intro x hx e
    exact h.1 x hx (by rw [eq_of_beq ha,eq_of_beq e])
   rw [this];simp
  ·exact ih h.2
theorem aAl {us us':List cV} {ow ow':List cK} {js js':List gW} (p:cV->Bool) (hu:us'=us.filter p) (h:∀ u,u∈us'->jQ ow js u.aG=true->jQ ow' js' u.aG=true):jV us' ow' js'<=jV us ow js:=by
 unfold jV
 have:=aK1 (p:=fun u=>!jQ ow' js' u.aG) (q:=fun u=>!jQ ow js u.aG) (r:=fun _=>false) (l:=us') fun u hu hp=>by
  left
  cases hk:jQ ow js u.aG with
  |false=>rfl
  |true=>rw [h u hu hk] at hp;cases hp
 have e0:(us'.filter fun _=>false).length=0:=by rw [List.length_eq_zero_iff,List.filter_eq_nil_iff];simp
 have e1:(us'.filter fun u=>!jQ ow js u.aG).length<=(us.filter fun u=>!jQ ow js u.aG).length:=by
  rw [hu,List.filter_filter]
  have:=aK1 (p:=fun u=>(!jQ ow js u.aG) && p u) (q:=fun u=>!jQ ow js u.aG) (r:=fun _=>false) (l:=us) fun u _ hp=>by
   rw [Bool.and_eq_true] at hp;exact .inl hp.1
  have e0:(us.filter fun _=>false).length=0:=by rw [List.length_eq_zero_iff,List.filter_eq_nil_iff];simp
  omega
 omega
theorem aE0 {us:List cV} {ow ow':List cK} {js js':List gW} (hd:us.Pairwise (fun y x=>y.aG≠x.aG)) (s:List UInt8) (h:∀ u,u∈us->u.aG≠s->jQ ow js u.aG=true->jQ ow' js' u.aG=true):jV us ow' js'<=jV us ow js+1:=by
 unfold jV
 have h1:=aSj (key:=cV.aG) hd s
 have:=aK1 (p:=fun u=>!jQ ow' js' u.aG) (q:=fun u=>!jQ ow js u.aG) (r:=fun u=>u.aG==s) (l:=us) fun u hu hp=>by
  by_cases hs:u.aG=s
  ·right;rw [hs];simp
  ·left
   cases hk:jQ ow js u.aG with
   |false=>rfl
   |true=>rw [h u hu hs hk] at hp;cases hp
 omega
theorem nR {ow:List cK} {js:List gW} {s:List UInt8}:jQ ow js s=true ↔ (∃ o,o∈ow/\o.aG=s)\/∃ j,j∈js/\j.aG=s:=by
 unfold jQ
 simp only [Bool.or_eq_true,List.any_eq_true,beq_iff_eq]
theorem aLC {w:aP} {n:Int} {k:Nat} (h:(k:Int)<=w.eQ+n) (hk:k<=120):(k:Int)<=(oZ w n).eQ:=by
 unfold oZ;dsimp only;split<;>omega
theorem aE1 (us:List cV) (ow:List cK) (js:List gW):jV us ow js<=us.length:=List.length_filter_le _ _
theorem tL (w:aP) (id:Int) (os:List cK):(fR w id os).1={ w with bJ:=(fR w id os).1.bJ,eQ:=(fR w id os).1.eQ }/\(fR w id os).2=os.filter fun o=>!decide (o.dS=id):=by
 induction os using kU with
 |h0=>exact ⟨rfl,rfl⟩
 |h1 l x ih=>
  rw [tK,List.filter_append]
  generalize fR w id l=s at ih ⊢
  obtain ⟨V,r⟩:=s
  obtain ⟨i1,i2⟩:=ih
  dsimp only at i1 i2
  unfold mT
  split
  ·rename_i h
   refine ⟨?_,?_⟩
   ·dsimp only
    unfold xB oZ
    rw [i1]
    split<;>rfl
   ·simp [h,i2]
  ·rename_i h
   refine ⟨i1,?_⟩
   simp [h,i2]
theorem oL (w:aP) (ls:List aQ):aX w ls={ w with bJ:=(aX w ls).bJ,eQ:=(aX w ls).eQ,bD:=w.bD.filter fun o=>!(ls.any fun l=>decide (l.bU=o.dS)) }:=by
 unfold aX
 induction ls generalizing w with
 |nil=>
  show w=_
  have:w.bD.filter (fun o=>!(([]:List aQ).any fun l=>decide (l.bU=o.dS)))=w.bD:=by rw [List.filter_eq_self];intro x _;rfl
  dsimp only [List.foldl_nil]
  rw [this]
 |cons l r ih=>
  rw [List.foldl_cons]
  have h1:=ih (jC w l)
  obtain ⟨h2,h3⟩:=tL w l.bU w.bD
  have e1:jC w l={ w with bJ:=(jC w l).bJ,eQ:=(jC w l).eQ,bD:=w.bD.filter fun o=>!decide (o.dS=l.bU) }:=by
   unfold jC;rw [h3];rw [h2]
  generalize List.foldl jC (jC w l) r=Z at *
  rw [h1,e1]
  dsimp only
  rw [List.filter_filter]
  congr 1
  refine List.filter_congr fun o _=>?_
  rw [List.any_cons,Bool.not_or,Bool.and_comm]
  congr 2
  exact decide_eq_decide.2 eq_comm
theorem aDe {q:eP} {s:List UInt8} {now:Int}:(uQ q s now=true->∃ j,j∈(jX q s now).bX/\j.aG=s)/\(∀ j,j∈q.bX->j∈(jX q s now).bX)/\∀ j,j∈(jX q s now).bX->j∈q.bX\/j.aG=s:=by
 unfold uQ jX
 cases hh:aIY q s with
 |true=>
  refine ⟨fun _=>?_,fun j hj=>hj,fun j hj=>.inl hj⟩
  unfold aIY at hh
  obtain ⟨j,hj,e⟩:=List.any_eq_true.1 hh
  exact ⟨j,hj,eq_of_beq e⟩
 |false=>
  cases hq:gS (jK q s now) with
  |true=>
   simp only [Bool.false_eq_true,if_false,if_true]
   unfold jK
   dsimp only
   refine ⟨fun _=>⟨⟨s,now,0⟩,by simp,rfl⟩,fun j hj=>by simp [hj],fun j hj=>?_⟩
   rcases List.mem_append.1 hj with hj|hj
   ·exact .inl hj
   ·simp at hj;subst hj;exact .inr rfl
  |false=>
   simp only [Bool.false_eq_true,if_false]
   exact ⟨fun h=>(by cases h),fun j hj=>hj,fun j hj=>.inl hj⟩
theorem aI8 {us:List cV} (hd:us.Pairwise (fun y x=>y.aG≠x.aG)) (hu:us.length<=120) (id:Int):∀ (os:List cK) (s:aP×List cK),(jV us (s.2++os) s.1.bJ.bX:Int)<=s.1.eQ →
  (jV us (os.foldl (mT id) s).2 (os.foldl (mT id) s).1.bJ.bX:Int)<=(os.foldl (mT id) s).1.eQ:=by
 intro os
 induction os with
 |nil=>intro s h;rw [List.append_nil] at h;exact h
 |cons o os ih=>
  intro s h
  rw [List.foldl_cons]
  refine ih _ ?_
  obtain ⟨V,r⟩:=s
  dsimp only at h
  obtain ⟨k1,k2,k3⟩:=aDe (q:=V.bJ) (s:=o.aG) (now:=V.cN)
  unfold mT
  split
  ·dsimp only
   unfold xB
   split
   ·rename_i hb
    have:=aAl (us:=us) (us':=us) (ow:=r++o::os) (js:=V.bJ.bX) (ow':=r++os) (js':=(jX V.bJ o.aG V.cN).bX) (fun _=>true) (List.filter_eq_self.2 fun _ _=>rfl).symm fun u _ hk=>by
     rw [nR] at hk ⊢
     rcases hk with ⟨x,hx,e⟩|⟨j,hj,e⟩
     ·rcases List.mem_append.1 hx with hx|hx
      ·exact .inl ⟨x,by simp [hx],e⟩
      ·rcases List.mem_cons.1 hx with rfl|hx
       ·obtain ⟨j,hj,e2⟩:=k1 hb;exact .inr ⟨j,hj,by rw [e2,e]⟩
       ·exact .inl ⟨x,by simp [hx],e⟩
     ·exact .inr ⟨j,k2 j hj,e⟩
    dsimp only
    omega
   ·have:=aE0 (ow:=r++o::os) (js:=V.bJ.bX) (ow':=r++os) (js':=(jX V.bJ o.aG V.cN).bX) hd o.aG fun u _ hn hk=>by
     rw [nR] at hk ⊢
     rcases hk with ⟨x,hx,e⟩|⟨j,hj,e⟩
     ·rcases List.mem_append.1 hx with hx|hx
      ·exact .inl ⟨x,by simp [hx],e⟩
      ·rcases List.mem_cons.1 hx with rfl|hx
       ·exact absurd e.symm hn
       ·exact .inl ⟨x,by simp [hx],e⟩
     ·exact .inr ⟨j,k2 j hj,e⟩
    refine aLC ?_ (Nat.le_trans (aE1 _ _ _) hu)
    dsimp only [oZ]
    omega
  ·dsimp only
   rw [List.append_assoc];exact h
theorem aKy {w:aP} (ls:List aQ) (hd:w.bL.aY.Pairwise (fun y x=>y.aG≠x.aG)) (hu:w.bL.aY.length<=120) (h:(jV w.bL.aY w.bD w.bJ.bX:Int)<=w.eQ):
  (jV w.bL.aY (aX w ls).bD (aX w ls).bJ.bX:Int)<=(aX w ls).eQ:=by
 unfold aX
 induction ls generalizing w with
 |nil=>exact h
 |cons l r ih=>
  rw [List.foldl_cons]
  have e:(jC w l).bL=w.bL:=by unfold jC;rw [(tL w l.bU w.bD).1]
  have:=ih (w:=jC w l) (by rw [e];exact hd) (by rw [e];exact hu) (by
   rw [e]
   exact aI8 hd hu l.bU w.bD (w,[]) h)
  rwa [e] at this
theorem aRV (now:Int) (ow:List cK) (n:Int):∀ (js:List gW) (s:RQ),s.far.aY.Pairwise (fun y x=>y.aG≠x.aG)->(jV s.far.aY ow (s.jobs++js):Int)<=n+s.failed.length →
  (jV (js.foldl (kW now) s).far.aY ow (js.foldl (kW now) s).jobs:Int)<=n+(js.foldl (kW now) s).failed.length:=by
 intro js
 induction js with
 |nil=>intro s _ h;rw [List.append_nil] at h;exact h
 |cons j js ih=>
  intro s hd h
  rw [List.foldl_cons]
  have hdrop:sH s.far=0->kP s.far j.aG={ s.far with aY:=s.far.aY.filter fun u=>!(u.aG==j.aG) }:=fun h=>by
   unfold sH at h;unfold kP;split at h
   ·cases h
   ·rw [if_neg (by assumption)]
  have hkeep:¬sH s.far=0->(kP s.far j.aG).aY=s.far.aY:=fun h=>by
   unfold sH at h;unfold kP;split at h
   ·rw [if_pos (by assumption)]
   ·exact absurd rfl h
  unfold kW
  split
  ·refine ih _ hd ?_
   dsimp only
   rw [List.append_assoc];exact h
  ·split
   ·rename_i h0
    have:=aAl (us:=s.far.aY) (us':=(kP s.far j.aG).aY) (ow:=ow) (js:=s.jobs++j::js) (ow':=ow) (js':=s.jobs++js) (fun u=>!(u.aG==j.aG)) (by rw [hdrop h0]) fun u hu hk=>by
     rw [nR] at hk ⊢
     rw [hdrop h0] at hu
     have hn:=(List.mem_filter.1 hu).2
     rcases hk with hk|⟨x,hx,e⟩
     ·exact .inl hk
     ·rcases List.mem_append.1 hx with hx|hx
      ·exact .inr ⟨x,by simp [hx],e⟩
      ·rcases List.mem_cons.1 hx with rfl|hx
       ·rw [e] at hn;simp at hn
       ·exact .inr ⟨x,by simp [hx],e⟩
    refine ih _ ?_ ?_
    ·dsimp only;rw [hdrop h0];exact hd.filter _
    ·dsimp only;omega
   ·rename_i h0
    split
    ·have:=aE0 (us:=s.far.aY) (ow:=ow) (js:=s.jobs++j::js) (ow':=ow) (js':=s.jobs++js) hd j.aG fun u _ hn hk=>by
      rw [nR] at hk ⊢
      rcases hk with hk|⟨x,hx,e⟩
      ·exact .inl hk
      ·rcases List.mem_append.1 hx with hx|hx
       ·exact .inr ⟨x,by simp [hx],e⟩
       ·rcases List.mem_cons.1 hx with rfl|hx
        ·exact absurd e.symm hn
        ·exact .inr ⟨x,by simp [hx],e⟩
     refine ih _ ?_ ?_
     ·dsimp only;rw [hkeep h0];exact hd
     ·dsimp only;rw [hkeep h0];simp only [List.length_append,List.length_cons,List.length_nil];omega
    ·refine ih _ ?_ ?_
     ·dsimp only;rw [hkeep h0];exact hd
     ·dsimp only
      rw [hkeep h0]
      have:=aAl (us:=s.far.aY) (us':=s.far.aY) (ow:=ow) (js:=s.jobs++j::js) (ow':=ow) (js':=s.jobs++[⟨j.aG,now+2 ^ (j.iU+1).toNat,j.iU+1⟩]++js) (fun _=>true) (List.filter_eq_self.2 fun _ _=>rfl).symm fun u _ hk=>by
       rw [nR] at hk ⊢
       rcases hk with hk|⟨x,hx,e⟩
       ·exact .inl hk
       ·rcases List.mem_append.1 hx with hx|hx
        ·exact .inr ⟨x,by simp [hx],e⟩
        ·rcases List.mem_cons.1 hx with rfl|hx
         ·exact .inr ⟨⟨x.aG,now+2 ^ (x.iU+1).toNat,x.iU+1⟩,by simp,e⟩
         ·exact .inr ⟨x,by simp [hx],e⟩
      omega
theorem aQz {x lo hi:Int}:inB x lo hi=true ↔ lo<=x/\x<=hi:=⟨cC,fun h=>pW h.1 h.2⟩
theorem aLm {now:Int} (hn:0<=now/\now<=1000000000):∀ (js:List gW) (s:RQ),(∀ j,j∈s.jobs++js->aGu j=true)->(s.jobs++js).Pairwise (fun y x=>y.aG≠x.aG) →
  (∀ j,j∈(js.foldl (kW now) s).jobs->aGu j=true/\∃ i,i∈s.jobs++js/\i.aG=j.aG)/\(js.foldl (kW now) s).jobs.Pairwise (fun y x=>y.aG≠x.aG):=by
 intro js
 induction js with
 |nil=>
  intro s h1 h2
  rw [List.append_nil] at h1 h2
  refine ⟨fun j hj=>⟨h1 j hj,j,?_,rfl⟩,h2⟩
  rw [List.append_nil];exact hj
 |cons j js ih=>
  intro s h1 h2
  rw [List.foldl_cons]
  have hdel:(s.jobs++js).Pairwise (fun y x=>y.aG≠x.aG):=by
   refine List.Pairwise.sublist ?_ h2
   exact List.Sublist.append (List.Sublist.refl _) (List.sublist_cons_self _ _)
  have hdel1:∀ x,x∈s.jobs++js->x∈s.jobs++j::js:=fun x hx=>by
   rcases List.mem_append.1 hx with hx|hx
   ·simp [hx]
   ·simp [hx]
  unfold kW
  split
  ·have:=ih { s with jobs:=s.jobs++[j] } (by dsimp only;rw [List.append_assoc];exact h1) (by dsimp only;rw [List.append_assoc];exact h2)
   dsimp only at this
   rw [List.append_assoc] at this
   exact this
  ·split
   ·have:=ih { s with far:=kP s.far j.aG,done:=s.done++[j.aG] } (fun x hx=>h1 x (hdel1 x hx)) hdel
    exact ⟨fun x hx=>⟨(this.1 x hx).1,by obtain ⟨i,hi,e⟩:=(this.1 x hx).2;exact ⟨i,hdel1 i hi,e⟩⟩,this.2⟩
   ·split
    ·have:=ih { s with far:=kP s.far j.aG,failed:=s.failed++[j.aG] } (fun x hx=>h1 x (hdel1 x hx)) hdel
     exact ⟨fun x hx=>⟨(this.1 x hx).1,by obtain ⟨i,hi,e⟩:=(this.1 x hx).2;exact ⟨i,hdel1 i hi,e⟩⟩,this.2⟩
    ·rename_i h6
     have hj:=h1 j (by simp)
     have hnew:aGu ⟨j.aG,now+2 ^ (j.iU+1).toNat,j.iU+1⟩=true:=by
      unfold aGu at hj ⊢
      simp only [Bool.and_eq_true,aQz] at hj ⊢
      obtain ⟨⟨a,b⟩,c⟩:=hj
      have hp:∃ k:Nat,k<=5/\(j.iU+1).toNat=k:=⟨_,by omega,rfl⟩
      obtain ⟨k,hk,e⟩:=hp
      rw [e]
      have h64:(2:Int) ^ k<=64/\0<=(2:Int) ^ k:=by
       match k,hk with
       |0,_=>decide
       |1,_=>decide
       |2,_=>decide
       |3,_=>decide
       |4,_=>decide
       |5,_=>decide
      exact ⟨⟨a,by omega,by omega⟩,by omega,by omega⟩
     have:=ih { s with jobs:=s.jobs++[⟨j.aG,now+2 ^ (j.iU+1).toNat,j.iU+1⟩],far:=kP s.far j.aG } (fun x hx=>by
      dsimp only at hx
      rw [List.append_assoc] at hx
      rcases List.mem_append.1 hx with hx|hx
      ·exact h1 x (by simp [hx])
      ·rcases List.mem_cons.1 hx with rfl|hx
       ·exact hnew
       ·exact h1 x (by have hx:x∈js:=hx;simp [hx])) (by
      dsimp only
      rw [List.append_assoc,List.singleton_append]
      rw [List.pairwise_append,List.pairwise_cons] at h2 ⊢
      refine ⟨h2.1,⟨fun a ha=>h2.2.1.1 a ha,h2.2.1.2⟩,fun a ha b hb=>?_⟩
      rcases List.mem_cons.1 hb with rfl|hb
      ·exact h2.2.2 a ha j (by simp)
      ·exact h2.2.2 a ha b (List.mem_cons_of_mem _ hb))
     refine ⟨fun x hx=>⟨(this.1 x hx).1,?_⟩,this.2⟩
     obtain ⟨i,hi,e⟩:=(this.1 x hx).2
     dsimp only at hi
     rw [List.append_assoc] at hi
     rcases List.mem_append.1 hi with hi|hi
     ·exact ⟨i,by simp [hi],e⟩
     ·rcases List.mem_cons.1 hi with rfl|hi
      ·exact ⟨j,by simp,e⟩
      ·exact ⟨i,by have hi:i∈js:=hi;simp [hi],e⟩
theorem aO6 (f:jA) (s:List UInt8):(kP f s).aZ=f.aZ/\∀ u,u∈(kP f s).aY->u∈f.aY:=by
 unfold kP
 split
 ·exact ⟨rfl,fun u hu=>hu⟩
 ·exact ⟨rfl,fun u hu=>(List.mem_filter.1 hu).1⟩
theorem aF2 (now:Int) (q:List gW) (f:jA):(rq now q f).far.aZ=f.aZ/\∀ u,u∈(rq now q f).far.aY->u∈f.aY:=by
 induction q using kU with
 |h0=>exact ⟨rfl,fun u hu=>hu⟩
 |h1 l x ih=>
  have e:rq now (l++[x]) f=kW now (rq now l f) x:=by unfold rq;rw [List.foldl_append];rfl
  have hd:=aO6 (rq now l f).far x.aG
  rw [e]
  unfold kW
  repeat' split
  ·exact ih
  all_goals exact ⟨hd.1.trans ih.1,fun u hu=>ih.2 u (hd.2 u hu)⟩
theorem aLO {q:eP} (h:gS q=true):aEC q:=by
 obtain ⟨h1,h2,-⟩:=(vQ q).1 h
 refine ⟨by omega,fun t ht=>?_⟩
 have:=h2 t ht
 unfold aGu at this
 simp only [Bool.and_eq_true] at this
 have:=aAD this.1.1
 omega
theorem aBC {f:jA} (h:nT f=true):pZ f:=by
 obtain ⟨h1,-,-,h2,-⟩:=(lK f).1 h
 refine ⟨by omega,fun t ht=>?_⟩
 have:=aAD (h2 t ht)
 omega
theorem aQa {s:List UInt8} (h:fQ s=true):s.length<=120:=by
 unfold fQ lR at h
 simp only [Bool.and_eq_true,decide_eq_true_eq] at h
 exact h.1.1
theorem aQG {b:dX} (h:eV b=true):aDP b:=by
 obtain ⟨h1,h2,-⟩:=(oO b).1 h
 refine ⟨by omega,fun t ht=>?_⟩
 have:=h2 t ht
 unfold tM at this
 simp only [Bool.and_eq_true] at this
 have:=aQa this.1.1.1.2
 omega
theorem aQF {f:bK} (h:bR f=true):tP f:=by
 obtain ⟨h1,h2,-⟩:=(fF f).1 h
 refine ⟨by omega,fun t ht=>?_⟩
 have:=(h2 t ht).1
 unfold fL jY at this
 simp only [Bool.and_eq_true,decide_eq_true_eq] at this
 obtain ⟨⟨⟨⟨⟨⟨a,b⟩,c,d⟩,e⟩,f⟩,g⟩,i⟩:=this
 refine ⟨by omega,fun s hs=>?_⟩
 obtain ⟨i,hi⟩:=List.getElem?_of_mem hs
 have:=oE d hi
 unfold aB2 at this
 rw [Bool.and_eq_true] at this
 have:=aAD this.1
 omega
theorem aLF {w:aP} {ls:List aQ} (h:WOk w ls):pE w:=
 ⟨h.now,h.lost,h.qu,aLO h.qu,h.fa,aBC h.fa,h.len,fun o ho=>by have:=aAD (h.on o ho);omega⟩
theorem fT {w:aP} (h:eO w=true):aDO w:=by
 have h:=(cS w).1 h
 exact ⟨aQF h.fo,aQG h.bo,aBC h.fa,aLO h.qu,h.len,fun o ho=>by have:=aAD (h.on o ho);omega⟩
theorem aOu {w:aP} {ls:List aQ} (h:WOk w ls):WOk (iH w ls) []:=by
 have hA:=oL w ls
 have hL:=vS (aLF h) ls
 have hr1:=aKd (now:=(aX w ls).cN) hL.fb hL.ff (aX w ls).bJ.bX
 have hq:=(vQ _).1 hL.qb
 have hr2:=aLm hL.now (aX w ls).bJ.bX ⟨[],(aX w ls).bL,[],[]⟩ hq.2.1 hq.2.2
 have hr3:=(aKc (aX w ls).cN (aX w ls).bJ.bX (aX w ls).bL).1
 have hlo:=hL.lost
 have hgo:iH w ls=oZ { aX w ls with bJ:=⟨(iS (aX w ls)).jobs⟩,bL:=(iS (aX w ls)).far } (iS (aX w ls)).failed.length:=rfl
 have hru:iS (aX w ls)=rq (aX w ls).cN (aX w ls).bJ.bX (aX w ls).bL:=rfl
 have hrq:rq (aX w ls).cN (aX w ls).bJ.bX (aX w ls).bL=(aX w ls).bJ.bX.foldl (kW (aX w ls).cN) ⟨[],(aX w ls).bL,[],[]⟩:=rfl
 rw [<-hrq] at hr2
 rw [<-hru] at hr1 hr2 hr3
 generalize iS (aX w ls)=R at *
 have e1:(aX w ls).cN=w.cN:=by rw [hA]
 have e2:(aX w ls).bG=w.bG:=by rw [hA]
 have e3:(aX w ls).aD=w.aD:=by rw [hA]
 have e4:(aX w ls).aV=w.aV:=by rw [hA]
 have e5:(aX w ls).bD=w.bD.filter fun o=>!(ls.any fun l=>decide (l.bU=o.dS)):=by rw [hA]
 rw [hgo]
 unfold oZ
 generalize aX w ls=Z at *
 obtain ⟨h1,h2,h3,h4,h5,h6,h7,h8,h9,h10,h11,h12,h13,h14⟩:=h
 refine ⟨?_,?_,?_,?_,?_,hr1.1,(vQ _).2 ⟨?_,fun j hj=>(hr2.1 j hj).1,hr2.2⟩,?_,?_,?_,?_,?_,?_,?_⟩
 ·dsimp only;rw [e1];exact h1
 ·dsimp only;rw [e2];exact h2
 ·dsimp only;split<;>omega
 ·dsimp only;rw [e3];exact h4
 ·dsimp only;rw [e4];exact h5
 ·dsimp only;omega
 ·dsimp only;rw [e2,e3];exact h8
 ·dsimp only;rw [e2,e4];exact h9
 ·dsimp only;rw [e5];exact h10.filter _
 ·dsimp only;rw [e4,e5];intro o ho _
  obtain ⟨a,b⟩:=List.mem_filter.1 ho
  exact h11 o a (by simpa using b)
 ·dsimp only;rw [e5];exact fun o ho=>h12 o (List.mem_filter.1 ho).1
 ·dsimp only;rw [e5];exact h13.filter _
 ·dsimp only;rw [e5];exact Nat.le_trans (List.length_filter_le _ _) h14
theorem aO2 {f:jA} (h:nT f=true):f.aY.Pairwise (fun y x=>y.aG≠x.aG):=by
 refine List.Pairwise.imp ?_ (aLQ h)
 intro a b hab e
 rw [e,aFF] at hab;cases hab
theorem aMH {w:aP} {ls:List aQ} (h:WOk w ls) (hs:(jV w.bL.aY w.bD w.bJ.bX:Int)<=w.eQ):(jV (iH w ls).bL.aY (iH w ls).bD (iH w ls).bJ.bX:Int)<=(iH w ls).eQ:=by
 have hd:=aO2 h.fa
 have hu:=((lK _).1 h.fa).1
 have h1:=aKy ls hd hu hs
 have hA:(aX w ls).bL=w.bL:=by rw [oL w ls]
 have h2:=aRV (aX w ls).cN (aX w ls).bD (aX w ls).eQ (aX w ls).bJ.bX ⟨[],(aX w ls).bL,[],[]⟩ (by dsimp only;rw [hA];exact hd) (by dsimp only;rw [hA];simpa using h1)
 have hm:=(aF2 (aX w ls).cN (aX w ls).bJ.bX (aX w ls).bL).2
 have hlen:=aKd (now:=(aX w ls).cN) (f:=(aX w ls).bL) (by rw [hA];exact h.fa) (by rw [hA];exact aBC h.fa) (aX w ls).bJ.bX
 have hl:=((lK _).1 hlen.1).1
 refine aLC ?_ ?_
 ·exact h2
 ·exact Nat.le_trans (aE1 _ _ _) hl
def aBv (w:aP) (s:List UInt8):Prop:=(∃ u,u∈w.bL.aY/\u.aG=s)\/(∃ o,o∈w.bD/\o.aG=s)\/∃ j,j∈w.bJ.bX/\j.aG=s
def NI (w:aP):Prop:=∀ s,aBv w s->∃ (p:List UInt8) (k:Nat),s=p++six k/\1<=k/\(k:Int)<=w.bL.aZ
theorem aKx (w:aP) (id:Int) (os:List cK):∀ j,j∈(fR w id os).1.bJ.bX->(∃ i,i∈w.bJ.bX/\i.aG=j.aG)\/∃ o,o∈os/\o.aG=j.aG:=by
 induction os using kU with
 |h0=>exact fun j hj=>.inl ⟨j,hj,rfl⟩
 |h1 l x ih=>
  rw [tK]
  generalize fR w id l=s at ih ⊢
  obtain ⟨V,r⟩:=s
  dsimp only at ih
  have hmono:∀ j:gW,(∃ i,i∈w.bJ.bX/\i.aG=j.aG)\/(∃ o,o∈l/\o.aG=j.aG)->(∃ i,i∈w.bJ.bX/\i.aG=j.aG)\/∃ o,o∈l++[x]/\o.aG=j.aG:=fun j hj=>by
   rcases hj with hj|⟨o,ho,e⟩
   ·exact .inl hj
   ·exact .inr ⟨o,by simp [ho],e⟩
  have hq:=(aDe (q:=V.bJ) (s:=x.aG) (now:=V.cN)).2.2
  have hlast:∀ j,j∈(jX V.bJ x.aG V.cN).bX->(∃ i,i∈w.bJ.bX/\i.aG=j.aG)\/∃ o,o∈l++[x]/\o.aG=j.aG:=fun j hj=>by
   rcases hq j hj with hj|e
   ·exact hmono j (ih j hj)
   ·exact .inr ⟨x,by simp,e.symm⟩
  unfold mT
  split
  ·dsimp only
   unfold xB
   split
   ·exact hlast
   ·exact hlast
  ·exact fun j hj=>hmono j (ih j hj)
theorem aMG (w:aP) (l:aQ):∀ s,aBv (jC w l) s->aBv w s:=by
 obtain ⟨h1,h2⟩:=tL w l.bU w.bD
 have hf:(jC w l).bL=w.bL:=by unfold jC;rw [h1]
 have ho:(jC w l).bD=w.bD.filter fun o=>!decide (o.dS=l.bU):=by unfold jC;rw [h2]
 have hq:=aKx w l.bU w.bD
 rintro s (⟨u,hu,e⟩|⟨o,hoo,e⟩|⟨j,hj,e⟩)
 ·rw [hf] at hu;exact .inl ⟨u,hu,e⟩
 ·rw [ho] at hoo;exact .inr (.inl ⟨o,(List.mem_filter.1 hoo).1,e⟩)
 ·rcases hq j hj with ⟨i,hi,e2⟩|⟨o,ho,e2⟩
  ·exact .inr (.inr ⟨i,hi,e2.trans e⟩)
  ·exact .inr (.inl ⟨o,ho,e2.trans e⟩)
theorem aMI (w:aP) (ls:List aQ):∀ s,aBv (aX w ls) s->aBv w s:=by
 unfold aX
 induction ls generalizing w with
 |nil=>exact fun s h=>h
 |cons l r ih=>exact fun s h=>aMG w l s (ih (jC w l) s h)
theorem aOv {w:aP} {ls:List aQ} (h:WOk w ls) (hn:NI w):NI (iH w ls)/\(iH w ls).bL.aZ=w.bL.aZ:=by
 have hL:=vS (aLF h) ls
 have hA:(aX w ls).bL=w.bL:=by rw [oL w ls]
 have hm:=aF2 (aX w ls).cN (aX w ls).bJ.bX (aX w ls).bL
 have hq:=(vQ _).1 hL.qb
 have hr2:=(aLm hL.now (aX w ls).bJ.bX ⟨[],(aX w ls).bL,[],[]⟩ hq.2.1 hq.2.2).1
 have e1:(iH w ls).bL=(rq (aX w ls).cN (aX w ls).bJ.bX (aX w ls).bL).far:=rfl
 have e2:(iH w ls).bJ.bX=(rq (aX w ls).cN (aX w ls).bJ.bX (aX w ls).bL).jobs:=rfl
 have e3:(iH w ls).bD=(aX w ls).bD:=rfl
 have hmade:(iH w ls).bL.aZ=w.bL.aZ:=by rw [e1,hm.1,hA]
 refine ⟨fun s hs=>?_,hmade⟩
 rw [hmade]
 refine hn s (aMI w ls s ?_)
 rcases hs with ⟨u,hu,e⟩|⟨o,ho,e⟩|⟨j,hj,e⟩
 ·rw [e1] at hu;exact .inl ⟨u,hm.2 u hu,e⟩
 ·rw [e3] at ho;exact .inr (.inl ⟨o,ho,e⟩)
 ·rw [e2] at hj
  obtain ⟨i,hi,e3⟩:=(hr2 j hj).2
  exact .inr (.inr ⟨i,hi,e3.trans e⟩)
theorem vB {f:bK} {G:List Int} {id:Int} (h:cJ f id=true) (hg:G.contains id=false):cJ (fB f G) id=true:=by
 unfold cJ fB at *
 obtain ⟨t,ht,e⟩:=List.any_eq_true.1 h
 refine List.any_eq_true.2 ⟨t,List.mem_filter.2 ⟨ht,?_⟩,e⟩
 rw [of_decide_eq_true e,hg];rfl
theorem aDs {f:bK} (h:bR f=true) (p:aO->Bool):bR (fB f (wo p f.aF).2)=true:=by
 obtain ⟨h1,h2,h3⟩:=(fF f).1 h
 have hw:=sF h p
 refine (fF _).2 ⟨Nat.le_trans (List.length_filter_le _ _) h1,fun t ht=>?_,h3.filter _⟩
 obtain ⟨a,b⟩:=List.mem_filter.1 ht
 refine ⟨(h2 t a).1,?_⟩
 rcases (h2 t a).2 with e|e
 ·exact .inl e
 ·right
  have hr:=hw.rec_ t a
  have hc:(wo p f.aF).2.contains t.bU=false:=by simpa using b
  rw [hc] at hr
  refine vB e ?_
  cases hp:(wo p f.aF).2.contains t.bV with
  |false=>rfl
  |true=>rw [hp,Bool.or_true] at hr;cases hr
theorem aCt {b:dX} {id:Int} (p:aQ->Bool) (h:fS b id=true) (hp:∀ l,l∈b.aL->l.bU=id->p l=true):fS ⟨b.aL.filter p⟩ id=true:=by
 unfold fS at *
 obtain ⟨t,ht,e⟩:=List.any_eq_true.1 h
 exact List.any_eq_true.2 ⟨t,List.mem_filter.2 ⟨ht,hp t ht (of_decide_eq_true e)⟩,e⟩
theorem aJN {b:dX} (p:aQ->Bool) (h:eV b=true):eV ⟨b.aL.filter p⟩=true:=by
 obtain ⟨h1,h2,h3⟩:=(oO b).1 h
 exact (oO _).2 ⟨Nat.le_trans (List.length_filter_le _ _) h1,fun t ht=>h2 t (List.mem_filter.1 ht).1,h3.filter _⟩
theorem aQt {w:aP} {now:Int} {f:bK} {ls:List aQ} (p:aQ->Bool) (h:WOk w []) (hn:0<=now/\now<=1000000000) (hf:bR f=true) (hft:∀ t,t∈f.aF->t∈w.aD.aF) (hl:∀ l,l∈w.aV.aL->p l=false->l∈ls):
  WOk { w with cN:=now,aD:=f,aV:=⟨w.aV.aL.filter p⟩ } ls:=by
 obtain ⟨h1,h2,h3,h4,h5,h6,h7,h8,h9,h10,h11,h12,h13,h14⟩:=h
 refine ⟨hn,h2,h3,hf,aJN p h5,h6,h7,fun t ht=>h8 t (hft t ht),fun l hl=>h9 l (List.mem_filter.1 hl).1,h10,fun o ho hno=>?_,h12,h13,h14⟩
 refine aCt p (h11 o ho rfl) fun l hlm hid=>?_
 cases hp:p l with
 |true=>rfl
 |false=>
  rw [List.any_eq_false] at hno
  exact absurd (decide_eq_true hid) (hno l (hl l hlm hp))
structure gH (w:aP):Prop where
 ok:eO w=true
 str:(jV w.bL.aY w.bD w.bJ.bX:Int)<=w.eQ
 ni:NI w
 ti:∀ l,l∈w.aV.aL->cJ w.aD l.dG=true
theorem aKw (w:aP) (ls:List aQ):(iH w ls).cN=w.cN/\(iH w ls).bG=w.bG/\(iH w ls).aD=w.aD/\(iH w ls).aV=w.aV:=by
 have hA:=oL w ls
 refine ⟨?_,?_,?_,?_⟩
 ·show (aX w ls).cN=_;rw [hA]
 ·show (aX w ls).bG=_;rw [hA]
 ·show (aX w ls).aD=_;rw [hA]
 ·show (aX w ls).aV=_;rw [hA]
theorem xD {w:aP} {now:Int} {f:bK} {ls:List aQ} (p:aQ->Bool) (h:gH w) (hn:0<=now/\now<=1000000000) (hf:bR f=true) (hft:∀ t,t∈f.aF->t∈w.aD.aF) (hl:∀ l,l∈w.aV.aL->p l=false->l∈ls)
  (ht:∀ l,l∈w.aV.aL->p l=true->cJ f l.dG=true):gH (iH { w with cN:=now,aD:=f,aV:=⟨w.aV.aL.filter p⟩ } ls):=by
 have hw:=aQt p ((cS w).1 h.ok) hn hf hft hl
 obtain ⟨e1,e2,e3,e4⟩:=aKw { w with cN:=now,aD:=f,aV:=⟨w.aV.aL.filter p⟩ } ls
 refine ⟨(cS _).2 (aOu hw),aMH hw h.str,(aOv hw h.ni).1,?_⟩
 rw [e3,e4]
 intro l hl
 obtain ⟨a,b⟩:=List.mem_filter.1 hl
 exact ht l a b
theorem aOs {w:aP} (h:gH w) (id:Int):gH (ctW w id):=by
 unfold ctW
 split
 ·have hw:=(cS w).1 h.ok
  have hg:eN w.aD id=(wo (fun t=>decide (t.bU=id)) w.aD.aF).2:=by unfold eN;rw [if_pos hw.fo]
  rw [hg]
  have hfo:=aDs hw.fo (fun t=>decide (t.bU=id))
  generalize (wo (fun t=>decide (t.bU=id)) w.aD.aF).2=G at *
  refine xD (now:=w.cN) (f:=fB w.aD G) (ls:=lA w.aV G) (fun l=>!G.contains l.dG) h hw.now hfo (fun t ht=>(List.mem_filter.1 ht).1) (fun l hl hp=>List.mem_filter.2 ⟨hl,by simpa using hp⟩) fun l hl hp=>?_
  exact vB (h.ti l hl) (by simpa using hp)
 ·exact h
theorem aOb {b:dX} {now:Int} (h:b.aL.Pairwise fun x y=>x.bU<y.bU):(wK b now).Perm (b.aL.filter fun l=>decide (l.bM<=now)):=by
 have hT:(b.aL.filter fun l=>decide (l.bM<=now)).Pairwise (TB ltE wX):=by
  refine (h.filter _).imp fun {x y} hxy=>⟨fun hl=>?_,fun hl=>?_⟩
  ·exact Or.inl (of_decide_eq_true hl)
  ·have:=of_decide_eq_false hl
   unfold wX;omega
 exact (aE2 aGi _ hT).1
theorem aOp {w:aP} (h:gH w) (now:Int):gH (ptW w now):=by
 unfold ptW
 split
 ·rename_i hb
  unfold ptB at hb
  rw [Bool.and_eq_true] at hb
  have hw:=(cS w).1 h.ok
  have hn:=cC hb.2
  have hfo:=aDs hw.fo (fun t=>kX t.bM now)
  have hX:ptX w now={ w with cN:=now,aD:=fB w.aD (fM w.aD now),aV:=⟨w.aV.aL.filter fun l=>(!decide (l.bM<=now)) && !(fM w.aD now).contains l.dG⟩ }:=by
   unfold ptX aB8 ptK iZ;rw [List.filter_filter]
  have hov:=aOb (b:=ptK w now) (now:=now) (((oO _).1 hw.bo).2.2.filter _)
  rw [hX]
  refine xD (now:=now) (f:=fB w.aD (fM w.aD now)) (ls:=ptL w now) (fun l=>(!decide (l.bM<=now)) && !(fM w.aD now).contains l.dG) h ⟨by have:=hw.now;omega,hn.2⟩ hfo (fun t ht=>(List.mem_filter.1 ht).1) (fun l hl hp=>?_) fun l hl hp=>?_
  ·unfold ptL
   refine List.mem_append.2 ?_
   cases hc:(fM w.aD now).contains l.dG with
   |true=>exact .inl (List.mem_filter.2 ⟨hl,hc⟩)
   |false=>
    refine .inr (hov.mem_iff.2 (List.mem_filter.2 ⟨List.mem_filter.2 ⟨hl,by rw [hc];rfl⟩,?_⟩))
    rw [hc] at hp;simpa using hp
  ·rw [Bool.and_eq_true] at hp
   exact vB (h.ti l hl) (by simpa using hp.2)
 ·exact h
theorem aOS {w:aP} {tok:Int} {path:List UInt8} {ttl aJ:Int} (h:WOk w []) (hg:kN w tok path ttl aJ=true):WOk { w with aV:=⟨w.aV.aL++[wE w tok path ttl aJ]⟩,bG:=w.bG+1 } []:=by
 unfold kN aGB aDZ at hg
 simp only [Bool.and_eq_true,Bool.not_eq_true',decide_eq_false_iff_not] at hg
 obtain ⟨⟨-,⟨⟨hk,hx⟩,-⟩,-⟩,-,hb⟩:=hg
 obtain ⟨h1,h2,h3,h4,h5,h6,h7,h8,h9,h10,h11,h12,h13,h14⟩:=h
 refine ⟨h1,⟨by show 1<=w.bG+1;omega,by show w.bG+1<=_;omega⟩,h3,h4,hb,h6,h7,fun t ht=>?_,fun l hl=>?_,h10,fun o ho _=>?_,h12,h13,h14⟩
 ·have:=h8 t ht;show _<w.bG+1;omega
 ·show _<w.bG+1
  rcases List.mem_append.1 hl with hl|hl
  ·have:=h9 l hl;omega
  ·simp at hl;subst hl;show w.bG<_;omega
 ·have:=h11 o ho rfl
  unfold fS at this ⊢
  dsimp only
  rw [List.any_append,this];rfl
theorem aM4 {w:aP} {tok:Int} {path:List UInt8} {ttl aJ:Int} (hg:kN w tok path ttl aJ=true):cJ w.aD tok=true:=by
 unfold kN aGB aLi at hg
 simp only [Bool.and_eq_true] at hg
 exact hg.1.2.1.1.1.1
theorem sI {a b i:Nat} (h:xJ a i=xJ b i):a / 10 ^ i % 10=b / 10 ^ i % 10:=by
 have h:=congrArg UInt8.toNat h
 unfold xJ at h
 rw [UInt8.toNat_ofNat',UInt8.toNat_ofNat'] at h
 omega
theorem aPT {a b:Nat} (ha:a<1000000) (hb:b<1000000) (h:six a=six b):a=b:=by
 unfold six at h
 simp only [List.cons.injEq,and_true] at h
 obtain ⟨h5,h4,h3,h2,h1,h0⟩:=h
 have h0:=sI h0
 have h1:=sI h1
 have h2:=sI h2
 have h3:=sI h3
 have h4:=sI h4
 have h5:=sI h5
 simp only [Nat.reducePow,Nat.div_one] at h0 h1 h2 h3 h4 h5
 omega
theorem aNT {p q:List UInt8} {a b:Nat} (ha:a<1000000) (hb:b<1000000) (h:p++six a=q++six b):a=b:=by
 have hl:=congrArg List.length h
 simp only [List.length_append,six,List.length_cons,List.length_nil] at hl
 exact aPT ha hb (List.append_inj h (by omega)).2
theorem aLo {l:List cV} {u x:cV}:x∈rS l u ↔ x∈l\/x=u:=by
 unfold rS
 have h:x∈l ↔ x∈l.take (mU cV.aG u.aG l)\/x∈l.drop (mU cV.aG u.aG l):=by
  rw [<-List.mem_append,List.take_append_drop]
 rw [h]
 simp only [List.mem_append,List.mem_cons]
 constructor
 ·rintro (h|h|h)
  ·exact .inl (.inl h)
  ·exact .inr h
  ·exact .inl (.inr h)
 ·rintro ((h|h)|h)
  ·exact .inl h
  ·exact .inr (.inr h)
  ·exact .inr (.inl h)
theorem aP5 (l:List cV) (u:cV):(rS l u).length=l.length+1:=by
 unfold rS
 have:=congrArg List.length (List.take_append_drop (mU cV.aG u.aG l) l)
 simp only [List.length_append,List.length_cons] at this ⊢
 omega
theorem aP6 {l:List cV} {u:cV} (h:l.Pairwise (fun y x=>Go.Op.bytesLess y.aG x.aG=true)) (hn:l.any (fun x=>x.aG==u.aG)=false):(rS l u).Pairwise (fun y x=>Go.Op.bytesLess y.aG x.aG=true):=by
 obtain ⟨s1,s2,s3⟩:=aB3 (key:=cV.aG) u.aG h
 unfold rS
 generalize mU cV.aG u.aG l=k at *
 rw [<-List.take_append_drop k l,List.pairwise_append] at h
 rw [List.any_eq_false] at hn
 have e1:∀ x,x∈l.take k->Go.Op.bytesLess x.aG u.aG=true:=fun x hx=>by
  obtain ⟨m,hm⟩:=List.getElem?_of_mem hx
  have hml:=(List.getElem?_eq_some_iff.1 hm).1
  rw [List.length_take] at hml
  rw [List.getElem?_take_of_lt (by omega)] at hm
  exact s2 m x (by omega) hm
 have e2:∀ x,x∈l.drop k->Go.Op.bytesLess u.aG x.aG=true:=fun x hx=>by
  obtain ⟨m,hm⟩:=List.getElem?_of_mem hx
  rw [List.getElem?_drop] at hm
  have hb:=s3 (k+m) x (by omega) hm
  have hne:x.aG≠u.aG:=fun e=>hn x (List.mem_of_mem_drop hx) (by rw [e];simp)
  rcases aJO hne with h|h
  ·rw [hb] at h;cases h
  ·exact h
 rw [List.pairwise_append,List.pairwise_cons]
 refine ⟨h.1,⟨e2,h.2.1⟩,fun a ha b hb=>?_⟩
 rcases List.mem_cons.1 hb with rfl|hb
 ·exact e1 a ha
 ·exact h.2.2 a ha b hb
theorem aMt {l:List cV} {u:cV} {ow ow':List cK} {js:List gW} (hk:jQ ow' js u.aG=true) (hm:∀ s,jQ ow js s=true->jQ ow' js s=true):jV (rS l u) ow' js<=jV l ow js:=by
 have h0:=aAl (us:=l) (us':=l) (ow:=ow) (ow':=ow') (js:=js) (js':=js) (fun _=>true) (List.filter_eq_self.2 fun _ _=>rfl).symm fun x _ h=>hm _ h
 refine Nat.le_trans (Nat.le_of_eq ?_) h0
 unfold jV rS
 conv=>rhs;rw [<-List.take_append_drop (mU cV.aG u.aG l) l]
 rw [List.filter_append,List.filter_append,List.filter_cons,hk]
 simp
theorem aLz {f:jA} {r:eS} {key:Int}:muC f r key=1 ↔ (oK r && kR key && !decide (f.aZ=1000000000))=false:=by
 unfold muC
 split
 ·simp_all
 ·rename_i h
  constructor
  ·intro h2;repeat' split at h2
   all_goals (try omega)
  ·intro h2;exact absurd h2 h
theorem aOj {f:jA} {r:eS} {key:Int} (h:nT f=true):nT (muF f r key)=true/\f.aZ<=(muF f r key).aZ/\(muF f r key).aZ<=f.aZ+1/\(muC f r key≠0->(muF f r key).aY=f.aY) ∧
  (muC f r key=0->(muF f r key).aY=rS f.aY (muN f r key)/\(muF f r key).aZ=f.aZ+1/\eG (muN f r key).aG=true/\muU f r key=muN f r key):=by
 obtain ⟨h1,h2,h3,h4,h5⟩:=(lK f).1 h
 have hff:=cC h2
 have hfm:=cC h3
 unfold muF muU
 split
 ·rename_i hc
  rw [hc]
  refine ⟨(lK _).2 ⟨h1,?_,h3,h4,h5⟩,by dsimp only;omega,by dsimp only;omega,fun _=>rfl,fun h=>by omega⟩
  unfold muC at hc
  refine pW ?_ ?_
  ·dsimp only;repeat' split at hc
   all_goals omega
  ·dsimp only;omega
 ·split
  ·rename_i hc
   rw [hc]
   have hx:f.aZ≠1000000000:=by
    intro e
    have:muC f r key=1:=aLz.2 (by rw [e];simp)
    omega
   exact ⟨(lK _).2 ⟨h1,h2,pW (by dsimp only;omega) (by dsimp only;omega),h4,h5⟩,by dsimp only;omega,by dsimp only;omega,fun _=>rfl,fun h=>by omega⟩
  ·split
   ·rename_i hc
    have hn1:¬(oK r && kR key && !decide (f.aZ=1000000000))=false:=fun h=>by have:=aLz.2 h;omega
    have hh:=hc
    unfold muC at hh
    rw [if_neg hn1] at hh
    simp only [Bool.not_eq_false,Bool.and_eq_true,Bool.not_eq_true',decide_eq_false_iff_not] at hn1
    have hno:f.aY.any (fun u=>u.aG==lT r (f.aZ+1))=false:=by
     repeat' split at hh
     all_goals (first|omega|(rename_i hq _;simpa using hq))
    have hl:f.aY.length≠120:=by
     repeat' split at hh
     all_goals (first|omega|assumption)
    have hnm:=(aIq hn1.1.1 (f.aZ+1)).1
    refine ⟨(lK _).2 ⟨by dsimp only;rw [aP5];omega,h2,pW (by dsimp only;omega) (by dsimp only;omega),fun u hu=>?_,aP6 h5 hno⟩,by dsimp only;omega,by dsimp only;omega,fun h=>absurd hc h,fun _=>⟨rfl,rfl,hnm,rfl⟩⟩
    rcases aLo.1 hu with hu|rfl
    ·exact h4 u hu
    ·exact hnm
   ·rename_i hc
    exact ⟨h,by omega,by omega,fun _=>rfl,fun h=>absurd h hc⟩
theorem aJo {w:aP} {tok:Int} {r:eS} {key:Int} {path:List UInt8} (h:guC w tok r key path=0):oK r=true/\kN w tok path r.qJ r.cQ=true/\muC w.bL r key=0 ∧
  guW w tok r key path={ w with aV:=⟨w.aV.aL++[wE w tok path r.qJ r.cQ]⟩,bG:=w.bG+1,bL:=muF w.bL r key,bD:=w.bD++[⟨w.bG,(muU w.bL r key).aG⟩] }:=by
 have hok:aEA w tok r key path=true/\muC w.bL r key=0:=by
  unfold guC at h
  split at h
  ·omega
  ·rename_i hk
   split at h
   ·exact ⟨by simpa using hk,by assumption⟩
   ·omega
 obtain ⟨g1,g2⟩:=hok
 have g0:=g1
 unfold aEA at g1
 simp only [Bool.and_eq_true] at g1
 refine ⟨g1.1.1.1,g1.1.2,g2,?_⟩
 unfold guW mY
 rw [h,if_neg (by omega),if_neg (by omega),if_pos g1.1.2]
theorem aOR {w:aP} {tok:Int} {r:eS} {key:Int} {path:List UInt8} (hw:WOk w []) (h:guC w tok r key path=0) (hfresh:∀ o,o∈w.bD->o.aG≠(muN w.bL r key).aG):WOk (guW w tok r key path) []:=by
 obtain ⟨-,hg,g2,e⟩:=aJo h
 obtain ⟨f1,-,-,-,f5⟩:=aOj (r:=r) (key:=key) hw.fa
 obtain ⟨u1,u2,u3,u4⟩:=f5 g2
 have hgo:=aOS hw hg
 rw [e,u4]
 have hol2:=hw.ol
 have hbl2:=hw.bl
 have hwb:=hw.bo
 have hoi:=hw.oi
 obtain ⟨h1,h2,h3,h4,h5,h6,h7,h8,h9,h10,h11,h12,h13,h14⟩:=hgo
 dsimp only at h10 h12 h13 h14
 refine ⟨h1,h2,h3,h4,h5,f1,h7,h8,h9,?_,?_,?_,?_,?_⟩
 ·dsimp only
  rw [List.pairwise_append]
  refine ⟨h10,List.pairwise_singleton _ _,fun a ha b hb=>?_⟩
  simp at hb;subst hb
  have:=hol2 a ha rfl
  unfold fS at this
  obtain ⟨l,hl,e⟩:=List.any_eq_true.1 this
  have:=hbl2 l hl
  have:=of_decide_eq_true e
  dsimp only;omega
 ·intro o ho _
  rcases List.mem_append.1 ho with ho|ho
  ·exact h11 o ho rfl
  ·simp at ho;subst ho
   unfold fS
   dsimp only
   rw [List.any_append]
   simp [wE]
 ·intro o ho
  rcases List.mem_append.1 ho with ho|ho
  ·exact h12 o ho
  ·simp at ho;subst ho;exact u3
 ·dsimp only
  rw [List.pairwise_append]
  refine ⟨h13,List.pairwise_singleton _ _,fun a ha b hb=>?_⟩
  simp at hb;subst hb
  exact hfresh a ha
 ·dsimp only
  have hl:w.bD.length<=w.aV.aL.length:=by
   refine aLJ (ka:=cK.dS) (kb:=aQ.bU) _ _ hoi ((oO _).1 hwb).2.2 fun x hx=>?_
   have:=hol2 x hx rfl
   unfold fS at this
   obtain ⟨l,hl,e⟩:=List.any_eq_true.1 this
   exact ⟨l,hl,of_decide_eq_true e⟩
  have:=((oO _).1 hwb).1
  simp only [List.length_append,List.length_cons,List.length_nil]
  omega
theorem aOr {w:aP} (h:gH w) (hm:w.bL.aZ<999999) (tok:Int) (r:eS) (key:Int) (path:List UInt8):gH (guW w tok r key path)/\(guW w tok r key path).bL.aZ<=w.bL.aZ+1/\(guW w tok r key path).bG<=w.bG+1/\(guW w tok r key path).cN=w.cN:=by
 have hw:=(cS w).1 h.ok
 have hfm:0<=w.bL.aZ:=(cC ((lK _).1 hw.fa).2.2.1).1
 obtain ⟨f1,f2,f3,f4,f5⟩:=aOj (r:=r) (key:=key) hw.fa
 have hni:∀ s,aBv w s->∃ (p:List UInt8) (k:Nat),s=p++six k/\1<=k/\(k:Int)<=(muF w.bL r key).aZ:=fun s hs=>by
  obtain ⟨p,k,a,b,c⟩:=h.ni s hs;exact ⟨p,k,a,b,by omega⟩
 unfold guW
 split
 ·exact ⟨h,by omega,by omega,rfl⟩
 ·rename_i hc1
  split
  ·rename_i hc
   have hmc:muC w.bL r key≠0:=by
    unfold guC at hc;split at hc
    ·omega
    ·split at hc
     ·omega
     ·assumption
   have hu:=f4 hmc
   refine ⟨⟨(cS _).2 ?_,?_,fun s hs=>hni s ?_,h.ti⟩,f3,by dsimp only;omega,rfl⟩
   ·obtain ⟨h1,h2,h3,h4,h5,h6,h7,h8,h9,h10,h11,h12,h13,h14⟩:=hw
    exact ⟨h1,h2,h3,h4,h5,f1,h7,h8,h9,h10,h11,h12,h13,h14⟩
   ·dsimp only;rw [hu];exact h.str
   ·rcases hs with ⟨u,hu2,e⟩|hs
    ·dsimp only at hu2;rw [hu] at hu2;exact .inl ⟨u,hu2,e⟩
    ·exact .inr hs
  ·rename_i hc2
   have hok:aEA w tok r key path=true/\muC w.bL r key=0:=by
    unfold guC at hc1 hc2
    split at hc1
    ·omega
    ·rename_i hk
     refine ⟨by simpa using hk,?_⟩
     rw [if_neg hk] at hc2
     split at hc2
     ·assumption
     ·omega
   obtain ⟨g1,g2⟩:=hok
   obtain ⟨u1,u2,u3,u4⟩:=f5 g2
   unfold aEA at g1
   simp only [Bool.and_eq_true] at g1
   have hg:=g1.1.2
   have hgw:mY w tok path r.qJ r.cQ={ w with aV:=⟨w.aV.aL++[wE w tok path r.qJ r.cQ]⟩,bG:=w.bG+1 }:=by unfold mY;rw [if_pos hg]
   rw [hgw,u4]
   have hnn:(muN w.bL r key).aG=r.gO++six (w.bL.aZ+1).toNat:=rfl
   have hfresh:∀ o,o∈w.bD->o.aG≠(muN w.bL r key).aG:=fun o ho e=>by
    obtain ⟨p,k,a,b,c⟩:=h.ni o.aG (.inr (.inl ⟨o,ho,rfl⟩))
    rw [e,hnn] at a
    have:=aNT (by omega) (by omega) a
    omega
   have hgw2:=aOR hw (by unfold guC;rw [if_neg (by unfold aEA;simp [g1]),if_pos g2]:guC w tok r key path=0) hfresh
   rw [(aJo (by unfold guC;rw [if_neg (by unfold aEA;simp [g1]),if_pos g2]:guC w tok r key path=0)).2.2.2,u4] at hgw2
   refine ⟨⟨(cS _).2 hgw2,?_,?_,?_⟩,f3,by dsimp only;omega,rfl⟩
   ·dsimp only
    rw [u1]
    refine Int.le_trans (Int.ofNat_le.2 (aMt (ow:=w.bD) ?_ fun s hs=>?_)) h.str
    ·rw [nR];exact .inl ⟨⟨w.bG,(muN w.bL r key).aG⟩,by simp,rfl⟩
    ·rw [nR] at hs ⊢
     rcases hs with ⟨o,ho,e⟩|hs
     ·exact .inl ⟨o,by simp [ho],e⟩
     ·exact .inr hs
   ·intro s hs
    have hnew:∃ (p:List UInt8) (k:Nat),(muN w.bL r key).aG=p++six k/\1<=k/\(k:Int)<=(muF w.bL r key).aZ:=⟨r.gO,_,hnn,by omega,by rw [u2];omega⟩
    rcases hs with ⟨u,hu,e⟩|⟨o,ho,e⟩|hs
    ·dsimp only at hu
     rw [u1] at hu
     rcases aLo.1 hu with hu|rfl
     ·exact hni s (.inl ⟨u,hu,e⟩)
     ·rw [<-e];exact hnew
    ·rcases List.mem_append.1 ho with ho|ho
     ·exact hni s (.inr (.inl ⟨o,ho,e⟩))
     ·simp at ho;subst ho;rw [<-e];exact hnew
    ·exact hni s (.inr (.inr hs))
   ·intro l hl
    rcases List.mem_append.1 hl with hl|hl
    ·exact h.ti l hl
    ·simp at hl;subst hl;exact (aM4 hg:cJ w.aD tok=true)
theorem aDF (x:List UInt8) (a:List (List UInt8)):decide (0<=mA (fun y=>y==x) a)=a.contains x:=by
 rw [sE,Bool.eq_iff_iff,List.contains_iff_mem,List.any_eq_true]
 constructor
 ·rintro ⟨y,h1,h2⟩;exact (beq_iff_eq.1 h2) ▸ h1
 ·intro h;exact ⟨x,h,beq_self_eq_true x⟩
def aPQ (a b:List (List UInt8)):Bool:=a.all fun n=>b.contains n
def mkC (f:bK) (t:aO):Int:=
 if (fL t && nY f t.bU)=false then 1
 else if t.bV=0 then (if f.aF.length=120 then 5 else 0)
 else if cJ f t.bV=false then 2
 else if kX (jF f t.bV).bM t.aZ=true then 3
 else if aPQ t.eT (jF f t.bV).eT=false then 4
 else if f.aF.length=120 then 5 else 0
def mkF (f:bK) (t:aO):bK:=if mkC f t=0 then ⟨f.aF++[t]⟩ else f
theorem aQn {f:bK} {t:aO} (h:mkC f t=0):fL t=true/\nY f t.bU=true/\f.aF.length≠120/\(t.bV=0\/cJ f t.bV=true):=by
 unfold mkC at h
 split at h
 ·omega
 ·rename_i h1
  simp only [Bool.not_eq_false,Bool.and_eq_true] at h1
  split at h
  ·rename_i hp
   split at h
   ·omega
   ·exact ⟨h1.1,h1.2,by assumption,.inl hp⟩
  ·split at h
   ·omega
   ·rename_i hh
    repeat' split at h
    all_goals (first|omega|exact ⟨h1.1,h1.2,by assumption,.inr (by simpa using hh)⟩)
theorem xH {f:bK} {l:List aO} {id:Int} (h:cJ f id=true):cJ ⟨f.aF++l⟩ id=true:=by
 unfold cJ at *
 dsimp only
 rw [List.any_append,h];rfl
theorem aSl {f:bK} {t:aO} (hb:bR f=true) (h:mkC f t=0):bR ⟨f.aF++[t]⟩=true:=by
 obtain ⟨h1,h2,h3,h4⟩:=aQn h
 obtain ⟨a1,a2,a3⟩:=(fF f).1 hb
 unfold nY at h2
 rw [List.all_eq_true] at h2
 refine (fF _).2 ⟨by simp only [List.length_append,List.length_cons,List.length_nil];omega,fun x hx=>?_,?_⟩
 ·rcases List.mem_append.1 hx with hx|hx
  ·exact ⟨(a2 x hx).1,(a2 x hx).2.imp id xH⟩
  ·simp at hx;subst hx
   exact ⟨h1,h4.imp id xH⟩
 ·dsimp only
  rw [List.pairwise_append]
  refine ⟨a3,List.pairwise_singleton _ _,fun a ha b hb=>?_⟩
  simp at hb;subst hb
  exact of_decide_eq_true (h2 a ha)
theorem aOq {w:aP} {t:aO} (h:gH w) (hc:mkC w.aD t=0) (ht:t.bU=w.bG) (hn:w.bG<1000000000):gH { w with aD:=mkF w.aD t,bG:=w.bG+1 }:=by
 have hw:=(cS w).1 h.ok
 have hF:mkF w.aD t=⟨w.aD.aF++[t]⟩:=by unfold mkF;rw [if_pos hc]
 rw [hF]
 obtain ⟨h1,h2,h3,h4,h5,h6,h7,h8,h9,h10,h11,h12,h13,h14⟩:=hw
 refine ⟨(cS _).2 ⟨h1,⟨by dsimp only;omega,by dsimp only;omega⟩,h3,aSl h4 hc,h5,h6,h7,fun x hx=>?_,fun l hl=>?_,h10,h11,h12,h13,h14⟩,h.str,h.ni,fun l hl=>xH (h.ti l hl)⟩
 ·dsimp only at hx ⊢
  rcases List.mem_append.1 hx with hx|hx
  ·have:=h8 x hx;omega
  ·simp at hx;subst hx;omega
 ·have:=h9 l hl;dsimp only;omega
def aRz:aP:=⟨0,1,0,⟨[]⟩,⟨[]⟩,⟨[],0,0⟩,⟨[]⟩,[]⟩
theorem xC (w:aP) (ls:List aQ):(iH w ls).bL.aZ=w.bL.aZ:=by
 have hA:(aX w ls).bL=w.bL:=by rw [oL w ls]
 have e1:(iH w ls).bL=(rq (aX w ls).cN (aX w ls).bJ.bX (aX w ls).bL).far:=rfl
 rw [e1,(aF2 _ _ _).1,hA]
theorem aQN (w:aP) (id:Int):(ctW w id).bL.aZ=w.bL.aZ:=by
 unfold ctW;split
 ·exact xC _ _
 ·rfl
theorem aP7 (w:aP) (now:Int):(ptW w now).bL.aZ=w.bL.aZ:=by
 unfold ptW;split
 ·exact xC _ _
 ·rfl
theorem aKu:gH aRz:=by
 refine ⟨by decide +kernel,by decide,fun s hs=>?_,fun l hl=>by cases hl⟩
 rcases hs with ⟨u,hu,_⟩|⟨u,hu,_⟩|⟨u,hu,_⟩<;>cases hu
abbrev aKZ (c:Cur):List A:=[.d (.slc 1 (aB c.b)),.d (.int .i64 c.i),.d (.int .i64 c.h)]
theorem aJg (c:Cur) (f:bK) (hc:c.good) (hl:f.aF.length<=1048576):∃ a:Int×Cur,a.2.good/\aE PP GG 26 [.box c.o,.agg f.o] (.d (.int .i64 a.1)) [some (.box a.2.o),some (.agg f.o)]:=by
 refine cvD Tryz.func26 (α:=Int×Cur) 1 _ (fun a=>[.d (.int .i64 a.1)]) _ (fun _=>rfl) ?_
 obtain ⟨tk⟩:=f
 dsimp only at hl ⊢
 have hi0:=bT tk
 have hpk:∀ u:Cur,u.good->∃ q:Int×Cur,q.2.good/\aE PP GG 20 [.box u.o,.own 0 1 [[.int .i64 0],[.int .i64 1],[.int .i64 2],[.int .i64 (-1)],[.int .i64 999]]] (.d (.int .i64 q.1)) [some (.box q.2.o),none]:=fun u hu=>
  ⟨_,iL hu (0:Int) [0,1,2,-1,999],uZ u [0,1,2,-1,999] hu (by simp) (by simp)⟩
 by_cases h0:tk.length=0
 ·obtain ⟨q,hq,cq⟩:=hpk c hc
  have h0':((0:Int)<((tk.length:Nat):Int))=False:=by rw [h0];simp
  refine cI h0' (Z1 cq) ?_
  exact ⟨q,hq,by simp [Fin]⟩
 have h0':((0:Int)<((tk.length:Nat):Int))=True:=by simp;omega
 have c1:=qS c 6 hc
 have g1:=gI hc 6
 generalize fY c 6=o at *
 obtain ⟨o1,o2⟩:=o
 cases o1
 ·have c2:=jP o2 tk.length g1
  have g2:=eL g1 tk.length
  have r2:=iM o2 (n:=(tk.length:Nat)) (by omega)
  generalize cF o2 tk.length=b at *
  obtain ⟨b1,b2⟩:=b
  obtain ⟨k,rfl⟩:=Int.eq_ofNat_of_zero_le r2.1
  have hk:k<tk.length:=by dsimp only at r2;omega
  have hg:=List.getElem?_eq_getElem hk
  generalize tk[k]=t at hg
  obtain ⟨t1,t2,t3,t4,t5,t6,t7⟩:=t
  dsimp only at *
  refine cI (Y2 h0' hg) (Z2 c1 c2) ?_
  exact ⟨(t1,b2),g2,by simp [Fin]⟩
 ·obtain ⟨q,hq,cq⟩:=hpk o2 g1
  refine cI h0' (Z2 c1 cq) ?_
  exact ⟨q,hq,by simp [Fin]⟩
theorem tX (a:List (List UInt8)) (x:List UInt8) (hsz:a.length<=281474976710656):aE PP GG 76 [.d (.slc 1 (aN a)),.d (.str x)] (.d (.bool (a.contains x))) [none,none]:=by
 refine cv Tryz.func76 [.d (.bool (a.contains x))] ?_
 have hany:=aDF x a
 rw [sE] at hany
 refine iK @bO ?_
 refine bQ (fun n st=>∃ i:Nat,n=a.length-i/\i<=a.length/\(∀ y,y∈a.take i->(y==x)=false) ∧
  st=⟨[],[(0,.d (.slc 1 (aN a))),(1,.d (.str x)),(5,.d (.int .i64 i))],[],0⟩) _ ⟨0,rfl,by omega,fun x hx=>by simp at hx,?_⟩ ?_
 ·exact iR @bO
 rintro n st ⟨i,rfl,hi,hn,rfl⟩
 by_cases hlt:i<a.length
 ·have ha:=List.getElem?_eq_getElem hlt
  generalize a[i]=y at ha
  cases hx:(y==x) with
  |true=>
   have e:=(aAN (p:=fun y=>y==x) ha hn hx).2
   rw [e] at hany
   rw [<-hany]
   exact jI (Y4 ha @eB @bO hx)
  |false=>
   have hn2:=lI (p:=fun y=>y==x) ha hn hx
   refine iK (Y4 ha @eB @bO hx) ?_
   refine ⟨a.length-(i+1),by omega,i+1,rfl,hlt,hn2,?_⟩
   refine aCQ @bO ?_
   exact aA (by omega) (by omega)
 ·have hie:i=a.length:=by omega
  subst hie
  rw [List.take_length] at hn
  rw [(vZ hn).2] at hany
  rw [<-hany]
  exact jI @bO
set_option maxHeartbeats 8000000 in
theorem aC0 (f:bK) (t:aO) (hf:tP f) (ht:aQE t) (hb:bR f=true):
  aE PP GG 125 [.agg f.c,.agg t.c] (.tup [.agg (mkF f t).o,.d (.int .i64 (mkC f t))]) [none,none]:=by
 refine cv Tryz.func125 [.agg (mkF f t).o,.d (.int .i64 (mkC f t))] ?_
 have ccp:=mN f.aF hf
 have cfo:=jB f hf
 rw [hb] at cfo
 have cit:=wH t ht
 have cix:=lY f t.bV hf.1
 have cct:=kO t ht
 have hC:mkC f t=if (fL t && nY f t.bU)=false then 1
  else if t.bV=0 then (if f.aF.length=120 then 5 else 0)
  else if cJ f t.bV=false then 2
  else if kX (jF f t.bV).bM t.aZ=true then 3
  else if aPQ t.eT (jF f t.bV).eT=false then 4
  else if f.aF.length=120 then 5 else 0:=rfl
 have hF:mkF f t=if mkC f t=0 then ⟨f.aF++[t]⟩ else f:=rfl
 have hla:=aTN hb t.bU
 have hno:=nS (fun x:aO=>decide (x.bU=t.bV)) f.aF
 have hfi:=fun h=>vW (p:=fun x:aO=>decide (x.bU=t.bV)) (l:=f.aF) h
 have hT:jF f t.bV=(f.aF.find? fun x=>decide (x.bU=t.bV)).getD aFI:=by unfold jF;rw [if_pos hb]
 have hH:cJ f t.bV=f.aF.any fun x=>decide (x.bU=t.bV):=rfl
 have hl1:=hf.1
 have hft:=hf.2
 have hl2:f.aF.length<=120:=by unfold bR at hb;rw [Bool.and_eq_true] at hb;exact of_decide_eq_true hb.1
 have htn:=ht.1
 generalize mkC f t=CC at *
 generalize mkF f t=FF at *
 generalize nY f t.bU=BB at *
 generalize jF f t.bV=PT at *
 generalize cJ f t.bV=HH at *
 clear hb ht
 obtain ⟨tk⟩:=f
 obtain ⟨t1,t2,t3,t4,t5,t6,t7⟩:=t
 dsimp only at *
 generalize fL ⟨t1,t2,t3,t4,t5,t6,t7⟩=TB at *
 have hi1:=bT tk
 have hi2:=cD t3
 have hrl:=aDa tk
 cases TB
 ·simp only [Bool.false_and,if_true] at hC
  subst hC
  simp only [Int.reduceEq,if_false] at hF
  subst hF
  clear cix cct hla hno hfi hT hH hft
  exact qX (Z3 ccp cfo cit)
 cases BB
 ·simp only [Bool.true_and,if_true] at hC
  subst hC
  simp only [Int.reduceEq,if_false] at hF
  subst hF
  rcases hla with ⟨_,h⟩|⟨k,x,hk,hx,hd⟩
  ·cases h
  ·have hge:(x.bU<t1)=False:=by have:=of_decide_eq_false hd.symm;simp;omega
   have hge2:(t1<=x.bU)=True:=by have:=of_decide_eq_false hd.symm;simp;omega
   have hw:IntKind.i64.wrap (((tk.length:Nat):Int)-1)=(k:Int):=by rw [aA (by omega) (by omega)];omega
   have hp:((0:Int)<((tk.length:Nat):Int))=True:=by simp;omega
   clear cix cct hno hfi hT hH hft hd
   obtain ⟨x1,x2,x3,x4,x5,x6,x7⟩:=x
   dsimp only at hge hge2
   exact eJ (Y5 hx hge hge2 hw hp) (Z3 ccp cfo cit)
 simp only [Bool.and_self,Bool.true_eq_false,if_false] at hC
 have happ:bS (tk++[⟨t1,t2,t3,t4,t5,t6,t7⟩])=bS tk++[[.int .i64 t1,.int .i64 t2,.slc 1 (aN t3),.int .i64 t4,.int .i64 t5,.int .i64 t6,.int .i64 t7]]:=by rw [aDb];rfl
 rcases hla with ⟨rfl,-⟩|⟨k,z,hk,hz,hd⟩
 ·simp only [List.any_nil] at hH
  subst hH
  simp only [if_true] at hC
  have hno:=of_decide_eq_true (hno.trans rfl)
  generalize mA (fun x:aO=>decide (x.bU=t2)) []=ix at *
  by_cases hp0:t2=0
  ·rw [if_pos hp0,if_neg (by simp)] at hC
   subst hC
   simp only [if_true] at hF
   subst hF
   subst hp0
   clear hfi hT hft
   refine jH (Y2 happ @aJ.eq_1) (Z4 ccp cfo cit cct) ?_
   rfl
  ·rw [if_neg hp0] at hC
   subst hC
   simp only [Int.reduceEq,if_false] at hF
   subst hF
   have hp1:(t2 != 0)=true:=by simpa using hp0
   clear hfi hT hft
   exact eJ (Y2 hp1 hno) (Z4 ccp cfo cit cix)
 have hlt:(t1<=z.bU)=False:=by have:=of_decide_eq_true hd.symm;simp;omega
 have hlt2:(z.bU<t1)=True:=by have:=of_decide_eq_true hd.symm;simp;omega
 have hw:IntKind.i64.wrap (((tk.length:Nat):Int)-1)=(k:Int):=by rw [aA (by omega) (by omega)];omega
 have hp:((0:Int)<((tk.length:Nat):Int))=True:=by simp;omega
 clear hd
 obtain ⟨z1,z2,z3,z4,z5,z6,z7⟩:=z
 dsimp only at hlt hlt2
 by_cases hp0:t2=0
 ·rw [if_pos hp0] at hC
  subst hp0
  clear cix hno hfi hT hH hft
  by_cases hfl:tk.length=120
  ·rw [if_pos hfl] at hC
   subst hC
   simp only [Int.reduceEq,if_false] at hF
   subst hF
   have hq:(((tk.length:Nat):Int)==120)=true:=by simp;omega
   exact eJ (Y6 hz hlt hlt2 hw hp hq) (Z4 ccp cfo cit cct)
  ·rw [if_neg hfl] at hC
   subst hC
   simp only [if_true] at hF
   subst hF
   have hq:(((tk.length:Nat):Int)==120)=false:=by simp;omega
   exact eJ (Y8 hz hlt hlt2 hw hp hq happ @aJ.eq_1) (Z4 ccp cfo cit cct)
 rw [if_neg hp0] at hC
 have hp1:(t2 != 0)=true:=by simpa using hp0
 cases HH
 ·simp only [if_true] at hC
  subst hC
  simp only [Int.reduceEq,if_false] at hF
  subst hF
  have hno2:mA (fun x:aO=>decide (x.bU=t2)) tk<0:=of_decide_eq_true (by rw [hno,<-hH];rfl)
  generalize mA (fun x:aO=>decide (x.bU=t2)) tk=ix at *
  clear hfi hT hft hno hH
  exact eJ (Y7 hz hlt hlt2 hw hp hp1 hno2) (Z4 ccp cfo cit cix)
 simp only [Bool.true_eq_false,if_false] at hC
 obtain ⟨m,x,hm,hx,_,hfd⟩:=hfi hH.symm
 rw [hfd] at hT
 simp only [Option.getD_some] at hT
 have hT:=hT.symm
 subst hT
 rw [hm] at cix
 clear hfi hno hfd hH
 have hft:=hft x (List.mem_of_getElem? hx)
 have hml:=(List.getElem?_eq_some_iff.1 hx).1
 have cov:=mM x t4
 have hxr:=cD x.eT
 have chas:=fun s=>tX x.eT s (by have:=hft.1;omega)
 have hS:aPQ t3 x.eT=t3.all fun n=>x.eT.contains n:=rfl
 generalize kX x.bM t4=OB at *
 generalize aPQ t3 x.eT=SB at *
 obtain ⟨x1,x2,x3,x4,x5,x6,x7⟩:=x
 dsimp only at *
 cases OB
 ·simp only [Bool.false_eq_true,if_false] at hC
  refine jH (Y7 hz hlt hlt2 hw hp hp1 hx) (Z5 ccp cfo cit cix cov) ?_
  clear cfo cit cix cov ccp
  refine bQ (fun n st=>∃ i:Nat,n=t3.length-i/\i<=t3.length/\(∀ y,y∈t3.take i->x3.contains y=true) ∧
   st=⟨[],[(2,.ptr 0 0),(3,.ptr 1 0),(4,.ptr 2 0),(6,.ptr 3 0),(7,.d (.int .i64 m)),(8,.d (.int .i64 i))],[(0,.box [.d (.slc 7 (bS tk))]),(1,.box [.d (.int .i64 t1),.d (.int .i64 t2),.d (.slc 1 (aN t3)),.d (.int .i64 t4),.d (.int .i64 t5),.d (.int .i64 t6),.d (.int .i64 t7)]),(2,.box [.nil 1 7]),(3,.box [.sl 4]),(4,.arr 0 1 7 (bS tk))],5⟩) _ ⟨0,rfl,by omega,fun y hy=>by simp at hy,?_⟩ ?_
  ·exact iR @bO
  rintro n st ⟨i,rfl,hi,hn,rfl⟩
  by_cases hlt3:i<t3.length
  ·have hgi:=List.getElem?_eq_getElem hlt3
   have hgm:=List.getElem_mem hlt3
   have hsucc:∀ y,y∈t3.take (i+1)->y∈t3.take i\/y=t3[i]:=fun y hy=>by
    rw [List.take_add_one,hgi] at hy
    rcases List.mem_append.1 hy with hy|hy
    ·exact .inl hy
    ·exact .inr (by simpa using hy)
   generalize t3[i]=s at *
   have ch:=chas s
   cases hcs:x3.contains s with
   |false=>
    have hSf:SB=false:=by rw [hS,List.all_eq_false];exact ⟨s,hgm,by rw [hcs];simp⟩
    subst hSf
    simp only [if_true] at hC
    subst hC
    simp only [Int.reduceEq,if_false] at hF
    subst hF
    rw [hcs] at ch
    exact eJ (Y4 hgi hx @eB @bO) (Z1 ch)
   |true=>
    rw [hcs] at ch
    refine jH (Y4 hgi hx @eB @bO) (Z1 ch) ?_
    refine ⟨t3.length-(i+1),by omega,i+1,rfl,hlt3,fun y hy=>?_,?_⟩
    ·rcases hsucc y hy with hy|rfl
     ·exact hn y hy
     ·exact hcs
    ·refine aCQ @bO ?_
     exact aA (by omega) (by omega)
  ·have hie:i=t3.length:=by omega
   subst hie
   rw [List.take_length] at hn
   have hSt:SB=true:=by rw [hS,List.all_eq_true];exact hn
   subst hSt
   simp only [Bool.true_eq_false,if_false] at hC
   clear hn hS chas hft hxr hx hml
   by_cases hfl:tk.length=120
   ·rw [if_pos hfl] at hC
    subst hC
    simp only [Int.reduceEq,if_false] at hF
    subst hF
    have hq:(((tk.length:Nat):Int)==120)=true:=by simp;omega
    exact jI (Y2 hq @bO)
   ·rw [if_neg hfl] at hC
    subst hC
    simp only [if_true] at hF
    subst hF
    have hq:(((tk.length:Nat):Int)==120)=false:=by simp;omega
    exact eJ (Y4 hq happ @aJ.eq_1 @bO) (Z1 cct)
 ·simp only [if_true] at hC
  subst hC
  simp only [Int.reduceEq,if_false] at hF
  subst hF
  exact eJ (Y7 hz hlt hlt2 hw hp hp1 hx) (Z5 ccp cfo cit cix cov)
structure kQ where
 aAP:List UInt8
 aJw:Int
 deriving DecidableEq
@[simp] abbrev kQ.row (x:kQ):List D:=[.str x.aAP,.int .i64 x.aJw]
@[simp] abbrev kQ.c (x:kQ):List C:=[.d (.str x.aAP),.d (.int .i64 x.aJw)]
@[simp] abbrev kQ.o (x:kQ):List C:=[.d (.str x.aAP),.d (.int .i64 x.aJw)]
def gM (l:List kQ):List (List D):=l.map kQ.row
@[simp] theorem aMq (l:List kQ):(gM l).length=l.length:=by simp [gM]
@[simp] theorem aTc (l:List kQ) (i:Nat):(gM l)[i]?=(l[i]?).map kQ.row:=by simp [gM]
def kQ.cost (x:kQ):Nat:=x.aAP.length
def kQ.ok (x:kQ):Prop:=x.aAP.length<=maxLen/\cH x.aJw
structure cW where
 aG:List UInt8
 nU:List kQ
 deriving DecidableEq
@[simp] abbrev cW.row (x:cW):List D:=[.str x.aG,.slc 2 (gM x.nU)]
@[simp] abbrev cW.c (x:cW):List C:=[.d (.str x.aG),.d (.slc 2 (gM x.nU))]
@[simp] abbrev cW.o (x:cW):List C:=[.d (.str x.aG),.own 0 2 (gM x.nU)]
def cM (l:List cW):List (List D):=l.map cW.row
@[simp] theorem aRa (l:List cW):(cM l).length=l.length:=by simp [cM]
@[simp] theorem aRb (l:List cW) (i:Nat):(cM l)[i]?=(l[i]?).map cW.row:=by simp [cM]
def cW.cost (x:cW):Nat:=x.aG.length+(x.nU.length+cX kQ.cost x.nU)
def cW.ok (x:cW):Prop:=x.aG.length<=maxLen/\x.nU.length<=maxLen/\(∀ y,y∈x.nU->y.ok)
structure dT where
 gG:List UInt8
 aZ:Int
 vD:Bool
 aO3:Bool
 deriving DecidableEq
@[simp] abbrev dT.row (x:dT):List D:=[.slc 1 (aB x.gG),.int .i64 x.aZ,.bool x.vD,.bool x.aO3]
@[simp] abbrev dT.c (x:dT):List C:=[.d (.slc 1 (aB x.gG)),.d (.int .i64 x.aZ),.d (.bool x.vD),.d (.bool x.aO3)]
@[simp] abbrev dT.o (x:dT):List C:=[.own 0 1 (aB x.gG),.d (.int .i64 x.aZ),.d (.bool x.vD),.d (.bool x.aO3)]
def cT (l:List dT):List (List D):=l.map dT.row
@[simp] theorem aGa (l:List dT):(cT l).length=l.length:=by simp [cT]
@[simp] theorem aP4 (l:List dT) (i:Nat):(cT l)[i]?=(l[i]?).map dT.row:=by simp [cT]
def dT.cost (x:dT):Nat:=x.gG.length
def dT.ok (x:dT):Prop:=x.gG.length<=maxLen/\cH x.aZ
structure dF where
 fN:List UInt8
 iQ:Int
 eX:List dT
 deriving DecidableEq
@[simp] abbrev dF.row (x:dF):List D:=[.str x.fN,.int .i64 x.iQ,.slc 4 (cT x.eX)]
@[simp] abbrev dF.c (x:dF):List C:=[.d (.str x.fN),.d (.int .i64 x.iQ),.d (.slc 4 (cT x.eX))]
@[simp] abbrev dF.o (x:dF):List C:=[.d (.str x.fN),.d (.int .i64 x.iQ),.own 1 4 (cT x.eX)]
def bI (l:List dF):List (List D):=l.map dF.row
@[simp] theorem aKj (l:List dF):(bI l).length=l.length:=by simp [bI]
@[simp] theorem aR2 (l:List dF) (i:Nat):(bI l)[i]?=(l[i]?).map dF.row:=by simp [bI]
def dF.cost (x:dF):Nat:=x.fN.length+(x.eX.length+cX dT.cost x.eX)
def dF.ok (x:dF):Prop:=x.fN.length<=maxLen/\cH x.iQ/\x.eX.length<=maxLen/\(∀ y,y∈x.eX->y.ok)
structure qI where
 gF:List dF
 deriving DecidableEq
@[simp] abbrev qI.row (x:qI):List D:=[.slc 3 (bI x.gF)]
@[simp] abbrev qI.c (x:qI):List C:=[.d (.slc 3 (bI x.gF))]
@[simp] abbrev qI.o (x:qI):List C:=[.own 2 3 (bI x.gF)]
def qI.cost (x:qI):Nat:=(x.gF.length+cX dF.cost x.gF)
def qI.ok (x:qI):Prop:=x.gF.length<=maxLen/\(∀ y,y∈x.gF->y.ok)
structure vK where
 nK:List UInt8
 iF:List UInt8
 deriving DecidableEq
@[simp] abbrev vK.row (x:vK):List D:=[.slc 1 (aB x.nK),.slc 1 (aB x.iF)]
@[simp] abbrev vK.c (x:vK):List C:=[.d (.slc 1 (aB x.nK)),.d (.slc 1 (aB x.iF))]
@[simp] abbrev vK.o (x:vK):List C:=[.own 0 1 (aB x.nK),.own 0 1 (aB x.iF)]
def vK.cost (x:vK):Nat:=x.nK.length+x.iF.length
def vK.ok (x:vK):Prop:=x.nK.length<=maxLen/\x.iF.length<=maxLen
end Go.Proofs.YtiejbbcpihpgpaaGreat.Ab
