/-
  A part of a proof about the given program; what is proved is said where each theorem stands.
-/
import Derived.Test.YtiejbbcpihpgpaaGreatDoorPartD
namespace Go.Proofs
end Go.Proofs
set_option linter.unusedSimpArgs false
set_option linter.unusedVariables false
set_option maxRecDepth 100000
set_option maxHeartbeats 2000000
namespace Go.Proofs.YtiejbbcpihpgpaaGreatDoor.Ab
open Go.Proofs
theorem aQk {α:Type} (Q V:List α) (x y:α):sw2 (Q++x::y::V) (Q.length+1) Q.length=Q++y::x::V:=by
 unfold sw2
 have h1:(Q++x::y::V)[Q.length]?=some x:=by simp
 have h2:(Q++x::y::V)[Q.length+1]?=some y:=by
  rw [List.getElem?_append_right (by omega)];simp
 rw [h1,h2];simp only []
 rw [List.set_append_right _ _ (by omega),List.set_append_right _ _ (by omega)]
 simp
theorem aQj {α:Type} (a b:Nat):∀ (X Y Q N S:List α) (i:Nat),X.length=Y.length->a+i=Q.length->b+i=Q.length+X.length+N.length →
  swR a b X.length i (Q++(X++(N++(Y++S))))=Q++(Y++(N++(X++S)))
 |[],[],Q,N,S,i,_,_,_=>rfl
 |x::X,y::Y,Q,N,S,i,h,ha,hb=>by
  simp only [List.length_cons] at h hb ⊢
  rw [swR]
  have e:sw2 (Q++(x::X++(N++(y::Y++S)))) (a+i) (b+i)=(Q++[y])++(X++((N++[x])++(Y++S))):=by
   have:=aQl Q (X++N) (Y++S) x y
   rw [ha,hb]
   have e2:Q.length+(X.length+1)+N.length=Q.length+((X++N).length+1):=by simp<;>omega
   rw [e2]
   simpa using this
  rw [e,aQj a b X Y (Q++[y]) (N++[x]) S (i+1) (by omega) (by simp<;>omega) (by simp<;>omega)]
  simp
theorem aHy {α:Type} (X N Y Q S:List α) (h:X.length=Y.length):swR Q.length (Q.length+X.length+N.length) X.length 0 (Q++(X++(N++(Y++S))))=Q++(Y++(N++(X++S))):=
 aQj _ _ X Y Q N S 0 h rfl rfl
theorem rF {α:Type} (l:List α) (n:Nat) (h:n<=l.length):∃ A B,l=A++B/\A.length=n:=⟨l.take n,l.drop n,by simp,by simp<;>omega⟩
theorem aHS {α:Type}:∀ (k:Nat) (P A B S:List α),A.length+B.length<=k->0<A.length->0<B.length->aMm (P.length+A.length) k A.length B.length (P++(A++(B++S)))=P++(B++(A++S))
 |0,P,A,B,S,h,h1,_=>by omega
 |k+1,P,A,B,S,h,h1,h2=>by
  rw [aMm]
  split
  ·rename_i e
   have:=aHy A [] B P S e
   simpa using this
  ·split
   ·rename_i hne hlt
    obtain ⟨A1,A2,rfl,hl⟩:=rF A B.length (by omega)
    have hs:=aHy A1 A2 B P S hl
    simp only [List.length_append] at hne hlt h h1 ⊢
    rw [show P.length+(A1.length+A2.length)-(A1.length+A2.length)=P.length by omega]
    have e1:swR P.length (P.length+(A1.length+A2.length)) B.length 0 (P++(A1++A2++(B++S)))=(P++B)++(A2++(A1++S)):=by
     rw [<-hl,show P.length+(A1.length+A2.length)=P.length+A1.length+A2.length by omega];simpa using hs
    rw [e1]
    have:=aHS k (P++B) A2 A1 S (by omega) (by omega) (by omega)
    simp only [List.length_append] at this
    rw [show P.length+B.length+A2.length=P.length+(A1.length+A2.length) by omega,] at this
    rw [show A1.length+A2.length-B.length=A2.length by omega,<-hl]
    rw [this];simp
   ·rename_i hne hlt
    obtain ⟨B1,B2,rfl,hl⟩:=rF B (B.length-A.length) (by omega)
    simp only [List.length_append] at hne hlt h h2 hl ⊢
    have hs:=aHy A B1 B2 P S (by omega)
    rw [show P.length+A.length-A.length=P.length by omega,show P.length+A.length+(B1.length+B2.length)-A.length=P.length+A.length+B1.length by omega]
    have e1:swR P.length (P.length+A.length+B1.length) A.length 0 (P++(A++(B1++B2++S)))=P++(B2++(B1++(A++S))):=by simpa using hs
    rw [e1]
    have:=aHS k P B2 B1 (A++S) (by omega) (by omega) (by omega)
    rw [show A.length=B2.length by omega,show B1.length+B2.length-B2.length=B1.length by omega,this];simp
theorem aUS {α:Type} (P A B S:List α) (h1:0<A.length) (h2:0<B.length):rot P.length (P.length+A.length) (P.length+A.length+B.length) (P++(A++(B++S)))=P++(B++(A++S)):=by
 unfold rot
 have:=aHS (A.length+B.length) P A B S (Nat.le_refl _) h1 h2
 rw [show P.length+A.length+B.length-P.length=A.length+B.length by omega,show P.length+A.length-P.length=A.length by omega,show P.length+A.length+B.length-(P.length+A.length)=B.length by omega]
 exact this
theorem aP1 {α:Type}:∀ (B P S:List α) (x:α),upS B.length P.length (P++x::(B++S))=P++(B++x::S)
 |[],P,S,x=>rfl
 |y::B,P,S,x=>by
  simp only [List.length_cons]
  rw [upS,List.cons_append,aUL]
  have:=aP1 B (P++[y]) S x
  simpa using this
theorem aRO {α:Type}:∀ (n:Nat) (B P S:List α) (x:α),B.length=n->dnS B.length (P.length+B.length) (P++(B++x::S))=P++x::(B++S)
 |0,B,P,S,x,h=>by cases B with|nil=>rfl|cons y B=>simp at h
 |n+1,B,P,S,x,h=>by
  obtain ⟨B',y,rfl⟩:∃ B' y,B=B'++[y]:=⟨B.dropLast,B.getLast (by intro e;simp [e] at h),(List.dropLast_concat_getLast _).symm⟩
  simp only [List.length_append,List.length_singleton] at h ⊢
  rw [dnS]
  have:=aQk (P++B') S y x
  have e:sw2 (P++(B'++[y]++x::S)) (P.length+(B'.length+1)) (P.length+(B'.length+1)-1)=P++(B'++x::(y::S)):=by
   rw [show P.length+(B'.length+1)-1=(P++B').length by simp<;>omega,show P.length+(B'.length+1)=(P++B').length+1 by simp<;>omega]
   simpa using this
  rw [e,show P.length+(B'.length+1)-1=P.length+B'.length by omega,aRO n B' P (y::S) x (by omega)]
  simp
theorem aFf (f:Nat->Bool) (i0 j0:Nat):∀ (k i j:Nat),j-i<=k->i<=j->i0<=i->j<=j0->(i=i0\/f (i-1)=true)->(j=j0\/f j=false) →
  i0<=bsG f k i j/\bsG f k i j<=j0/\(bsG f k i j=i0\/(i0<bsG f k i j/\f (bsG f k i j-1)=true))/\(bsG f k i j=j0\/f (bsG f k i j)=false)
 |0,i,j,h1,h2,h3,h4,h5,h6=>by
  have:i=j:=by omega
  subst this
  simp only [bsG]
  exact ⟨h3,h4,by by_cases e:i=i0<;>simp [e]<;>rcases h5 with h5|h5<;>first|exact absurd h5 e|exact ⟨by omega,h5⟩,h6⟩
 |k+1,i,j,h1,h2,h3,h4,h5,h6=>by
  rw [bsG]
  split
  ·split
   ·rename_i hf
    exact aFf f i0 j0 k _ j (by omega) (by omega) (by omega) h4 (Or.inr (by simpa using hf)) h6
   ·rename_i hf
    exact aFf f i0 j0 k i _ (by omega) (by omega) h3 (by omega) h5 (Or.inr (by simpa using hf))
  ·have:i=j:=by omega
   subst this
   exact ⟨h3,h4,by by_cases e:i=i0<;>simp [e]<;>rcases h5 with h5|h5<;>first|exact absurd h5 e|exact ⟨by omega,h5⟩,h6⟩
theorem aDV (f:Nat->Bool) (i j:Nat) (h:i<=j):i<=bs f i j/\bs f i j<=j/\(bs f i j=i\/(i<bs f i j/\f (bs f i j-1)=true))/\(bs f i j=j\/f (bs f i j)=false):=
 aFf f i j (j-i) i j (Nat.le_refl _) h (Nat.le_refl _) (Nat.le_refl _) (Or.inl rfl) (Or.inl rfl)
def TB {α:Type} (lt:α->α->Bool) (R:α->α->Prop) (u x:α):Prop:=(lt x u=true->R x u)/\(lt x u=false->R u x)
theorem xF {α:Type} (lt:α->α->Bool) {l:List α} {i j:Nat} {x y:α} (h1:l[i]?=some x) (h2:l[j]?=some y):ltA lt l i j=lt x y:=by unfold ltA;rw [h1,h2]
theorem aR2 {α:Type} (P S:List α) (x:α):(P++x::S)[P.length]?=some x:=by simp
theorem aNU {α:Type} {lt:α->α->Bool} {R:α->α->Prop} (htr:∀ a b c:α,R a b->R b c->R a c):∀ (n:Nat) (P U V:List α) (x:α),U.length=n->U.Pairwise R->(∀ u,u∈U->TB lt R u x) →
  ∃ W,aLl lt P.length (P.length+U.length) (P++(U++x::V))=P++(W++V)/\W.Perm (U++[x])/\W.Pairwise R
 |0,P,U,V,x,hn,_,_=>by
  have:U=[]:=List.length_eq_zero_iff.1 hn
  subst this
  refine ⟨[x],?_,List.Perm.refl _,List.pairwise_singleton _ _⟩
  have:aLl lt P.length P.length (P++x::V)=P++x::V:=by
   cases hP:P.length with
   |zero=>rfl
   |succ k=>rw [aLl,if_neg (by omega)]
  simpa using this
 |n+1,P,U,V,x,hn,hs,ht=>by
  obtain ⟨U',y,rfl⟩:∃ U' y,U=U'++[y]:=⟨U.dropLast,U.getLast (by intro e;simp [e] at hn),(List.dropLast_concat_getLast _).symm⟩
  simp only [List.length_append,List.length_singleton] at hn ⊢
  have ty:=ht y (by simp)
  rw [show P.length+(U'.length+1)=(P.length+U'.length)+1 by omega,aLl,if_pos (by omega)]
  have e1:(P++(U'++[y]++x::V))[P.length+U'.length+1]?=some x:=by
   have:=aR2 (P++(U'++[y])) V x
   rw [show (P++(U'++[y])).length=P.length+U'.length+1 by simp<;>omega] at this
   simpa using this
  have e2:(P++(U'++[y]++x::V))[P.length+U'.length]?=some y:=by
   have:=aR2 (P++U') (x::V) y
   rw [show (P++U').length=P.length+U'.length by simp] at this
   simp
  rw [e1,e2];simp only []
  have hs':=List.pairwise_append.1 hs
  split
  ·rename_i hlt
   have e3:sw2 (P++(U'++[y]++x::V)) (P.length+U'.length+1) (P.length+U'.length)=P++(U'++x::(y::V)):=by
    have:=aQk (P++U') V y x
    rw [show (P++U').length=P.length+U'.length by simp] at this
    simpa using this
   rw [e3]
   obtain ⟨W,hW,hp,hw⟩:=aNU htr n P U' (y::V) x (by omega) hs'.1 fun u hu=>ht u (by simp [hu])
   refine ⟨W++[y],by rw [hW];simp,?_,?_⟩
   ·have:(U'++[y]++[x]).Perm (U'++[x]++[y]):=by
     simp only [List.append_assoc];exact List.Perm.append_left _ (List.Perm.swap _ _ _)
    exact (List.Perm.append_right [y] hp).trans this.symm
   ·refine List.pairwise_append.2 ⟨hw,List.pairwise_singleton _ _,fun a ha b hb=>?_⟩
    simp at hb;subst hb
    have:=hp.mem_iff.1 ha
    simp at this
    rcases this with h|h
    ·exact hs'.2.2 a h b (by simp)
    ·subst h;exact ty.1 hlt
  ·rename_i hlt
   refine ⟨U'++[y]++[x],by simp,List.Perm.refl _,?_⟩
   refine List.pairwise_append.2 ⟨hs,List.pairwise_singleton _ _,fun a ha b hb=>?_⟩
   simp at hb;subst hb
   have hyx:=ty.2 (by simpa using hlt)
   simp at ha
   rcases ha with h|h
   ·exact htr _ _ _ (hs'.2.2 a h y (by simp)) hyx
   ·subst h;exact hyx
theorem aNT {α:Type} {lt:α->α->Bool} {R:α->α->Prop} (htr:∀ a b c:α,R a b->R b c->R a c):∀ (X P U V:List α),U.Pairwise R->(∀ u,u∈U->∀ x,x∈X->TB lt R u x)->X.Pairwise (TB lt R) →
  ∃ W,aPk lt P.length X.length (P.length+U.length) (P++(U++(X++V)))=P++(W++V)/\W.Perm (U++X)/\W.Pairwise R
 |[],P,U,V,hs,_,_=>⟨U,rfl,by simp,hs⟩
 |x::X,P,U,V,hs,ht,hx=>by
  simp only [List.length_cons]
  obtain ⟨W,hW,hp,hw⟩:=aNU htr U.length P U (X++V) x rfl hs fun u hu=>ht u hu x (by simp)
  have hx':=List.pairwise_cons.1 hx
  obtain ⟨W2,hW2,hp2,hw2⟩:=aNT htr X P W V hw (fun u hu y hy=>by
   have:=hp.mem_iff.1 hu
   simp at this
   rcases this with h|h
   ·exact ht u h y (by simp [hy])
   ·subst h;exact hx'.1 y hy) hx'.2
  have hl:W.length=U.length+1:=by simpa using hp.length_eq
  refine ⟨W2,?_,?_,hw2⟩
  ·rw [aPk,List.cons_append,hW,<-hW2,hl,Nat.add_assoc]
  ·refine hp2.trans ?_
   have:=List.Perm.append_right X hp
   simpa using this
theorem aIg {α:Type} {lt:α->α->Bool} {R:α->α->Prop} (htr:∀ a b c:α,R a b->R b c->R a c) (P X V:List α) (hx:X.Pairwise (TB lt R)):∃ W,aMV lt P.length (P.length+X.length) (P++(X++V))=P++(W++V)/\W.Perm X/\W.Pairwise R:=by
 cases X with
 |nil=>
  refine ⟨[],?_,List.Perm.refl _,List.Pairwise.nil⟩
  unfold aMV
  rw [show P.length+([]:List α).length-(P.length+1)=0 by simp<;>omega]
  rfl
 |cons x X=>
  have hx':=List.pairwise_cons.1 hx
  obtain ⟨W,hW,hp,hw⟩:=aNT htr X P [x] V (List.pairwise_singleton _ _) (fun u hu y hy=>by simp at hu;subst hu;exact hx'.1 y hy) hx'.2
  refine ⟨W,?_,by simpa using hp,hw⟩
  unfold aMV
  rw [show P.length+(x::X).length-(P.length+1)=X.length by simp<;>omega]
  simpa using hW
def SMk {α:Type} (lt:α->α->Bool) (R:α->α->Prop) (k:Nat):Prop:=∀ P A B S:List α,A.length+B.length<=k->0<A.length->0<B.length->A.Pairwise R->B.Pairwise R->(∀ x,x∈A->∀ y,y∈B->TB lt R x y) →
 ∃ C,aDv lt k P.length (P.length+A.length) (P.length+A.length+B.length) (P++(A++(B++S)))=P++(C++S)/\C.Perm (A++B)/\C.Pairwise R
theorem aKA {α:Type} {lt:α->α->Bool} {R:α->α->Prop} {k:Nat} (ih:SMk lt R k) {a m b:Nat} (P A B S:List α) (ha:a=P.length) (hm:m=P.length+A.length) (hb:b=P.length+A.length+B.length) (h:A.length+B.length<=k) (h1:A.Pairwise R) (h2:B.Pairwise R) (h3:∀ x,x∈A->∀ y,y∈B->TB lt R x y) {p:Prop} [Decidable p] (hp:p ↔ (0<A.length/\0<B.length)):
  ∃ C,aHx p (aDv lt k a m b) (P++(A++(B++S)))=P++(C++S)/\C.Perm (A++B)/\C.Pairwise R:=by
 unfold aHx
 by_cases hc:p
 ·rw [if_pos hc,ha,hm,hb]
  exact ih P A B S h (hp.1 hc).1 (hp.1 hc).2 h1 h2 h3
 ·rw [if_neg hc]
  refine ⟨A++B,by simp,List.Perm.refl _,?_⟩
  have:A=[]\/B=[]:=by
   by_cases e:A.length=0
   ·exact Or.inl (List.length_eq_zero_iff.1 e)
   ·exact Or.inr (List.length_eq_zero_iff.1 (by by_cases e2:B.length=0;exact e2;exact absurd (hp.2 ⟨by omega,by omega⟩) hc))
  rcases this with h|h
  ·subst h;simpa using h2
  ·subst h;simpa using h1
theorem aOG {α:Type} {s m e:Nat} (Q A B S:List α) (hs:s=Q.length) (hm:m=Q.length+A.length) (he:e=Q.length+A.length+B.length):aHx (s<m/\m<e) (rot s m e) (Q++(A++(B++S)))=Q++(B++(A++S)):=by
 unfold aHx
 by_cases hc:s<m/\m<e
 ·rw [if_pos hc,hs,hm,he];exact aUS Q A B S (by omega) (by omega)
 ·rw [if_neg hc]
  by_cases e:A.length=0
  ·rw [List.length_eq_zero_iff.1 e];simp
  ·have:B=[]:=List.length_eq_zero_iff.1 (by omega)
   subst this;simp
theorem aIb {α:Type} {l:List α} (h:0<l.length):∃ l' x,l=l'++[x]:=⟨l.dropLast,l.getLast (by intro e;simp [e] at h),(List.dropLast_concat_getLast _).symm⟩
theorem aIn {α:Type} {l:List α} (h:0<l.length):∃ x l',l=x::l':=by cases l with|nil=>simp at h|cons x l'=>exact ⟨x,l',rfl⟩
theorem aIa {α:Type} {R:α->α->Prop} (htr:∀ a b c:α,R a b->R b c->R a c) {l:List α} {u x z:α} (hs:(l++[u]).Pairwise R) (hx:x∈l++[u]) (h:R u z):R x z:=by
 simp at hx
 rcases hx with hx|hx
 ·exact htr _ _ _ ((List.pairwise_append.1 hs).2.2 x hx u (by simp)) h
 ·subst hx;exact h
theorem aIs {α:Type} {R:α->α->Prop} (htr:∀ a b c:α,R a b->R b c->R a c) {l:List α} {v y z:α} (hs:(v::l).Pairwise R) (hy:y∈v::l) (h:R z v):R z y:=by
 simp at hy
 rcases hy with hy|hy
 ·subst hy;exact h
 ·exact htr _ _ _ h ((List.pairwise_cons.1 hs).1 y hy)
theorem aUi {α:Type} {R:α->α->Prop} (htr:∀ a b c:α,R a b->R b c->R a c) {A B:List α} (hA:A.Pairwise R) (hB:B.Pairwise R) (h:∀ A' u v B',A=A'++[u]->B=v::B'->R u v):∀ x,x∈A->∀ y,y∈B->R x y:=by
 intro x hx y hy
 obtain ⟨A',u,rfl⟩:=aIb (List.length_pos_of_mem hx)
 obtain ⟨v,B',rfl⟩:=aIn (List.length_pos_of_mem hy)
 exact aIs htr hB hy (aIa htr hA hx (h A' u v B' rfl rfl))
theorem aDX {α:Type} (P A S:List α) (u:α) (i:Nat) (h:i=P.length+A.length):(P++(A++[u]++S))[i]?=some u:=by
 subst h
 simp
theorem aB3 {α:Type} (P A S:List α) (v:α) (i:Nat) (h:i=P.length+A.length):(P++(A++(v::S)))[i]?=some v:=by
 subst h
 simp
theorem aQg {α:Type} {lt:α->α->Bool} {R:α->α->Prop} (htr:∀ a b c:α,R a b->R b c->R a c) {k:Nat} (P B S:List α) (x:α) (hB:0<B.length) (h2:B.Pairwise R) (h3:∀ y,y∈B->TB lt R x y):
  ∃ C,aDv lt (k+1) P.length (P.length+1) (P.length+1+B.length) (P++([x]++(B++S)))=P++(C++S)/\C.Perm ([x]++B)/\C.Pairwise R:=by
 rw [aDv,if_pos (by omega)]
 generalize hl:P++([x]++(B++S))=l
 have hsp:=aDV (fun h=>ltA lt l h P.length) (P.length+1) (P.length+1+B.length) (by omega)
 generalize bs (fun h=>ltA lt l h P.length) (P.length+1) (P.length+1+B.length)=s at hsp
 obtain ⟨g1,g2,g3,g4⟩:=hsp
 obtain ⟨B1,B2,rfl,hlen⟩:=rF B (s-(P.length+1)) (by omega)
 have hp:=List.pairwise_append.1 h2
 have hx0:l[P.length]?=some x:=by rw [<-hl];simp
 have k1:∀ y,y∈B1->R y x:=fun y hy=>by
  obtain ⟨B',u,rfl⟩:=aIb (List.length_pos_of_mem hy)
  refine aIa htr hp.1 hy ?_
  have e:l[s-1]?=some u:=by rw [<-hl];have:=aDX (P++[x]) B' (B2++S) u (s-1) (by simp at hlen ⊢;omega);simpa using this
  have:=g3.resolve_left (by simp at hlen;omega)
  have:=this.2
  simp only [xF lt e hx0] at this
  exact (h3 u (by simp)).1 this
 have k2:∀ y,y∈B2->R x y:=fun y hy=>by
  obtain ⟨v,B',rfl⟩:=aIn (List.length_pos_of_mem hy)
  refine aIs htr hp.2.1 hy ?_
  have e:l[s]?=some v:=by rw [<-hl];have:=aB3 (P++[x]) B1 (B'++S) v s (by simp;omega);simpa using this
  have:=g4.resolve_left (by simp;omega)
  simp only [xF lt e hx0] at this
  exact (h3 v (by simp)).2 this
 refine ⟨B1++x::B2,?_,?_,?_⟩
 ·rw [show s-1-P.length=B1.length by omega,<-hl]
  have:=aP1 B1 P (B2++S) x
  simpa using this
 ·simp
 ·refine List.pairwise_append.2 ⟨hp.1,List.pairwise_cons.2 ⟨k2,hp.2.1⟩,fun a ha b hb=>?_⟩
  simp at hb
  rcases hb with hb|hb
  ·subst hb;exact k1 a ha
  ·exact hp.2.2 a ha b hb
theorem aOq {α:Type} {lt:α->α->Bool} {R:α->α->Prop} (htr:∀ a b c:α,R a b->R b c->R a c) {k:Nat} (P A S:List α) (y:α) (hA:1<A.length) (h1:A.Pairwise R) (h3:∀ x,x∈A->TB lt R x y):
  ∃ C,aDv lt (k+1) P.length (P.length+A.length) (P.length+A.length+1) (P++(A++([y]++S)))=P++(C++S)/\C.Perm (A++[y])/\C.Pairwise R:=by
 rw [aDv,if_neg (by omega),if_pos (by omega)]
 generalize hl:P++(A++([y]++S))=l
 have hsp:=aDV (fun h=>!ltA lt l (P.length+A.length) h) P.length (P.length+A.length) (by omega)
 generalize bs (fun h=>!ltA lt l (P.length+A.length) h) P.length (P.length+A.length)=s at hsp
 obtain ⟨g1,g2,g3,g4⟩:=hsp
 have hy0:l[P.length+A.length]?=some y:=by rw [<-hl];exact aB3 P A S y _ rfl
 generalize hm:P.length+A.length=m at *
 obtain ⟨A1,A2,rfl,hlen⟩:=rF A (s-P.length) (by omega)
 have hp:=List.pairwise_append.1 h1
 simp only [List.length_append] at hm
 have k1:∀ x,x∈A1->R x y:=fun x hx=>by
  obtain ⟨B',u,rfl⟩:=aIb (List.length_pos_of_mem hx)
  refine aIa htr hp.1 hx ?_
  have e:l[s-1]?=some u:=by rw [<-hl];have:=aDX P B' (A2++([y]++S)) u (s-1) (by simp at hlen;omega);simpa using this
  have:=(g3.resolve_left (by simp at hlen;omega)).2
  simp only [xF lt hy0 e] at this
  exact (h3 u (by simp)).2 (by simpa using this)
 have k2:∀ x,x∈A2->R y x:=fun x hx=>by
  obtain ⟨v,B',rfl⟩:=aIn (List.length_pos_of_mem hx)
  refine aIs htr hp.2.1 hx ?_
  have e:l[s]?=some v:=by rw [<-hl];have:=aB3 P A1 (B'++([y]++S)) v s (by omega);simpa using this
  have:=g4.resolve_left (by simp at hm;omega)
  simp only [xF lt hy0 e] at this
  exact (h3 v (by simp)).1 (by simpa using this)
 refine ⟨A1++y::A2,?_,?_,?_⟩
 ·rw [<-hl,show m-s=A2.length by omega]
  have:=aRO A2.length A2 (P++A1) S y rfl
  rw [show (P++A1).length+A2.length=m by simp;omega] at this
  simpa using this
 ·have:=(List.perm_append_comm (l₁:=A2) (l₂:=[y]))
  have:=List.Perm.append_left A1 this
  simpa using this.symm
 ·refine List.pairwise_append.2 ⟨hp.1,List.pairwise_cons.2 ⟨k2,hp.2.1⟩,fun a ha b hb=>?_⟩
  simp at hb
  rcases hb with hb|hb
  ·subst hb;exact k1 a ha
  ·exact hp.2.2 a ha b hb
theorem aQh {α:Type} {lt:α->α->Bool} (a m b:Nat) (l:List α) (h1:a<m) (h2:m<b):a<=xS lt a m b l/\xS lt a m b l<=m/\xS lt a m b l<=(a+b) / 2/\(a+b) / 2+m-b<=xS lt a m b l ∧
  (xS lt a m b l=a\/(a+b) / 2+m-xS lt a m b l=b\/(a<xS lt a m b l/\ltA lt l ((a+b) / 2+m-xS lt a m b l) (xS lt a m b l-1)=false)) ∧
  (xS lt a m b l=m\/(a+b) / 2+m-xS lt a m b l=m\/ltA lt l ((a+b) / 2+m-xS lt a m b l-1) (xS lt a m b l)=true):=by
 unfold xS
 by_cases hc:(a+b) / 2<m
 ·rw [if_pos hc]
  have hsp:=aDV (fun c=>!ltA lt l ((a+b) / 2+m-1-c) c) ((a+b) / 2+m-b) ((a+b) / 2) (by omega)
  generalize bs (fun c=>!ltA lt l ((a+b) / 2+m-1-c) c) ((a+b) / 2+m-b) ((a+b) / 2)=s at hsp
  obtain ⟨g1,g2,g3,g4⟩:=hsp
  refine ⟨by omega,by omega,g2,g1,?_,?_⟩
  ·rcases g3 with g3|⟨g3,g5⟩
   ·exact Or.inr (Or.inl (by omega))
   ·refine Or.inr (Or.inr ⟨by omega,?_⟩)
    rw [show (a+b) / 2+m-1-(s-1)=(a+b) / 2+m-s by omega] at g5
    simpa using g5
  ·rcases g4 with g4|g4
   ·exact Or.inr (Or.inl (by omega))
   ·refine Or.inr (Or.inr ?_)
    rw [show (a+b) / 2+m-1-s=(a+b) / 2+m-s-1 by omega] at g4
    simpa using g4
 ·rw [if_neg hc]
  have hsp:=aDV (fun c=>!ltA lt l ((a+b) / 2+m-1-c) c) a m (by omega)
  generalize bs (fun c=>!ltA lt l ((a+b) / 2+m-1-c) c) a m=s at hsp
  obtain ⟨g1,g2,g3,g4⟩:=hsp
  refine ⟨by omega,by omega,by omega,by omega,?_,?_⟩
  ·rcases g3 with g3|⟨g3,g5⟩
   ·exact Or.inl g3
   ·refine Or.inr (Or.inr ⟨by omega,?_⟩)
    rw [show (a+b) / 2+m-1-(s-1)=(a+b) / 2+m-s by omega] at g5
    simpa using g5
  ·rcases g4 with g4|g4
   ·exact Or.inl g4
   ·refine Or.inr (Or.inr ?_)
    rw [show (a+b) / 2+m-1-s=(a+b) / 2+m-s-1 by omega] at g4
    simpa using g4
set_option maxHeartbeats 2000000 in
theorem aHw {α:Type} {lt:α->α->Bool} {R:α->α->Prop} (htr:∀ a b c:α,R a b->R b c->R a c):∀ k,SMk lt R k
 |0=>fun P A B S h h1 _ _ _ _=>by omega
 |k+1=>fun P A B S h hA hB h1 h2 h3=>by
  by_cases c1:A.length=1
  ·obtain ⟨x,rfl⟩:=List.length_eq_one_iff.1 c1
   exact aQg htr P B S x hB h2 fun y hy=>h3 x (by simp) y hy
  by_cases c2:B.length=1
  ·obtain ⟨y,rfl⟩:=List.length_eq_one_iff.1 c2
   exact aOq htr P A S y (by omega) h1 fun x hx=>h3 x hx y (by simp)
  have ih:SMk lt R k:=aHw htr k
  rw [aDv,if_neg (by omega),if_neg (by omega)]
  have hcut:=aQh (lt:=lt) P.length (P.length+A.length) (P.length+A.length+B.length) (P++(A++(B++S))) (by omega) (by omega)
  unfold aUK
  generalize xS lt P.length (P.length+A.length) (P.length+A.length+B.length) (P++(A++(B++S)))=s at hcut ⊢
  obtain ⟨g1,g2,g3,g4,g5,g6⟩:=hcut
  generalize hmid:(P.length+(P.length+A.length+B.length)) / 2=mid at *
  generalize he:mid+(P.length+A.length)-s=e at *
  obtain ⟨A1,A2,rfl,hA1⟩:=rF A (s-P.length) (by omega)
  obtain ⟨B1,B2,rfl,hB1⟩:=rF B (e-(P.length+(A1++A2).length)) (by omega)
  simp only [List.length_append] at *
  have pA:=List.pairwise_append.1 h1
  have pB:=List.pairwise_append.1 h2
  have x1:∀ x,x∈A1->∀ y,y∈B2->R x y:=aUi htr pA.1 pB.2.1 fun A' u v B' ea eb=>by
   subst ea;subst eb
   simp only [List.length_append,List.length_cons,List.length_nil] at *
   have:=(g5.resolve_left (by omega)).resolve_left (by omega)
   have e1:(P++(A'++[u]++A2++(B1++v::B'++S)))[s-1]?=some u:=by have:=aDX P A' (A2++(B1++v::B'++S)) u (s-1) (by omega);simpa using this
   have e2:(P++(A'++[u]++A2++(B1++v::B'++S)))[e]?=some v:=by have:=aB3 (P++(A'++[u]++A2)) B1 (B'++S) v e (by simp;omega);simpa using this
   rw [xF lt e2 e1] at this
   exact (h3 u (by simp) v (by simp)).2 this.2
  have x2:∀ y,y∈B1->∀ x,x∈A2->R y x:=aUi htr pB.1 pA.2.1 fun B' v u A' eb ea=>by
   subst ea;subst eb
   simp only [List.length_append,List.length_cons,List.length_nil] at *
   have:=(g6.resolve_left (by omega)).resolve_left (by omega)
   have e1:(P++(A1++u::A'++(B'++[v]++B2++S)))[s]?=some u:=by have:=aB3 P A1 (A'++(B'++[v]++B2++S)) u s (by omega);simpa using this
   have e2:(P++(A1++u::A'++(B'++[v]++B2++S)))[e-1]?=some v:=by have:=aDX (P++(A1++u::A')) B' (B2++S) v (e-1) (by simp;omega);simpa using this
   rw [xF lt e2 e1] at this
   exact (h3 u (by simp) v (by simp)).1 this
  have r1:=aOG (s:=s) (m:=P.length+(A1.length+A2.length)) (e:=e) (P++A1) A2 B1 (B2++S) (by simp;omega) (by simp;omega) (by simp;omega)
  have e0:P++(A1++A2++(B1++B2++S))=P++A1++(A2++(B1++(B2++S))):=by simp
  rw [e0,r1]
  obtain ⟨C1,hC1,pC1,sC1⟩:=aKA ih (a:=P.length) (m:=s) (b:=mid) (p:=P.length<s/\s<mid) P A1 B1 (A2++(B2++S)) rfl (by omega) (by omega) (by omega) pA.1 pB.1 (fun x hx y hy=>h3 x (by simp [hx]) y (by simp [hy])) (by constructor<;>intro h<;>omega)
  have e1:P++A1++(B1++(A2++(B2++S)))=P++(A1++(B1++(A2++(B2++S)))):=by simp
  rw [e1,hC1]
  have lC1:=pC1.length_eq
  simp only [List.length_append] at lC1
  obtain ⟨C2,hC2,pC2,sC2⟩:=aKA ih (a:=mid) (m:=e) (b:=P.length+(A1.length+A2.length)+(B1.length+B2.length)) (p:=mid<e/\e<P.length+(A1.length+A2.length)+(B1.length+B2.length)) (P++C1) A2 B2 S (by simp;omega) (by simp;omega) (by simp;omega) (by omega) pA.2.1 pB.2.1 (fun x hx y hy=>h3 x (by simp [hx]) y (by simp [hy])) (by constructor<;>intro h<;>omega)
  have e2:P++(C1++(A2++(B2++S)))=P++C1++(A2++(B2++S)):=by simp
  rw [e2,hC2]
  refine ⟨C1++C2,by simp,?_,?_⟩
  ·refine (pC1.append pC2).trans ?_
   simp only [List.append_assoc]
   refine List.Perm.append_left A1 ?_
   rw [<-List.append_assoc,<-List.append_assoc]
   exact List.Perm.append_right B2 List.perm_append_comm
  ·refine List.pairwise_append.2 ⟨sC1,sC2,fun x hx y hy=>?_⟩
   have mx:=pC1.mem_iff.1 hx
   have my:=pC2.mem_iff.1 hy
   simp at mx my
   rcases mx with mx|mx<;>rcases my with my|my
   ·exact pA.2.2 x mx y my
   ·exact x1 x mx y my
   ·exact x2 x mx y my
   ·exact pB.2.2 x mx y my
inductive aDM {α:Type} (lt:α->α->Bool) (R:α->α->Prop) (s:Nat):List α->Prop
 |last (X:List α):X.length<=s->X.Pairwise R->aDM lt R s X
 |cons (X Y:List α):X.length=s->X.Pairwise R->(∀ x,x∈X->∀ y,y∈Y->TB lt R x y)->aDM lt R s Y->aDM lt R s (X++Y)
theorem aDW {α:Type} {lt:α->α->Bool} {R:α->α->Prop} {s:Nat} {Z:List α} (h:aDM lt R s Z) (hl:Z.length<=s):Z.Pairwise R:=by
 cases h with
 |last _ _ h2=>exact h2
 |cons X Y h1 h2 h3 h4=>
  simp only [List.length_append] at hl
  have:Y=[]:=List.length_eq_zero_iff.1 (by omega)
  subst this;simpa using h2
theorem aN6 {α:Type} {lt:α->α->Bool} {R:α->α->Prop} {s:Nat} {Z:List α} (h:aDM lt R s Z) (hl:s<Z.length):∃ X Y,Z=X++Y/\X.length=s/\X.Pairwise R/\(∀ x,x∈X->∀ y,y∈Y->TB lt R x y)/\aDM lt R s Y:=by
 cases h with
 |last _ h1 _=>omega
 |cons X Y h1 h2 h3 h4=>exact ⟨X,Y,rfl,h1,h2,h3,h4⟩
theorem aTQ {α:Type} {lt:α->α->Bool} {R:α->α->Prop} {s:Nat} {Z:List α} (h:aDM lt R s Z) (hl:s<=Z.length):∃ X Y,Z=X++Y/\X.length=s/\X.Pairwise R/\(∀ x,x∈X->∀ y,y∈Y->TB lt R x y)/\aDM lt R s Y:=by
 cases h with
 |last _ h1 h2=>exact ⟨Z,[],by simp,by omega,h2,fun x _ y hy=>by simp at hy,.last [] (by simp) List.Pairwise.nil⟩
 |cons X Y h1 h2 h3 h4=>exact ⟨X,Y,rfl,h1,h2,h3,h4⟩
theorem aKx {α:Type} {lt:α->α->Bool} {R:α->α->Prop} (htr:∀ a b c:α,R a b->R b c->R a c):∀ (k:Nat) (P X:List α),X.length<=k->X.Pairwise (TB lt R)->∃ Y,aEa lt (P.length+X.length) k P.length (P++X)=P++Y/\Y.Perm X/\aDM lt R 20 Y
 |0,P,X,h,hx=>by
  obtain ⟨W,hW,hp,hw⟩:=aIg htr P X [] hx
  simp only [List.append_nil] at hW
  exact ⟨W,hW,hp,.last W (by rw [hp.length_eq];omega) hw⟩
 |k+1,P,X,h,hx=>by
  rw [aEa]
  split
  ·obtain ⟨X1,X2,rfl,hl⟩:=rF X 20 (by omega)
   have hp:=List.pairwise_append.1 hx
   obtain ⟨W,hW,hpm,hw⟩:=aIg htr P X1 X2 hp.1
   rw [hl] at hW
   rw [hW]
   have hwl:=hpm.length_eq
   obtain ⟨Y,hY,hpY,hb⟩:=aKx htr k (P++W) X2 (by simp only [List.length_append] at h;omega) hp.2.1
   refine ⟨W++Y,?_,hpm.append hpY,.cons W Y (by omega) hw (fun x hx y hy=>hp.2.2 x (hpm.mem_iff.1 hx) y (hpY.mem_iff.1 hy)) hb⟩
   simp only [List.length_append] at hY ⊢
   rw [show P.length+(X1.length+X2.length)=P.length+W.length+X2.length by omega,show P.length+20=P.length+W.length by omega,<-List.append_assoc,hY]
   simp
  ·obtain ⟨W,hW,hp,hw⟩:=aIg htr P X [] hx
   simp only [List.append_nil] at hW
   exact ⟨W,hW,hp,.last W (by rw [hp.length_eq];omega) hw⟩
theorem aKw {α:Type} {lt:α->α->Bool} {R:α->α->Prop} (htr:∀ a b c:α,R a b->R b c->R a c) (s:Nat) (hs:0<s):∀ (k:Nat) (P Z:List α),Z.length<=k->aDM lt R s Z->∃ Y,aGC lt (P.length+Z.length) s k P.length (P++Z)=P++Y/\Y.Perm Z/\aDM lt R (2*s) Y
 |0,P,Z,h,hb=>by
  have:Z=[]:=List.length_eq_zero_iff.1 (by omega)
  subst this
  exact ⟨[],rfl,List.Perm.refl _,.last [] (by simp) List.Pairwise.nil⟩
 |k+1,P,Z,h,hb=>by
  rw [aGC]
  split
  ·rename_i hc
   obtain ⟨X1,Y1,rfl,l1,s1,t1,b1⟩:=aN6 hb (by omega)
   simp only [List.length_append] at h hc ⊢
   obtain ⟨X2,Z2,rfl,l2,s2,t2,b2⟩:=aTQ b1 (by omega)
   simp only [List.length_append] at h hc ⊢
   obtain ⟨C,hC,pC,sC⟩:=aHw htr (2*s) P X1 X2 Z2 (by omega) (by omega) (by omega) s1 s2 (fun x hx y hy=>t1 x hx y (by simp [hy]))
   have lC:=pC.length_eq
   simp only [List.length_append] at lC
   rw [l1,l2,show P.length+s+s=P.length+2*s by omega] at hC
   rw [hC]
   obtain ⟨Y,hY,pY,bY⟩:=aKw htr s hs k (P++C) Z2 (by omega) b2
   refine ⟨C++Y,?_,?_,.cons C Y (by omega) sC (fun x hx y hy=>?_) bY⟩
   ·simp only [List.length_append] at hY
    rw [show P.length+(X1.length+(X2.length+Z2.length))=P.length+C.length+Z2.length by omega,show P.length+2*s=P.length+C.length by omega,<-List.append_assoc,hY]
    simp
   ·have:=pC.append pY
    simpa using this
   ·have hx:=pC.mem_iff.1 hx
    have hy:=pY.mem_iff.1 hy
    rcases List.mem_append.1 hx with hx|hx
    ·exact t1 x hx y (by simp [hy])
    ·exact t2 x hx y hy
  ·split
   ·rename_i hc hd
    obtain ⟨X1,Y1,rfl,l1,s1,t1,b1⟩:=aN6 hb (by omega)
    simp only [List.length_append] at h hc hd ⊢
    have s2:=aDW b1 (by omega)
    obtain ⟨C,hC,pC,sC⟩:=aHw htr (P.length+(X1.length+Y1.length)-P.length) P X1 Y1 [] (by omega) (by omega) (by omega) s1 s2 t1
    have lC:=pC.length_eq
    simp only [List.length_append] at lC
    rw [l1] at hC
    simp only [List.append_nil] at hC
    refine ⟨C,?_,pC,.last C (by omega) sC⟩
    rw [<-hC,l1,show P.length+(s+Y1.length)=P.length+s+Y1.length by omega]
   ·rename_i hc hd
    exact ⟨Z,rfl,List.Perm.refl _,.last Z (by omega) (aDW hb (by omega))⟩
theorem aNu {α:Type} {lt:α->α->Bool} {R:α->α->Prop} (htr:∀ a b c:α,R a b->R b c->R a c):∀ (k s:Nat) (Z:List α),0<s->Z.length<=s+k->aDM lt R s Z->(aMd lt Z.length k s Z).Perm Z/\(aMd lt Z.length k s Z).Pairwise R
 |0,s,Z,hs,h,hb=>⟨List.Perm.refl _,aDW (Z:=Z) hb (by omega)⟩
 |k+1,s,Z,hs,h,hb=>by
  rw [aMd]
  split
  ·obtain ⟨Y,hY,pY,bY⟩:=aKw htr s hs Z.length [] Z (Nat.le_refl _) hb
   simp only [List.length_nil,Nat.zero_add,List.nil_append] at hY
   have ly:=pY.length_eq
   have:=aNu htr k (2*s) Y (by omega) (by omega) bY
   rw [hY,<-ly]
   exact ⟨this.1.trans pY,this.2⟩
  ·exact ⟨List.Perm.refl _,aDW hb (by omega)⟩
theorem aGA {α:Type} {lt:α->α->Bool} {R:α->α->Prop} (htr:∀ a b c:α,R a b->R b c->R a c) (l:List α) (h:l.Pairwise (TB lt R)):(yP lt l).Perm l/\(yP lt l).Pairwise R:=by
 unfold yP
 obtain ⟨Y,hY,pY,bY⟩:=aKx htr l.length [] l (Nat.le_refl _) h
 simp only [List.length_nil,Nat.zero_add,List.nil_append] at hY
 have ly:=pY.length_eq
 rw [hY,<-ly]
 have:=aNu htr Y.length 20 Y (by omega) (by omega) bY
 exact ⟨this.1.trans pY,this.2⟩
def ltE (x y:aT):Bool:=decide (x.bS<y.bS)
def aDh (b:eO) (now:Int):eO:=⟨b.aP.filter fun l=>!decide (l.bS<=now)⟩
def yG (b:eO) (now:Int):List aT:=yP ltE (b.aP.filter fun l=>decide (l.bS<=now))
def yV (x u:aT):Prop:=x.bS<u.bS\/x.bS=u.bS/\x.bZ<u.bZ
theorem aH4 (a b c:aT) (h1:yV a b) (h2:yV b c):yV a c:=by unfold yV at *;omega
def aDJ (l:aT):List aT->List aT
 |[]=>[l]
 |g::r=>if l.bS<g.bS then l::g::r else g::aDJ l r
def goE (l:aT):List aT->List aT->Bool->List aT
 |[],nx,put=>if put then nx else nx++[l]
 |g::r,nx,put=>if !put && decide (l.bS<g.bS) then goE l r (nx++[l]++[g]) true else goE l r (nx++[g]) put
def foE (now:Int):List aT->List aT->List aT
 |G,[]=>G
 |G,l::r=>foE now (if l.bS<=now then aDJ l G else G) r
theorem aLr (l:aT):∀ (G nx:List aT),goE l G nx true=nx++G
 |[],nx=>by simp [goE]
 |g::r,nx=>by rw [goE];simp [aLr l r]
theorem aG5 (l:aT):∀ (G nx:List aT),goE l G nx false=nx++aDJ l G
 |[],nx=>by simp [goE,aDJ]
 |g::r,nx=>by
  rw [goE,aDJ]
  by_cases h:l.bS<g.bS
  ·simp [h,aLr]
  ·simp [h,aG5 l r]
theorem tN (l:aT):∀ G:List aT,(aDJ l G).Perm (G++[l])
 |[]=>List.Perm.refl _
 |g::r=>by
  rw [aDJ]
  split
  ·have:=List.perm_append_comm (l₁:=[l]) (l₂:=g::r);simpa using this
  ·exact (tN l r).cons g
theorem aRn (l:aT) (G:List aT):(aDJ l G).length=G.length+1:=by simpa using (tN l G).length_eq
theorem aDi (l:aT):∀ G:List aT,G.Pairwise yV->(∀ g,g∈G->g.bZ<l.bZ)->(aDJ l G).Pairwise yV
 |[],_,_=>List.pairwise_singleton _ _
 |g::r,hs,hi=>by
  have h2:=List.pairwise_cons.1 hs
  rw [aDJ]
  split
  ·rename_i h
   refine List.pairwise_cons.2 ⟨fun y hy=>?_,hs⟩
   simp at hy
   rcases hy with hy|hy
   ·subst hy;exact Or.inl h
   ·exact aH4 l g y (Or.inl h) (h2.1 y hy)
  ·rename_i h
   refine List.pairwise_cons.2 ⟨fun y hy=>?_,aDi l r h2.2 fun g hg=>hi g (by simp [hg])⟩
   have:=(tN l r).mem_iff.1 hy
   simp at this
   rcases this with hy|hy
   ·exact h2.1 y hy
   ·subst hy
    have:=hi g (by simp)
    unfold yV;omega
theorem aE3 (now:Int):∀ (a G:List aT),G.Pairwise yV->a.Pairwise (fun x y=>x.bZ<y.bZ)->(∀ g,g∈G->∀ l,l∈a->g.bZ<l.bZ)->(foE now G a).Perm (G++a.filter fun l=>decide (l.bS<=now))/\(foE now G a).Pairwise yV
 |[],G,hs,_,_=>⟨by simp [foE],hs⟩
 |l::r,G,hs,ha,hi=>by
  have h2:=List.pairwise_cons.1 ha
  rw [foE]
  split
  ·rename_i h
   have:=aE3 now r (aDJ l G) (aDi l G hs fun g hg=>hi g hg l (by simp)) h2.2 fun g hg x hx=>by
    have:=(tN l G).mem_iff.1 hg
    simp at this
    rcases this with hg|hg
    ·exact hi g hg x (by simp [hx])
    ·subst hg;exact h2.1 x hx
   refine ⟨this.1.trans ?_,this.2⟩
   rw [List.filter_cons_of_pos (by simpa using h)]
   have:=(tN l G).append_right (r.filter fun l=>decide (l.bS<=now))
   simpa using this
  ·rename_i h
   have:=aE3 now r G hs h2.2 fun g hg x hx=>hi g hg x (by simp [hx])
   rw [List.filter_cons_of_neg (by simpa using h)]
   exact this
theorem aQM {b:eO} (now:Int) (h:b.aP.Pairwise fun x y=>x.bZ<y.bZ):yG b now=foE now [] b.aP:=by
 have h1:=aE3 now b.aP [] List.Pairwise.nil h (fun g hg=>by simp at hg)
 have hT:(b.aP.filter fun l=>decide (l.bS<=now)).Pairwise (TB ltE yV):=by
  refine (h.filter _).imp fun {x y} hxy=>⟨fun hl=>?_,fun hl=>?_⟩
  ·exact Or.inl (of_decide_eq_true hl)
  ·have:=of_decide_eq_false hl
   unfold yV;omega
 have h2:=aGA aH4 _ hT
 unfold yG
 refine List.Perm.eq_of_pairwise (le:=yV) (fun x y _ _ hxy hyx=>?_) h2.2 h1.2 (h2.1.trans (by simpa using h1.1.symm))
 unfold yV at hxy hyx;omega
theorem aHj {b:eO} (h:fR b=true):b.aP.Pairwise fun x y=>x.bZ<y.bZ:=by
 unfold fR at h
 rw [Bool.and_eq_true] at h
 have:=aBt (q:=sR) (key:=fun l:aT=>l.bZ) (fun pre x hq=>by unfold sR at hq;rw [Bool.and_eq_true] at hq;exact hq.2) h.2
 exact this
theorem aFH (b:eO) (now:Int) (hf:aE8 b) (hb:fR b=true):
  aC PP GG 213 [.agg b.c,.d (.int .i64 now)] (.tup [.agg (aDh b now).o,.own 0 6 (bG (yG b now))]) [none,none]:=by
 refine cv Tryz.func213 [.agg (aDh b now).o,.own 0 6 (bG (yG b now))] ?_
 have hK:aDh b now=⟨b.aP.filter fun l=>!decide (l.bS<=now)⟩:=rfl
 have cbo:=nE b hf
 rw [hb] at cbo
 rw [hK,aQM now (aHj hb)]
 clear hK
 have hl:=hf.1
 obtain ⟨a⟩:=b
 dsimp only at hl
 generalize hT:foE now [] a=T
 refine aFq (Z1 cbo) ?_
 refine kX 6 0 rfl rfl rfl ?_
 refine jJ ?_
 refine bH (fun n st=>∃ (i:Nat) (G:List aT),n=a.length-i/\i<=a.length/\G.length<=i/\foE now G (a.drop i)=T ∧
  st=⟨[],[(1,.d (.int .i64 now)),(2,.ptr 0 0),(4,.ptr 1 0),(6,.ptr 2 0),(7,.sl 3),(8,.d (.int .i64 i))],[(0,.box [.d (.slc 6 (bG a))]),(1,.box [.nil 0 6]),(2,.box [.sl 4]),(3,.arr 0 0 6 (bG G)),(4,.arr 0 0 6 (bG ((a.take i).filter fun l=>!decide (l.bS<=now))))],5⟩) _ ⟨0,[],rfl,by omega,by simp,hT,?_⟩ ?_
 ·exact gE @bG.eq_1
 rintro n st ⟨i,G,rfl,hi,hG,hs,rfl⟩
 by_cases hlt:i<a.length
 rotate_left
 ·have hie:i=a.length:=by omega
  subst hie
  rw [List.drop_length] at hs
  rw [foE] at hs
  subst hs
  rw [List.take_length]
  have hi4:=bW G
  have hi5:=bW (a.filter fun l=>!decide (l.bS<=now))
  generalize (a.filter fun l=>!decide (l.bS<=now))=b2 at *
  exact nK
 have ha:=List.getElem?_eq_getElem hlt
 rw [List.drop_eq_getElem_cons hlt,foE] at hs
 generalize a[i]=x at ha hs
 have hsc2:=nH (p:=fun l:aT=>!decide (l.bS<=now)) (f:=aT.row) ha
 have hlen2:=jU (fun l:aT=>!decide (l.bS<=now)) aT.row a i
 rw [show ∀ l:List aT,(l.filter fun l=>!decide (l.bS<=now)).map aT.row=bG (l.filter fun l=>!decide (l.bS<=now)) from fun l=>rfl] at hsc2 hlen2
 rw [show ∀ l:List aT,(l.filter fun l=>!decide (l.bS<=now)).map aT.row=bG (l.filter fun l=>!decide (l.bS<=now)) from fun l=>rfl] at hsc2
 generalize bG ((a.take i).filter fun l=>!decide (l.bS<=now))=L2 at *
 obtain ⟨x1,x2,x3,x4,x5,x6⟩:=x
 dsimp only at hsc2 hs
 have e1:IntKind.i64.wrap ((i:Int)+1)=(i:Int)+1:=aA (by omega) (by omega)
 by_cases hx:x5<=now
 rotate_left
 ·rw [decide_eq_false hx] at hsc2
  rw [if_neg hx] at hs
  simp only [Bool.not_false,if_true] at hsc2
  have hx2:now<x5:=by omega
  refine eT (Y3 ha @aM.eq_1 e1) ?_
  refine ⟨a.length-(i+1),by omega,i+1,G,rfl,hlt,by omega,hs,?_⟩
  rw [hsc2]
  exact oJ
 ·rw [decide_eq_true hx] at hsc2
  rw [if_pos hx] at hs
  simp only [Bool.not_true,Bool.false_eq_true,if_false,List.append_nil] at hsc2
  generalize hU:aDJ ⟨x1,x2,x3,x4,x5,x6⟩ G=U at hs
  have hUl:U.length=G.length+1:=by rw [<-hU,aRn]
  have hgo:=aG5 ⟨x1,x2,x3,x4,x5,x6⟩ G []
  rw [hU,List.nil_append] at hgo
  refine eT (Y2 ha @aM.eq_1) ?_
  refine bH (fun n st=>∃ (k:Nat) (nx:List aT) (put:Bool),n=G.length-k/\k<=G.length/\nx.length<=k+put.toNat/\goE ⟨x1,x2,x3,x4,x5,x6⟩ (G.drop k) nx put=U ∧
   st=⟨[],[(1,.d (.int .i64 now)),(2,.ptr 0 0),(4,.ptr 1 0),(6,.ptr 2 0),(7,.sl 3),(8,.d (.int .i64 i)),(9,.ptr 4 0),(10,.sl 5),(11,.d (.bool put)),(12,.d (.int .i64 k))],
    [(0,.box [.d (.slc 6 (bG a))]),(1,.box [.nil 0 6]),(2,.box [.sl 6]),(3,.arr 0 0 6 (bG G)),(4,.box [.d (.int .i64 x1),.d (.int .i64 x2),.d (.str x3),.d (.int .i64 x4),.d (.int .i64 x5),.d (.int .i64 x6)]),(5,.arr 0 0 6 (bG nx)),(6,.arr 0 0 6 L2)],7⟩) _ ⟨0,[],false,rfl,by omega,by simp,hgo,?_⟩ ?_
  ·exact gE @bG.eq_1
  rintro n st ⟨k,nx,put,rfl,hk,hnx,hg,rfl⟩
  by_cases hkl:k<G.length
  ·have hgk:=List.getElem?_eq_getElem hkl
   rw [List.drop_eq_getElem_cons hkl,goE] at hg
   generalize G[k]=y at hgk hg
   obtain ⟨y1,y2,y3,y4,y5,y6⟩:=y
   dsimp only at hg
   have e2:IntKind.i64.wrap ((k:Int)+1)=(k:Int)+1:=aA (by omega) (by omega)
   have hlx:=uM nx
   cases put with
   |true=>
    simp only [Bool.toNat_true] at hnx
    simp only [Bool.not_true,Bool.false_and,Bool.false_eq_true,if_false] at hg
    refine eT (Y3 hgk @aM.eq_1 e2) ?_
    refine ⟨G.length-(k+1),by omega,k+1,_,true,rfl,hkl,?_,hg,?_⟩
    ·simp;omega
    ·exact gE @bG.eq_1
   |false=>
    simp only [Bool.toNat_false,Nat.add_zero] at hnx
    simp only [Bool.not_false,Bool.true_and] at hg
    by_cases hxy:x5<y5
    ·rw [if_pos (decide_eq_true hxy)] at hg
     refine eT (Y3 hgk @aM.eq_1 e2) ?_
     refine ⟨G.length-(k+1),by omega,k+1,_,true,rfl,hkl,?_,hg,?_⟩
     ·simp;omega
     ·exact gE @bG.eq_1
    ·rw [if_neg (by simpa using hxy)] at hg
     refine eT (Y3 hgk @aM.eq_1 e2) ?_
     refine ⟨G.length-(k+1),by omega,k+1,_,false,rfl,hkl,?_,hg,?_⟩
     ·simp;omega
     ·exact gE @bG.eq_1
  ·have hke:k=G.length:=by omega
   subst hke
   rw [List.drop_length,goE] at hg
   have hlx:=uM nx
   cases put with
   |true=>
    simp only [Bool.toNat_true] at hnx
    simp only [if_true] at hg
    subst hg
    refine eT e1 ?_
    refine ⟨a.length-(i+1),by omega,i+1,nx,rfl,hlt,by omega,hs,?_⟩
    rw [hsc2]
    exact oJ
   |false=>
    simp only [Bool.toNat_false,Nat.add_zero] at hnx
    simp only [Bool.false_eq_true,if_false] at hg
    refine eT (Y2 e1 @aM.eq_1) ?_
    refine ⟨a.length-(i+1),by omega,i+1,U,rfl,hlt,by omega,hs,?_⟩
    rw [hsc2,<-hg]
    exact gE @bG.eq_1
theorem aUz {p:aR->Bool} {l:List aR}:∀ x,x∈(wo p l).2->∃ t,t∈l/\t.bZ=x:=by
 induction l using lV with
 |h0=>intro x hx;simp [wo] at hx
 |h1 l t ih=>
  intro x hx
  rw [xC] at hx
  unfold aA4 at hx
  split at hx
  ·rcases List.mem_append.1 hx with hx|hx
   ·obtain ⟨s,hs,e⟩:=ih x hx;exact ⟨s,by simp [hs],e⟩
   ·simp at hx;exact ⟨t,by simp,hx.symm⟩
  ·obtain ⟨s,hs,e⟩:=ih x hx;exact ⟨s,by simp [hs],e⟩
theorem aHr {f:bQ} (h:bX f=true) (p:aR->Bool) (i:Nat):(wo p (f.aG.take i)).2.contains 0=false:=by
 cases hc:(wo p (f.aG.take i)).2.contains 0 with
 |false=>rfl
 |true=>
  obtain ⟨t,ht,e⟩:=aUz 0 (List.contains_iff_mem.1 hc)
  have:=((uY h).2.1 t (List.mem_of_mem_take ht)).2.1
  omega
def gJ (f:bQ) (now:Int):List Int:=(wo (fun t=>lY t.bS now) f.aG).2
theorem aCm (f:bQ) (now:Int) (hf:uZ f) (hb:bX f=true):
  aC PP GG 212 [.agg f.c,.d (.int .i64 now)] (.tup [.agg (gB f (gJ f now)).o,.own 0 1 (bM (gJ f now))]) [none,none]:=by
 refine cv Tryz.func212 [.agg (gB f (gJ f now)).o,.own 0 1 (bM (gJ f now))] ?_
 have cfo:=kE f hf
 rw [hb] at cfo
 have hz:=fun i=>aHr hb (fun t=>lY t.bS now) i
 have hwl:=fun l=>aHs (fun t:aR=>lY t.bS now) l
 have hSw:gJ f now=(wo (fun t=>lY t.bS now) f.aG).2:=rfl
 have hsl:(gJ f now).length<=f.aG.length:=by rw [hSw];have:=hwl f.aG;omega
 have hf1:=hf.1
 have hig:=jE (gJ f now)
 have cle:=uD f.aG (gJ f now) hf (by omega)
 obtain ⟨a⟩:=f
 dsimp only at hf1 hz hSw hsl cle
 refine fV @bM.eq_1 (Z1 cfo) ?_
 refine bH (fun n st=>∃ i:Nat,n=a.length-i/\i<=a.length ∧
  st=⟨[],[(1,.d (.int .i64 now)),(2,.ptr 0 0),(4,.ptr 1 0),(6,.sl 2),(7,.d (.int .i64 i))],[(0,.box [.d (.slc 7 (cA a))]),(1,.box [.nil 1 7]),(2,.arr 0 0 1 (bM (wo (fun t=>lY t.bS now) (a.take i)).2))],3⟩) _ ⟨0,rfl,by omega,?_⟩ ?_
 ·exact gE (Y2 @wo.eq_1 @bM.eq_1)
 rintro n st ⟨i,rfl,hi,rfl⟩
 by_cases hlt:i<a.length
 rotate_left
 ·have hie:i=a.length:=by omega
  subst hie
  rw [List.take_length,<-hSw]
  clear hSw hz hwl cfo
  generalize gJ ⟨a⟩ now=G at *
  generalize gB ⟨a⟩ G=LF at *
  obtain ⟨lf⟩:=LF
  have hi6:=cB lf
  have hi7:=cB a
  exact oE (Z1 cle)
 have ha:=List.getElem?_eq_getElem hlt
 generalize a[i]=x at ha
 have hws:=aSk (p:=fun t:aR=>lY t.bS now) ha
 have hwl1:=hwl (a.take i)
 have hz1:=hz i
 have htl:(a.take i).length<=i:=by rw [List.length_take];omega
 generalize wo (fun t=>lY t.bS now) (a.take i)=S at *
 obtain ⟨r,G⟩:=S
 dsimp only at hwl1 hz1
 unfold aA4 at hws
 dsimp only at hws
 have hgl:=kV G
 have cov:=nL x now
 have chas:=oS G x.cE (by omega)
 have hin:=cC x.fO
 have e1:IntKind.i64.wrap ((i:Int)+1)=(i:Int)+1:=aA (by omega) (by omega)
 obtain ⟨x1,x2,x3,x4,x5,x6,x7⟩:=x
 dsimp only at hws cov chas hin
 clear cle hSw hz hwl cfo
 cases hov:lY x5 now with
 |true=>
  rw [hov] at cov
  simp only [hov,Bool.true_or,if_true] at hws
  refine fV (Y4 ha hgl e1 @aM.eq_1) (Z2 cov chas) ?_
  refine ⟨a.length-(i+1),by omega,i+1,rfl,hlt,?_⟩
  rw [hws]
  exact gE @bM.eq_1
 |false=>
  rw [hov] at cov
  simp only [hov,Bool.false_or] at hws
  by_cases hx2:x2=0
  ·subst hx2
   simp only [hz1,Bool.false_eq_true,if_false] at hws
   refine fV (Y4 ha hgl e1 @aM.eq_1) (Z1 cov) ?_
   refine ⟨a.length-(i+1),by omega,i+1,rfl,hlt,?_⟩
   rw [hws]
   exact gE @bM.eq_1
  ·have hx3:(x2 != 0)=true:=by simpa using hx2
   cases hcn:G.contains x2 with
   |true=>
    rw [hcn] at chas
    simp only [hcn,if_true] at hws
    refine fV (Y5 ha hgl hx3 e1 @aM.eq_1) (Z2 cov chas) ?_
    refine ⟨a.length-(i+1),by omega,i+1,rfl,hlt,?_⟩
    rw [hws]
    exact gE @bM.eq_1
   |false=>
    rw [hcn] at chas
    simp only [hcn,Bool.false_eq_true,if_false] at hws
    refine fV (Y5 ha hgl hx3 e1 @aM.eq_1) (Z2 cov chas) ?_
    refine ⟨a.length-(i+1),by omega,i+1,rfl,hlt,?_⟩
    rw [hws]
    exact gE @bM.eq_1
structure wZ where
 aG:List Int
 aP:List Int
 wU:List (List UInt8)
 zH:List (List UInt8)
 deriving DecidableEq
@[simp] abbrev wZ.row (x:wZ):List D:=[.slc 1 (bM x.aG),.slc 1 (bM x.aP),.slc 1 (aK x.wU),.slc 1 (aK x.zH)]
@[simp] abbrev wZ.c (x:wZ):List C:=[.d (.slc 1 (bM x.aG)),.d (.slc 1 (bM x.aP)),.d (.slc 1 (aK x.wU)),.d (.slc 1 (aK x.zH))]
@[simp] abbrev wZ.o (x:wZ):List C:=[.own 0 1 (bM x.aG),.own 0 1 (bM x.aP),.own 0 1 (aK x.wU),.own 0 1 (aK x.zH)]
def wZ.cost (x:wZ):Nat:=x.aG.length+x.aP.length+(x.wU.length+dF List.length x.wU)+(x.zH.length+dF List.length x.zH)
def wZ.ok (x:wZ):Prop:=x.aG.length<=maxLen/\(∀ y,y∈x.aG->aX y)/\x.aP.length<=maxLen/\(∀ y,y∈x.aP->aX y)/\x.wU.length<=maxLen/\(∀ y,y∈x.wU->y.length<=maxLen)/\x.zH.length<=maxLen/\(∀ y,y∈x.zH->y.length<=maxLen)
def ptB (w:aS) (now:Int):Bool:=fH w && inB now w.cT 1000000000
def ptK (w:aS) (now:Int):eO:=jX w.bA (gJ w.aE now)
def ptL (w:aS) (now:Int):List aT:=mA w.bA (gJ w.aE now)++yG (ptK w now) now
def ptX (w:aS) (now:Int):aS:={ w with cT:=now,aE:=gB w.aE (gJ w.aE now),bA:=aDh (ptK w now) now }
def ptW (w:aS) (now:Int):aS:=if ptB w now then jG (ptX w now) (ptL w now) else w
def ptR (w:aS) (now:Int):RQ:=jP (bC (ptX w now) (ptL w now))
def ptT (w:aS) (now:Int):wZ:=if ptB w now then ⟨gJ w.aE now,(ptL w now).map aT.bZ,(ptR w now).done,(ptR w now).failed⟩ else ⟨[],[],[],[]⟩
theorem aMR {b:eO} (g:List Int) (h:fR b=true):fR (jX b g)=true:=by
 have hl:b.aP.length<=150:=by unfold fR at h;rw [Bool.and_eq_true] at h;exact of_decide_eq_true h.1
 have hi:=aHj h
 unfold fR at h ⊢
 rw [Bool.and_eq_true] at h ⊢
 refine ⟨decide_eq_true (Nat.le_trans (List.length_filter_le _ _) hl),aH6 fun i x hx=>?_⟩
 have hm:=List.mem_of_getElem? hx
 unfold jX at hm
 dsimp only at hm
 obtain ⟨j,hj⟩:=List.getElem?_of_mem (List.mem_filter.1 hm).1
 have hq:=pK h.2 hj
 unfold sR at hq ⊢
 rw [Bool.and_eq_true] at hq ⊢
 refine ⟨hq.1,?_⟩
 have hi2:(jX b g).aP.Pairwise fun y x=>y.bZ<x.bZ:=hi.filter _
 cases i with
 |zero=>simp [qB]
 |succ i=>
  have hy:=List.getElem?_eq_getElem (show i<(jX b g).aP.length by have:=(List.getElem?_eq_some_iff.1 hx).1;omega)
  rw [rV _ hy]
  refine decide_eq_true ?_
  rw [List.pairwise_iff_getElem] at hi2
  obtain ⟨h1,rfl⟩:=List.getElem?_eq_some_iff.1 hx
  exact hi2 i (i+1) (by omega) h1 (by omega)
theorem aPh {b:eO} (g:List Int) (h:aE8 b):aE8 (jX b g):=
 ⟨Nat.le_trans (List.length_filter_le _ _) h.1,fun t ht=>h.2 t (List.mem_filter.1 ht).1⟩
theorem aU4 {w:aS} {now:Int} (hf:aE6 w) (h:ptB w now=true):qL (ptX w now)/\aMu (ptX w now)/\fH w=true/\fR w.bA=true/\bX w.aE=true:=by
 unfold ptB at h
 rw [Bool.and_eq_true] at h
 obtain ⟨hL,hI,hb⟩:=aCx hf h.1 (gB w.aE (gJ w.aE now)) (aDh (ptK w now) now)
 obtain ⟨a1,a2,a3,a4,a5,a6,a7,a8⟩:=hL
 have hin:=cD h.2
 have hn:0<=w.cT:=a1.1
 exact ⟨⟨⟨by show 0<=now;omega,hin.2⟩,a2,a3,a4,a5,a6,a7,a8⟩,hI,h.1,hb,tY h.1⟩
theorem aMc {α:Type} (lt:α->α->Bool) (l:List α):(yP lt l).length=l.length:=by unfold yP;rw [aKy,aGD]
theorem aS3 (w:aS) (now:Int):(ptL w now).length<=2*w.bA.aP.length:=by
 unfold ptL
 have h1:=aG4 w.bA (gJ w.aE now)
 have h2:(yG (ptK w now) now).length<=w.bA.aP.length:=by
  unfold yG
  rw [aMc]
  exact Nat.le_trans (List.length_filter_le _ _) (List.length_filter_le _ _)
 rw [List.length_append];omega
theorem aOr {w:aS} (now:Int) (h:bX w.aE=true):(gJ w.aE now).length<=120:=by
 unfold gJ
 have h1:=aHs (fun t:aR=>lY t.bS now) w.aE.aG
 unfold bX at h
 simp only [Bool.and_eq_true,decide_eq_true_eq] at h
 omega
theorem aFC (w:aS) (now:Int) (hf:aE6 w):
  aC PP GG 166 [.agg w.c,.d (.int .i64 now)] (.tup [.agg (ptW w now).o,.agg (ptT w now).o,.d (.bool (ptB w now))]) [none,none]:=by
 refine cv Tryz.func166 [.agg (ptW w now).o,.agg (ptT w now).o,.d (.bool (ptB w now))] ?_
 have cw:=uE w hf
 have ccp:=jV w hf
 have cin:aC PP GG 20 [.d (.int .i64 now),.d (.int .i64 w.cT),.d (.int .i64 1000000000)] (.d (.bool (inB now w.cT 1000000000))) [none,none,none]:=bD _ _ _
 have hB:ptB w now=(fH w && inB now w.cT 1000000000):=rfl
 have hW:ptW w now=if ptB w now then jG (ptX w now) (ptL w now) else w:=rfl
 have hT:ptT w now=if ptB w now then ⟨gJ w.aE now,(ptL w now).map aT.bZ,(ptR w now).done,(ptR w now).failed⟩ else ⟨[],[],[],[]⟩:=rfl
 have hi1:=cB w.aE.aG
 have hi2:=bW w.bA.aP
 have hi3:=dH w.bT.bE
 have hi4:=fY w.bO.cF
 have hi5:=eI w.bI
 cases hb:ptB w now with
 |false=>
  rw [hb] at hW hT
  simp only [Bool.false_eq_true,if_false] at hW hT
  rw [hW,hT]
  cases hWB:fH w with
  |false=>
   rw [hWB] at cw
   clear hW hT hB
   exact dO (Y2 @bM.eq_1 @aK.eq_1) (Z2 ccp cw)
  |true=>
   rw [hb,hWB,Bool.true_and] at hB
   rw [hWB] at cw
   rw [<-hB] at cin
   clear hW hT hB
   exact dO (Y2 @bM.eq_1 @aK.eq_1) (Z3 ccp cw cin)
 |true=>
  obtain ⟨hL,hI,hWB,hbb,hfb⟩:=aU4 hf hb
  rw [hb] at hW hT
  simp only [if_true] at hW hT
  rw [hb,hWB,Bool.true_and] at hB
  rw [hWB] at cw
  rw [<-hB] at cin
  have csw:=aCm w.aE now hf.1 hfb
  have hsl:=aOr now hfb
  have cdo:=vZ w.bA (gJ w.aE now) hf.2.1 hbb (by omega)
  have cdv:=aFH (ptK w now) now (aPh _ hf.2.1) (aMR _ hbb)
  have hll:=aS3 w now
  have hbl:=hf.2.1.1
  have cgo:=sO (ptX w now) (ptL w now) hL (by have:=hbb;unfold fR at this;rw [Bool.and_eq_true] at this;have:=of_decide_eq_true this.1;omega)
  rw [hW,hT]
  have hX:ptX w now={ w with cT:=now,aE:=gB w.aE (gJ w.aE now),bA:=aDh (ptK w now) now }:=rfl
  have hLs:ptL w now=mA w.bA (gJ w.aE now)++yG (ptK w now) now:=rfl
  have hR:ptR w now=jP (bC (ptX w now) (ptL w now)):=rfl
  rw [show jX w.bA (gJ w.aE now)=ptK w now from rfl] at cdo
  rw [<-hR] at cgo
  clear hR hW hT hB hL hI
  generalize jG (ptX w now) (ptL w now)=Z at *
  generalize ptR w now=R at *
  rw [hX] at cgo
  clear hX
  generalize ptL w now=LS at *
  generalize gJ w.aE now=G at *
  generalize mA w.bA G=GL at *
  generalize gB w.aE G=LF at *
  generalize yG (ptK w now) now=OL at *
  generalize aDh (ptK w now) now=KO at *
  generalize ptK w now=KB at *
  obtain ⟨lf⟩:=LF
  obtain ⟨ko⟩:=KO
  obtain ⟨kb⟩:=KB
  have hg1:=jE G
  have hg2:=cB lf
  have hg3:=bW ko
  have hg4:=bW kb
  have hg5:=bW GL
  have hg6:=bW OL
  have hll2:GL.length+OL.length=LS.length:=by rw [hLs,List.length_append]
  have hap:bG GL++bG OL=bG LS:=by rw [hLs,yR]
  clear hLs
  refine aFq (Z6 ccp cw cin csw cdo cdv) ?_
  refine kX 13 1 rfl rfl rfl ?_
  refine bH (fun n st=>∃ i:Nat,n=GL.length-i/\i<=GL.length/\st=⟨[],[(4,.ptr 0 0),(5,.ptr 1 0),(7,.ptr 2 0),(8,.ptr 3 0),(10,.ptr 4 0),(11,.sl 5),(12,.sl 6),(13,.ptr 7 0),(14,.sl 8),(15,.d (.int .i64 i))],
   [(0,.box [.d (.int .i64 0),.d (.int .i64 0),.d (.int .i64 0),.nil 1 7,.nil 0 6,.nil 0 2,.d (.int .i64 0),.d (.int .i64 0),.nil 0 3,.nil 0 2]),(1,.box [.nil 0 1,.nil 0 1,.nil 0 1,.nil 0 1]),(2,.box [.d (.int .i64 now),.d (.int .i64 w.bJ),.d (.int .i64 w.fL),.sl 9,.sl 10,.sl 11,.d (.int .i64 w.bT.gT),.d (.int .i64 w.bT.bF),.sl 12,.sl 13]),(3,.box [.sl 14]),(4,.box [.sl 15]),(5,.arr 0 0 6 (bG GL)),(6,.arr 0 0 6 (bG OL)),(7,.box [.sl 16,.sl 17,.nil 0 1,.nil 0 1]),(8,.arr 0 0 6 (bG (GL.take i))),(9,.arr 0 1 7 (cA w.aE.aG)),(10,.arr 0 0 6 (bG w.bA.aP)),(11,.arr 0 0 2 (dG w.bT.bE)),(12,.arr 0 0 3 (gM w.bO.cF)),(13,.arr 0 0 2 (dW w.bI)),(14,.arr 0 1 7 (cA lf)),(15,.arr 0 0 6 (bG ko)),(16,.arr 0 0 1 (bM G)),(17,.arr 0 0 1 [])],18⟩) _ ⟨0,rfl,by omega,?_⟩ ?_
  ·exact gE @bG.eq_1
  clear ccp cw cin csw cdo cdv
  rintro n st ⟨i,rfl,hi,rfl⟩
  by_cases hlt:i<GL.length
  ·have ha:=List.getElem?_eq_getElem hlt
   generalize GL[i]=x at ha
   have hsc:=wE ha
   have hlen:=qD GL i
   have e1:IntKind.i64.wrap ((i:Int)+1)=(i:Int)+1:=aA (by omega) (by omega)
   generalize bG (GL.take i)=L at *
   obtain ⟨x1,x2,x3,x4,x5,x6⟩:=x
   refine eT (Y3 ha @aM.eq_1 e1) ?_
   refine ⟨GL.length-(i+1),by omega,i+1,rfl,hlt,?_⟩
   rw [hsc]
   exact oJ
  ·have hie:i=GL.length:=by omega
   subst hie
   rw [List.take_length]
   refine jJ ?_
   refine bH (fun n st=>∃ i:Nat,n=OL.length-i/\i<=OL.length/\st=⟨[],[(4,.ptr 0 0),(5,.ptr 1 0),(7,.ptr 2 0),(8,.ptr 3 0),(10,.ptr 4 0),(12,.sl 5),(13,.ptr 6 0),(14,.sl 7),(16,.d (.int .i64 i))],
   [(0,.box [.d (.int .i64 0),.d (.int .i64 0),.d (.int .i64 0),.nil 1 7,.nil 0 6,.nil 0 2,.d (.int .i64 0),.d (.int .i64 0),.nil 0 3,.nil 0 2]),(1,.box [.nil 0 1,.nil 0 1,.nil 0 1,.nil 0 1]),(2,.box [.d (.int .i64 now),.d (.int .i64 w.bJ),.d (.int .i64 w.fL),.sl 8,.sl 9,.sl 10,.d (.int .i64 w.bT.gT),.d (.int .i64 w.bT.bF),.sl 11,.sl 12]),(3,.box [.sl 13]),(4,.box [.sl 14]),(5,.arr 0 0 6 (bG OL)),(6,.box [.sl 15,.sl 16,.nil 0 1,.nil 0 1]),(7,.arr 0 0 6 (bG GL++bG (OL.take i))),(8,.arr 0 1 7 (cA w.aE.aG)),(9,.arr 0 0 6 (bG w.bA.aP)),(10,.arr 0 0 2 (dG w.bT.bE)),(11,.arr 0 0 3 (gM w.bO.cF)),(12,.arr 0 0 2 (dW w.bI)),(13,.arr 0 1 7 (cA lf)),(14,.arr 0 0 6 (bG ko)),(15,.arr 0 0 1 (bM G)),(16,.arr 0 0 1 [])],17⟩) _ ⟨0,rfl,by omega,?_⟩ ?_
   ·exact gE @bG.eq_1
   rintro n st ⟨i,rfl,hi,rfl⟩
   by_cases hlt:i<OL.length
   ·have ha:=List.getElem?_eq_getElem hlt
    generalize OL[i]=x at ha
    have hsc:=wE ha
    have hlen:=qD OL i
    have e1:IntKind.i64.wrap ((i:Int)+1)=(i:Int)+1:=aA (by omega) (by omega)
    generalize bG (OL.take i)=L at *
    obtain ⟨x1,x2,x3,x4,x5,x6⟩:=x
    have hgll:=uM GL
    refine eT (Y4 ha @aM.eq_1 e1 hgll) ?_
    refine ⟨OL.length-(i+1),by omega,i+1,rfl,hlt,?_⟩
    rw [hsc]
    exact oJ
   ·have hie:i=OL.length:=by omega
    subst hie
    rw [List.take_length,hap]
    refine jJ ?_
    refine bH (fun n st=>∃ i:Nat,n=LS.length-i/\i<=LS.length/\st=⟨[],[(4,.ptr 0 0),(5,.ptr 1 0),(7,.ptr 2 0),(8,.ptr 3 0),(10,.ptr 4 0),(13,.ptr 5 0),(14,.sl 6),(17,.d (.int .i64 i))],
     [(0,.box [.d (.int .i64 0),.d (.int .i64 0),.d (.int .i64 0),.nil 1 7,.nil 0 6,.nil 0 2,.d (.int .i64 0),.d (.int .i64 0),.nil 0 3,.nil 0 2]),(1,.box [.nil 0 1,.nil 0 1,.nil 0 1,.nil 0 1]),(2,.box [.d (.int .i64 now),.d (.int .i64 w.bJ),.d (.int .i64 w.fL),.sl 7,.sl 8,.sl 9,.d (.int .i64 w.bT.gT),.d (.int .i64 w.bT.bF),.sl 10,.sl 11]),(3,.box [.sl 12]),(4,.box [.sl 13]),(5,.box [.sl 14,.sl 15,.nil 0 1,.nil 0 1]),(6,.arr 0 0 6 (bG LS)),(7,.arr 0 1 7 (cA w.aE.aG)),(8,.arr 0 0 6 (bG w.bA.aP)),(9,.arr 0 0 2 (dG w.bT.bE)),(10,.arr 0 0 3 (gM w.bO.cF)),(11,.arr 0 0 2 (dW w.bI)),(12,.arr 0 1 7 (cA lf)),(13,.arr 0 0 6 (bG ko)),(14,.arr 0 0 1 (bM G)),(15,.arr 0 0 1 (bM ((LS.take i).map aT.bZ)))],16⟩) _ ⟨0,rfl,by omega,?_⟩ ?_
    ·exact gE @bM.eq_1
    rintro n st ⟨i,rfl,hi,rfl⟩
    by_cases hlt:i<LS.length
    ·have ha:=List.getElem?_eq_getElem hlt
     generalize LS[i]=x at ha
     have hsc:bM ((LS.take (i+1)).map aT.bZ)=bM ((LS.take i).map aT.bZ)++[[.int .i64 x.bZ]]:=by rw [List.take_add_one,ha];simp [bM]
     have hlen:(bM ((LS.take i).map aT.bZ)).length<=i:=by rw [kV,List.length_map,List.length_take];omega
     have e1:IntKind.i64.wrap ((i:Int)+1)=(i:Int)+1:=aA (by omega) (by omega)
     generalize bM ((LS.take i).map aT.bZ)=L at *
     obtain ⟨x1,x2,x3,x4,x5,x6⟩:=x
     dsimp only at hsc
     refine eT (Y3 ha @aM.eq_1 e1) ?_
     refine ⟨LS.length-(i+1),by omega,i+1,rfl,hlt,?_⟩
     rw [hsc]
     exact oJ
    ·have hie:i=LS.length:=by omega
     subst hie
     rw [List.take_length]
     obtain ⟨Zn,Zx,Zl,⟨Zf⟩,⟨Zb⟩,⟨Zu,Zfl,Zfm⟩,⟨Zq⟩,Zo⟩:=Z
     have hj1:=cB Zf
     have hj2:=bW Zb
     have hj3:=dH Zu
     have hj4:=fY Zq
     have hj5:=eI Zo
     have hj6:=cC R.done
     have hj7:=cC R.failed
     have hj8:=jE (LS.map aT.bZ)
     have hj9:=bW LS
     exact oE (Z1 cgo)
theorem rL {x lo hi:Int} (h1:lo<=x) (h2:x<=hi):inB x lo hi=true:=by simp [inB,h1,h2]
theorem aK7 {α:Type} {l:List α} {i j:Nat} {y:α} (hij:i<j) (hy:l[i]?=some y):y∈l.take j:=by
 refine List.mem_of_getElem? (i:=i) ?_
 rw [List.getElem?_take_of_lt hij];exact hy
theorem aU0 {α:Type} {R:α->α->Prop} {l:List α}:(∀ (i:Nat) x,l[i]?=some x->∀ y,y∈l.take i->R y x) ↔ l.Pairwise R:=by
 constructor
 ·intro h
  rw [List.pairwise_iff_getElem]
  intro i j hi hj hij
  exact h j _ (List.getElem?_eq_getElem hj) _ (aK7 hij (List.getElem?_eq_getElem hi))
 ·intro h i x hx y hy
  obtain ⟨j,hj⟩:=List.getElem?_of_mem hy
  have hjl:=(List.getElem?_eq_some_iff.1 hj).1
  rw [List.length_take] at hjl
  rw [List.getElem?_take_of_lt (by omega)] at hj
  exact aMt h (by omega) hj hx
theorem aH8 {α:Type} {q:List α->α->Bool} {l:List α}:okP q [] l=true ↔ ∀ (i:Nat) x,l[i]?=some x->q (l.take i) x=true:=
 ⟨fun h _ _ hi=>pK h hi,aH6⟩
theorem aH7 {α:Type} {key:α->Int} {A:α->Bool} {q:List α->α->Bool} {l:List α} (hq:∀ pre x,q pre x=(A x && qB (fun p x=>decide (key p<key x)) pre x)):
  okP q [] l=true ↔ (∀ x,x∈l->A x=true)/\l.Pairwise (fun y x=>key y<key x):=by
 constructor
 ·intro h
  refine ⟨fun x hx=>?_,aBt (fun pre x hh=>?_) h⟩
  ·obtain ⟨i,hi⟩:=List.getElem?_of_mem hx
   have:=pK h hi
   rw [hq,Bool.and_eq_true] at this
   exact this.1
  ·rw [hq,Bool.and_eq_true] at hh;exact hh.2
 ·rintro ⟨h1,h2⟩
  refine aH6 fun i x hx=>?_
  rw [hq,h1 x (List.mem_of_getElem? hx),Bool.true_and]
  cases i with
  |zero=>exact rU _ _ _
  |succ j=>
   have hy:=List.getElem?_eq_getElem (show j<l.length by have:=(List.getElem?_eq_some_iff.1 hx).1;omega)
   rw [rV _ hy]
   exact decide_eq_true (aMt h2 (Nat.lt_succ_self j) hy hx)
theorem aNG {α:Type} {q q1 q2:List α->α->Bool} {l:List α} (hq:∀ pre x,q pre x=(q1 pre x && q2 pre x)):okP q [] l=true ↔ okP q1 [] l=true/\okP q2 [] l=true:=by
 simp only [aH8,hq,Bool.and_eq_true]
 exact ⟨fun h=>⟨fun i x hx=>(h i x hx).1,fun i x hx=>(h i x hx).2⟩,fun h i x hx=>⟨h.1 i x hx,h.2 i x hx⟩⟩
theorem aNF {α:Type} {r:α->α->Bool} {l:List α}:okP (fun pre x=>!(pre.any fun p=>r p x)) [] l=true ↔ l.Pairwise (fun y x=>r y x=false):=by
 rw [<-aU0,aH8]
 simp only [Bool.not_eq_true',List.any_eq_false,Bool.not_eq_true]
theorem aTf {α:Type} {A:α->Bool} {l:List α}:okP (fun _ x=>A x) [] l=true ↔ ∀ x,x∈l->A x=true:=by
 rw [aH8]
 exact ⟨fun h x hx=>by obtain ⟨i,hi⟩:=List.getElem?_of_mem hx;exact h i x hi,fun h i x hx=>h x (List.mem_of_getElem? hx)⟩
theorem fN (f:bQ):bX f=true ↔ f.aG.length<=120/\(∀ t,t∈f.aG->gI t=true/\(t.cE=0\/cN f t.cE=true))/\f.aG.Pairwise (fun y x=>y.bZ<x.bZ):=by
 unfold bX
 rw [Bool.and_eq_true,decide_eq_true_iff,aH7 (key:=aR.bZ) (A:=fun t=>gI t && (decide (t.cE=0) || cN f t.cE))]
 ·simp only [Bool.and_eq_true,Bool.or_eq_true,decide_eq_true_eq]
 ·intro pre x
  unfold aCh
  rw [Bool.and_assoc,Bool.and_comm (qB _ _ _),<-Bool.and_assoc]
theorem pX (b:eO):fR b=true ↔ b.aP.length<=150/\(∀ t,t∈b.aP->uV t=true)/\b.aP.Pairwise (fun y x=>y.bZ<x.bZ):=by
 unfold fR
 rw [Bool.and_eq_true,decide_eq_true_iff,aH7 (key:=aT.bZ) (A:=uV)]
 intro pre x;rfl
theorem xE (q:fJ):iS q=true ↔ q.cF.length<=120/\(∀ t,t∈q.cF->aIf t=true)/\q.cF.Pairwise (fun y x=>y.aH≠x.aH):=by
 unfold iS
 rw [Bool.and_eq_true,decide_eq_true_iff,aNG (q:=aIe) (q1:=fun _ x=>aIf x) (q2:=fun pre x=>!(pre.any fun t=>t.aH==x.aH)) (fun _ _=>rfl),aTf,aNF (r:=fun (t x:iY)=>t.aH==x.aH)]
 simp only [beq_eq_false_iff_ne]
theorem aNB (b:eO) (l:List cO):okP (aCr b) [] l=true ↔ (∀ o,o∈l->gQ b o.eJ=true/\fA o.aH=true)/\l.Pairwise (fun y x=>y.eJ<x.eJ)/\l.Pairwise (fun y x=>y.aH≠x.aH):=by
 rw [aNG (q1:=fun pre x=>(gQ b x.eJ && fA x.aH) && qB (fun p x=>decide (p.eJ<x.eJ)) pre x) (q2:=fun pre x=>!(pre.any fun t=>t.aH==x.aH)),
  aH7 (key:=cO.eJ) (A:=fun x=>gQ b x.eJ && fA x.aH) (fun _ _=>rfl),aNF (r:=fun (t x:cO)=>t.aH==x.aH)]
 ·simp only [beq_eq_false_iff_ne,Bool.and_eq_true,and_assoc]
 ·intro pre x
  unfold aCr
  simp only [Bool.and_assoc]
  rw [Bool.and_left_comm,Bool.and_left_comm (qB _ _ _)]
structure WOk (w:aS) (ls:List aT):Prop where
 now:0<=w.cT/\w.cT<=1000000000
 next:1<=w.bJ/\w.bJ<=1000000000
 lost:0<=w.fL/\w.fL<=1000000000
 fo:bX w.aE=true
 bo:fR w.bA=true
 fa:oV w.bT=true
 qu:iS w.bO=true
 bt:∀ t,t∈w.aE.aG->t.bZ<w.bJ
 bl:∀ l,l∈w.bA.aP->l.bZ<w.bJ
 oi:w.bI.Pairwise (fun y x=>y.eJ<x.eJ)
 ol:∀ o,o∈w.bI->(ls.any fun l=>decide (l.bZ=o.eJ))=false->gQ w.bA o.eJ=true
 on:∀ o,o∈w.bI->fA o.aH=true
 od:w.bI.Pairwise (fun y x=>y.aH≠x.aH)
 len:w.bI.length<=1048576
theorem cZ (w:aS):fH w=true ↔ WOk w []:=by
 unfold fH
 simp only [Bool.and_eq_true,pD,aFh,List.all_eq_true,decide_eq_true_eq]
 constructor
 ·rintro ⟨⟨⟨⟨⟨⟨⟨⟨⟨h1,h2⟩,h3⟩,h4⟩,h5⟩,h6⟩,h7⟩,h8⟩,h9⟩,h0⟩
  have hl:=aGO h5 h0
  obtain ⟨h10,h11,h12⟩:=(aNB _ _).1 h0
  have hb:w.bA.aP.length<=150:=((pX _).1 h5).1
  exact ⟨cD h1,cD h2,cD h3,h4,h5,h6,h7,h8,h9,h11,fun o ho _=>(h10 o ho).1,fun o ho=>(h10 o ho).2,h12,by omega⟩
 ·rintro ⟨h1,h2,h3,h4,h5,h6,h7,h8,h9,h11,h10,h13,h12,-⟩
  exact ⟨⟨⟨⟨⟨⟨⟨⟨⟨rL h1.1 h1.2,rL h2.1 h2.2⟩,rL h3.1 h3.2⟩,h4⟩,h5⟩,h6⟩,h7⟩,h8⟩,h9⟩,(aNB _ _).2 ⟨fun o ho=>⟨h10 o ho rfl,h13 o ho⟩,h11,h12⟩⟩
theorem aBu {s:List UInt8} (h:fA s=true):s.length<=12:=by
 unfold fA at h
 simp only [Bool.and_eq_true,decide_eq_true_eq] at h
 exact h.1.2
def lB (us:List dD) (ow:List cO) (js:List iY):Nat:=(us.filter fun u=>!kU ow js u.aH).length
theorem aNb {α:Type} {p q r:α->Bool} {l:List α} (h:∀ u,u∈l->p u=true->q u=true\/r u=true):(l.filter p).length<=(l.filter q).length+(l.filter r).length:=by
 induction l with
 |nil=>simp
 |cons a t ih=>
  have ih:=ih fun u hu=>h u (List.mem_cons_of_mem _ hu)
  have ha:=h a (List.mem_cons_self ..)
  simp only [List.filter_cons]
  cases hp:p a<;>cases hq:q a<;>cases hr:r a<;>simp_all<;>omega
theorem aVg {α:Type} {key:α->List UInt8} {l:List α} (h:l.Pairwise (fun y x=>key y≠key x)) (s:List UInt8):(l.filter fun u=>key u==s).length<=1:=by
 induction l with
 |nil=>simp
 |cons a t ih=>
  rw [List.pairwise_cons] at h
  simp only [List.filter_cons]
  split
  ·rename_i ha
   have:t.filter (fun u=>key u==s)=[]:=by
    rw [List.filter_eq_nil_iff]
    intro x hx e
    exact h.1 x hx (by rw [eq_of_beq ha,eq_of_beq e])
   rw [this];simp
  ·exact ih h.2
theorem aA9 {us us':List dD} {ow ow':List cO} {js js':List iY} (p:dD->Bool) (hu:us'=us.filter p) (h:∀ u,u∈us'->kU ow js u.aH=true->kU ow' js' u.aH=true):lB us' ow' js'<=lB us ow js:=by
 unfold lB
 have:=aNb (p:=fun u=>!kU ow' js' u.aH) (q:=fun u=>!kU ow js u.aH) (r:=fun _=>false) (l:=us') fun u hu hp=>by
  left
  cases hk:kU ow js u.aH with
  |false=>rfl
  |true=>rw [h u hu hk] at hp;cases hp
 have e0:(us'.filter fun _=>false).length=0:=by rw [List.length_eq_zero_iff,List.filter_eq_nil_iff];simp
 have e1:(us'.filter fun u=>!kU ow js u.aH).length<=(us.filter fun u=>!kU ow js u.aH).length:=by
  rw [hu,List.filter_filter]
  have:=aNb (p:=fun u=>(!kU ow js u.aH) && p u) (q:=fun u=>!kU ow js u.aH) (r:=fun _=>false) (l:=us) fun u _ hp=>by
   rw [Bool.and_eq_true] at hp;exact .inl hp.1
  have e0:(us.filter fun _=>false).length=0:=by rw [List.length_eq_zero_iff,List.filter_eq_nil_iff];simp
  omega
 omega
theorem aGy {us:List dD} {ow ow':List cO} {js js':List iY} (hd:us.Pairwise (fun y x=>y.aH≠x.aH)) (s:List UInt8) (h:∀ u,u∈us->u.aH≠s->kU ow js u.aH=true->kU ow' js' u.aH=true):lB us ow' js'<=lB us ow js+1:=by
 unfold lB
 have h1:=aVg (key:=dD.aH) hd s
 have:=aNb (p:=fun u=>!kU ow' js' u.aH) (q:=fun u=>!kU ow js u.aH) (r:=fun u=>u.aH==s) (l:=us) fun u hu hp=>by
  by_cases hs:u.aH=s
  ·right;rw [hs];simp
  ·left
   cases hk:kU ow js u.aH with
   |false=>rfl
   |true=>rw [h u hu hs hk] at hp;cases hp
 omega
theorem oT {ow:List cO} {js:List iY} {s:List UInt8}:kU ow js s=true ↔ (∃ o,o∈ow/\o.aH=s)\/∃ j,j∈js/\j.aH=s:=by
 unfold kU
 simp only [Bool.or_eq_true,List.any_eq_true,beq_iff_eq]
theorem aNM {w:aS} {n:Int} {k:Nat} (h:(k:Int)<=w.fL+n) (hk:k<=120):(k:Int)<=(qI w n).fL:=by
 unfold qI;dsimp only;split<;>omega
theorem aGz (us:List dD) (ow:List cO) (js:List iY):lB us ow js<=us.length:=List.length_filter_le _ _
theorem uU (w:aS) (id:Int) (os:List cO):(gP w id os).1={ w with bO:=(gP w id os).1.bO,fL:=(gP w id os).1.fL }/\(gP w id os).2=os.filter fun o=>!decide (o.eJ=id):=by
 induction os using lV with
 |h0=>exact ⟨rfl,rfl⟩
 |h1 l x ih=>
  rw [uT,List.filter_append]
  generalize gP w id l=s at ih ⊢
  obtain ⟨V,r⟩:=s
  obtain ⟨i1,i2⟩:=ih
  dsimp only at i1 i2
  unfold nR
  split
  ·rename_i h
   refine ⟨?_,?_⟩
   ·dsimp only
    unfold zA qI
    rw [i1]
    split<;>rfl
   ·simp [h,i2]
  ·rename_i h
   refine ⟨i1,?_⟩
   simp [h,i2]
theorem pT (w:aS) (ls:List aT):bC w ls={ w with bO:=(bC w ls).bO,fL:=(bC w ls).fL,bI:=w.bI.filter fun o=>!(ls.any fun l=>decide (l.bZ=o.eJ)) }:=by
 unfold bC
 induction ls generalizing w with
 |nil=>
  show w=_
  have:w.bI.filter (fun o=>!(([]:List aT).any fun l=>decide (l.bZ=o.eJ)))=w.bI:=by rw [List.filter_eq_self];intro x _;rfl
  dsimp only [List.foldl_nil]
  rw [this]
 |cons l r ih=>
  rw [List.foldl_cons]
  have h1:=ih (kF w l)
  obtain ⟨h2,h3⟩:=uU w l.bZ w.bI
  have e1:kF w l={ w with bO:=(kF w l).bO,fL:=(kF w l).fL,bI:=w.bI.filter fun o=>!decide (o.eJ=l.bZ) }:=by
   unfold kF;rw [h3];rw [h2]
  generalize List.foldl kF (kF w l) r=Z at *
  rw [h1,e1]
  dsimp only
  rw [List.filter_filter]
  congr 1
  refine List.filter_congr fun o _=>?_
  rw [List.any_cons,Bool.not_or,Bool.and_comm]
  congr 2
  exact decide_eq_decide.2 eq_comm
theorem aEw {q:fJ} {s:List UInt8} {now:Int}:(wF q s now=true->∃ j,j∈(lF q s now).cF/\j.aH=s)/\(∀ j,j∈q.cF->j∈(lF q s now).cF)/\∀ j,j∈(lF q s now).cF->j∈q.cF\/j.aH=s:=by
 unfold wF lF
 cases hh:aKU q s with
 |true=>
  refine ⟨fun _=>?_,fun j hj=>hj,fun j hj=>.inl hj⟩
  unfold aKU at hh
  obtain ⟨j,hj,e⟩:=List.any_eq_true.1 hh
  exact ⟨j,hj,eq_of_beq e⟩
 |false=>
  cases hq:iS (kJ q s now) with
  |true=>
   simp only [Bool.false_eq_true,if_false,if_true]
   unfold kJ
   dsimp only
   refine ⟨fun _=>⟨⟨s,now,0⟩,by simp,rfl⟩,fun j hj=>by simp [hj],fun j hj=>?_⟩
   rcases List.mem_append.1 hj with hj|hj
   ·exact .inl hj
   ·simp at hj;subst hj;exact .inr rfl
  |false=>
   simp only [Bool.false_eq_true,if_false]
   exact ⟨fun h=>(by cases h),fun j hj=>hj,fun j hj=>.inl hj⟩
theorem aK8 {us:List dD} (hd:us.Pairwise (fun y x=>y.aH≠x.aH)) (hu:us.length<=120) (id:Int):∀ (os:List cO) (s:aS×List cO),(lB us (s.2++os) s.1.bO.cF:Int)<=s.1.fL →
  (lB us (os.foldl (nR id) s).2 (os.foldl (nR id) s).1.bO.cF:Int)<=(os.foldl (nR id) s).1.fL:=by
 intro os
 induction os with
 |nil=>intro s h;rw [List.append_nil] at h;exact h
 |cons o os ih=>
  intro s h
  rw [List.foldl_cons]
  refine ih _ ?_
  obtain ⟨V,r⟩:=s
  dsimp only at h
  obtain ⟨k1,k2,k3⟩:=aEw (q:=V.bO) (s:=o.aH) (now:=V.cT)
  unfold nR
  split
  ·dsimp only
   unfold zA
   split
   ·rename_i hb
    have:=aA9 (us:=us) (us':=us) (ow:=r++o::os) (js:=V.bO.cF) (ow':=r++os) (js':=(lF V.bO o.aH V.cT).cF) (fun _=>true) (List.filter_eq_self.2 fun _ _=>rfl).symm fun u _ hk=>by
     rw [oT] at hk ⊢
     rcases hk with ⟨x,hx,e⟩|⟨j,hj,e⟩
     ·rcases List.mem_append.1 hx with hx|hx
      ·exact .inl ⟨x,by simp [hx],e⟩
      ·rcases List.mem_cons.1 hx with rfl|hx
       ·obtain ⟨j,hj,e2⟩:=k1 hb;exact .inr ⟨j,hj,by rw [e2,e]⟩
       ·exact .inl ⟨x,by simp [hx],e⟩
     ·exact .inr ⟨j,k2 j hj,e⟩
    dsimp only
    omega
   ·have:=aGy (ow:=r++o::os) (js:=V.bO.cF) (ow':=r++os) (js':=(lF V.bO o.aH V.cT).cF) hd o.aH fun u _ hn hk=>by
     rw [oT] at hk ⊢
     rcases hk with ⟨x,hx,e⟩|⟨j,hj,e⟩
     ·rcases List.mem_append.1 hx with hx|hx
      ·exact .inl ⟨x,by simp [hx],e⟩
      ·rcases List.mem_cons.1 hx with rfl|hx
       ·exact absurd e.symm hn
       ·exact .inl ⟨x,by simp [hx],e⟩
     ·exact .inr ⟨j,k2 j hj,e⟩
    refine aNM ?_ (Nat.le_trans (aGz _ _ _) hu)
    dsimp only [qI]
    omega
  ·dsimp only
   rw [List.append_assoc];exact h
theorem aMJ {w:aS} (ls:List aT) (hd:w.bT.bE.Pairwise (fun y x=>y.aH≠x.aH)) (hu:w.bT.bE.length<=120) (h:(lB w.bT.bE w.bI w.bO.cF:Int)<=w.fL):
  (lB w.bT.bE (bC w ls).bI (bC w ls).bO.cF:Int)<=(bC w ls).fL:=by
 unfold bC
 induction ls generalizing w with
 |nil=>exact h
 |cons l r ih=>
  rw [List.foldl_cons]
  have e:(kF w l).bT=w.bT:=by unfold kF;rw [(uU w l.bZ w.bI).1]
  have:=ih (w:=kF w l) (by rw [e];exact hd) (by rw [e];exact hu) (by
   rw [e]
   exact aK8 hd hu l.bZ w.bI (w,[]) h)
  rwa [e] at this
theorem aUR (now:Int) (ow:List cO) (n:Int):∀ (js:List iY) (s:RQ),s.far.bE.Pairwise (fun y x=>y.aH≠x.aH)->(lB s.far.bE ow (s.jobs++js):Int)<=n+s.failed.length →
  (lB (js.foldl (lX now) s).far.bE ow (js.foldl (lX now) s).jobs:Int)<=n+(js.foldl (lX now) s).failed.length:=by
 intro js
 induction js with
 |nil=>intro s _ h;rw [List.append_nil] at h;exact h
 |cons j js ih=>
  intro s hd h
  rw [List.foldl_cons]
  have hdrop:tS s.far=0->lR s.far j.aH={ s.far with bE:=s.far.bE.filter fun u=>!(u.aH==j.aH) }:=fun h=>by
   unfold tS at h;unfold lR;split at h
   ·cases h
   ·rw [if_neg (by assumption)]
  have hkeep:¬tS s.far=0->(lR s.far j.aH).bE=s.far.bE:=fun h=>by
   unfold tS at h;unfold lR;split at h
   ·rw [if_pos (by assumption)]
   ·exact absurd rfl h
  unfold lX
  split
  ·refine ih _ hd ?_
   dsimp only
   rw [List.append_assoc];exact h
  ·split
   ·rename_i h0
    have:=aA9 (us:=s.far.bE) (us':=(lR s.far j.aH).bE) (ow:=ow) (js:=s.jobs++j::js) (ow':=ow) (js':=s.jobs++js) (fun u=>!(u.aH==j.aH)) (by rw [hdrop h0]) fun u hu hk=>by
     rw [oT] at hk ⊢
     rw [hdrop h0] at hu
     have hn:=(List.mem_filter.1 hu).2
     rcases hk with hk|⟨x,hx,e⟩
     ·exact .inl hk
     ·rcases List.mem_append.1 hx with hx|hx
      ·exact .inr ⟨x,by simp [hx],e⟩
      ·rcases List.mem_cons.1 hx with rfl|hx
       ·rw [e] at hn;simp at hn
       ·exact .inr ⟨x,by simp [hx],e⟩
    refine ih _ ?_ ?_
    ·dsimp only;rw [hdrop h0];exact hd.filter _
    ·dsimp only;omega
   ·rename_i h0
    split
    ·have:=aGy (us:=s.far.bE) (ow:=ow) (js:=s.jobs++j::js) (ow':=ow) (js':=s.jobs++js) hd j.aH fun u _ hn hk=>by
      rw [oT] at hk ⊢
      rcases hk with hk|⟨x,hx,e⟩
      ·exact .inl hk
      ·rcases List.mem_append.1 hx with hx|hx
       ·exact .inr ⟨x,by simp [hx],e⟩
       ·rcases List.mem_cons.1 hx with rfl|hx
        ·exact absurd e.symm hn
        ·exact .inr ⟨x,by simp [hx],e⟩
     refine ih _ ?_ ?_
     ·dsimp only;rw [hkeep h0];exact hd
     ·dsimp only;rw [hkeep h0];simp only [List.length_append,List.length_cons,List.length_nil];omega
    ·refine ih _ ?_ ?_
     ·dsimp only;rw [hkeep h0];exact hd
     ·dsimp only
      rw [hkeep h0]
      have:=aA9 (us:=s.far.bE) (us':=s.far.bE) (ow:=ow) (js:=s.jobs++j::js) (ow':=ow) (js':=s.jobs++[⟨j.aH,now+2 ^ (j.jR+1).toNat,j.jR+1⟩]++js) (fun _=>true) (List.filter_eq_self.2 fun _ _=>rfl).symm fun u _ hk=>by
       rw [oT] at hk ⊢
       rcases hk with hk|⟨x,hx,e⟩
       ·exact .inl hk
       ·rcases List.mem_append.1 hx with hx|hx
        ·exact .inr ⟨x,by simp [hx],e⟩
        ·rcases List.mem_cons.1 hx with rfl|hx
         ·exact .inr ⟨⟨x.aH,now+2 ^ (x.jR+1).toNat,x.jR+1⟩,by simp,e⟩
         ·exact .inr ⟨x,by simp [hx],e⟩
      omega
theorem aTA {x lo hi:Int}:inB x lo hi=true ↔ lo<=x/\x<=hi:=⟨cD,fun h=>rL h.1 h.2⟩
theorem aNw {now:Int} (hn:0<=now/\now<=1000000000):∀ (js:List iY) (s:RQ),(∀ j,j∈s.jobs++js->aIf j=true)->(s.jobs++js).Pairwise (fun y x=>y.aH≠x.aH) →
  (∀ j,j∈(js.foldl (lX now) s).jobs->aIf j=true/\∃ i,i∈s.jobs++js/\i.aH=j.aH)/\(js.foldl (lX now) s).jobs.Pairwise (fun y x=>y.aH≠x.aH):=by
 intro js
 induction js with
 |nil=>
  intro s h1 h2
  rw [List.append_nil] at h1 h2
  refine ⟨fun j hj=>⟨h1 j hj,j,?_,rfl⟩,h2⟩
  rw [List.append_nil];exact hj
 |cons j js ih=>
  intro s h1 h2
  rw [List.foldl_cons]
  have hdel:(s.jobs++js).Pairwise (fun y x=>y.aH≠x.aH):=by
   refine List.Pairwise.sublist ?_ h2
   exact List.Sublist.append (List.Sublist.refl _) (List.sublist_cons_self _ _)
  have hdel1:∀ x,x∈s.jobs++js->x∈s.jobs++j::js:=fun x hx=>by
   rcases List.mem_append.1 hx with hx|hx
   ·simp [hx]
   ·simp [hx]
  unfold lX
  split
  ·have:=ih { s with jobs:=s.jobs++[j] } (by dsimp only;rw [List.append_assoc];exact h1) (by dsimp only;rw [List.append_assoc];exact h2)
   dsimp only at this
   rw [List.append_assoc] at this
   exact this
  ·split
   ·have:=ih { s with far:=lR s.far j.aH,done:=s.done++[j.aH] } (fun x hx=>h1 x (hdel1 x hx)) hdel
    exact ⟨fun x hx=>⟨(this.1 x hx).1,by obtain ⟨i,hi,e⟩:=(this.1 x hx).2;exact ⟨i,hdel1 i hi,e⟩⟩,this.2⟩
   ·split
    ·have:=ih { s with far:=lR s.far j.aH,failed:=s.failed++[j.aH] } (fun x hx=>h1 x (hdel1 x hx)) hdel
     exact ⟨fun x hx=>⟨(this.1 x hx).1,by obtain ⟨i,hi,e⟩:=(this.1 x hx).2;exact ⟨i,hdel1 i hi,e⟩⟩,this.2⟩
    ·rename_i h6
     have hj:=h1 j (by simp)
     have hnew:aIf ⟨j.aH,now+2 ^ (j.jR+1).toNat,j.jR+1⟩=true:=by
      unfold aIf at hj ⊢
      simp only [Bool.and_eq_true,aTA] at hj ⊢
      obtain ⟨⟨a,b⟩,c⟩:=hj
      have hp:∃ k:Nat,k<=5/\(j.jR+1).toNat=k:=⟨_,by omega,rfl⟩
      obtain ⟨k,hk,e⟩:=hp
      rw [e]
      have h64:(2:Int) ^ k<=64/\0<=(2:Int) ^ k:=by
       match k,hk with
       |0,_=>decide
       |1,_=>decide
       |2,_=>decide
       |3,_=>decide
       |4,_=>decide
       |5,_=>decide
      exact ⟨⟨a,by omega,by omega⟩,by omega,by omega⟩
     have:=ih { s with jobs:=s.jobs++[⟨j.aH,now+2 ^ (j.jR+1).toNat,j.jR+1⟩],far:=lR s.far j.aH } (fun x hx=>by
      dsimp only at hx
      rw [List.append_assoc] at hx
      rcases List.mem_append.1 hx with hx|hx
      ·exact h1 x (by simp [hx])
      ·rcases List.mem_cons.1 hx with rfl|hx
       ·exact hnew
       ·exact h1 x (by have hx:x∈js:=hx;simp [hx])) (by
      dsimp only
      rw [List.append_assoc,List.singleton_append]
      rw [List.pairwise_append,List.pairwise_cons] at h2 ⊢
      refine ⟨h2.1,⟨fun a ha=>h2.2.1.1 a ha,h2.2.1.2⟩,fun a ha b hb=>?_⟩
      rcases List.mem_cons.1 hb with rfl|hb
      ·exact h2.2.2 a ha j (by simp)
      ·exact h2.2.2 a ha b (List.mem_cons_of_mem _ hb))
     refine ⟨fun x hx=>⟨(this.1 x hx).1,?_⟩,this.2⟩
     obtain ⟨i,hi,e⟩:=(this.1 x hx).2
     dsimp only at hi
     rw [List.append_assoc] at hi
     rcases List.mem_append.1 hi with hi|hi
     ·exact ⟨i,by simp [hi],e⟩
     ·rcases List.mem_cons.1 hi with rfl|hi
      ·exact ⟨j,by simp,e⟩
      ·exact ⟨i,by have hi:i∈js:=hi;simp [hi],e⟩
theorem aRM (f:jZ) (s:List UInt8):(lR f s).bF=f.bF/\∀ u,u∈(lR f s).bE->u∈f.bE:=by
 unfold lR
 split
 ·exact ⟨rfl,fun u hu=>hu⟩
 ·exact ⟨rfl,fun u hu=>(List.mem_filter.1 hu).1⟩
theorem aHP (now:Int) (q:List iY) (f:jZ):(rq now q f).far.bF=f.bF/\∀ u,u∈(rq now q f).far.bE->u∈f.bE:=by
 induction q using lV with
 |h0=>exact ⟨rfl,fun u hu=>hu⟩
 |h1 l x ih=>
  have e:rq now (l++[x]) f=lX now (rq now l f) x:=by unfold rq;rw [List.foldl_append];rfl
  have hd:=aRM (rq now l f).far x.aH
  rw [e]
  unfold lX
  repeat' split
  ·exact ih
  all_goals exact ⟨hd.1.trans ih.1,fun u hu=>ih.2 u (hd.2 u hu)⟩
theorem aN1 {q:fJ} (h:iS q=true):aF2 q:=by
 obtain ⟨h1,h2,-⟩:=(xE q).1 h
 refine ⟨by omega,fun t ht=>?_⟩
 have:=h2 t ht
 unfold aIf at this
 simp only [Bool.and_eq_true] at this
 have:=aBu this.1.1
 omega
theorem aCD {f:jZ} (h:oV f=true):rQ f:=by
 obtain ⟨h1,-,-,h2,-⟩:=(mJ f).1 h
 refine ⟨by omega,fun t ht=>?_⟩
 have:=aBu (h2 t ht)
 omega
theorem aS5 {s:List UInt8} (h:gO s=true):s.length<=120:=by
 unfold gO mP at h
 simp only [Bool.and_eq_true,decide_eq_true_eq] at h
 exact h.1.1
theorem aTH {b:eO} (h:fR b=true):aE8 b:=by
 obtain ⟨h1,h2,-⟩:=(pX b).1 h
 refine ⟨by omega,fun t ht=>?_⟩
 have:=h2 t ht
 unfold uV at this
 simp only [Bool.and_eq_true] at this
 have:=aS5 this.1.1.1.2
 omega
theorem aTG {f:bQ} (h:bX f=true):uZ f:=by
 obtain ⟨h1,h2,-⟩:=(fN f).1 h
 refine ⟨by omega,fun t ht=>?_⟩
 have:=(h2 t ht).1
 unfold gI lG at this
 simp only [Bool.and_eq_true,decide_eq_true_eq] at this
 obtain ⟨⟨⟨⟨⟨⟨a,b⟩,c,d⟩,e⟩,f⟩,g⟩,i⟩:=this
 refine ⟨by omega,fun s hs=>?_⟩
 obtain ⟨i,hi⟩:=List.getElem?_of_mem hs
 have:=pK d hi
 unfold aC8 at this
 rw [Bool.and_eq_true] at this
 have:=aBu this.1
 omega
theorem aNP {w:aS} {ls:List aT} (h:WOk w ls):qL w:=
 ⟨h.now,h.lost,h.qu,aN1 h.qu,h.fa,aCD h.fa,h.len,fun o ho=>by have:=aBu (h.on o ho);omega⟩
theorem gR {w:aS} (h:fH w=true):aE6 w:=by
 have h:=(cZ w).1 h
 exact ⟨aTG h.fo,aTH h.bo,aCD h.fa,aN1 h.qu,h.len,fun o ho=>by have:=aBu (h.on o ho);omega⟩
theorem aQ6 {w:aS} {ls:List aT} (h:WOk w ls):WOk (jG w ls) []:=by
 have hA:=pT w ls
 have hL:=xG (aNP h) ls
 have hr1:=aMl (now:=(bC w ls).cT) hL.fb hL.ff (bC w ls).bO.cF
 have hq:=(xE _).1 hL.qb
 have hr2:=aNw hL.now (bC w ls).bO.cF ⟨[],(bC w ls).bT,[],[]⟩ hq.2.1 hq.2.2
 have hr3:=(aMk (bC w ls).cT (bC w ls).bO.cF (bC w ls).bT).1
 have hlo:=hL.lost
 have hgo:jG w ls=qI { bC w ls with bO:=⟨(jP (bC w ls)).jobs⟩,bT:=(jP (bC w ls)).far } (jP (bC w ls)).failed.length:=rfl
 have hru:jP (bC w ls)=rq (bC w ls).cT (bC w ls).bO.cF (bC w ls).bT:=rfl
 have hrq:rq (bC w ls).cT (bC w ls).bO.cF (bC w ls).bT=(bC w ls).bO.cF.foldl (lX (bC w ls).cT) ⟨[],(bC w ls).bT,[],[]⟩:=rfl
 rw [<-hrq] at hr2
 rw [<-hru] at hr1 hr2 hr3
 generalize jP (bC w ls)=R at *
 have e1:(bC w ls).cT=w.cT:=by rw [hA]
 have e2:(bC w ls).bJ=w.bJ:=by rw [hA]
 have e3:(bC w ls).aE=w.aE:=by rw [hA]
 have e4:(bC w ls).bA=w.bA:=by rw [hA]
 have e5:(bC w ls).bI=w.bI.filter fun o=>!(ls.any fun l=>decide (l.bZ=o.eJ)):=by rw [hA]
 rw [hgo]
 unfold qI
 generalize bC w ls=Z at *
 obtain ⟨h1,h2,h3,h4,h5,h6,h7,h8,h9,h10,h11,h12,h13,h14⟩:=h
 refine ⟨?_,?_,?_,?_,?_,hr1.1,(xE _).2 ⟨?_,fun j hj=>(hr2.1 j hj).1,hr2.2⟩,?_,?_,?_,?_,?_,?_,?_⟩
 ·dsimp only;rw [e1];exact h1
 ·dsimp only;rw [e2];exact h2
 ·dsimp only;split<;>omega
 ·dsimp only;rw [e3];exact h4
 ·dsimp only;rw [e4];exact h5
 ·dsimp only;omega
 ·dsimp only;rw [e2,e3];exact h8
 ·dsimp only;rw [e2,e4];exact h9
 ·dsimp only;rw [e5];exact h10.filter _
 ·dsimp only;rw [e4,e5];intro o ho _
  obtain ⟨a,b⟩:=List.mem_filter.1 ho
  exact h11 o a (by simpa using b)
 ·dsimp only;rw [e5];exact fun o ho=>h12 o (List.mem_filter.1 ho).1
 ·dsimp only;rw [e5];exact h13.filter _
 ·dsimp only;rw [e5];exact Nat.le_trans (List.length_filter_le _ _) h14
theorem aRI {f:jZ} (h:oV f=true):f.bE.Pairwise (fun y x=>y.aH≠x.aH):=by
 refine List.Pairwise.imp ?_ (aN3 h)
 intro a b hab e
 rw [e,aHk] at hab;cases hab
theorem aO4 {w:aS} {ls:List aT} (h:WOk w ls) (hs:(lB w.bT.bE w.bI w.bO.cF:Int)<=w.fL):(lB (jG w ls).bT.bE (jG w ls).bI (jG w ls).bO.cF:Int)<=(jG w ls).fL:=by
 have hd:=aRI h.fa
 have hu:=((mJ _).1 h.fa).1
 have h1:=aMJ ls hd hu hs
 have hA:(bC w ls).bT=w.bT:=by rw [pT w ls]
 have h2:=aUR (bC w ls).cT (bC w ls).bI (bC w ls).fL (bC w ls).bO.cF ⟨[],(bC w ls).bT,[],[]⟩ (by dsimp only;rw [hA];exact hd) (by dsimp only;rw [hA];simpa using h1)
 have hm:=(aHP (bC w ls).cT (bC w ls).bO.cF (bC w ls).bT).2
 have hlen:=aMl (now:=(bC w ls).cT) (f:=(bC w ls).bT) (by rw [hA];exact h.fa) (by rw [hA];exact aCD h.fa) (bC w ls).bO.cF
 have hl:=((mJ _).1 hlen.1).1
 refine aNM ?_ ?_
 ·exact h2
 ·exact Nat.le_trans (aGz _ _ _) hl
def aCv (w:aS) (s:List UInt8):Prop:=(∃ u,u∈w.bT.bE/\u.aH=s)\/(∃ o,o∈w.bI/\o.aH=s)\/∃ j,j∈w.bO.cF/\j.aH=s
def NI (w:aS):Prop:=∀ s,aCv w s->∃ (p:List UInt8) (k:Nat),s=p++six k/\1<=k/\(k:Int)<=w.bT.bF
theorem aMI (w:aS) (id:Int) (os:List cO):∀ j,j∈(gP w id os).1.bO.cF->(∃ i,i∈w.bO.cF/\i.aH=j.aH)\/∃ o,o∈os/\o.aH=j.aH:=by
 induction os using lV with
 |h0=>exact fun j hj=>.inl ⟨j,hj,rfl⟩
 |h1 l x ih=>
  rw [uT]
  generalize gP w id l=s at ih ⊢
  obtain ⟨V,r⟩:=s
  dsimp only at ih
  have hmono:∀ j:iY,(∃ i,i∈w.bO.cF/\i.aH=j.aH)\/(∃ o,o∈l/\o.aH=j.aH)->(∃ i,i∈w.bO.cF/\i.aH=j.aH)\/∃ o,o∈l++[x]/\o.aH=j.aH:=fun j hj=>by
   rcases hj with hj|⟨o,ho,e⟩
   ·exact .inl hj
   ·exact .inr ⟨o,by simp [ho],e⟩
  have hq:=(aEw (q:=V.bO) (s:=x.aH) (now:=V.cT)).2.2
  have hlast:∀ j,j∈(lF V.bO x.aH V.cT).cF->(∃ i,i∈w.bO.cF/\i.aH=j.aH)\/∃ o,o∈l++[x]/\o.aH=j.aH:=fun j hj=>by
   rcases hq j hj with hj|e
   ·exact hmono j (ih j hj)
   ·exact .inr ⟨x,by simp,e.symm⟩
  unfold nR
  split
  ·dsimp only
   unfold zA
   split
   ·exact hlast
   ·exact hlast
  ·exact fun j hj=>hmono j (ih j hj)
theorem aO3 (w:aS) (l:aT):∀ s,aCv (kF w l) s->aCv w s:=by
 obtain ⟨h1,h2⟩:=uU w l.bZ w.bI
 have hf:(kF w l).bT=w.bT:=by unfold kF;rw [h1]
 have ho:(kF w l).bI=w.bI.filter fun o=>!decide (o.eJ=l.bZ):=by unfold kF;rw [h2]
 have hq:=aMI w l.bZ w.bI
 rintro s (⟨u,hu,e⟩|⟨o,hoo,e⟩|⟨j,hj,e⟩)
 ·rw [hf] at hu;exact .inl ⟨u,hu,e⟩
 ·rw [ho] at hoo;exact .inr (.inl ⟨o,(List.mem_filter.1 hoo).1,e⟩)
 ·rcases hq j hj with ⟨i,hi,e2⟩|⟨o,ho,e2⟩
  ·exact .inr (.inr ⟨i,hi,e2.trans e⟩)
  ·exact .inr (.inl ⟨o,ho,e2.trans e⟩)
theorem aO5 (w:aS) (ls:List aT):∀ s,aCv (bC w ls) s->aCv w s:=by
 unfold bC
 induction ls generalizing w with
 |nil=>exact fun s h=>h
 |cons l r ih=>exact fun s h=>aO3 w l s (ih (kF w l) s h)
theorem aQ7 {w:aS} {ls:List aT} (h:WOk w ls) (hn:NI w):NI (jG w ls)/\(jG w ls).bT.bF=w.bT.bF:=by
 have hL:=xG (aNP h) ls
 have hA:(bC w ls).bT=w.bT:=by rw [pT w ls]
 have hm:=aHP (bC w ls).cT (bC w ls).bO.cF (bC w ls).bT
 have hq:=(xE _).1 hL.qb
 have hr2:=(aNw hL.now (bC w ls).bO.cF ⟨[],(bC w ls).bT,[],[]⟩ hq.2.1 hq.2.2).1
 have e1:(jG w ls).bT=(rq (bC w ls).cT (bC w ls).bO.cF (bC w ls).bT).far:=rfl
 have e2:(jG w ls).bO.cF=(rq (bC w ls).cT (bC w ls).bO.cF (bC w ls).bT).jobs:=rfl
 have e3:(jG w ls).bI=(bC w ls).bI:=rfl
 have hmade:(jG w ls).bT.bF=w.bT.bF:=by rw [e1,hm.1,hA]
 refine ⟨fun s hs=>?_,hmade⟩
 rw [hmade]
 refine hn s (aO5 w ls s ?_)
 rcases hs with ⟨u,hu,e⟩|⟨o,ho,e⟩|⟨j,hj,e⟩
 ·rw [e1] at hu;exact .inl ⟨u,hm.2 u hu,e⟩
 ·rw [e3] at ho;exact .inr (.inl ⟨o,ho,e⟩)
 ·rw [e2] at hj
  obtain ⟨i,hi,e3⟩:=(hr2 j hj).2
  exact .inr (.inr ⟨i,hi,e3.trans e⟩)
theorem wR {f:bQ} {G:List Int} {id:Int} (h:cN f id=true) (hg:G.contains id=false):cN (gB f G) id=true:=by
 unfold cN gB at *
 obtain ⟨t,ht,e⟩:=List.any_eq_true.1 h
 refine List.any_eq_true.2 ⟨t,List.mem_filter.2 ⟨ht,?_⟩,e⟩
 rw [of_decide_eq_true e,hg];rfl
theorem aEL {f:bQ} (h:bX f=true) (p:aR->Bool):bX (gB f (wo p f.aG).2)=true:=by
 obtain ⟨h1,h2,h3⟩:=(fN f).1 h
 have hw:=tP h p
 refine (fN _).2 ⟨Nat.le_trans (List.length_filter_le _ _) h1,fun t ht=>?_,h3.filter _⟩
 obtain ⟨a,b⟩:=List.mem_filter.1 ht
 refine ⟨(h2 t a).1,?_⟩
 rcases (h2 t a).2 with e|e
 ·exact .inl e
 ·right
  have hr:=hw.rec_ t a
  have hc:(wo p f.aG).2.contains t.bZ=false:=by simpa using b
  rw [hc] at hr
  refine wR e ?_
  cases hp:(wo p f.aG).2.contains t.cE with
  |false=>rfl
  |true=>rw [hp,Bool.or_true] at hr;cases hr
theorem aDK {b:eO} {id:Int} (p:aT->Bool) (h:gQ b id=true) (hp:∀ l,l∈b.aP->l.bZ=id->p l=true):gQ ⟨b.aP.filter p⟩ id=true:=by
 unfold gQ at *
 obtain ⟨t,ht,e⟩:=List.any_eq_true.1 h
 exact List.any_eq_true.2 ⟨t,List.mem_filter.2 ⟨ht,hp t ht (of_decide_eq_true e)⟩,e⟩
theorem aLQ {b:eO} (p:aT->Bool) (h:fR b=true):fR ⟨b.aP.filter p⟩=true:=by
 obtain ⟨h1,h2,h3⟩:=(pX b).1 h
 exact (pX _).2 ⟨Nat.le_trans (List.length_filter_le _ _) h1,fun t ht=>h2 t (List.mem_filter.1 ht).1,h3.filter _⟩
theorem aTs {w:aS} {now:Int} {f:bQ} {ls:List aT} (p:aT->Bool) (h:WOk w []) (hn:0<=now/\now<=1000000000) (hf:bX f=true) (hft:∀ t,t∈f.aG->t∈w.aE.aG) (hl:∀ l,l∈w.bA.aP->p l=false->l∈ls):
  WOk { w with cT:=now,aE:=f,bA:=⟨w.bA.aP.filter p⟩ } ls:=by
 obtain ⟨h1,h2,h3,h4,h5,h6,h7,h8,h9,h10,h11,h12,h13,h14⟩:=h
 refine ⟨hn,h2,h3,hf,aLQ p h5,h6,h7,fun t ht=>h8 t (hft t ht),fun l hl=>h9 l (List.mem_filter.1 hl).1,h10,fun o ho hno=>?_,h12,h13,h14⟩
 refine aDK p (h11 o ho rfl) fun l hlm hid=>?_
 cases hp:p l with
 |true=>rfl
 |false=>
  rw [List.any_eq_false] at hno
  exact absurd (decide_eq_true hid) (hno l (hl l hlm hp))
structure iG (w:aS):Prop where
 ok:fH w=true
 str:(lB w.bT.bE w.bI w.bO.cF:Int)<=w.fL
 ni:NI w
 ti:∀ l,l∈w.bA.aP->cN w.aE l.cL=true
theorem aMH (w:aS) (ls:List aT):(jG w ls).cT=w.cT/\(jG w ls).bJ=w.bJ/\(jG w ls).aE=w.aE/\(jG w ls).bA=w.bA:=by
 have hA:=pT w ls
 refine ⟨?_,?_,?_,?_⟩
 ·show (bC w ls).cT=_;rw [hA]
 ·show (bC w ls).bJ=_;rw [hA]
 ·show (bC w ls).aE=_;rw [hA]
 ·show (bC w ls).bA=_;rw [hA]
theorem zC {w:aS} {now:Int} {f:bQ} {ls:List aT} (p:aT->Bool) (h:iG w) (hn:0<=now/\now<=1000000000) (hf:bX f=true) (hft:∀ t,t∈f.aG->t∈w.aE.aG) (hl:∀ l,l∈w.bA.aP->p l=false->l∈ls)
  (ht:∀ l,l∈w.bA.aP->p l=true->cN f l.cL=true):iG (jG { w with cT:=now,aE:=f,bA:=⟨w.bA.aP.filter p⟩ } ls):=by
 have hw:=aTs p ((cZ w).1 h.ok) hn hf hft hl
 obtain ⟨e1,e2,e3,e4⟩:=aMH { w with cT:=now,aE:=f,bA:=⟨w.bA.aP.filter p⟩ } ls
 refine ⟨(cZ _).2 (aQ6 hw),aO4 hw h.str,(aQ7 hw h.ni).1,?_⟩
 rw [e3,e4]
 intro l hl
 obtain ⟨a,b⟩:=List.mem_filter.1 hl
 exact ht l a b
theorem aQ3 {w:aS} (h:iG w) (id:Int):iG (ctW w id):=by
 unfold ctW
 split
 ·have hw:=(cZ w).1 h.ok
  have hg:fG w.aE id=(wo (fun t=>decide (t.bZ=id)) w.aE.aG).2:=by unfold fG;rw [if_pos hw.fo]
  rw [hg]
  have hfo:=aEL hw.fo (fun t=>decide (t.bZ=id))
  generalize (wo (fun t=>decide (t.bZ=id)) w.aE.aG).2=G at *
  refine zC (now:=w.cT) (f:=gB w.aE G) (ls:=mA w.bA G) (fun l=>!G.contains l.cL) h hw.now hfo (fun t ht=>(List.mem_filter.1 ht).1) (fun l hl hp=>List.mem_filter.2 ⟨hl,by simpa using hp⟩) fun l hl hp=>?_
  exact wR (h.ti l hl) (by simpa using hp)
 ·exact h
theorem aQL {b:eO} {now:Int} (h:b.aP.Pairwise fun x y=>x.bZ<y.bZ):(yG b now).Perm (b.aP.filter fun l=>decide (l.bS<=now)):=by
 have hT:(b.aP.filter fun l=>decide (l.bS<=now)).Pairwise (TB ltE yV):=by
  refine (h.filter _).imp fun {x y} hxy=>⟨fun hl=>?_,fun hl=>?_⟩
  ·exact Or.inl (of_decide_eq_true hl)
  ·have:=of_decide_eq_false hl
   unfold yV;omega
 exact (aGA aH4 _ hT).1
theorem aQ0 {w:aS} (h:iG w) (now:Int):iG (ptW w now):=by
 unfold ptW
 split
 ·rename_i hb
  unfold ptB at hb
  rw [Bool.and_eq_true] at hb
  have hw:=(cZ w).1 h.ok
  have hn:=cD hb.2
  have hfo:=aEL hw.fo (fun t=>lY t.bS now)
  have hX:ptX w now={ w with cT:=now,aE:=gB w.aE (gJ w.aE now),bA:=⟨w.bA.aP.filter fun l=>(!decide (l.bS<=now)) && !(gJ w.aE now).contains l.cL⟩ }:=by
   unfold ptX aDh ptK jX;rw [List.filter_filter]
  have hov:=aQL (b:=ptK w now) (now:=now) (((pX _).1 hw.bo).2.2.filter _)
  rw [hX]
  refine zC (now:=now) (f:=gB w.aE (gJ w.aE now)) (ls:=ptL w now) (fun l=>(!decide (l.bS<=now)) && !(gJ w.aE now).contains l.cL) h ⟨by have:=hw.now;omega,hn.2⟩ hfo (fun t ht=>(List.mem_filter.1 ht).1) (fun l hl hp=>?_) fun l hl hp=>?_
  ·unfold ptL
   refine List.mem_append.2 ?_
   cases hc:(gJ w.aE now).contains l.cL with
   |true=>exact .inl (List.mem_filter.2 ⟨hl,hc⟩)
   |false=>
    refine .inr (hov.mem_iff.2 (List.mem_filter.2 ⟨List.mem_filter.2 ⟨hl,by rw [hc];rfl⟩,?_⟩))
    rw [hc] at hp;simpa using hp
  ·rw [Bool.and_eq_true] at hp
   exact wR (h.ti l hl) (by simpa using hp.2)
 ·exact h
theorem aRv {w:aS} {tok:Int} {path:List UInt8} {ttl aM:Int} (h:WOk w []) (hg:lP w tok path ttl aM=true):WOk { w with bA:=⟨w.bA.aP++[xT w tok path ttl aM]⟩,bJ:=w.bJ+1 } []:=by
 unfold lP aIq aFj at hg
 simp only [Bool.and_eq_true,Bool.not_eq_true',decide_eq_false_iff_not] at hg
 obtain ⟨⟨-,⟨⟨hk,hx⟩,-⟩,-⟩,-,hb⟩:=hg
 obtain ⟨h1,h2,h3,h4,h5,h6,h7,h8,h9,h10,h11,h12,h13,h14⟩:=h
 refine ⟨h1,⟨by show 1<=w.bJ+1;omega,by show w.bJ+1<=_;omega⟩,h3,h4,hb,h6,h7,fun t ht=>?_,fun l hl=>?_,h10,fun o ho _=>?_,h12,h13,h14⟩
 ·have:=h8 t ht;show _<w.bJ+1;omega
 ·show _<w.bJ+1
  rcases List.mem_append.1 hl with hl|hl
  ·have:=h9 l hl;omega
  ·simp at hl;subst hl;show w.bJ<_;omega
 ·have:=h11 o ho rfl
  unfold gQ at this ⊢
  dsimp only
  rw [List.any_append,this];rfl
theorem aPs {w:aS} {tok:Int} {path:List UInt8} {ttl aM:Int} (hg:lP w tok path ttl aM=true):cN w.aE tok=true:=by
 unfold lP aIq aNt at hg
 simp only [Bool.and_eq_true] at hg
 exact hg.1.2.1.1.1.1
theorem tT {a b i:Nat} (h:zI a i=zI b i):a / 10 ^ i % 10=b / 10 ^ i % 10:=by
 have h:=congrArg UInt8.toNat h
 unfold zI at h
 rw [UInt8.toNat_ofNat',UInt8.toNat_ofNat'] at h
 omega
theorem aSH {a b:Nat} (ha:a<1000000) (hb:b<1000000) (h:six a=six b):a=b:=by
 unfold six at h
 simp only [List.cons.injEq,and_true] at h
 obtain ⟨h5,h4,h3,h2,h1,h0⟩:=h
 have h0:=tT h0
 have h1:=tT h1
 have h2:=tT h2
 have h3:=tT h3
 have h4:=tT h4
 have h5:=tT h5
 simp only [Nat.reducePow,Nat.div_one] at h0 h1 h2 h3 h4 h5
 omega
theorem aQs {p q:List UInt8} {a b:Nat} (ha:a<1000000) (hb:b<1000000) (h:p++six a=q++six b):a=b:=by
 have hl:=congrArg List.length h
 simp only [List.length_append,six,List.length_cons,List.length_nil] at hl
 exact aSH ha hb (List.append_inj h (by omega)).2
theorem aNy {l:List dD} {u x:dD}:x∈tD l u ↔ x∈l\/x=u:=by
 unfold tD
 have h:x∈l ↔ x∈l.take (nS dD.aH u.aH l)\/x∈l.drop (nS dD.aH u.aH l):=by
  rw [<-List.mem_append,List.take_append_drop]
 rw [h]
 simp only [List.mem_append,List.mem_cons]
 constructor
 ·rintro (h|h|h)
  ·exact .inl (.inl h)
  ·exact .inr h
  ·exact .inl (.inr h)
 ·rintro ((h|h)|h)
  ·exact .inl h
  ·exact .inr (.inr h)
  ·exact .inr (.inl h)
theorem aS0 (l:List dD) (u:dD):(tD l u).length=l.length+1:=by
 unfold tD
 have:=congrArg List.length (List.take_append_drop (nS dD.aH u.aH l) l)
 simp only [List.length_append,List.length_cons] at this ⊢
 omega
theorem aS1 {l:List dD} {u:dD} (h:l.Pairwise (fun y x=>Go.Op.bytesLess y.aH x.aH=true)) (hn:l.any (fun x=>x.aH==u.aH)=false):(tD l u).Pairwise (fun y x=>Go.Op.bytesLess y.aH x.aH=true):=by
 obtain ⟨s1,s2,s3⟩:=aDa (key:=dD.aH) u.aH h
 unfold tD
 generalize nS dD.aH u.aH l=k at *
 rw [<-List.take_append_drop k l,List.pairwise_append] at h
 rw [List.any_eq_false] at hn
 have e1:∀ x,x∈l.take k->Go.Op.bytesLess x.aH u.aH=true:=fun x hx=>by
  obtain ⟨m,hm⟩:=List.getElem?_of_mem hx
  have hml:=(List.getElem?_eq_some_iff.1 hm).1
  rw [List.length_take] at hml
  rw [List.getElem?_take_of_lt (by omega)] at hm
  exact s2 m x (by omega) hm
 have e2:∀ x,x∈l.drop k->Go.Op.bytesLess u.aH x.aH=true:=fun x hx=>by
  obtain ⟨m,hm⟩:=List.getElem?_of_mem hx
  rw [List.getElem?_drop] at hm
  have hb:=s3 (k+m) x (by omega) hm
  have hne:x.aH≠u.aH:=fun e=>hn x (List.mem_of_mem_drop hx) (by rw [e];simp)
  rcases aLR hne with h|h
  ·rw [hb] at h;cases h
  ·exact h
 rw [List.pairwise_append,List.pairwise_cons]
 refine ⟨h.1,⟨e2,h.2.1⟩,fun a ha b hb=>?_⟩
 rcases List.mem_cons.1 hb with rfl|hb
 ·exact e1 a ha
 ·exact h.2.2 a ha b hb
theorem aON {l:List dD} {u:dD} {ow ow':List cO} {js:List iY} (hk:kU ow' js u.aH=true) (hm:∀ s,kU ow js s=true->kU ow' js s=true):lB (tD l u) ow' js<=lB l ow js:=by
 have h0:=aA9 (us:=l) (us':=l) (ow:=ow) (ow':=ow') (js:=js) (js':=js) (fun _=>true) (List.filter_eq_self.2 fun _ _=>rfl).symm fun x _ h=>hm _ h
 refine Nat.le_trans (Nat.le_of_eq ?_) h0
 unfold lB tD
 conv=>rhs;rw [<-List.take_append_drop (nS dD.aH u.aH l) l]
 rw [List.filter_append,List.filter_append,List.filter_cons,hk]
 simp
theorem aNJ {f:jZ} {r:fM} {key:Int}:muC f r key=1 ↔ (pQ r && lT key && !decide (f.bF=1000000000))=false:=by
 unfold muC
 split
 ·simp_all
 ·rename_i h
  constructor
  ·intro h2;repeat' split at h2
   all_goals (try omega)
  ·intro h2;exact absurd h2 h
theorem aQT {f:jZ} {r:fM} {key:Int} (h:oV f=true):oV (muF f r key)=true/\f.bF<=(muF f r key).bF/\(muF f r key).bF<=f.bF+1/\(muC f r key≠0->(muF f r key).bE=f.bE) ∧
  (muC f r key=0->(muF f r key).bE=tD f.bE (muN f r key)/\(muF f r key).bF=f.bF+1/\fA (muN f r key).aH=true/\muU f r key=muN f r key):=by
 obtain ⟨h1,h2,h3,h4,h5⟩:=(mJ f).1 h
 have hff:=cD h2
 have hfm:=cD h3
 unfold muF muU
 split
 ·rename_i hc
  rw [hc]
  refine ⟨(mJ _).2 ⟨h1,?_,h3,h4,h5⟩,by dsimp only;omega,by dsimp only;omega,fun _=>rfl,fun h=>by omega⟩
  unfold muC at hc
  refine rL ?_ ?_
  ·dsimp only;repeat' split at hc
   all_goals omega
  ·dsimp only;omega
 ·split
  ·rename_i hc
   rw [hc]
   have hx:f.bF≠1000000000:=by
    intro e
    have:muC f r key=1:=aNJ.2 (by rw [e];simp)
    omega
   exact ⟨(mJ _).2 ⟨h1,h2,rL (by dsimp only;omega) (by dsimp only;omega),h4,h5⟩,by dsimp only;omega,by dsimp only;omega,fun _=>rfl,fun h=>by omega⟩
  ·split
   ·rename_i hc
    have hn1:¬(pQ r && lT key && !decide (f.bF=1000000000))=false:=fun h=>by have:=aNJ.2 h;omega
    have hh:=hc
    unfold muC at hh
    rw [if_neg hn1] at hh
    simp only [Bool.not_eq_false,Bool.and_eq_true,Bool.not_eq_true',decide_eq_false_iff_not] at hn1
    have hno:f.bE.any (fun u=>u.aH==mS r (f.bF+1))=false:=by
     repeat' split at hh
     all_goals (first|omega|(rename_i hq _;simpa using hq))
    have hl:f.bE.length≠120:=by
     repeat' split at hh
     all_goals (first|omega|assumption)
    have hnm:=(aKj hn1.1.1 (f.bF+1)).1
    refine ⟨(mJ _).2 ⟨by dsimp only;rw [aS0];omega,h2,rL (by dsimp only;omega) (by dsimp only;omega),fun u hu=>?_,aS1 h5 hno⟩,by dsimp only;omega,by dsimp only;omega,fun h=>absurd hc h,fun _=>⟨rfl,rfl,hnm,rfl⟩⟩
    rcases aNy.1 hu with hu|rfl
    ·exact h4 u hu
    ·exact hnm
   ·rename_i hc
    exact ⟨h,by omega,by omega,fun _=>rfl,fun h=>absurd h hc⟩
theorem aLq {w:aS} {tok:Int} {r:fM} {key:Int} {path:List UInt8} (h:guC w tok r key path=0):pQ r=true/\lP w tok path r.rY r.cX=true/\muC w.bT r key=0 ∧
  guW w tok r key path={ w with bA:=⟨w.bA.aP++[xT w tok path r.rY r.cX]⟩,bJ:=w.bJ+1,bT:=muF w.bT r key,bI:=w.bI++[⟨w.bJ,(muU w.bT r key).aH⟩] }:=by
 have hok:aF0 w tok r key path=true/\muC w.bT r key=0:=by
  unfold guC at h
  split at h
  ·omega
  ·rename_i hk
   split at h
   ·exact ⟨by simpa using hk,by assumption⟩
   ·omega
 obtain ⟨g1,g2⟩:=hok
 have g0:=g1
 unfold aF0 at g1
 simp only [Bool.and_eq_true] at g1
 refine ⟨g1.1.1.1,g1.1.2,g2,?_⟩
 unfold guW nW
 rw [h,if_neg (by omega),if_neg (by omega),if_pos g1.1.2]
theorem aRu {w:aS} {tok:Int} {r:fM} {key:Int} {path:List UInt8} (hw:WOk w []) (h:guC w tok r key path=0) (hfresh:∀ o,o∈w.bI->o.aH≠(muN w.bT r key).aH):WOk (guW w tok r key path) []:=by
 obtain ⟨-,hg,g2,e⟩:=aLq h
 obtain ⟨f1,-,-,-,f5⟩:=aQT (r:=r) (key:=key) hw.fa
 obtain ⟨u1,u2,u3,u4⟩:=f5 g2
 have hgo:=aRv hw hg
 rw [e,u4]
 have hol2:=hw.ol
 have hbl2:=hw.bl
 have hwb:=hw.bo
 have hoi:=hw.oi
 obtain ⟨h1,h2,h3,h4,h5,h6,h7,h8,h9,h10,h11,h12,h13,h14⟩:=hgo
 dsimp only at h10 h12 h13 h14
 refine ⟨h1,h2,h3,h4,h5,f1,h7,h8,h9,?_,?_,?_,?_,?_⟩
 ·dsimp only
  rw [List.pairwise_append]
  refine ⟨h10,List.pairwise_singleton _ _,fun a ha b hb=>?_⟩
  simp at hb;subst hb
  have:=hol2 a ha rfl
  unfold gQ at this
  obtain ⟨l,hl,e⟩:=List.any_eq_true.1 this
  have:=hbl2 l hl
  have:=of_decide_eq_true e
  dsimp only;omega
 ·intro o ho _
  rcases List.mem_append.1 ho with ho|ho
  ·exact h11 o ho rfl
  ·simp at ho;subst ho
   unfold gQ
   dsimp only
   rw [List.any_append]
   simp [xT]
 ·intro o ho
  rcases List.mem_append.1 ho with ho|ho
  ·exact h12 o ho
  ·simp at ho;subst ho;exact u3
 ·dsimp only
  rw [List.pairwise_append]
  refine ⟨h13,List.pairwise_singleton _ _,fun a ha b hb=>?_⟩
  simp at hb;subst hb
  exact hfresh a ha
 ·dsimp only
  have hl:w.bI.length<=w.bA.aP.length:=by
   refine aNV (ka:=cO.eJ) (kb:=aT.bZ) _ _ hoi ((pX _).1 hwb).2.2 fun x hx=>?_
   have:=hol2 x hx rfl
   unfold gQ at this
   obtain ⟨l,hl,e⟩:=List.any_eq_true.1 this
   exact ⟨l,hl,of_decide_eq_true e⟩
  have:=((pX _).1 hwb).1
  simp only [List.length_append,List.length_cons,List.length_nil]
  omega
theorem aQ2 {w:aS} (h:iG w) (hm:w.bT.bF<999999) (tok:Int) (r:fM) (key:Int) (path:List UInt8):iG (guW w tok r key path)/\(guW w tok r key path).bT.bF<=w.bT.bF+1/\(guW w tok r key path).bJ<=w.bJ+1/\(guW w tok r key path).cT=w.cT:=by
 have hw:=(cZ w).1 h.ok
 have hfm:0<=w.bT.bF:=(cD ((mJ _).1 hw.fa).2.2.1).1
 obtain ⟨f1,f2,f3,f4,f5⟩:=aQT (r:=r) (key:=key) hw.fa
 have hni:∀ s,aCv w s->∃ (p:List UInt8) (k:Nat),s=p++six k/\1<=k/\(k:Int)<=(muF w.bT r key).bF:=fun s hs=>by
  obtain ⟨p,k,a,b,c⟩:=h.ni s hs;exact ⟨p,k,a,b,by omega⟩
 unfold guW
 split
 ·exact ⟨h,by omega,by omega,rfl⟩
 ·rename_i hc1
  split
  ·rename_i hc
   have hmc:muC w.bT r key≠0:=by
    unfold guC at hc;split at hc
    ·omega
    ·split at hc
     ·omega
     ·assumption
   have hu:=f4 hmc
   refine ⟨⟨(cZ _).2 ?_,?_,fun s hs=>hni s ?_,h.ti⟩,f3,by dsimp only;omega,rfl⟩
   ·obtain ⟨h1,h2,h3,h4,h5,h6,h7,h8,h9,h10,h11,h12,h13,h14⟩:=hw
    exact ⟨h1,h2,h3,h4,h5,f1,h7,h8,h9,h10,h11,h12,h13,h14⟩
   ·dsimp only;rw [hu];exact h.str
   ·rcases hs with ⟨u,hu2,e⟩|hs
    ·dsimp only at hu2;rw [hu] at hu2;exact .inl ⟨u,hu2,e⟩
    ·exact .inr hs
  ·rename_i hc2
   have hok:aF0 w tok r key path=true/\muC w.bT r key=0:=by
    unfold guC at hc1 hc2
    split at hc1
    ·omega
    ·rename_i hk
     refine ⟨by simpa using hk,?_⟩
     rw [if_neg hk] at hc2
     split at hc2
     ·assumption
     ·omega
   obtain ⟨g1,g2⟩:=hok
   obtain ⟨u1,u2,u3,u4⟩:=f5 g2
   unfold aF0 at g1
   simp only [Bool.and_eq_true] at g1
   have hg:=g1.1.2
   have hgw:nW w tok path r.rY r.cX={ w with bA:=⟨w.bA.aP++[xT w tok path r.rY r.cX]⟩,bJ:=w.bJ+1 }:=by unfold nW;rw [if_pos hg]
   rw [hgw,u4]
   have hnn:(muN w.bT r key).aH=r.iM++six (w.bT.bF+1).toNat:=rfl
   have hfresh:∀ o,o∈w.bI->o.aH≠(muN w.bT r key).aH:=fun o ho e=>by
    obtain ⟨p,k,a,b,c⟩:=h.ni o.aH (.inr (.inl ⟨o,ho,rfl⟩))
    rw [e,hnn] at a
    have:=aQs (by omega) (by omega) a
    omega
   have hgw2:=aRu hw (by unfold guC;rw [if_neg (by unfold aF0;simp [g1]),if_pos g2]:guC w tok r key path=0) hfresh
   rw [(aLq (by unfold guC;rw [if_neg (by unfold aF0;simp [g1]),if_pos g2]:guC w tok r key path=0)).2.2.2,u4] at hgw2
   refine ⟨⟨(cZ _).2 hgw2,?_,?_,?_⟩,f3,by dsimp only;omega,rfl⟩
   ·dsimp only
    rw [u1]
    refine Int.le_trans (Int.ofNat_le.2 (aON (ow:=w.bI) ?_ fun s hs=>?_)) h.str
    ·rw [oT];exact .inl ⟨⟨w.bJ,(muN w.bT r key).aH⟩,by simp,rfl⟩
    ·rw [oT] at hs ⊢
     rcases hs with ⟨o,ho,e⟩|hs
     ·exact .inl ⟨o,by simp [ho],e⟩
     ·exact .inr hs
   ·intro s hs
    have hnew:∃ (p:List UInt8) (k:Nat),(muN w.bT r key).aH=p++six k/\1<=k/\(k:Int)<=(muF w.bT r key).bF:=⟨r.iM,_,hnn,by omega,by rw [u2];omega⟩
    rcases hs with ⟨u,hu,e⟩|⟨o,ho,e⟩|hs
    ·dsimp only at hu
     rw [u1] at hu
     rcases aNy.1 hu with hu|rfl
     ·exact hni s (.inl ⟨u,hu,e⟩)
     ·rw [<-e];exact hnew
    ·rcases List.mem_append.1 ho with ho|ho
     ·exact hni s (.inr (.inl ⟨o,ho,e⟩))
     ·simp at ho;subst ho;rw [<-e];exact hnew
    ·exact hni s (.inr (.inr hs))
   ·intro l hl
    rcases List.mem_append.1 hl with hl|hl
    ·exact h.ti l hl
    ·simp at hl;subst hl;exact (aPs hg:cN w.aE tok=true)
theorem aEW (x:List UInt8) (a:List (List UInt8)):decide (0<=nA (fun y=>y==x) a)=a.contains x:=by
 rw [tO,Bool.eq_iff_iff,List.contains_iff_mem,List.any_eq_true]
 constructor
 ·rintro ⟨y,h1,h2⟩;exact (beq_iff_eq.1 h2) ▸ h1
 ·intro h;exact ⟨x,h,beq_self_eq_true x⟩
def aSD (a b:List (List UInt8)):Bool:=a.all fun n=>b.contains n
def mkC (f:bQ) (t:aR):Int:=
 if (gI t && pD f t.bZ)=false then 1
 else if t.cE=0 then (if f.aG.length=120 then 5 else 0)
 else if cN f t.cE=false then 2
 else if lY (kG f t.cE).bS t.bF=true then 3
 else if aSD t.fO (kG f t.cE).fO=false then 4
 else if f.aG.length=120 then 5 else 0
def mkF (f:bQ) (t:aR):bQ:=if mkC f t=0 then ⟨f.aG++[t]⟩ else f
theorem aTk {f:bQ} {t:aR} (h:mkC f t=0):gI t=true/\pD f t.bZ=true/\f.aG.length≠120/\(t.cE=0\/cN f t.cE=true):=by
 unfold mkC at h
 split at h
 ·omega
 ·rename_i h1
  simp only [Bool.not_eq_false,Bool.and_eq_true] at h1
  split at h
  ·rename_i hp
   split at h
   ·omega
   ·exact ⟨h1.1,h1.2,by assumption,.inl hp⟩
  ·split at h
   ·omega
   ·rename_i hh
    repeat' split at h
    all_goals (first|omega|exact ⟨h1.1,h1.2,by assumption,.inr (by simpa using hh)⟩)
theorem zG {f:bQ} {l:List aR} {id:Int} (h:cN f id=true):cN ⟨f.aG++l⟩ id=true:=by
 unfold cN at *
 dsimp only
 rw [List.any_append,h];rfl
theorem aVi {f:bQ} {t:aR} (hb:bX f=true) (h:mkC f t=0):bX ⟨f.aG++[t]⟩=true:=by
 obtain ⟨h1,h2,h3,h4⟩:=aTk h
 obtain ⟨a1,a2,a3⟩:=(fN f).1 hb
 unfold pD at h2
 rw [List.all_eq_true] at h2
 refine (fN _).2 ⟨by simp only [List.length_append,List.length_cons,List.length_nil];omega,fun x hx=>?_,?_⟩
 ·rcases List.mem_append.1 hx with hx|hx
  ·exact ⟨(a2 x hx).1,(a2 x hx).2.imp id zG⟩
  ·simp at hx;subst hx
   exact ⟨h1,h4.imp id zG⟩
 ·dsimp only
  rw [List.pairwise_append]
  refine ⟨a3,List.pairwise_singleton _ _,fun a ha b hb=>?_⟩
  simp at hb;subst hb
  exact of_decide_eq_true (h2 a ha)
theorem aQ1 {w:aS} {t:aR} (h:iG w) (hc:mkC w.aE t=0) (ht:t.bZ=w.bJ) (hn:w.bJ<1000000000):iG { w with aE:=mkF w.aE t,bJ:=w.bJ+1 }:=by
 have hw:=(cZ w).1 h.ok
 have hF:mkF w.aE t=⟨w.aE.aG++[t]⟩:=by unfold mkF;rw [if_pos hc]
 rw [hF]
 obtain ⟨h1,h2,h3,h4,h5,h6,h7,h8,h9,h10,h11,h12,h13,h14⟩:=hw
 refine ⟨(cZ _).2 ⟨h1,⟨by dsimp only;omega,by dsimp only;omega⟩,h3,aVi h4 hc,h5,h6,h7,fun x hx=>?_,fun l hl=>?_,h10,h11,h12,h13,h14⟩,h.str,h.ni,fun l hl=>zG (h.ti l hl)⟩
 ·dsimp only at hx ⊢
  rcases List.mem_append.1 hx with hx|hx
  ·have:=h8 x hx;omega
  ·simp at hx;subst hx;omega
 ·have:=h9 l hl;dsimp only;omega
def aUy:aS:=⟨0,1,0,⟨[]⟩,⟨[]⟩,⟨[],0,0⟩,⟨[]⟩,[]⟩
theorem zB (w:aS) (ls:List aT):(jG w ls).bT.bF=w.bT.bF:=by
 have hA:(bC w ls).bT=w.bT:=by rw [pT w ls]
 have e1:(jG w ls).bT=(rq (bC w ls).cT (bC w ls).bO.cF (bC w ls).bT).far:=rfl
 rw [e1,(aHP _ _ _).1,hA]
theorem aTN (w:aS) (id:Int):(ctW w id).bT.bF=w.bT.bF:=by
 unfold ctW;split
 ·exact zB _ _
 ·rfl
theorem aS2 (w:aS) (now:Int):(ptW w now).bT.bF=w.bT.bF:=by
 unfold ptW;split
 ·exact zB _ _
 ·rfl
theorem aME:iG aUy:=by
 refine ⟨by decide +kernel,by decide,fun s hs=>?_,fun l hl=>by cases hl⟩
 rcases hs with ⟨u,hu,_⟩|⟨u,hu,_⟩|⟨u,hu,_⟩<;>cases hu
abbrev aIx (c:Cur):List A:=[.d (.slc 1 (aB c.b)),.d (.int .i64 c.i),.d (.int .i64 c.h)]
theorem vH (a:List (List UInt8)) (x:List UInt8) (hsz:a.length<=281474976710656):aC PP GG 135 [.d (.slc 1 (aK a)),.d (.str x)] (.d (.bool (a.contains x))) [none,none]:=by
 refine cv Tryz.func135 [.d (.bool (a.contains x))] ?_
 have hany:=aEW x a
 rw [tO] at hany
 refine eT @bV ?_
 refine bH (fun n st=>∃ i:Nat,n=a.length-i/\i<=a.length/\(∀ y,y∈a.take i->(y==x)=false) ∧
  st=⟨[],[(0,.d (.slc 1 (aK a))),(1,.d (.str x)),(5,.d (.int .i64 i))],[],0⟩) _ ⟨0,rfl,by omega,fun x hx=>by simp at hx,?_⟩ ?_
 ·exact gE @bV
 rintro n st ⟨i,rfl,hi,hn,rfl⟩
 by_cases hlt:i<a.length
 ·have ha:=List.getElem?_eq_getElem hlt
  generalize a[i]=y at ha
  cases hx:(y==x) with
  |true=>
   have e:=(aBH (p:=fun y=>y==x) ha hn hx).2
   rw [e] at hany
   rw [<-hany]
   exact fC (Y4 ha @eX @bV hx)
  |false=>
   have hn2:=mH (p:=fun y=>y==x) ha hn hx
   refine eT (Y4 ha @eX @bV hx) ?_
   refine ⟨a.length-(i+1),by omega,i+1,rfl,hlt,hn2,?_⟩
   refine kM @bV ?_
   exact aA (by omega) (by omega)
 ·have hie:i=a.length:=by omega
  subst hie
  rw [List.take_length] at hn
  rw [(xP hn).2] at hany
  rw [<-hany]
  exact fC @bV
set_option maxHeartbeats 8000000 in
theorem aEg (f:bQ) (t:aR) (hf:uZ f) (ht:aTF t) (hb:bX f=true):
  aC PP GG 195 [.agg f.c,.agg t.c] (.tup [.agg (mkF f t).o,.d (.int .i64 (mkC f t))]) [none,none]:=by
 refine cv Tryz.func195 [.agg (mkF f t).o,.d (.int .i64 (mkC f t))] ?_
 have ccp:=nM f.aG hf
 have cfo:=kE f hf
 rw [hb] at cfo
 have cit:=yD t ht
 have cix:=mX f t.cE hf.1
 have cct:=lQ t ht
 have hC:mkC f t=if (gI t && pD f t.bZ)=false then 1
  else if t.cE=0 then (if f.aG.length=120 then 5 else 0)
  else if cN f t.cE=false then 2
  else if lY (kG f t.cE).bS t.bF=true then 3
  else if aSD t.fO (kG f t.cE).fO=false then 4
  else if f.aG.length=120 then 5 else 0:=rfl
 have hF:mkF f t=if mkC f t=0 then ⟨f.aG++[t]⟩ else f:=rfl
 have hla:=aWR hb t.bZ
 have hno:=oU (fun x:aR=>decide (x.bZ=t.cE)) f.aG
 have hfi:=fun h=>xL (p:=fun x:aR=>decide (x.bZ=t.cE)) (l:=f.aG) h
 have hT:kG f t.cE=(f.aG.find? fun x=>decide (x.bZ=t.cE)).getD aHq:=by unfold kG;rw [if_pos hb]
 have hH:cN f t.cE=f.aG.any fun x=>decide (x.bZ=t.cE):=rfl
 have hl1:=hf.1
 have hft:=hf.2
 have hl2:f.aG.length<=120:=by unfold bX at hb;rw [Bool.and_eq_true] at hb;exact of_decide_eq_true hb.1
 have htn:=ht.1
 generalize mkC f t=CC at *
 generalize mkF f t=FF at *
 generalize pD f t.bZ=BB at *
 generalize kG f t.cE=PT at *
 generalize cN f t.cE=HH at *
 clear hb ht
 obtain ⟨tk⟩:=f
 obtain ⟨t1,t2,t3,t4,t5,t6,t7⟩:=t
 dsimp only at *
 generalize gI ⟨t1,t2,t3,t4,t5,t6,t7⟩=TB at *
 have hi1:=cB tk
 have hi2:=cC t3
 have hrl:=aEr tk
 cases TB
 ·simp only [Bool.false_and,if_true] at hC
  subst hC
  simp only [Int.reduceEq,if_false] at hF
  subst hF
  clear cix cct hla hno hfi hT hH hft
  exact oE (Z3 ccp cfo cit)
 cases BB
 ·simp only [Bool.true_and,if_true] at hC
  subst hC
  simp only [Int.reduceEq,if_false] at hF
  subst hF
  rcases hla with ⟨_,h⟩|⟨k,x,hk,hx,hd⟩
  ·cases h
  ·have hge:(x.bZ<t1)=False:=by have:=of_decide_eq_false hd.symm;simp;omega
   have hge2:(t1<=x.bZ)=True:=by have:=of_decide_eq_false hd.symm;simp;omega
   have hw:IntKind.i64.wrap (((tk.length:Nat):Int)-1)=(k:Int):=by rw [aA (by omega) (by omega)];omega
   have hp:((0:Int)<((tk.length:Nat):Int))=True:=by simp;omega
   clear cix cct hno hfi hT hH hft hd
   obtain ⟨x1,x2,x3,x4,x5,x6,x7⟩:=x
   dsimp only at hge hge2
   exact dO (Y5 hx hge hge2 hw hp) (Z3 ccp cfo cit)
 simp only [Bool.and_self,Bool.true_eq_false,if_false] at hC
 have happ:cA (tk++[⟨t1,t2,t3,t4,t5,t6,t7⟩])=cA tk++[[.int .i64 t1,.int .i64 t2,.slc 1 (aK t3),.int .i64 t4,.int .i64 t5,.int .i64 t6,.int .i64 t7]]:=by rw [aEs];rfl
 rcases hla with ⟨rfl,-⟩|⟨k,z,hk,hz,hd⟩
 ·simp only [List.any_nil] at hH
  subst hH
  simp only [if_true] at hC
  have hno:=of_decide_eq_true (hno.trans rfl)
  generalize nA (fun x:aR=>decide (x.bZ=t2)) []=ix at *
  by_cases hp0:t2=0
  ·rw [if_pos hp0,if_neg (by simp)] at hC
   subst hC
   simp only [if_true] at hF
   subst hF
   subst hp0
   clear hfi hT hft
   refine fV (Y2 happ @aM.eq_1) (Z4 ccp cfo cit cct) ?_
   rfl
  ·rw [if_neg hp0] at hC
   subst hC
   simp only [Int.reduceEq,if_false] at hF
   subst hF
   have hp1:(t2 != 0)=true:=by simpa using hp0
   clear hfi hT hft
   exact dO (Y2 hp1 hno) (Z4 ccp cfo cit cix)
 have hlt:(t1<=z.bZ)=False:=by have:=of_decide_eq_true hd.symm;simp;omega
 have hlt2:(z.bZ<t1)=True:=by have:=of_decide_eq_true hd.symm;simp;omega
 have hw:IntKind.i64.wrap (((tk.length:Nat):Int)-1)=(k:Int):=by rw [aA (by omega) (by omega)];omega
 have hp:((0:Int)<((tk.length:Nat):Int))=True:=by simp;omega
 clear hd
 obtain ⟨z1,z2,z3,z4,z5,z6,z7⟩:=z
 dsimp only at hlt hlt2
 by_cases hp0:t2=0
 ·rw [if_pos hp0] at hC
  subst hp0
  clear cix hno hfi hT hH hft
  by_cases hfl:tk.length=120
  ·rw [if_pos hfl] at hC
   subst hC
   simp only [Int.reduceEq,if_false] at hF
   subst hF
   have hq:(((tk.length:Nat):Int)==120)=true:=by simp;omega
   exact dO (Y6 hz hlt hlt2 hw hp hq) (Z4 ccp cfo cit cct)
  ·rw [if_neg hfl] at hC
   subst hC
   simp only [if_true] at hF
   subst hF
   have hq:(((tk.length:Nat):Int)==120)=false:=by simp;omega
   exact dO (Y8 hz hlt hlt2 hw hp hq happ @aM.eq_1) (Z4 ccp cfo cit cct)
 rw [if_neg hp0] at hC
 have hp1:(t2 != 0)=true:=by simpa using hp0
 cases HH
 ·simp only [if_true] at hC
  subst hC
  simp only [Int.reduceEq,if_false] at hF
  subst hF
  have hno2:nA (fun x:aR=>decide (x.bZ=t2)) tk<0:=of_decide_eq_true (by rw [hno,<-hH];rfl)
  generalize nA (fun x:aR=>decide (x.bZ=t2)) tk=ix at *
  clear hfi hT hft hno hH
  exact dO (Y7 hz hlt hlt2 hw hp hp1 hno2) (Z4 ccp cfo cit cix)
 simp only [Bool.true_eq_false,if_false] at hC
 obtain ⟨m,x,hm,hx,_,hfd⟩:=hfi hH.symm
 rw [hfd] at hT
 simp only [Option.getD_some] at hT
 have hT:=hT.symm
 subst hT
 rw [hm] at cix
 clear hfi hno hfd hH
 have hft:=hft x (List.mem_of_getElem? hx)
 have hml:=(List.getElem?_eq_some_iff.1 hx).1
 have cov:=nL x t4
 have hxr:=cC x.fO
 have chas:=fun s=>vH x.fO s (by have:=hft.1;omega)
 have hS:aSD t3 x.fO=t3.all fun n=>x.fO.contains n:=rfl
 generalize lY x.bS t4=OB at *
 generalize aSD t3 x.fO=SB at *
 obtain ⟨x1,x2,x3,x4,x5,x6,x7⟩:=x
 dsimp only at *
 cases OB
 ·simp only [Bool.false_eq_true,if_false] at hC
  refine fV (Y7 hz hlt hlt2 hw hp hp1 hx) (Z5 ccp cfo cit cix cov) ?_
  clear cfo cit cix cov ccp
  refine bH (fun n st=>∃ i:Nat,n=t3.length-i/\i<=t3.length/\(∀ y,y∈t3.take i->x3.contains y=true) ∧
   st=⟨[],[(2,.ptr 0 0),(3,.ptr 1 0),(4,.ptr 2 0),(6,.ptr 3 0),(7,.d (.int .i64 m)),(8,.d (.int .i64 i))],[(0,.box [.d (.slc 7 (cA tk))]),(1,.box [.d (.int .i64 t1),.d (.int .i64 t2),.d (.slc 1 (aK t3)),.d (.int .i64 t4),.d (.int .i64 t5),.d (.int .i64 t6),.d (.int .i64 t7)]),(2,.box [.nil 1 7]),(3,.box [.sl 4]),(4,.arr 0 1 7 (cA tk))],5⟩) _ ⟨0,rfl,by omega,fun y hy=>by simp at hy,?_⟩ ?_
  ·exact gE @bV
  rintro n st ⟨i,rfl,hi,hn,rfl⟩
  by_cases hlt3:i<t3.length
  ·have hgi:=List.getElem?_eq_getElem hlt3
   have hgm:=List.getElem_mem hlt3
   have hsucc:∀ y,y∈t3.take (i+1)->y∈t3.take i\/y=t3[i]:=fun y hy=>by
    rw [List.take_add_one,hgi] at hy
    rcases List.mem_append.1 hy with hy|hy
    ·exact .inl hy
    ·exact .inr (by simpa using hy)
   generalize t3[i]=s at *
   have ch:=chas s
   cases hcs:x3.contains s with
   |false=>
    have hSf:SB=false:=by rw [hS,List.all_eq_false];exact ⟨s,hgm,by rw [hcs];simp⟩
    subst hSf
    simp only [if_true] at hC
    subst hC
    simp only [Int.reduceEq,if_false] at hF
    subst hF
    rw [hcs] at ch
    exact dO (Y4 hgi hx @eX @bV) (Z1 ch)
   |true=>
    rw [hcs] at ch
    refine fV (Y4 hgi hx @eX @bV) (Z1 ch) ?_
    refine ⟨t3.length-(i+1),by omega,i+1,rfl,hlt3,fun y hy=>?_,?_⟩
    ·rcases hsucc y hy with hy|rfl
     ·exact hn y hy
     ·exact hcs
    ·refine kM @bV ?_
     exact aA (by omega) (by omega)
  ·have hie:i=t3.length:=by omega
   subst hie
   rw [List.take_length] at hn
   have hSt:SB=true:=by rw [hS,List.all_eq_true];exact hn
   subst hSt
   simp only [Bool.true_eq_false,if_false] at hC
   clear hn hS chas hft hxr hx hml
   by_cases hfl:tk.length=120
   ·rw [if_pos hfl] at hC
    subst hC
    simp only [Int.reduceEq,if_false] at hF
    subst hF
    have hq:(((tk.length:Nat):Int)==120)=true:=by simp;omega
    exact fC (Y2 hq @bV)
   ·rw [if_neg hfl] at hC
    subst hC
    simp only [if_true] at hF
    subst hF
    have hq:(((tk.length:Nat):Int)==120)=false:=by simp;omega
    exact dO (Y4 hq happ @aM.eq_1 @bV) (Z1 cct)
 ·simp only [if_true] at hC
  subst hC
  simp only [Int.reduceEq,if_false] at hF
  subst hF
  exact dO (Y7 hz hlt hlt2 hw hp hp1 hx) (Z5 ccp cfo cit cix cov)
structure lS where
 aBJ:List UInt8
 aLz:Int
 deriving DecidableEq
@[simp] abbrev lS.row (x:lS):List D:=[.str x.aBJ,.int .i64 x.aLz]
@[simp] abbrev lS.c (x:lS):List C:=[.d (.str x.aBJ),.d (.int .i64 x.aLz)]
@[simp] abbrev lS.o (x:lS):List C:=[.d (.str x.aBJ),.d (.int .i64 x.aLz)]
def iL (l:List lS):List (List D):=l.map lS.row
@[simp] theorem aOK (l:List lS):(iL l).length=l.length:=by simp [iL]
@[simp] theorem aV9 (l:List lS) (i:Nat):(iL l)[i]?=(l[i]?).map lS.row:=by simp [iL]
def lS.cost (x:lS):Nat:=x.aBJ.length
def lS.ok (x:lS):Prop:=x.aBJ.length<=maxLen/\aX x.aLz
structure dE where
 aH:List UInt8
 nY:List lS
 deriving DecidableEq
@[simp] abbrev dE.row (x:dE):List D:=[.str x.aH,.slc 2 (iL x.nY)]
@[simp] abbrev dE.c (x:dE):List C:=[.d (.str x.aH),.d (.slc 2 (iL x.nY))]
@[simp] abbrev dE.o (x:dE):List C:=[.d (.str x.aH),.own 0 2 (iL x.nY)]
def cV (l:List dE):List (List D):=l.map dE.row
@[simp] theorem aT9 (l:List dE):(cV l).length=l.length:=by simp [cV]
@[simp] theorem aUa (l:List dE) (i:Nat):(cV l)[i]?=(l[i]?).map dE.row:=by simp [cV]
def dE.cost (x:dE):Nat:=x.aH.length+(x.nY.length+dF lS.cost x.nY)
def dE.ok (x:dE):Prop:=x.aH.length<=maxLen/\x.nY.length<=maxLen/\(∀ y,y∈x.nY->y.ok)
structure eK where
 dI:List UInt8
 bF:Int
 wU:Bool
 aRJ:Bool
 deriving DecidableEq
@[simp] abbrev eK.row (x:eK):List D:=[.slc 1 (aB x.dI),.int .i64 x.bF,.bool x.wU,.bool x.aRJ]
@[simp] abbrev eK.c (x:eK):List C:=[.d (.slc 1 (aB x.dI)),.d (.int .i64 x.bF),.d (.bool x.wU),.d (.bool x.aRJ)]
@[simp] abbrev eK.o (x:eK):List C:=[.own 0 1 (aB x.dI),.d (.int .i64 x.bF),.d (.bool x.wU),.d (.bool x.aRJ)]
def dC (l:List eK):List (List D):=l.map eK.row
@[simp] theorem aHW (l:List eK):(dC l).length=l.length:=by simp [dC]
@[simp] theorem aSZ (l:List eK) (i:Nat):(dC l)[i]?=(l[i]?).map eK.row:=by simp [dC]
def eK.cost (x:eK):Nat:=x.dI.length
def eK.ok (x:eK):Prop:=x.dI.length<=maxLen/\aX x.bF
structure dL where
 dM:List UInt8
 jO:Int
 fU:List eK
 deriving DecidableEq
@[simp] abbrev dL.row (x:dL):List D:=[.str x.dM,.int .i64 x.jO,.slc 4 (dC x.fU)]
end Go.Proofs.YtiejbbcpihpgpaaGreatDoor.Ab
