/-
  A part of a proof about the given program; what is proved is said where each theorem stands.
-/
import Derived.Test.YtiejbbcpihpgpaaGreatDoorFrameB
namespace Go.Proofs.YtiejbbcpihpgpaaGreatDoor.Ab
section
variable {c:Ctx} {g:Gh} {w w':World} {e:Env} {Sall Fz':bK}
theorem aH3 (hi:fB c g e.h w) (hb:aCR g e.h w w' Sall Fz') {Z:bK} (hz:∀ b o,g.Fz b o->Z b o) {old:List Nat} {N:Nat}:∀ (as:List (eN×A)) (vs:Nat->Value) (r:List C×List Nat×List Nat×List Nat) (T0 V:Nat->bK) (ocs:List (Option C)) (n0:Nat) (os:List (Nat×Option O)) (n1:Nat),
  (∀ n,n∈r.2.1->n∈old)->n1<=N->(∀ q,q∈old->q<n0\/N<=q)->(∀ n,n∈r.2.2.2->∀ x y,g.F n x y->Z x y)->(r.2.1++r.2.2.1).Nodup->(∀ (m:Nat) p,as[m]?=some p->RA g e.h w p.2 (vs m))->Out e (oZ as) r →
  (∀ (m:Nat) c,r.1[m]?=some c->RC w Z c (vs m) (T0 m))->(∀ n,n∈r.2.1->∀ x y,g.F n x y->Sall x y->∃ m,m<r.1.length/\T0 m x y) →
  (∀ (m:Nat) c1,ocs[m]?=some (some c1)->RC w' Fz' c1 (vs m) (V m))->(∀ m x y,V m x y->Sall x y\/w.heap.size<=x)->(∀ i j,i≠j->∀ x y,V i x y->¬V j x y)->Out e (mE n0 as ocs) (os,n1) →
  n0<=n1/\gV w' (aNl g e.h w w' Fz') g.ν (Reg g Sall (fun x y=>∃ m,V m x y) r.2.1) (os.map (·.1)) os old (fun _ _=>True)/\∀ q,q∈os.map (·.1)->q∈r.2.1\/(n0<=q/\q<n1):=by
 intro as
 induction as with
 |nil=>
  intro vs r T0 V ocs n0 os n1 _ _ _ _ _ _ _ _ _ _ _ _ hback
  cases ocs with
  |nil=>
   have:=hback.ret
   cases this
   exact ⟨Nat.le_refl _,gV.empty fun _ _ _=>trivial,fun q hq=>by simp at hq⟩
  |cons c1 s=>exact hback.fail.elim
 |cons p as ih=>
  intro vs r T0 V ocs n0 os n1 hold hN hold0 hbZ hnd hra hclose hT0 hcov hV1 hV2 hV3 hback
  obtain ⟨m0,a⟩:=p
  cases ocs with
  |nil=>exact hback.fail.elim
  |cons oc s=>
   unfold mE at hback
   obtain ⟨⟨x1,n2⟩,k1,k2⟩:=Out.bind hback
   simp only at k2
   obtain ⟨⟨x2,n3⟩,k3,k4⟩:=Out.bind k2
   have:=k4.ret
   cases this
   unfold oZ at hclose
   obtain ⟨⟨c0,l0,g0,b0⟩,h1,h2⟩:=Out.bind hclose
   simp only at h2
   obtain ⟨⟨cs,ls,gs,bs⟩,h3,h4⟩:=Out.bind h2
   simp only at h4
   have:=h4.ret
   subst this
   simp only at hbZ hnd hold hcov hT0 ⊢
   have hnd0:(l0++g0).Nodup:=by
    have:(l0++g0).Sublist (l0++ls++(g0++gs)):=List.Sublist.append (List.sublist_append_left _ _) (List.sublist_append_left _ _)
    exact hnd.sublist this
   have hnds:(ls++gs).Nodup:=by
    have:(ls++gs).Sublist (l0++ls++(g0++gs)):=List.Sublist.append (List.sublist_append_right _ _) (List.sublist_append_right _ _)
    exact hnd.sublist this
   have hap:∀ n,n∈l0++g0->n ∉ ls++gs:=by
    intro n hn hn'
    rw [List.nodup_append,List.nodup_append,List.nodup_append] at hnd
    obtain ⟨⟨a1,a2,a3⟩,⟨a4,a5,a6⟩,a7⟩:=hnd
    rcases List.mem_append.1 hn with h5|h5
    ·rcases List.mem_append.1 hn' with h6|h6
     ·exact a3 n h5 n h6 rfl
     ·exact a7 n (by simp [h5]) n (by simp [h6]) rfl
    ·rcases List.mem_append.1 hn' with h6|h6
     ·exact a7 n (by simp [h6]) n (by simp [h5]) rfl
     ·exact a6 n h5 n h6 rfl
   obtain ⟨⟨⟨S0,q1,q2⟩,q3⟩,q4⟩:=uO hi (hra 0 _ rfl) h1 hz (fun n hn=>hbZ n (by simp [hn])) hnd0
   obtain ⟨i1,i2,i3,T,i4,i5,i6⟩:=yH hi as (fun m=>vs (m+1)) _ (fun m a' hm=>hra (m+1) a' (by simpa using hm)) h3 hz (fun n hn=>hbZ n (by simp [hn])) hnds
   simp only at q1 q2 q3 q4 i1 i2 i3 i4 i5 i6
   have u0:∀ x y,T0 0 x y->∃ n,n∈l0++g0/\g.F n x y:=fun x y h=>q2 x y (RC.uniq (hT0 0 c0 rfl) q1 x y h)
   have us:∀ m,m<cs.length->∀ x y,T0 (m+1) x y->∃ n,n∈ls++gs/\g.F n x y:=by
    intro m hm x y h
    have hcm:=List.getElem?_eq_getElem hm
    exact i5 m hm x y (RC.uniq (hT0 (m+1) _ (by simp)) (i4 m _ hcm) x y h)
   have hdis:∀ n1 n2 x y,n1∈l0++g0->n2∈ls++gs->g.F n1 x y->g.F n2 x y->False:=by
    intro n1 n2 x y a1 a2 b1 b2
    obtain ⟨o1,p1⟩:=q3 n1 a1
    obtain ⟨o2,p2⟩:=i2 n2 a2
    exact hi.disj n1 n2 o1 o2 p1 p2 (fun e=>hap n1 a1 (e ▸ a2)) x y b1 b2
   have hle3:n2<=n3:=by
    clear ih
    have:∀ (as:List (eN×A)) (s:List (Option C)) (n2:Nat) (r:List (Nat×Option O)×Nat),Out e (mE n2 as s) r->n2<=r.2:=by
     intro as
     induction as with
     |nil=>
      intro s n2 r h
      cases s with
      |nil=>rw [h.ret];exact Nat.le_refl _
      |cons=>exact h.fail.elim
     |cons p as ih=>
      intro s n2 r h
      obtain ⟨m,a⟩:=p
      cases s with
      |nil=>exact h.fail.elim
      |cons oc s=>
       unfold mE at h
       obtain ⟨⟨x1,n3⟩,h1,h2⟩:=Out.bind h
       simp only at h2
       obtain ⟨⟨x2,n4⟩,h3,h4⟩:=Out.bind h2
       rw [h4.ret]
       have h5:=ih s n3 _ h3
       have h6:n2<=n3:=by
        unfold vD at h1
        cases m with
        |borrow=>cases oc with
         |none=>have:=h1.ret;cases this;exact Nat.le_refl _
         |some=>exact h1.fail.elim
        |give=>cases oc with
         |none=>have:=h1.ret;cases this;exact Nat.le_refl _
         |some=>exact h1.fail.elim
        |nil=>cases oc with
         |none=>have:=h1.ret;cases this;exact Nat.le_refl _
         |some=>exact h1.fail.elim
        |lend=>cases oc with
         |none=>exact h1.fail.elim
         |some=>obtain ⟨_,_,h7⟩:=Out.bind h1;have:=h7.ret;cases this;exact Nat.le_refl _
        |box len=>
         cases a with
         |ptr q off=>
          cases oc with
          |none=>exact h1.fail.elim
          |some c1=>
           cases c1 with
           |box cs=>
            simp only at h1
            unfold aB2 at h1
            obtain ⟨o,_,h7⟩:=h1.rh
            split at h7
            ·split at h7
             ·have:=h7.ret
              cases this
              have mono:∀ (c:C) (n:Nat),n<=(cH n c).2.2:=by
               intro c
               exact C.rec (motive_1:=fun c=>∀ n,n<=(cH n c).2.2) (motive_2:=fun cs=>∀ n,n<=(cH.openL n cs).2.2) (fun x n=>Nat.le_refl _) (fun k sz rows n=>Nat.le_succ _) (fun k sz n=>Nat.le_refl _)
                (fun cells ih n=>Nat.le_trans (Nat.le_succ n) (ih (n+1))) (fun row n=>Nat.le_refl _) (fun cells ih n=>ih n) (fun cells ih n=>ih n) (fun n=>Nat.le_refl _)
                (fun c cs h1 h2 n=>Nat.le_trans (h1 n) (h2 _)) c
              have monoL:∀ (cs:List C) (n:Nat),n<=(cH.openL n cs).2.2:=by
               intro cs
               induction cs with
               |nil=>intro n;exact Nat.le_refl _
               |cons c cs ih=>intro n;exact Nat.le_trans (mono c n) (ih _)
              exact monoL cs n2
             ·exact h7.fail.elim
            ·exact h7.fail.elim
           |_=>exact h1.fail.elim
         |_=>exact h1.fail.elim
       simp only at h5 ⊢
       omega
    exact this as s n2 _ k3
   obtain ⟨r0,r1,r2⟩:=aK1 hi hb hz (old:=old) (N:=N) (S0:=T0 0) (V:=V 0) (r:=(c0,l0,g0,b0)) (fun n hn=>hold n (by simp [hn])) (by omega) hold0 (fun n hn=>hbZ n (by simp [hn])) hnd0 (hra 0 _ rfl) h1 (hT0 0 c0 rfl) (fun n hn x y h h'=>by
    obtain ⟨m,hm,hT⟩:=hcov n (by simp [hn]) x y h h'
    cases m with
    |zero=>exact hT
    |succ m=>
     obtain ⟨n2,a2,b2⟩:=us m (by simpa using hm) x y hT
     exact (hdis n n2 x y (List.mem_append.2 (.inl hn)) a2 h b2).elim) (fun c1 hc1=>hV1 0 c1 (by simp [hc1])) (fun x y h=>hV2 0 x y h) k1
   obtain ⟨t0,t1,t2⟩:=ih (fun m=>vs (m+1)) (cs,ls,gs,bs) (fun m=>T0 (m+1)) (fun m=>V (m+1)) s n2 x2 n3 (fun n hn=>hold n (by simp [hn])) hN (fun q hq=>(hold0 q hq).imp (fun h=>by omega) id) (fun n hn=>hbZ n (by simp [hn])) hnds (fun m a' hm=>hra (m+1) a' (by simpa using hm)) h3
    (fun m c' hm=>hT0 (m+1) c' (by simpa using hm)) (fun n hn x y h h'=>by
     obtain ⟨m,hm,hT⟩:=hcov n (by simp [hn]) x y h h'
     cases m with
     |zero=>
      obtain ⟨n2,a2,b2⟩:=u0 x y hT
      exact (hdis n2 n x y a2 (List.mem_append.2 (.inl hn)) b2 h).elim
     |succ m=>exact ⟨m,by simpa using hm,hT⟩) (fun m c' hm=>hV1 (m+1) c' (by simpa using hm)) (fun m x y h=>hV2 (m+1) x y h) (fun i j hij=>hV3 (i+1) (j+1) (by omega)) k3
   simp only at r1 r2 t1 t2
   refine ⟨by omega,?_,?_⟩
   ·rw [List.map_append]
    refine r1.append t1 (fun q hq hq'=>?_) ?_ ?_ ?_ (fun _ _ _ _=>trivial)
    ·have hlo:∀ q,q∈l0\/q∈ls->q<n0\/N<=q:=fun q hq=>hold0 q (hold q (by simpa using hq))
     rcases r2 q hq with h5|h5
     ·rcases t2 q hq' with h6|h6
      ·exact hap q (List.mem_append.2 (.inl h5)) (List.mem_append.2 (.inl h6))
      ·have:=hlo q (.inl h5);omega
     ·rcases t2 q hq' with h6|h6
      ·have:=hlo q (.inr h6);omega
      ·omega
    ·rintro x y (h5|⟨n,hn,h5,h6⟩) (⟨m,h7⟩|⟨n',hn',h7,h8⟩)
     ·exact hV3 0 (m+1) (by omega) x y h5 h7
     ·rcases hV2 0 x y h5 with h9|h9
      ·exact h8 h9
      ·obtain ⟨o2,p2⟩:=i2 n' (List.mem_append.2 (.inl hn'))
       have:=hi.lt n' o2 p2 x y h7;omega
     ·rcases hV2 (m+1) x y h7 with h9|h9
      ·exact h6 h9
      ·obtain ⟨o2,p2⟩:=q3 n (List.mem_append.2 (.inl hn))
       have:=hi.lt n o2 p2 x y h5;omega
     ·exact hdis n n' x y (List.mem_append.2 (.inl hn)) (List.mem_append.2 (.inl hn')) h5 h7
    ·rintro x y (h5|⟨n,hn,h5,h6⟩)
     ·exact .inl ⟨0,h5⟩
     ·exact .inr ⟨n,by simp [hn],h5,h6⟩
    ·rintro x y (⟨m,h5⟩|⟨n,hn,h5,h6⟩)
     ·exact .inl ⟨m+1,h5⟩
     ·exact .inr ⟨n,by simp [hn],h5,h6⟩
   ·intro q hq
    rw [List.map_append] at hq
    rcases List.mem_append.1 hq with h5|h5
    ·rcases r2 q h5 with h6|h6
     ·exact .inl (List.mem_append.2 (.inl h6))
     ·exact .inr ⟨h6.1,by omega⟩
    ·rcases t2 q h5 with h6|h6
     ·exact .inl (List.mem_append.2 (.inr h6))
     ·exact .inr ⟨by omega,h6.2⟩
end
def oI (h:Nat->Option O) (os:List (Nat×Option O)) (old:List Nat):Prop:=
 ∀ q ver k sz rows,(q,some (.arr ver k sz rows))∈os->q∈old->∃ ver0 k0 rows0,h q=some (.arr ver0 k0 sz rows0)/\ver0<ver
section
variable {e:Env} {old:List Nat}
theorem oI.append {h:Nat->Option O} {os os':List (Nat×Option O)} (h1:oI h os old) (h2:oI h os' old):oI h (os++os') old:=
 fun q ver k sz rows hm ho=>(List.mem_append.1 hm).elim (fun hm=>h1 q ver k sz rows hm ho) (fun hm=>h2 q ver k sz rows hm ho)
theorem oI.nil {h:Nat->Option O}:oI h [] old:=fun q ver k sz rows hm=>by simp at hm
theorem aB1 {a:A} {c:C} {os:List (Nat×Option O)} (hback:Out e (pZ a c) os):oI e.h os old:=by
 unfold pZ at hback
 split at hback
 ·rename_i n k sz rows
  obtain ⟨o,ho,hback⟩:=hback.rh
  split at hback
  ·rename_i ver k0 sz0 rows0
   split at hback
   ·rename_i hsz
    subst hsz
    rw [hback.ret]
    intro q ver' k' sz' rows' hm _
    simp at hm
    obtain ⟨rfl,rfl,rfl,rfl,rfl⟩:=hm
    exact ⟨ver,k0,rows0,ho,by omega⟩
   ·exact hback.fail.elim
  ·exact hback.fail.elim
 ·rename_i n ver p k' sz' rows'
  obtain ⟨o,ho,hback⟩:=hback.rh
  split at hback
  ·rename_i ver0 k sz rows
   split at hback
   ·rw [hback.ret]
    intro q ver' k' sz' rows' hm _
    simp at hm
    obtain ⟨rfl,rfl,rfl,rfl,rfl⟩:=hm
    exact ⟨ver0,_,rows,ho,by omega⟩
   ·exact hback.fail.elim
  ·exact hback.fail.elim
 ·rw [hback.ret];exact oI.nil
 ·rw [hback.ret];exact oI.nil
 ·exact hback.fail.elim
theorem aGi:∀ (cells:List A) (cs:List C) (os:List (Nat×Option O)),Out e (pE cells cs) os->oI e.h os old:=by
 intro cells
 induction cells with
 |nil=>
  intro cs os h
  cases cs with
  |nil=>rw [h.ret];exact oI.nil
  |cons=>exact h.fail.elim
 |cons a cells ih=>
  intro cs os h
  cases cs with
  |nil=>exact h.fail.elim
  |cons c cs=>
   unfold pE at h
   obtain ⟨x,h1,h2⟩:=Out.bind h
   obtain ⟨y,h3,h4⟩:=Out.bind h2
   rw [h4.ret]
   exact (aB1 h1).append (ih cs y h3)
theorem aGP (c:C):∀ n,n<=(cH n c).2.2/\∀ q o,(q,o)∈(cH n c).2.1->n<=q/\q<(cH n c).2.2:=by
 exact C.rec (motive_1:=fun c=>∀ n,n<=(cH n c).2.2/\∀ q o,(q,o)∈(cH n c).2.1->n<=q/\q<(cH n c).2.2)
  (motive_2:=fun cs=>∀ n,n<=(cH.openL n cs).2.2/\∀ q o,(q,o)∈(cH.openL n cs).2.1->n<=q/\q<(cH.openL n cs).2.2)
  (fun x n=>⟨Nat.le_refl _,fun q o h=>by simp [cH] at h⟩)
  (fun k sz rows n=>⟨Nat.le_succ _,fun q o h=>by simp [cH] at h;obtain ⟨rfl,_⟩:=h;simp [cH]⟩)
  (fun k sz n=>⟨Nat.le_refl _,fun q o h=>by simp [cH] at h⟩)
  (fun cells ih n=>by
   obtain ⟨h1,h2⟩:=ih (n+1)
   show n<=(cH.openL (n+1) cells).2.2/\∀ q o,(q,o)∈(cH.openL (n+1) cells).2.1++[(n,some (.box (cH.openL (n+1) cells).1))]->n<=q/\q<(cH.openL (n+1) cells).2.2
   refine ⟨by omega,fun q o h=>?_⟩
   rcases List.mem_append.1 h with h|h
   ·have:=h2 q o h;omega
   ·simp at h;omega)
  (fun row n=>⟨Nat.le_refl _,fun q o h=>by simp [cH] at h⟩) (fun cells ih n=>ih n) (fun cells ih n=>ih n)
  (fun n=>⟨Nat.le_refl _,fun q o h=>by simp [cH.openL] at h⟩)
  (fun c cs h1 h2 n=>by
   obtain ⟨a1,a2⟩:=h1 n
   obtain ⟨b1,b2⟩:=h2 (cH n c).2.2
   show n<=(cH.openL (cH n c).2.2 cs).2.2/\∀ q o,(q,o)∈(cH n c).2.1++(cH.openL (cH n c).2.2 cs).2.1->n<=q/\q<(cH.openL (cH n c).2.2 cs).2.2
   refine ⟨by omega,fun q o h=>?_⟩
   rcases List.mem_append.1 h with h|h
   ·have:=a2 q o h;omega
   ·have:=b2 q o h;omega) c
theorem aOV:∀ (cs:List C) (n:Nat),n<=(cH.openL n cs).2.2/\∀ q o,(q,o)∈(cH.openL n cs).2.1->n<=q/\q<(cH.openL n cs).2.2:=by
 intro cs
 induction cs with
 |nil=>intro n;exact ⟨Nat.le_refl _,fun q o h=>by simp [cH.openL] at h⟩
 |cons c cs ih=>
  intro n
  obtain ⟨a1,a2⟩:=aGP c n
  obtain ⟨b1,b2⟩:=ih (cH n c).2.2
  show n<=(cH.openL (cH n c).2.2 cs).2.2/\∀ q o,(q,o)∈(cH n c).2.1++(cH.openL (cH n c).2.2 cs).2.1->n<=q/\q<(cH.openL (cH n c).2.2 cs).2.2
  refine ⟨by omega,fun q o h=>?_⟩
  rcases List.mem_append.1 h with h|h
  ·have:=a2 q o h;omega
  ·have:=b2 q o h;omega
theorem aDr {N n0 n1:Nat} {m:eN} {a:A} {oc:Option C} {os:List (Nat×Option O)} (hN:n1<=N) (hold0:∀ q,q∈old->q<n0\/N<=q) (h:Out e (vD n0 m a oc) (os,n1)):n0<=n1/\oI e.h os old:=by
 unfold vD at h
 cases m with
 |borrow=>cases oc with
  |none=>have:=h.ret;cases this;exact ⟨Nat.le_refl _,oI.nil⟩
  |some=>exact h.fail.elim
 |give=>cases oc with
  |none=>have:=h.ret;cases this;exact ⟨Nat.le_refl _,oI.nil⟩
  |some=>exact h.fail.elim
 |nil=>cases oc with
  |none=>have:=h.ret;cases this;exact ⟨Nat.le_refl _,oI.nil⟩
  |some=>exact h.fail.elim
 |lend=>cases oc with
  |none=>exact h.fail.elim
  |some c1=>
   obtain ⟨x,h1,h2⟩:=Out.bind h
   have:=h2.ret
   cases this
   refine ⟨Nat.le_refl _,?_⟩
   unfold aB0 at h1
   cases a with
   |agg cells=>
    simp only at h1
    cases c1 with
    |agg cs=>exact aGi cells cs _ h1
    |_=>exact h1.fail.elim
   |_=>exact aB1 h1
 |box len=>
  cases a with
  |ptr q off=>
   cases oc with
   |none=>exact h.fail.elim
   |some c1=>
    cases c1 with
    |box cs=>
     simp only at h
     unfold aB2 at h
     obtain ⟨o,_,h7⟩:=h.rh
     split at h7
     ·split at h7
      ·have:=h7.ret
       cases this
       obtain ⟨k1,k2⟩:=aOV cs n0
       refine ⟨k1,oI.append ?_ ?_⟩
       ·intro q' ver k sz rows hm ho
        have:=k2 _ _ hm
        have:=hold0 q' ho
        omega
       ·intro q' ver k sz rows hm ho
        simp at hm
      ·exact h7.fail.elim
     ·exact h7.fail.elim
    |_=>exact h.fail.elim
  |_=>exact h.fail.elim
theorem aJ4 {N:Nat}:∀ (as:List (eN×A)) (ocs:List (Option C)) (n0 n1:Nat) (os:List (Nat×Option O)),n1<=N->(∀ q,q∈old->q<n0\/N<=q)->Out e (mE n0 as ocs) (os,n1)->n0<=n1/\oI e.h os old:=by
 intro as
 induction as with
 |nil=>
  intro ocs n0 n1 os _ _ h
  cases ocs with
  |nil=>have:=h.ret;cases this;exact ⟨Nat.le_refl _,oI.nil⟩
  |cons=>exact h.fail.elim
 |cons p as ih=>
  intro ocs n0 n1 os hN hold0 h
  obtain ⟨m,a⟩:=p
  cases ocs with
  |nil=>exact h.fail.elim
  |cons oc s=>
   unfold mE at h
   obtain ⟨⟨x1,n2⟩,h1,h2⟩:=Out.bind h
   simp only at h2
   obtain ⟨⟨x2,n3⟩,h3,h4⟩:=Out.bind h2
   have:=h4.ret
   cases this
   have hmono:∀ N',n2<=N'->n0<=n2:=fun N' hN'=>(aDr (old:=[]) (N:=N') hN' (fun q hq=>by simp at hq) h1).1
   have h02:=hmono n2 (Nat.le_refl _)
   obtain ⟨t1,t2⟩:=ih s n2 n3 x2 hN (fun q hq=>(hold0 q hq).imp (fun h=>by omega) id) h3
   obtain ⟨s1,s2⟩:=aDr (N:=N) (by omega) hold0 h1
   exact ⟨by omega,s2.append t2⟩
end
theorem aCe:∀ (os:List (Nat×Option O)) (h:Nat->Option O) (q:Nat),q ∉ os.map (·.1)->eS h os q=h q:=by
 intro os
 induction os with
 |nil=>intro h q _;rfl
 |cons p os ih=>
  intro h q hq
  obtain ⟨n,o⟩:=p
  simp only [List.map_cons,List.mem_cons,not_or] at hq
  simp only [eS]
  rw [ih _ q hq.2,if_neg hq.1]
theorem aP0:∀ (os:List (Nat×Option O)) (h:Nat->Option O) (q:Nat) (o:Option O),(os.map (·.1)).Nodup->(q,o)∈os->eS h os q=o:=by
 intro os
 induction os with
 |nil=>intro h q o _ hm;simp at hm
 |cons p os ih=>
  intro h q o hnd hm
  obtain ⟨n,o'⟩:=p
  simp only [List.map_cons,List.nodup_cons] at hnd
  simp only [eS]
  rcases List.mem_cons.1 hm with hm|hm
  ·cases hm
   rw [aCe os _ q hnd.1,if_pos rfl]
  ·exact ih _ q o hnd.2 hm
theorem vV (os os':List (Nat×Option O)):∀ (h:Nat->Option O),eS h (os++os')=eS (eS h os) os':=by
 induction os with
 |nil=>intro h;rfl
 |cons p os ih=>intro h;funext q;simp only [List.cons_append,eS];rw [ih]
theorem aGt:∀ (ns:List Nat) (h:Nat->Option O) (q:Nat),eS h (ns.map fun q=>(q,none)) q=if q∈ns then none else h q:=by
 intro ns
 induction ns with
 |nil=>intro h q;simp [eS]
 |cons n ns ih=>
  intro h q
  simp only [List.map_cons,eS]
  rw [ih]
  by_cases h1:q∈ns
  ·simp [h1]
  ·by_cases h2:q=n
   ·simp [h2]
   ·simp [h1,h2]
theorem aB8.get:∀ {os:List (Option C)},aB8 os->∀ (m:Nat) c,os[m]?=some (some c)->aL1 c:=by
 intro os
 induction os with
 |nil=>intro _ m c h;simp at h
 |cons o os ih=>
  intro h m c hm
  cases m with
  |zero=>simp at hm;subst hm;unfold aB8 at h;exact h.1
  |succ m=>
   cases o with
   |none=>unfold aB8 at h;exact ih h m c (by simpa using hm)
   |some=>unfold aB8 at h;exact ih h.2 m c (by simpa using hm)
section
variable {P:Program} {c:Ctx} {g:Gh} {w:World} {base:Nat} {e:Env}
theorem aTd (hi:fB c g e.h w) (hV:∀ f cs r os,e.V f cs r os->aC P c.gv f cs r os) (hf:∀ n,base<=n->n<base+64->¬g.Nm n) {f:A} {as:List A} {modes:List eN} {vf:Value} {args:Array Value} {wr:Wr}
  (hfa:RA g e.h w f vf) (hl:args.size=as.length) (hra:∀ (m:Nat) a,as[m]?=some a->RA g e.h w a (args.getD m Go.undef)) (h:Out e (aN5 base f as modes) wr):
  ∃ fid capv,vf=.func (.func fid) #[] capv/\aSd P fid/\Calls P fid (args++capv) w fun en w'=>∃ v g',en=.returned v/\fB c g' (eS e.h wr.objs) w'/\Ext g g' e.h (eS e.h wr.objs) w w'/\RA g' (eS e.h wr.objs) w' wr.val v ∧
   ∀ n,g'.Nm n->g.Nm n\/(base<=n/\n<base+64):=by
 unfold aN5 at h
 split at h
 ·rename_i fid caps
  obtain ⟨⟨cs,l,gv,b⟩,h1,h2⟩:=Out.bind h
  simp only at h2
  split at h2
  ·rename_i hcond
   obtain ⟨hml,hnd,hap⟩:=hcond
   obtain ⟨r,os,hv,h3⟩:=h2.call
   unfold aRN at h3
   obtain ⟨hind,h3⟩:=h3.need
   obtain ⟨⟨os2,n2⟩,h4,h5⟩:=Out.bind h3
   simp only at h5
   split at h5
   ·rename_i hn2
    rw [h5.ret]
    cases hfa with|d _ _ hsf=>?_
    cases hsf with|fn _ _ capv bs offs cvs hcl hcb hcc hcs=>?_
    obtain ⟨hgoes,hcontract⟩:=hV _ _ _ _ hv
    refine ⟨fid,capv,rfl,hgoes,?_⟩
    have hnd':=yY hnd
    have hap':=aA1 hap
    have hzip:∀ (m:Nat) p,(modes.zip as)[m]?=some p->as[m]?=some p.2:=by
     intro m p hp
     have:=(List.getElem?_zip_eq_some.1 hp).2
     exact this
    have hzl:(modes.zip as).length=as.length:=by simp [List.length_zip,hml]
    let Z:bK:=fun x y=>g.Fz x y\/∃ n,n∈b/\g.F n x y
    obtain ⟨i1,i2,i3,T,i4,i5,i6⟩:=yH (Z:=Z) hi (modes.zip as) (fun m=>args.getD m Go.undef) (cs,l,gv,b) (fun m p hp=>hra m p.2 (hzip m p hp)) h1 (fun x y h=>.inl h) (fun n hn x y hF=>.inr ⟨n,hn,hF⟩) hnd'
    simp only at i1 i2 i3 i4 i5
    have hcsl:cs.length=args.size:=by omega
    let U:Nat->bK:=fun m=>if m<cs.length then T m else fun _ _=>False
    have hUlt:∀ m x y,U m x y->m<cs.length/\∃ n,n∈l++gv/\g.F n x y:=by
     intro m x y h
     simp only [U] at h
     split at h
     ·rename_i hm;exact ⟨hm,i5 m hm x y h⟩
     ·exact h.elim
    have hZlt:∀ x y,Z x y->x<w.heap.size:=by
     rintro x y (h|⟨n,hn,hF⟩)
     ·exact hi.fzlt x y h
     ·obtain ⟨ob,hob⟩:=i3 n hn
      exact hi.lt n ob hob x y hF
    have hUZ:∀ m x y,U m x y->¬Z x y:=by
     intro m x y h hz
     obtain ⟨_,n,hn,hF⟩:=hUlt m x y h
     obtain ⟨ob,hob⟩:=i2 n hn
     rcases hz with hz|⟨n',hn',hF'⟩
     ·exact (hi.mine n ob hob x y hF).2 hz
     ·obtain ⟨ob',hob'⟩:=i3 n' hn'
      exact hi.disj n n' ob ob' hob hob' (fun e=>hap' n hn (e ▸ hn')) x y hF hF'
    have hUd:∀ i j,i≠j->∀ x y,U i x y->¬U j x y:=by
     intro i j hij x y h h'
     obtain ⟨hi',_⟩:=hUlt i x y h
     obtain ⟨hj',_⟩:=hUlt j x y h'
     simp only [U,if_pos hi',if_pos hj'] at h h'
     exact i6 i j hi' hj' hij x y h h'
    have hRCs:RCs w Z (cs++caps.map .rp) (args++capv) U:=by
     refine ⟨by simp [hcsl,hcl],fun m c' hm=>?_,fun i j _ _ hij=>hUd i j hij⟩
     by_cases hmc:m<cs.length
     ·rw [List.getElem?_append_left hmc] at hm
      have e1:(args++capv).getD m Go.undef=args.getD m Go.undef:=by
       simp [Array.getD_eq_getD_getElem?,Array.getElem?_append,(by omega:m<args.size)]
      rw [e1]
      simp only [U,if_pos hmc]
      exact i4 m c' hm
     ·rw [List.getElem?_append_right (by omega)] at hm
      simp only [List.getElem?_map] at hm
      cases hcap:caps[m-cs.length]? with
      |none=>simp [hcap] at hm
      |some row=>
       simp only [hcap,Option.map_some,Option.some.injEq] at hm
       subst hm
       have hcv:=hcb _ row hcap
       have e1:(args++capv).getD m Go.undef=.pointer (some (at_ (bs (m-cs.length)) (offs (m-cs.length)))):=by
        simp [Array.getD_eq_getD_getElem?,Array.getElem?_append]
        rw [<-hcsl,hcv];simp [hmc]
       rw [e1]
       simp only [U,if_neg hmc]
       exact .rp row _ _ (cvs (m-cs.length)) _ (fun k d hk=>by
        obtain ⟨q1,q2⟩:=hcc _ row k d hcap hk
        exact ⟨q1,.inl q2⟩) (fun k d hk=>(hcs _ row k d hcap hk).mono (fun _ _ _=>rfl) fun _ _ h=>.inl h) (fun _ _ h=>h)
    refine (hcontract w (args++capv) Z U (fun b ob h=>⟨fun o=>.inl ((hi.gl b ob h).1 o),(hi.gl b ob h).2⟩) hZlt hRCs (fun i _ x y h=>hUZ i x y h)).mono ?_
    rintro en w' ⟨v,Fz',U',rfl,post⟩
    refine ⟨v,?_⟩
    let Sall:bK:=fun x y=>∃ i,i<(cs++caps.map C.rp).length/\U i x y
    have hSall:∀ x y,Sall x y->∃ n,n∈l++gv/\g.F n x y:=by
     rintro x y ⟨i,_,h⟩
     exact (hUlt i x y h).2
    have hSlt:∀ x y,Sall x y->∃ m,m<cs.length/\T m x y:=by
     rintro x y ⟨i,_,h⟩
     obtain ⟨hi',_⟩:=hUlt i x y h
     simp only [U,if_pos hi'] at h
     exact ⟨i,hi',h⟩
    have hgS:∀ x y,g.Fz x y->¬Sall x y:=by
     rintro x y hz ⟨i,_,h⟩
     exact hUZ i x y h (.inl hz)
    obtain ⟨FzN,z1,z2,z3,z4,z5⟩:∃ FzN:bK,(∀ x y,g.Fz x y->FzN x y)/\(∀ x y,FzN x y->g.Fz x y\/Sall x y\/(w.heap.size<=x/\x<w'.heap.size))/\RC w' FzN r v (U' 0) ∧
      (∀ (m:Nat) c1,os[m]?=some (some c1)->RC w' FzN c1 ((args++capv).getD m Go.undef) (U' (m+1)))/\∀ i x y,U' i x y->¬FzN x y:=by
     by_cases hb:b=[]
     ·subst hb
      refine ⟨Fz',fun x y h=>post.fz x y (.inl h),fun x y h=>?_,post.res,post.outs,fun i x y h=>(post.mine i x y h).2.1⟩
      rcases post.fzof x y h with h6|h6|h6
      ·rcases h6 with h6|⟨n,hn,_⟩
       ·exact .inl h6
       ·simp at hn
      ·exact .inr (.inl h6)
      ·exact .inr (.inr ⟨h6,post.fzlt x y h⟩)
     ·obtain ⟨d1,d2⟩:=hind hb
      exact ⟨g.Fz,fun x y h=>h,fun x y h=>.inl h,post.res.ind d1,fun m c1 hm=>(post.outs m c1 hm).ind (d2.get m c1 hm),fun i x y h hz=>(post.mine i x y h).2.1 (post.fz x y (.inl hz))⟩
    have hbeh:aCR g e.h w w' Sall FzN:=⟨post.cell,z1,hgS⟩
    have hold0:∀ q,q∈l->q<base\/base+64<=q:=by
     intro q hq
     obtain ⟨ob,hob⟩:=i2 q (List.mem_append.2 (.inl hq))
     have:=hi.nm q ob hob
     by_cases hc:base<=q/\q<base+64
     ·exact absurd this (hf q hc.1 hc.2)
     ·omega
    obtain ⟨k1,k2⟩:=aGP r base
    obtain ⟨hle,hOld⟩:=aJ4 (old:=l) (N:=base+64) (modes.zip as) os _ n2 os2 hn2 (fun q hq=>(hold0 q hq).imp (fun h=>by omega) id) h4
    obtain ⟨p1,p2⟩:=gV.of_opened (X:=aNl g e.h w w' FzN) (νo:=g.ν) (old:=l) (aED z3 base) (fun _ _ hx=>hx.2) (fun q hq=>(hold0 q hq).imp id fun h=>by omega)
    have hargs:∀ m,m<as.length->(args++capv).getD m Go.undef=args.getD m Go.undef:=by
     intro m hm
     simp [Array.getD_eq_getD_getElem?,Array.getElem?_append,(by omega:m<args.size)]
    have hosl:os.length=as.length:=by
     have:∀ (as:List (eN×A)) (ocs:List (Option C)) (n0:Nat) (q:List (Nat×Option O)×Nat),Out e (mE n0 as ocs) q->ocs.length=as.length:=by
      intro as
      induction as with
      |nil=>intro ocs n0 q h;cases ocs with
       |nil=>rfl
       |cons=>exact h.fail.elim
      |cons p as ih=>intro ocs n0 q h;cases ocs with
       |nil=>exact h.fail.elim
       |cons oc s=>
        obtain ⟨m,a⟩:=p
        unfold mE at h
        obtain ⟨⟨x1,n2⟩,h1,h2⟩:=Out.bind h
        simp only at h2
        obtain ⟨y,h3,_⟩:=Out.bind h2
        simp [ih s _ y h3]
     rw [this _ _ _ _ h4,hzl]
    obtain ⟨t0,t1,t2⟩:=aH3 hi hbeh (Z:=Z) (fun x y h=>.inl h) (old:=l) (N:=base+64) (modes.zip as) (fun m=>args.getD m Go.undef) (cs,l,gv,b) T (fun m=>U' (m+1)) os _ os2 n2 (fun n hn=>hn) hn2
     (fun q hq=>(hold0 q hq).imp (fun h=>by omega) id) (fun n hn x y hF=>.inr ⟨n,hn,hF⟩) hnd' (fun m p hp=>hra m p.2 (hzip m p hp)) h1 i4
     (fun n hn x y hF hs=>hSlt x y hs) (fun m c1 hm=>by
      have hml':m<as.length:=by have:=(List.getElem?_eq_some_iff.1 hm).1;omega
      rw [<-hargs m hml']
      exact z4 m c1 hm) (fun m x y h=>(post.mine _ x y h).1) (fun i j hij=>post.disj (i+1) (j+1) (by omega)) h4
    simp only at t1 t2
    have hF0:∀ n x y,n∈l->g.F n x y->x<w.heap.size:=fun n x y hn hF=>by
     obtain ⟨ob,hob⟩:=i2 n (List.mem_append.2 (.inl hn))
     exact hi.lt n ob hob x y hF
    have hall:gV w' (aNl g e.h w w' FzN) g.ν (fun x y=>U' 0 x y\/Reg g Sall (fun x y=>∃ m,U' (m+1) x y) l x y) (((cH base r).2.1).map (·.1)++os2.map (·.1)) ((cH base r).2.1++os2) l (fun g' h'=>RA g' h' w' (cH base r).1 v):=by
     refine p1.append t1 (fun q hq hq'=>?_) ?_ (fun x y h=>.inl h) (fun x y h=>.inr h) (fun _ _ h _=>h)
     ·have:=p2 q hq
      rcases t2 q hq' with h6|h6
      ·have:=hold0 q h6;omega
      ·omega
     ·rintro x y h6 (⟨m,h7⟩|⟨n,hn,h7,h8⟩)
      ·exact post.disj 0 (m+1) (by omega) x y h6 h7
      ·rcases (post.mine 0 x y h6).1 with h9|h9
       ·exact h8 h9
       ·have:=hF0 n x y hn h7;omega
    obtain ⟨νs,Fs,⟨a2,a3,a4,a5,a6,a7⟩,a8⟩:=hall
    have hkeys:∀ q,q∈((cH base r).2.1).map (·.1)++os2.map (·.1)->q∈l\/(base<=q/\q<base+64):=by
     intro q hq
     rcases List.mem_append.1 hq with hq|hq
     ·have:=p2 q hq;exact .inr ⟨this.1,by omega⟩
     ·rcases t2 q hq with h6|h6
      ·exact .inl h6
      ·exact .inr ⟨by omega,by omega⟩
    generalize hK:((cH base r).2.1).map (·.1)++os2.map (·.1)=K at *
    generalize hO:(cH base r).2.1++os2=osA at *
    have hh1:∀ q,q ∉ K->q ∉ l++gv->eS e.h ((l++gv).map (fun q=>(q,none))++osA) q=e.h q:=by
     intro q q1 q2
     rw [vV,aCe osA _ q (by rw [a2];exact q1),aGt,if_neg q2]
    have hh2:∀ q,q ∉ K->q∈l++gv->eS e.h ((l++gv).map (fun q=>(q,none))++osA) q=none:=by
     intro q q1 q2
     rw [vV,aCe osA _ q (by rw [a2];exact q1),aGt,if_pos q2]
    have hh3:∀ q o,(q,o)∈osA->eS e.h ((l++gv).map (fun q=>(q,none))++osA) q=o:=by
     intro q o hq
     rw [vV,aP0 osA _ q o (by rw [a2];exact a4) hq]
    have hin:∀ q,q∈K->∃ ob,(q,some ob)∈osA:=by
     intro q hq
     rw [<-a2] at hq
     obtain ⟨⟨q',o⟩,h6,rfl⟩:=List.mem_map.1 hq
     obtain ⟨ob,rfl⟩:=a3 q' o h6
     exact ⟨ob,h6⟩
    let g':Gh:={ ν:=fun q=>if q∈K then νs q else g.ν q,F:=fun q=>if q∈K then Fs q else g.F q,Fz:=FzN,Nm:=fun q=>g.Nm q\/q∈K }
    have hNmK:∀ q,g.Nm q->q∈K->q∈l:=by
     intro q hq hk
     rcases hkeys q hk with h6|h6
     ·exact h6
     ·exact absurd hq (hf q h6.1 h6.2)
    have hTch:∀ x y,Sall x y->Tch g e.h (fun q=>q∈K\/q∈l++gv) x y:=by
     intro x y hs
     obtain ⟨n,hn,hF⟩:=hSall x y hs
     obtain ⟨ob,hob⟩:=i2 n hn
     exact ⟨n,ob,.inr hn,hob,hF⟩
    have hreg:∀ q,q∈K->∀ x y,Fs q x y->(Tch g e.h (fun q=>q∈K\/q∈l++gv) x y\/w.heap.size<=x)/\x<w'.heap.size/\¬FzN x y:=by
     intro q hq x y hF
     have hU':∀ i,U' i x y->(Tch g e.h (fun q=>q∈K\/q∈l++gv) x y\/w.heap.size<=x)/\x<w'.heap.size/\¬FzN x y:=by
      intro i h6
      obtain ⟨m1,m2,m3⟩:=post.mine i x y h6
      exact ⟨m1.imp (hTch x y) id,m3,z5 i x y h6⟩
     rcases a5 q hq x y hF with h6|⟨m,h6⟩|⟨n,hn,h6,h7⟩
     ·exact hU' 0 h6
     ·exact hU' (m+1) h6
     ·obtain ⟨ob,hob⟩:=i2 n (List.mem_append.2 (.inl hn))
      have hlt:=hi.lt n ob hob x y h6
      refine ⟨.inl ⟨n,ob,.inr (List.mem_append.2 (.inl hn)),hob,h6⟩,Nat.lt_of_lt_of_le hlt post.size,fun hz=>?_⟩
      rcases z2 x y hz with h8|h8|h8
      ·exact (hi.mine n ob hob x y h6).2 h8
      ·exact h7 h8
      ·omega
    have hstep:=rJ (g':=g') (h':=eS e.h ((l++gv).map (fun q=>(q,none))++osA)) (w':=w') hi (fun q=>q∈K\/q∈l++gv) post.side post.size
     (fun q hq=>by
      have q1:q ∉ K:=fun h=>hq (.inl h)
      have q2:q ∉ l++gv:=fun h=>hq (.inr h)
      exact ⟨hh1 q q1 q2,fun _=>by simp [g',q1]⟩) (fun q hq=>.inl hq)
     (fun q hq=>by
      by_cases hk:q∈K
      ·simp only [g',if_pos hk];exact a8 q hk (hNmK q hq hk)
      ·simp only [g',if_neg hk])
     (fun x hx hT=>post.blk x hx fun o hs=>hT o (hTch x o hs)) (fun x y hx hT=>post.cell x y hx fun hs=>hT (hTch x y hs)) z1
     (fun x y hz=>by
      rcases z2 x y hz with h6|h6|h6
      ·exact .inl h6
      ·exact .inr (.inl (hTch x y h6))
      ·exact .inr (.inr h6))
     (fun q ver k sz rows hq hnm hh=>by
      by_cases hk:q∈K
      ·have hql:=hNmK q hnm hk
       obtain ⟨ob,hob⟩:=hin q hk
       rw [hh3 q _ hob] at hh
       cases hh
       rw [<-hO] at hob
       rcases List.mem_append.1 hob with h6|h6
       ·have:=k2 _ _ h6
        have:=hold0 q hql
        omega
       ·exact hOld q ver k sz rows h6 hql
      ·rw [hh2 q hk (hq.resolve_left hk)] at hh;cases hh)
     (fun ex q o hq ho=>by
      by_cases hk:q∈K
      ·obtain ⟨ob,hob⟩:=hin q hk
       rw [hh3 q _ hob] at ho
       cases ho
       obtain ⟨_,h7⟩:=a7 g' _ ⟨ex,rfl⟩ (fun p hp=>⟨by simp [g',hp],by simp [g',hp],.inr hp⟩)
       exact ⟨.inr hk,h7 q _ hob⟩
      ·rw [hh2 q hk (hq.resolve_left hk)] at ho;cases ho)
     (fun q o hq ho x y hxy=>by
      by_cases hk:q∈K
      ·simp only [g',if_pos hk] at hxy
       exact hreg q hk x y hxy
      ·rw [hh2 q hk (hq.resolve_left hk)] at ho;cases ho)
     (fun q q' o o' hq hq' ho ho' hne x y h6 h7=>by
      by_cases hk:q∈K
      ·by_cases hk':q'∈K
       ·simp only [g',if_pos hk] at h6
        simp only [g',if_pos hk'] at h7
        exact a6 q q' hk hk' hne x y h6 h7
       ·rw [hh2 q' hk' (hq'.resolve_left hk')] at ho';cases ho'
      ·rw [hh2 q hk (hq.resolve_left hk)] at ho;cases ho)
    refine ⟨g',rfl,hstep.1,hstep.2,?_,fun n hn=>?_⟩
    ·exact (a7 g' _ ⟨hstep.2,rfl⟩ (fun p hp=>⟨by simp [g',hp],by simp [g',hp],.inr hp⟩)).1
    ·rcases hn with hn|hn
     ·exact .inl hn
     ·rcases hkeys n hn with h6|h6
      ·obtain ⟨ob,hob⟩:=i2 n (List.mem_append.2 (.inl h6))
       exact .inl (hi.nm n ob hob)
      ·exact .inr h6
   ·exact h5.fail.elim
  ·exact h2.fail.elim
 ·exact h.fail.elim
end
def aCl (P:Program):Nat->TypeId->Nat
 |0,_=>0
 |d+1,t=>match P.underlying t with
  |some (.slice e)=>1+aCl P d e
  |some (.struct fs)=>fs.toList.foldl (fun m f=>max m (aCl P d f.type)) 0
  |some (.array _ e)=>aCl P d e
  |_=>0
def aCI (P:Program) (t:TypeId):Value->Option D
 |.bool b=>some (.bool b)
 |.int k n=>some (.int k n)
 |.string s=>some (.str s.data.toList)
 |.nilIface=>some (.err true)
 |.slice none 0 0=>match P.underlying t with|some (.slice e)=>some (.slc (P.cellsOf e) [])|_=>none
 |_=>none
def tU (P:Program) (t:TypeId) (v:Value):Option A:=
 match v with
 |.slice none 0 0=>match P.underlying t with|some (.slice e)=>some (.nil (aCl P 12 e) (P.cellsOf e))|_=>none
 |v=>(aCI P t v).map .d
def xR (P:Program) (t:TypeId) (n:Nat):Option (List TypeId):=(P.cellTypes P.depth t).bind fun ts=>if ts.length=n then some ts else none
def mB (P:Program):List TypeId->List Value->Option (List A)
 |[],[]=>some []
 |t::ts,v::vs=>(tU P t v).bind fun a=>(mB P ts vs).bind fun as=>some (a::as)
 |_,_=>none
def xQ (P:Program):List TypeId->List Value->Option (List D)
 |[],[]=>some []
 |t::ts,v::vs=>(aCI P t v).bind fun a=>(xQ P ts vs).bind fun as=>some (a::as)
 |_,_=>none
def aIy (P:Program) (t:TypeId) (v:Value):Option A:=
 match v with
 |.agg cs=>(xR P t cs.size).bind fun ts=>(mB P ts cs.toList).map .agg
 |.pointer none=>some .undef
 |v=>tU P t v
def aNo (P:Program) (t:TypeId) (v:Value):Option (List A):=(xR P t v.cells.size).bind fun ts=>mB P ts v.cells.toList
def aNn (P:Program) (t:TypeId) (v:Value):Option (List D):=(xR P t v.cells.size).bind fun ts=>xQ P ts v.cells.toList
theorem aSE (s:ByteArray):Value.string s=.string ⟨s.data.toList.toArray⟩:=by
 congr 1
section
variable {P:Program} {g:Gh} {h:Nat->Option O} {w:World}
theorem aHd {t:TypeId} {v:Value} {d:D} (hc:aCI P t v=some d):(∀ w Fz,Shr w Fz v d)/\∀ w Fz k,Own w Fz k v d (fun _ _=>False):=by
 unfold aCI at hc
 split at hc
 ·cases hc;exact ⟨fun _ _=>.bool _,fun w Fz k=>by cases k<;>exact ⟨.bool _,fun _ _ h=>h⟩⟩
 ·cases hc;exact ⟨fun _ _=>.int _ _,fun w Fz k=>by cases k<;>exact ⟨.int _ _,fun _ _ h=>h⟩⟩
 ·rename_i s
  cases hc
  have:∀ w Fz,Shr w Fz (.string s) (.str s.data.toList):=fun w Fz=>by exact .str _
  exact ⟨this,fun w Fz k=>by cases k<;>exact ⟨this w Fz,fun _ _ h=>h⟩⟩
 ·cases hc;exact ⟨fun _ _=>.nilIface,fun w Fz k=>by cases k<;>exact ⟨.nilIface,fun _ _ h=>h⟩⟩
 ·split at hc
  ·cases hc
   exact ⟨fun _ _=>.emp _ _ _,fun w Fz k=>by
    cases k with
    |zero=>exact ⟨.emp _ _ _,fun _ _ h=>h⟩
    |succ k=>exact tF (.inl rfl)⟩
  grind
 grind
theorem aBO {t:TypeId} {v:Value} {a:A} (hc:tU P t v=some a):RA g h w a v/\v.oneCell'=true:=by
 unfold tU at hc
 split at hc
 ·split at hc
  ·cases hc;exact ⟨.nil _ _,rfl⟩
  grind
 ·cases hd:aCI P t v with
  |none=>grind
  |some d=>
   simp only [hd,Option.map_some,Option.some.injEq] at hc
   subst hc
   have:=(aHd hd).1 w g.Fz
   exact ⟨.d _ _ this,this.one⟩
theorem yL:∀ (ts:List TypeId) (vs:List Value) (as:List A),mB P ts vs=some as->as.length=vs.length/\∀ (m:Nat) a,as[m]?=some a->∃ v,vs[m]?=some v/\RA g h w a v/\v.oneCell'=true:=by
 intro ts
 induction ts with
 |nil=>
  intro vs as hc
  cases vs with
  |nil=>simp only [mB,Option.some.injEq] at hc;grind
  |cons=>cases hc
 |cons t ts ih=>
  intro vs as hc
  cases vs with
  |nil=>cases hc
  |cons v vs=>
   simp only [mB] at hc
   cases h1:tU P t v with
   |none=>grind
   |some a=>
    cases h2:mB P ts vs with
    |none=>grind
    |some as'=>
     simp only [h1,h2,Option.bind_some,Option.some.injEq] at hc
     subst hc
     refine ⟨by grind,fun m b hm=>?_⟩
     cases m with
     |zero=>simp at hm;subst hm;exact ⟨v,rfl,aBO h1⟩
     |succ m=>grind
theorem aNa:∀ (ts:List TypeId) (vs:List Value) (ds:List D),xQ P ts vs=some ds->ds.length=vs.length/\∀ (m:Nat) d,ds[m]?=some d->∃ v,vs[m]?=some v/\∀ w Fz k,Own w Fz k v d (fun _ _=>False):=by
 intro ts
 induction ts with
 |nil=>
  intro vs as hc
  cases vs with
  |nil=>simp only [xQ,Option.some.injEq] at hc;grind
  |cons=>cases hc
 |cons t ts ih=>
  intro vs as hc
  cases vs with
  |nil=>cases hc
  |cons v vs=>
   simp only [xQ] at hc
   cases h1:aCI P t v with
   |none=>grind
   |some a=>
    cases h2:xQ P ts vs with
    |none=>grind
    |some as'=>
     simp only [h1,h2,Option.bind_some,Option.some.injEq] at hc
     subst hc
     refine ⟨by grind,fun m b hm=>?_⟩
     cases m with
     |zero=>simp at hm;subst hm;exact ⟨v,rfl,(aHd h1).2⟩
     |succ m=>grind
theorem aKc {t:TypeId} {v:Value} {as:List A} (hc:aNo P t v=some as):∀ g h w,pN g h w as v.cells:=by
 intro g h w
 unfold aNo at hc
 cases h1:xR P t v.cells.size with
 |none=>grind
 |some ts=>
  simp only [h1,Option.bind_some] at hc
  obtain ⟨i1,i2⟩:=yL (g:=g) (h:=h) (w:=w) ts _ _ hc
  refine ⟨by grind,fun m a hm=>?_⟩
  obtain ⟨u,hu,h2,h3⟩:=i2 m a hm
  simp_all
theorem aKb {t:TypeId} {v:Value} {ds:List D} (hc:aNn P t v=some ds):aNg v.cells ds:=by
 unfold aNn at hc
 cases h1:xR P t v.cells.size with
 |none=>grind
 |some ts=>
  simp only [h1,Option.bind_some] at hc
  obtain ⟨i1,i2⟩:=aNa ts _ _ hc
  refine ⟨by grind,fun m d hm w Fz k=>?_⟩
  obtain ⟨u,hu,h2⟩:=i2 m d hm
  simp_all
theorem aPE {t:TypeId} {v:Value} {a:A} (hc:aIy P t v=some a):RA g h w a v:=by
 unfold aIy at hc
 split at hc
 ·rename_i cs
  cases h1:xR P t cs.size with
  |none=>grind
  |some ts=>
   simp only [h1,Option.bind_some] at hc
   cases h2:mB P ts cs.toList with
   |none=>grind
   |some as=>
    simp only [h2,Option.map_some,Option.some.injEq] at hc
    subst hc
    obtain ⟨i1,i2⟩:=yL (g:=g) (h:=h) (w:=w) ts _ _ h2
    have key:∀ (m:Nat) a,as[m]?=some a->RA g h w a (cs.getD m Go.undef)/\(cs.getD m Go.undef).oneCell'=true:=by
     intro m a hm
     obtain ⟨u,hu,h3,h4⟩:=i2 m a hm
     simp_all
    exact .agg as cs (by grind) (fun m a hm=>(key m a hm).2) (fun m a hm=>(key m a hm).1)
 ·cases hc;exact .undef _
 grind [aBO]
def iN (P:Program) (vl:List Nat) (t:TypeId):Operand->Option Opd
 |.tmp s=>some (if s∈vl then .var s else .loc s)
 |.const v=>(aIy P t v).map .const
 |.func f=>some (.fn f)
 |.global _=>none
structure aJ7 (vl:List Nat) (g:Gh) (h:Nat->Option O) (w:World) (ts vs:List (Nat×A)) (a:Act):Prop where
 loc:∀ s x,cQ ts s=some x->s ∉ vl/\s<a.tmps.size/\RA g h w x (a.tmps.getD s Go.undef)
 var:∀ s x,cQ vs s=some x->s∈vl/\s<a.tmps.size/\RA g h w x (a.tmps.getD s Go.undef)
 defers:a.defers=[]
def St.env (st:St) (V:FuncId->List C->C->List (Option C)->Prop):Env where
 sl:=fun v s=>if v then cQ st.vars s else cQ st.tmps s
 h:=cQ st.objs
 V:=V
theorem dT {vl:List Nat} {st:St} {V:FuncId->List C->C->List (Option C)->Prop} {act:Act} (hs:aJ7 vl g (cQ st.objs) w st.tmps st.vars act) {t:TypeId} {x0:Operand} {x:Opd} (hc:iN P vl t x0=some x) {a:A} (he:Out (st.env V) (ev x) a):
  RA g (cQ st.objs) w a (act.eval x0):=by
 cases x0 with
 |tmp s=>
  simp only [iN,Option.some.injEq] at hc
  subst hc
  split at he
  ·obtain ⟨y,hy,he⟩:=he.rs
   rw [he.ret]
   exact (hs.var s y hy).2.2
  ·obtain ⟨y,hy,he⟩:=he.rs
   rw [he.ret]
   exact (hs.loc s y hy).2.2
 |const v=>
  simp only [iN] at hc
  cases h1:aIy P t v with
  |none=>grind
  |some b=>
   simp only [h1,Option.map_some,Option.some.injEq] at hc
   subst hc
   rw [he.ret]
   exact aPE h1
 |global _=>cases hc
 |func f=>
  simp only [iN,Option.some.injEq] at hc
  subst hc
  rw [he.ret]
  exact .d _ _ (.fn f [] #[] (fun _=>0) (fun _=>0) (fun _ _=>Go.undef) rfl (fun i row h=>by grind) (fun i row m d h=>by grind) (fun i row m d h=>by grind))
end
def qF (P:Program) (t:TypeId):Option (Bool×Nat):=
 match P.underlying t,P.info? t with
 |some d,some i=>some (aMS d,i.size)
 |_,_=>none
def uS (P:Program) (vl:List Nat):List TypeId->List Operand->Option (List Opd)
 |[],[]=>some []
 |t::ts,x::xs=>(iN P vl t x).bind fun o=>(uS P vl ts xs).bind fun os=>some (o::os)
 |_,_=>none
def bTy (P:Program) (t:TypeId) (y:Operand):Option Ty:=
 match P.underlying t with
 |some (.int _)=>some .int
 |some .string=>some .str
 |some .bool=>some .bool
 |some (.interface _)=>(match y with|.const .nilIface=>some .err|_=>none)
 |some (.struct _)=>(aSF P t).map .st
 |_=>none
def aCK (P:Program) (vl:List Nat) (t:TypeId):List (Nat×Operand)->Option (List (Nat×Opd))
 |[]=>some []
 |(i,x)::r=>(iN P vl t x).bind fun o=>(aCK P vl t r).bind fun os=>some ((i,o)::os)
def aQI (P:Program) (fs:Array Field):Option (List (Nat×Nat)):=fs.toList.mapM (fun f=>(P.info? f.type).map fun i=>(f.offset,i.size))
def aCL (P:Program) (vl:List Nat) (fs:Array Field) (places:List (Nat×Nat)):List (Nat×Operand)->Option (List (Nat×Nat×Opd))
 |[]=>some []
 |(i,x)::r=>
  match fs[i]?,places[i]? with
  |some f,some (off,n)=>(iN P vl f.type x).bind fun o=>(aCL P vl fs places r).bind fun os=>some ((off,n,o)::os)
  |_,_=>none
def aAZ (P:Program) (vl:List Nat):Option Operand->Option (Option Opd)
 |none=>some none
 |some x=>(iN P vl 0 x).map some
def aW1 (P:Program) (vl:List Nat):List Operand->List TypeId->Option AOp
 |[x],[t]=>match P.underlying t with
  |some .string=>(iN P vl t x).map (.len true)
  |some (.slice _)=>(iN P vl t x).map (.len false)
  |_=>none
 |_,_=>none
def aW2 (P:Program) (vl:List Nat):List Operand->List TypeId->Option AOp
 |[x,y],[t,u]=>match P.underlying t with
  |some (.slice e)=>(P.info? e).bind fun inf=>inf.zero.bind fun z=>if z.cells.size=inf.size/\0<inf.bytes then
    (match P.underlying u with
     |some (.slice _)=>(iN P vl t x).bind fun x=>(iN P vl u y).map (.app inf.size inf.bytes x)
     |some .string=>if inf.size=1/\inf.bytes=1 then (iN P vl t x).bind fun x=>(iN P vl u y).map (.appS x) else none
     |_=>none) else none
  |_=>none
 |_,_=>none
def cMm (P:Program) (vl:List Nat) (mx:Bool):List Operand->List TypeId->Option AOp
 |[x,y],[t,u]=>match P.underlying t,P.underlying u with
  |some (.int _),some (.int _)=>(iN P vl t x).bind fun x=>(iN P vl u y).map (.mm mx x)
  |_,_=>none
 |_,_=>none
def aUl (P:Program) (vl:List Nat) (cl:Call):Option AOp:=
 match cl.callee with
 |.value f=>(iN P vl 0 f).bind fun f=>(uS P vl cl.argTypes.toList cl.args.toList).map fun as=>.call f as []
 |.builtin b=>match b with
  |.len=>aW1 P vl cl.args.toList cl.argTypes.toList
  |.append=>aW2 P vl cl.args.toList cl.argTypes.toList
  |.min=>cMm P vl false cl.args.toList cl.argTypes.toList
  |.max=>cMm P vl true cl.args.toList cl.argTypes.toList
  |_=>none
 |_=>none
def aTO (P:Program) (vl:List Nat) (ty:TypeId):Op->Option AOp
 |.move x|.assign x=>(iN P vl ty x).map .mv
 |.pick c a b=>(iN P vl 0 c).bind fun c=>(iN P vl ty a).bind fun a=>(iN P vl ty b).bind fun b=>some (.pick c a b)
 |.alloc t=>(P.info? t).bind fun i=>i.zero.bind fun z=>(aNo P t z).map .alloc
 |.box t x=>(iN P vl t x).map .box
 |.load t x=>(qF P t).bind fun (agg,n)=>(iN P vl 0 x).map (.load agg n)
 |.store t x v=>(P.info? t).bind fun i=>(iN P vl 0 x).bind fun x=>(iN P vl t v).map (.store i.size x)
 |.fieldAddr s x i=>match P.underlying s with
  |some (.struct fs)=>(fs[i]?).bind fun f=>(P.info? f.type).bind fun inf=>if inf.size≠0 then (iN P vl 0 x).map (.fld f.offset) else none
  |_=>none
 |.field s x i=>match P.underlying s with
  |some (.struct fs)=>(fs[i]?).bind fun f=>(qF P f.type).bind fun (agg,n)=>(iN P vl s x).map (.fieldV agg f.offset n)
  |_=>none
 |.indexAddr t x i=>match P.underlying t with
  |some (.slice e)=>(P.info? e).bind fun inf=>(iN P vl t x).bind fun x=>(iN P vl 0 i).map (.idxA inf.size x)
  |_=>none
 |.index t x i=>match P.underlying t with
  |some .string=>(iN P vl t x).bind fun x=>(iN P vl 0 i).map (.idxS x)
  |_=>none
 |.binOp op t x y u=>(bTy P t y).bind fun b=>(iN P vl t x).bind fun x=>(iN P vl u y).map (.bin b op x)
 |.unOp op t x=>(iN P vl t x).map (.un op)
 |.convert s d x=>match P.underlying s,P.underlying d with
  |some (.int _),some (.int k)=>(iN P vl s x).map (.conv k)
  |some .string,some (.slice e)=>(match P.underlying e with|some (.int .u8)=>(iN P vl s x).map .s2b|_=>none)
  |some (.slice e),some .string=>(match P.underlying e with|some (.int .u8)=>(iN P vl s x).map .b2s|_=>none)
  |some (.slice e),some (.slice _)=>(match P.underlying e with|some (.int .u8)=>if s=d then (iN P vl s x).map .mark else none|_=>none)
  |_,_=>none
 |.makeInterface t x=>match P.underlying t with
  |some (.int _)=>(iN P vl t x).map (.mkI t)
  |_=>none
 |.makeSlice t l c=>match P.underlying t with
  |some (.slice e)=>(P.info? e).bind fun inf=>inf.zero.bind fun z=>(aNn P e z).bind fun zd=>(iN P vl 0 l).bind fun l=>(iN P vl 0 c).bind fun c=>if 0<inf.bytes then some (.mkslice (aCl P 12 e) inf.size inf.bytes zd l c) else none
  |_=>none
 |.buildSlice t n parts=>match P.underlying t with
  |some (.slice e)=>(P.info? e).bind fun inf=>inf.zero.bind fun z=>(aNn P e z).bind fun zd=>(aCK P vl e parts.toList).bind fun ps=>if n*inf.size<=2 ^ 24 then some (.lit (aCl P 12 e) inf.size n zd ps) else none
  |_=>none
 |.build t parts=>match P.underlying t with
  |some (.struct fs)=>(P.info? t).bind fun it=>it.zero.bind fun z=>(aNo P t z).bind fun za=>(aQI P fs).bind fun places=>(aCL P vl fs places parts.toList).map (.build za)
  |_=>none
 |.slice t x lo hi mx=>match mx with
  |none=>(match P.underlying t with
   |some .string=>(iN P vl t x).bind fun x=>(aAZ P vl lo).bind fun lo=>(aAZ P vl hi).map (.sliceS x lo)
   |some (.slice e)=>(P.info? e).bind fun inf=>(iN P vl t x).bind fun x=>(aAZ P vl lo).bind fun lo=>(aAZ P vl hi).map (.sliceA inf.size x lo)
   |_=>none)
  |some _=>none
 |.extract x i=>(iN P vl 0 x).map (.ext · i)
 |.makeFunc fn first captured=>match fn with
  |.func f=>if first.size=0 then (uS P vl (captured.toList.map fun _=>0) captured.toList).map (.clo f) else none
  |_=>none
 |.nilCheck x=>(iN P vl 0 x).map .nchk
 |.call cl=>aUl P vl cl
 |_=>none
def cOp (P:Program) (vl:List Nat) (ty:TypeId) (o:Op):Option AOp:=some ((aTO P vl ty o).getD .bad)
def AOp.erase:AOp->AOp
 |.call f args _=>.call f args []
 |.split x=>.mv x
 |o=>o
section
variable {P:Program} {c:Ctx} {g:Gh} {w:World} {base:Nat} {e:Env}
theorem tG {a:A} {k:Int->RM Wr} {wr:Wr} (h:Out e (rT a k) wr):∃ kd n,a=.d (.int kd n)/\Out e (k n) wr:=by
 unfold rT at h
 split at h
 ·exact ⟨_,_,rfl,h⟩
 ·exact h.fail.elim
theorem aC3 (t:TypeId) (v:Value) (w:World):(newVar t v).run P w=.ok (at_ w.heap.size 0) (w.alloc (.cells v.cells t)):=by
 simp [newVar,newRow,at_]
theorem aQR {h:Nat->Option O} (hi:fB c g h w) (hf:¬g.Nm base) {t:TypeId} {inf:TypeInfo} {z:Value} {cells:List A} (hinf:P.info? t=some inf) (hz:inf.zero=some z) (hc:pN g h w cells z.cells):
  mL P c g h w base (Instr.alloc t true (.tuple #[])) { val:=.ptr base 0,objs:=[(base,some (.box cells))] }:=by
 refine aGR hi hf (rW.alloc w z.cells t) hc.1 (fun m a ha=>⟨(hc.2 m a ha).1,(hc.2 m a ha).2⟩) ?_
 have h1:(typeInfo t).run P w=.ok inf w:=by unfold typeInfo;simp [hinf]
 have h2:(zeroValue t).run P w=.ok z w:=by unfold zeroValue;simp [Sem.run_bind,h1,hz]
 unfold Instr.alloc
 simp only [Sem.run_bind,h2,Result.andThen_ok,aC3,Sem.run_pure]
theorem aVd (hi:fB c g e.h w) (hf:¬g.Nm base) {t:TypeId} {a:A} {v:Value} {wr:Wr} (hx:RA g e.h w a v) (h:Out e (aTP base a) wr):mL P c g e.h w base (Instr.box t v) wr:=by
 unfold aTP at h
 split at h
 ·rename_i hp
  rw [h.ret]
  have hc:=hx.cells' hp
  refine aGR hi hf (rW.alloc w v.cells t) hc.1 (fun m a ha=>⟨(hc.2 m a ha).1,(hc.2 m a ha).2⟩) ?_
  unfold Instr.box
  simp only [Sem.run_bind,Result.andThen_ok,aC3,Sem.run_pure]
 ·exact h.fail.elim
section
variable {vl:List Nat} {st:St} {V:FuncId->List C->C->List (Option C)->Prop} {act:Act}
theorem aNC (hs:aJ7 vl g (cQ st.objs) w st.tmps st.vars act):∀ (ts:List TypeId) (xs:List Operand) (os:List Opd) (as:List A),uS P vl ts xs=some os->Out (st.env V) (RM.mapM ev os) as →
  xs.length=as.length/\∀ (m:Nat) a,as[m]?=some a->RA g (cQ st.objs) w a ((xs.toArray.map act.eval).getD m Go.undef):=by
 intro ts
 induction ts with
 |nil=>
  intro xs os as hc h
  cases xs with
  |nil=>
   simp only [uS,Option.some.injEq] at hc;subst hc
   have:=h.ret;subst this
   exact ⟨rfl,fun m a hm=>by simp at hm⟩
  |cons=>cases hc
 |cons t ts ih=>
  intro xs os as hc h
  cases xs with
  |nil=>cases hc
  |cons x xs=>
   simp only [uS] at hc
   cases h1:iN P vl t x with
   |none=>simp [h1] at hc
   |some o=>
    cases h2:uS P vl ts xs with
    |none=>simp [h1,h2] at hc
    |some os'=>
     simp only [h1,h2,Option.bind_some,Option.some.injEq] at hc
     subst hc
     obtain ⟨a,ha,h⟩:=Out.bind h
     obtain ⟨as',ha',h⟩:=Out.bind h
     have:=h.ret;subst this
     obtain ⟨i1,i2⟩:=ih xs os' as' h2 ha'
     refine ⟨by simp [i1],fun m b hm=>?_⟩
     cases m with
     |zero=>
      simp at hm;subst hm
      have:=dT hs h1 ha
      simpa using this
     |succ m=>
      have:=i2 m b (by simpa using hm)
      simp only [List.map_toArray,Array.getD_eq_getD_getElem?,List.getElem?_toArray,List.map_cons,List.getElem?_cons_succ] at this ⊢
      exact this
theorem aQJ (hs:aJ7 vl g (cQ st.objs) w st.tmps st.vars act) {t:TypeId}:∀ (ps:List (Nat×Operand)) (os:List (Nat×Opd)) (as:List (Nat×A)),aCK P vl t ps=some os->Out (st.env V) (aH0 os) as →
  ps.length=as.length/\∀ (i:Nat) p q,as[i]?=some p->(ps.map fun x=>(x.1,act.eval x.2))[i]?=some q->q.1=p.1/\RA g (cQ st.objs) w p.2 q.2:=by
 intro ps
 induction ps with
 |nil=>
  intro os as hc h
  simp only [aCK,Option.some.injEq] at hc;subst hc
  have:=h.ret;subst this
  exact ⟨rfl,fun m a q hm=>by simp at hm⟩
 |cons x ps ih=>
  intro os as hc h
  obtain ⟨i,x⟩:=x
  simp only [aCK] at hc
  cases h1:iN P vl t x with
  |none=>simp [h1] at hc
  |some o=>
   cases h2:aCK P vl t ps with
   |none=>simp [h1,h2] at hc
   |some os'=>
    simp only [h1,h2,Option.bind_some,Option.some.injEq] at hc
    subst hc
    obtain ⟨a,ha,h⟩:=Out.bind h
    obtain ⟨as',ha',h⟩:=Out.bind h
    have:=h.ret;subst this
    obtain ⟨i1,i2⟩:=ih os' as' h2 ha'
    refine ⟨by simp [i1],fun m p q hp hq=>?_⟩
    cases m with
    |zero=>
     simp at hp hq;subst hp;subst hq
     exact ⟨rfl,dT hs h1 ha⟩
    |succ m=>exact i2 m p q (by simpa using hp) (by simpa using hq)
theorem aRX (hs:aJ7 vl g (cQ st.objs) w st.tmps st.vars act) {fs:Array Field} {places:List (Nat×Nat)}:∀ (ps:List (Nat×Operand)) (os:List (Nat×Nat×Opd)) (as:List (Nat×Nat×A)),aCL P vl fs places ps=some os->Out (st.env V) (aHZ os) as →
  ps.length=as.length/\∀ (i:Nat) p q,as[i]?=some p->(ps.map fun x=>(x.1,act.eval x.2))[i]?=some q->places[q.1]?=some (p.1,p.2.1)/\RA g (cQ st.objs) w p.2.2 q.2:=by
 intro ps
 induction ps with
 |nil=>
  intro os as hc h
  simp only [aCL,Option.some.injEq] at hc;subst hc
  have:=h.ret;subst this
  exact ⟨rfl,fun m a q hm=>by simp at hm⟩
 |cons x ps ih=>
  intro os as hc h
  obtain ⟨i,x⟩:=x
  simp only [aCL] at hc
  split at hc
  ·rename_i f off n hfi hpi
   cases h1:iN P vl f.type x with
   |none=>simp [h1] at hc
   |some o=>
    cases h2:aCL P vl fs places ps with
    |none=>simp [h1,h2] at hc
    |some os'=>
     simp only [h1,h2,Option.bind_some,Option.some.injEq] at hc
     subst hc
     obtain ⟨a,ha,h⟩:=Out.bind h
     obtain ⟨as',ha',h⟩:=Out.bind h
     have:=h.ret;subst this
     obtain ⟨i1,i2⟩:=ih os' as' h2 ha'
     refine ⟨by simp [i1],fun m p q hp hq=>?_⟩
     cases m with
     |zero=>
      simp at hp hq;subst hp;subst hq
      exact ⟨hpi,dT hs h1 ha⟩
     |succ m=>exact i2 m p q (by simpa using hp) (by simpa using hq)
  ·cases hc
theorem aBZ (hs:aJ7 vl g (cQ st.objs) w st.tmps st.vars act) {x:Option Operand} {o:Option Opd} (hc:aAZ P vl x=some o) {k:Option Int->RM Wr} {wr:Wr} (h:Out (st.env V) (bnd o k) wr):
  ∃ n,aCa (x.map act.eval) n/\Out (st.env V) (k n) wr:=by
 cases x with
 |none=>
  simp only [aAZ,Option.some.injEq] at hc
  subst hc
  exact ⟨none,.none,h⟩
 |some x=>
  simp only [aAZ] at hc
  cases h1:iN P vl 0 x with
  |none=>simp [h1] at hc
  |some o=>
   simp only [h1,Option.map_some,Option.some.injEq] at hc
   subst hc
   obtain ⟨a,ha,h⟩:=Out.bind h
   obtain ⟨kd,n,rfl,h⟩:=tG h
   have:=(dT hs h1 ha).int_inv
   refine ⟨some n,?_,h⟩
   simp only [Option.map_some,this]
   exact .some kd n
end
end
def AOp.isCall:AOp->Bool
 |.call _ _ _=>true
 |_=>false
def AOp.isMv:AOp->Bool
 |.mv _=>true
 |_=>false
theorem dJ {b ao:AOp} (h:b=ao.erase) (hb:(b.isCall || b.isMv)=false):ao=b:=by
 cases ao<;>simp only [AOp.erase] at h<;>first|grind|(subst h;cases hb)
theorem aLA {x:Opd} {ao:AOp} (h:AOp.mv x=ao.erase):ao=.mv x\/ao=.split x:=by
 cases ao<;>simp only [AOp.erase] at h<;>first|grind|simp
theorem aGF {e:Env} {a:A} {wr:Wr} (h:Out e (aHE a) wr):wr={ val:=a }:=by
 unfold aHE at h
 split at h
 ·rcases h.ite with ⟨hb,h2⟩|⟨hb,h2⟩<;>subst hb<;>exact cG h2
 grind [cG]
theorem aM5 {ao:AOp} {f:Opd} {args:List Opd} (h:AOp.call f args []=ao.erase):∃ ms,ao=.call f args ms:=by
 cases ao<;>simp only [AOp.erase] at h<;>cases h
 grind
section
variable {P:Program} {c:Ctx} {g:Gh} {w:World} {base:Nat}
def aFp (c:Ctx) (g:Gh) (h:Nat->Option O) (w:World) (base:Nat) (wr:Wr) (next:Value->World->Prop):Prop:=
 ∀ v g' w',fB c g' (eS h wr.objs) w'->Ext g g' h (eS h wr.objs) w w'->RA g' (eS h wr.objs) w' wr.val v->(∀ n,g'.Nm n->g.Nm n\/(base<=n/\n<base+64))->next v w'
section
variable {h:Nat->Option O} {wr:Wr} {o:Oper} {act:Act} {next:Act->World->Prop} {Q:Exit->Act->World->Prop}
theorem xD {r:Sem Value} {s:Sem Go.Next} (hok:mL P c g h w base r wr) (hs:∀ v w',r.run P w=.ok v w'->s.run P w=.ok (.value v) w')
  (hn:aFp c g h w base wr fun v w'=>next (act.put o.dst v) w'):o.upon P act next Q (s.run P w):=by
 obtain ⟨v,g',w',hr,h1,h2,h3,h4⟩:=hok
 rw [hs v w' hr]
 exact hn v g' w' h1 h2 h3 h4
theorem kK {r:Sem Value} (hok:mL P c g h w base r wr) (hn:aFp c g h w base wr fun v w'=>next (act.put o.dst v) w'):
  o.upon P act next Q ((do pure (Go.Next.value (<-r)):Sem Go.Next).run P w):=
 xD hok (fun v w' hr=>by simp_all) hn
theorem aUA {r:Sem Unit} (hok:aUv P c g h w base r wr) (hn:aFp c g h w base wr fun v w'=>next (act.put o.dst v) w'):
  o.upon P act next Q ((do r;pure Go.Next.skip:Sem Go.Next).run P w):=by
 obtain ⟨g',w',hr,h1,h2,h3,h4⟩:=hok
 have:(do r;pure Go.Next.skip:Sem Go.Next).run P w=.ok .skip w':=by simp_all
 rw [this]
 exact hn _ g' w' h1 h2 h3 h4
theorem qA {v:Value} (hi:fB c g h w) (hv:RA g h w wr.val v) (ho:wr.objs=[]) (hn:aFp c g h w base wr fun v w'=>next (act.put o.dst v) w'):next (act.put o.dst v) w:=by
 have e:eS h wr.objs=h:=by rw [ho];rfl
 exact hn v g w (by grind) (by grind [Ext.refl]) (by grind) (fun _ h=>.inl h)
end
theorem qY {t:TypeId} {p:Bool×Nat} (h:qF P t=some p):aL3 P t p.1 p.2:=by
 unfold qF at h
 split at h
 ·rename_i d i hd hi
  cases h
  exact ⟨d,i,hd,hi,rfl,rfl⟩
 grind
theorem aVM {t:TypeId} {y:Operand} {b:Ty} (h:bTy P t y=some b):aPM P t y b:=by
 unfold bTy at h
 split at h
 ·cases h;trivial
 ·cases h;trivial
 ·rename_i hu;cases h;exact hu
 ·rename_i ms hu
  split at h
  ·cases h;exact ⟨⟨ms,hu⟩,rfl⟩
  grind
 ·obtain ⟨ks,hk,rfl⟩:=Option.map_eq_some_iff.1 h;exact hk
 grind
theorem aRL {vl:List Nat} {st:St} {V:FuncId->List C->C->List (Option C)->Prop} {act:Act} {o:Oper} {ao:AOp} {wr:Wr} {next:Act->World->Prop} {Q:Exit->Act->World->Prop}
  (hi:fB c g (cQ st.objs) w) (hs:aJ7 vl g (cQ st.objs) w st.tmps st.vars act) (hV:∀ f cs r os,V f cs r os->aC P c.gv f cs r os) (hf:∀ n,base<=n->n<base+64->¬g.Nm n)
  (hc:aTO P vl o.type o.op=some ao.erase) (h:Out (st.env V) (aCi base ao) wr) (hn:aFp c g (cQ st.objs) w base wr fun v w'=>next (act.put o.dst v) w'):o.wp P act w next Q:=by
 have hf0:¬g.Nm base:=hf base (Nat.le_refl _) (by omega)
 unfold Oper.wp execOp
 cases hop:o.op<;>simp only [hop,aTO,reduceCtorEq] at hc
 case move x=>
  obtain ⟨x',hx,hb⟩:=Option.map_eq_some_iff.1 hc
  rcases aLA hb with rfl|rfl
  ·obtain ⟨a,ha,h⟩:=Out.bind h
   obtain rfl:=cG h
   exact qA hi (dT hs hx ha) rfl hn
  ·obtain ⟨a,ha,h⟩:=Out.bind h
   obtain rfl:=aGF h
   exact qA hi (dT hs hx ha) rfl hn
 case assign x=>
  obtain ⟨x',hx,hb⟩:=Option.map_eq_some_iff.1 hc
  rcases aLA hb with rfl|rfl
  ·obtain ⟨a,ha,h⟩:=Out.bind h
   obtain rfl:=cG h
   exact qA hi (dT hs hx ha) rfl hn
  ·obtain ⟨a,ha,h⟩:=Out.bind h
   obtain rfl:=aGF h
   exact qA hi (dT hs hx ha) rfl hn
 case pick t a b=>
  obtain ⟨t',ht,hc⟩:=Option.bind_eq_some_iff.1 hc
  obtain ⟨a',ha,hc⟩:=Option.bind_eq_some_iff.1 hc
  obtain ⟨b',hb,hc⟩:=Option.bind_eq_some_iff.1 hc
  obtain rfl:=dJ (Option.some.inj hc) rfl
  obtain ⟨vt,hvt,h⟩:=Out.bind h
  obtain ⟨va,hva,h⟩:=Out.bind h
  obtain ⟨vb,hvb,h⟩:=Out.bind h
  refine xD (aS7 hi (dT hs ht hvt) (dT hs ha hva) (dT hs hb hvb) h) (fun v w' hr=>?_) hn
  simp only [Sem.run_bind] at hr ⊢
  cases hb:(asBool (act.eval t)).run P w with
  |ok b w1=>
   simp only [hb,Result.andThen_ok,Sem.run_pure,Result.ok.injEq] at hr ⊢
   obtain ⟨rfl,rfl⟩:=hr
   exact ⟨rfl,rfl⟩
  |halt x w1=>rw [hb] at hr;cases hr
 case alloc t=>
  obtain ⟨inf,hinf,hc⟩:=Option.bind_eq_some_iff.1 hc
  obtain ⟨z,hz,hc⟩:=Option.bind_eq_some_iff.1 hc
  obtain ⟨cells,hcs,hb⟩:=Option.map_eq_some_iff.1 hc
  obtain rfl:=dJ hb rfl
  rw [h.ret] at hn
  exact kK (aQR hi hf0 hinf hz (aKc hcs _ _ _)) hn
 case box t x=>
  obtain ⟨x',hx,hb⟩:=Option.map_eq_some_iff.1 hc
  obtain rfl:=dJ hb rfl
  obtain ⟨a,ha,h⟩:=Out.bind h
  exact kK (aVd (e:=st.env V) hi hf0 (dT hs hx ha) h) hn
 case load t x=>
  obtain ⟨p,hp,hc⟩:=Option.bind_eq_some_iff.1 hc
  obtain ⟨x',hx,hb⟩:=Option.map_eq_some_iff.1 hc
  obtain rfl:=dJ hb rfl
  obtain ⟨a,ha,h⟩:=Out.bind h
  exact kK (aS9 (e:=st.env V) hi (qY hp) (dT hs hx ha) h) hn
 case store t x v=>
  obtain ⟨inf,hinf,hc⟩:=Option.bind_eq_some_iff.1 hc
  obtain ⟨x',hx,hc⟩:=Option.bind_eq_some_iff.1 hc
  obtain ⟨v',hv,hb⟩:=Option.map_eq_some_iff.1 hc
  obtain rfl:=dJ hb rfl
  obtain ⟨a,ha,h⟩:=Out.bind h
  obtain ⟨b,hb,h⟩:=Out.bind h
  exact aUA (aQO (e:=st.env V) hi hinf (dT hs hx ha) (dT hs hv hb) h) hn
 case nilCheck x=>
  obtain ⟨x',hx,hb⟩:=Option.map_eq_some_iff.1 hc
  obtain rfl:=dJ hb rfl
  obtain ⟨a,ha,h⟩:=Out.bind h
  have hra:=dT hs hx ha
  obtain ⟨rfl,hv⟩:=aS8 (e:=st.env V) hra h
  dsimp only
  rcases hv with ⟨q,hv⟩|⟨fid,cs,hv⟩<;>rw [hv] at hra ⊢<;>exact qA hi hra rfl hn
 case binOp op t x y u=>
  obtain ⟨b,hb,hc⟩:=Option.bind_eq_some_iff.1 hc
  obtain ⟨x',hx,hc⟩:=Option.bind_eq_some_iff.1 hc
  obtain ⟨y',hy,hc⟩:=Option.map_eq_some_iff.1 hc
  obtain rfl:=dJ hc rfl
  obtain ⟨a,ha,h⟩:=Out.bind h
  obtain ⟨a',ha',h⟩:=Out.bind h
  exact kK (aVe (e:=st.env V) hi (dT hs hx ha) (dT hs hy ha') h (aVM hb)) hn
 case unOp op t x=>
  obtain ⟨x',hx,hb⟩:=Option.map_eq_some_iff.1 hc
  obtain rfl:=dJ hb rfl
  obtain ⟨a,ha,h⟩:=Out.bind h
  exact kK (aWP (e:=st.env V) hi (dT hs hx ha) h) hn
 case convert s d x=>
  split at hc
  ·rename_i k0 k hsk hdk
   obtain ⟨x',hx,hb⟩:=Option.map_eq_some_iff.1 hc
   obtain rfl:=dJ hb rfl
   obtain ⟨a,ha,h⟩:=Out.bind h
   exact kK (aTc (e:=st.env V) hi (dT hs hx ha) ⟨_,hsk⟩ hdk h) hn
  ·rename_i el hsk hdk
   split at hc
   ·rename_i hel
    obtain ⟨x',hx,hb⟩:=Option.map_eq_some_iff.1 hc
    obtain rfl:=dJ hb rfl
    obtain ⟨a,ha,h⟩:=Out.bind h
    exact kK (aU7 (e:=st.env V) hi hsk hdk hel (dT hs hx ha) h) hn
   ·cases hc
  ·rename_i el hsk hdk
   split at hc
   ·rename_i hel
    obtain ⟨x',hx,hb⟩:=Option.map_eq_some_iff.1 hc
    obtain rfl:=dJ hb rfl
    obtain ⟨a,ha,h⟩:=Out.bind h
    exact kK (aVf (e:=st.env V) hi hsk hel hdk (dT hs hx ha) h) hn
   ·cases hc
  ·rename_i el el' hsk hdk
   split at hc
   ·rename_i hel
    split at hc
    ·rename_i hsd
     subst hsd
     obtain ⟨x',hx,hb⟩:=Option.map_eq_some_iff.1 hc
     obtain rfl:=dJ hb rfl
     obtain ⟨a,ha,h⟩:=Out.bind h
     exact (show Out _ .fail _ from h).fail.elim
    ·cases hc
   ·cases hc
  ·cases hc
 case makeInterface t x=>
  split at hc
  ·rename_i kk ht
   obtain ⟨x',hx,hb⟩:=Option.map_eq_some_iff.1 hc
   obtain rfl:=dJ hb rfl
   obtain ⟨a,ha,h⟩:=Out.bind h
   unfold aVh at h
   split at h
   ·rename_i k n
    obtain rfl:=cG h
    have hra:=(dT hs hx ha).int_inv
    refine kK (.quiet (v:=.iface t (.int k n)) hi ?_ (.d _ _ (.ifc t k n))) hn
    simp only [Instr.makeInterface,Sem.run_bind,run_underlying ht,Result.andThen_ok]
    rw [hra];rfl
   ·exact h.fail.elim
  ·cases hc
 case makeFunc fn first captured=>
  split at hc
  ·rename_i f
   split at hc
   ·rename_i h0
    obtain ⟨os,hos,hb⟩:=Option.map_eq_some_iff.1 hc
    obtain rfl:=dJ hb rfl
    obtain ⟨as,has,h⟩:=Out.bind h
    obtain ⟨hl,hr⟩:=aNC hs _ _ _ _ hos has
    obtain rfl:=cG h
    have e0:first=#[]:=by simpa using h0
    have e1:first.map act.eval=#[]:=by rw [e0];simp
    dsimp only
    rw [e1]
    exact kK (aVc (e:=st.env V) (as:=as) (vs:=captured.map act.eval) hi (by simpa using hl) (by simpa [St.env] using hr)) hn
   ·cases hc
  ·cases hc
 case build t parts=>
  split at hc
  ·rename_i fs ht
   obtain ⟨it,hit,hc⟩:=Option.bind_eq_some_iff.1 hc
   obtain ⟨z,hz,hc⟩:=Option.bind_eq_some_iff.1 hc
   obtain ⟨za,hza,hc⟩:=Option.bind_eq_some_iff.1 hc
   obtain ⟨places,hpl,hc⟩:=Option.bind_eq_some_iff.1 hc
   obtain ⟨os,hos,hb⟩:=Option.map_eq_some_iff.1 hc
   obtain rfl:=dJ hb rfl
   obtain ⟨as,has,h⟩:=Out.bind h
   obtain ⟨hl,hr⟩:=aRX hs _ _ _ hos has
   have:=aQQ (e:=st.env V) (base:=base) hi ht hit hz hpl (aKc hza) (as:=as) (parts:=parts.toList.map fun x=>(x.1,act.eval x.2)) (by rw [List.length_map];exact hl) hr h
   have e1:(parts.toList.map fun x=>(x.1,act.eval x.2)).toArray=parts.map fun x=>(x.1,act.eval x.2):=by rw [<-Array.toList_map]
   rw [e1] at this
   exact kK this hn
  ·cases hc
 case buildSlice t n parts=>
  split at hc
  ·rename_i el ht
   obtain ⟨inf,hinf,hc⟩:=Option.bind_eq_some_iff.1 hc
   obtain ⟨z,hz,hc⟩:=Option.bind_eq_some_iff.1 hc
   obtain ⟨zd,hzd,hc⟩:=Option.bind_eq_some_iff.1 hc
   obtain ⟨os,hos,hc⟩:=Option.bind_eq_some_iff.1 hc
   split at hc
   ·rename_i hsm
    obtain rfl:=dJ (Option.some.inj hc) rfl
    obtain ⟨as,has,h⟩:=Out.bind h
    obtain ⟨hl,hr⟩:=aQJ hs _ _ _ hos has
    have:=aU8 (e:=st.env V) (base:=base) hi hf0 ht hinf hz (aKb hzd) hsm (as:=as) (parts:=parts.toList.map fun x=>(x.1,act.eval x.2)) (by rw [List.length_map];exact hl) hr h
    have e1:(parts.toList.map fun x=>(x.1,act.eval x.2)).toArray=parts.map fun x=>(x.1,act.eval x.2):=by rw [<-Array.toList_map]
    rw [e1] at this
    exact kK this hn
   ·cases hc
  ·cases hc
 case makeSlice t l cp=>
  split at hc
  ·rename_i el ht
   obtain ⟨inf,hinf,hc⟩:=Option.bind_eq_some_iff.1 hc
   obtain ⟨z,hz,hc⟩:=Option.bind_eq_some_iff.1 hc
   obtain ⟨zd,hzd,hc⟩:=Option.bind_eq_some_iff.1 hc
   obtain ⟨l',hl,hc⟩:=Option.bind_eq_some_iff.1 hc
   obtain ⟨c',hcp,hc⟩:=Option.bind_eq_some_iff.1 hc
   split at hc
   ·rename_i hb
    obtain rfl:=dJ (Option.some.inj hc) rfl
    obtain ⟨a,ha,h⟩:=Out.bind h
    obtain ⟨b,hb',h⟩:=Out.bind h
    obtain ⟨k1,n1,ea,h⟩:=tG (a:=a) h
    obtain ⟨k2,n2,eb,h⟩:=tG (a:=b) h
    subst ea
    subst eb
    have e1:=(dT hs hl ha).int_inv
    have e2:=(dT hs hcp hb').int_inv
    dsimp only
    rw [e1,e2]
    exact kK (aMy (e:=st.env V) hi hf0 ht hinf hz (aKb hzd) hb h) hn
   ·cases hc
  ·cases hc
 case slice t x lo hi' mx=>
  split at hc
  ·split at hc
   ·rename_i ht
    obtain ⟨x',hx,hc⟩:=Option.bind_eq_some_iff.1 hc
    obtain ⟨lo',hlo,hc⟩:=Option.bind_eq_some_iff.1 hc
    obtain ⟨hi'',hhi,hc⟩:=Option.map_eq_some_iff.1 hc
    obtain rfl:=dJ hc rfl
    obtain ⟨a,ha,h⟩:=Out.bind h
    obtain ⟨n1,hb1,h⟩:=aBZ hs hlo h
    obtain ⟨n2,hb2,h⟩:=aBZ hs hhi h
    exact kK (aOW (e:=st.env V) hi ht hb1 hb2 (dT hs hx ha) h) hn
   ·rename_i el ht
    obtain ⟨inf,hinf,hc⟩:=Option.bind_eq_some_iff.1 hc
    obtain ⟨x',hx,hc⟩:=Option.bind_eq_some_iff.1 hc
    obtain ⟨lo',hlo,hc⟩:=Option.bind_eq_some_iff.1 hc
    obtain ⟨hi'',hhi,hc⟩:=Option.map_eq_some_iff.1 hc
    obtain rfl:=dJ hc rfl
    obtain ⟨a,ha,h⟩:=Out.bind h
    obtain ⟨n1,hb1,h⟩:=aBZ hs hlo h
    obtain ⟨n2,hb2,h⟩:=aBZ hs hhi h
    exact kK (aOX (e:=st.env V) hi ht hinf hb1 hb2 (dT hs hx ha) h) hn
   ·cases hc
  ·cases hc
 case fieldAddr s x i=>
  split at hc
  ·rename_i fs ht
   obtain ⟨f,hfi,hc⟩:=Option.bind_eq_some_iff.1 hc
   obtain ⟨inf,hinf,hc⟩:=Option.bind_eq_some_iff.1 hc
   split at hc
   ·rename_i hz
    obtain ⟨x',hx,hb⟩:=Option.map_eq_some_iff.1 hc
    obtain rfl:=dJ hb rfl
    obtain ⟨a,ha,h⟩:=Out.bind h
    exact kK (aVa (e:=st.env V) hi ht hfi ⟨inf,hinf,hz⟩ (dT hs hx ha) h) hn
   ·cases hc
  ·cases hc
 case field s x i=>
  split at hc
  ·rename_i fs ht
   obtain ⟨f,hfi,hc⟩:=Option.bind_eq_some_iff.1 hc
   obtain ⟨p,hp,hc⟩:=Option.bind_eq_some_iff.1 hc
   obtain ⟨x',hx,hb⟩:=Option.map_eq_some_iff.1 hc
   obtain rfl:=dJ hb rfl
   obtain ⟨a,ha,h⟩:=Out.bind h
   exact kK (aQP (e:=st.env V) hi ht hfi (qY hp) (dT hs hx ha) h) hn
  ·cases hc
 case indexAddr t x i=>
  split at hc
  ·rename_i el ht
   obtain ⟨inf,hinf,hc⟩:=Option.bind_eq_some_iff.1 hc
   obtain ⟨x',hx,hc⟩:=Option.bind_eq_some_iff.1 hc
   obtain ⟨i',hi',hb⟩:=Option.map_eq_some_iff.1 hc
   obtain rfl:=dJ hb rfl
   obtain ⟨a,ha,h⟩:=Out.bind h
   obtain ⟨b,hb',h⟩:=Out.bind h
   obtain ⟨k1,n1,rfl,h⟩:=tG h
   have e1:=(dT hs hi' hb').int_inv
   dsimp only
   rw [e1]
   exact kK (aTb (e:=st.env V) hi ht hinf (dT hs hx ha) h) hn
  ·cases hc
 case index t x i=>
  split at hc
  ·rename_i ht
   obtain ⟨x',hx,hc⟩:=Option.bind_eq_some_iff.1 hc
   obtain ⟨i',hi',hb⟩:=Option.map_eq_some_iff.1 hc
   obtain rfl:=dJ hb rfl
   obtain ⟨a,ha,h⟩:=Out.bind h
   obtain ⟨b,hb',h⟩:=Out.bind h
   obtain ⟨k1,n1,rfl,h⟩:=tG h
   have e1:=(dT hs hi' hb').int_inv
   dsimp only
   rw [e1]
   exact kK (aTa (e:=st.env V) hi ht (dT hs hx ha) h) hn
  ·cases hc
 case extract x i=>
  obtain ⟨x',hx,hb⟩:=Option.map_eq_some_iff.1 hc
  obtain rfl:=dJ hb rfl
  obtain ⟨a,ha,h⟩:=Out.bind h
  exact kK (aVb (e:=st.env V) hi (dT hs hx ha) h) hn
 case call cl=>
  obtain ⟨callee,args,argTypes⟩:=cl
  simp only [aUl] at hc
  split at hc
  ·rename_i f
   obtain ⟨f',hf',hc⟩:=Option.bind_eq_some_iff.1 hc
   obtain ⟨os,hos,hc⟩:=Option.map_eq_some_iff.1 hc
   obtain ⟨ms,rfl⟩:=aM5 hc
   obtain ⟨vf,hvf,h⟩:=Out.bind h
   obtain ⟨as,has,h⟩:=Out.bind h
   obtain ⟨hl,hr⟩:=aNC hs _ _ _ _ hos has
   obtain ⟨fid,capv,hv,hgo,hcalls⟩:=aTd (e:=st.env V) hi hV hf (dT hs hf' hvf) (args:=args.map act.eval) (by simpa using hl) (by simpa [St.env] using hr) h
   obtain ⟨fn,hfn,h1,h2⟩:=hgo
   have h1':¬fn.name = "runtime.NumGoroutine" := by simpa using h1
   have h2':¬fn.body=none:=fun hb=>by rw [hb] at h2;cases h2
   have hrun:(do let d <-resolve act.eval { callee:=.value f,args:=args,argTypes:=argTypes } o.type;invoke d.target d.args:Sem Go.Next).run P w=.ok (.enter fid (args.map act.eval++capv)) w:=by
    unfold resolve Deferred.ofValue
    simp only [hv,Sem.run_bind,Sem.run_pure,Result.andThen_ok]
    unfold invoke callFunc
    simp [hfn,h1',h2']
   dsimp only
   rw [hrun,Oper.upon_enter]
   refine hcalls.mono fun en w' hen=>?_
   obtain ⟨v,g',rfl,a1,a2,a3,a4⟩:=hen
   exact hn v g' w' a1 a2 a3 a4
  ·rename_i b
   split at hc
   ·unfold aW1 at hc
    split at hc
    ·rename_i x t hx' ht'
     have e1:args=#[x]:=by rw [<-Array.toArray_toList (xs:=args),hx']
     have e2:argTypes=#[t]:=by rw [<-Array.toArray_toList (xs:=argTypes),ht']
     subst e1;subst e2
     have hcomp:∃ str x',iN P vl t x=some x'/\AOp.len str x'=ao.erase/\if str then P.underlying t=some .string else ∃ el,P.underlying t=some (.slice el):=by
      split at hc
      ·rename_i hu
       obtain ⟨x',hx,hb⟩:=Option.map_eq_some_iff.1 hc
       exact ⟨true,x',hx,hb,hu⟩
      ·rename_i el hu
       obtain ⟨x',hx,hb⟩:=Option.map_eq_some_iff.1 hc
       exact ⟨false,x',hx,hb,el,hu⟩
      ·cases hc
     obtain ⟨str,x',hx,hb,hu⟩:=hcomp
     obtain rfl:=dJ hb rfl
     obtain ⟨a,ha,h⟩:=Out.bind h
     have hok:=aU9 (e:=st.env V) (base:=base) (ty:=o.type) hi hu (dT hs hx ha) h
     refine xD hok (fun v w' hr=>?_) hn
     unfold resolve
     simp only [Sem.run_bind,Sem.run_pure,Result.andThen_ok]
     unfold invoke builtin
     simp only [List.map_toArray,List.map_cons,List.map_nil,Sem.run_bind,hr,Result.andThen_ok,Sem.run_pure]
    ·cases hc
   ·unfold aW2 at hc
    split at hc
    ·rename_i x y t u hx' ht'
     have e1:args=#[x,y]:=by rw [<-Array.toArray_toList (xs:=args),hx']
     have e2:argTypes=#[t,u]:=by rw [<-Array.toArray_toList (xs:=argTypes),ht']
     subst e1;subst e2
     split at hc
     ·rename_i el ht
      obtain ⟨inf,hinf,hc⟩:=Option.bind_eq_some_iff.1 hc
      obtain ⟨z,hz,hc⟩:=Option.bind_eq_some_iff.1 hc
      split at hc
      ·rename_i hzs
       have fin:∀ {wr:Wr},mL P c g (cQ st.objs) w base (Builtin.append_ #[t,u] o.type #[act.eval x,act.eval y]) wr->aFp c g (cQ st.objs) w base wr (fun v w'=>next (act.put o.dst v) w') →
         o.upon P act next Q ((do let d <-resolve act.eval { callee:=.builtin .append,args:=#[x,y],argTypes:=#[t,u] } o.type;invoke d.target d.args:Sem Go.Next).run P w):=by
        intro wr hok hn
        refine xD hok (fun v w' hr=>?_) hn
        unfold resolve
        simp only [Sem.run_bind,Sem.run_pure,Result.andThen_ok]
        unfold invoke builtin
        simp only [List.map_toArray,List.map_cons,List.map_nil,Sem.run_bind,hr,Result.andThen_ok,Sem.run_pure]
       split at hc
       ·rename_i el' hu
        obtain ⟨x',hx,hc⟩:=Option.bind_eq_some_iff.1 hc
        obtain ⟨y',hy,hc⟩:=Option.map_eq_some_iff.1 hc
        obtain rfl:=dJ hc rfl
        obtain ⟨a,ha,h⟩:=Out.bind h
        obtain ⟨b,hb,h⟩:=Out.bind h
        unfold aVP at h
        split at h
        ·exact fin (aTe (e:=st.env V) hi hf ht hinf hz hzs.1 hzs.2 hu (dT hs hx ha) (dT hs hy hb) h) hn
        ·unfold aVO at h
         obtain ⟨ow,how,h⟩:=Out.bind h
         obtain ⟨k2,hk2,h⟩:=Out.bind h
         obtain ⟨sr,hsr,h⟩:=Out.bind h
         obtain ⟨k,sz,rows,ns⟩:=ow
         obtain ⟨rows',ms⟩:=sr
         have hm:=(aBq (e:=st.env V) hi (dT hs hx ha) how).depth (aMw hk2)
         have hsr':=aEA (e:=st.env V) hi hu (dT hs hy hb) hsr
         exact fin (aCt (e:=st.env V) hi hf0 ht hinf hz hzs.1 hzs.2 hm hsr' h) hn
       ·rename_i hu
        split at hc
        ·rename_i h11
         obtain ⟨x',hx,hc⟩:=Option.bind_eq_some_iff.1 hc
         obtain ⟨y',hy,hc⟩:=Option.map_eq_some_iff.1 hc
         obtain rfl:=dJ hc rfl
         obtain ⟨a,ha,h⟩:=Out.bind h
         obtain ⟨b,hb,h⟩:=Out.bind h
         unfold aR3 at h
         split at h
         ·rename_i s
          obtain ⟨ow,how,h⟩:=Out.bind h
          obtain ⟨k,sz,rows,ns⟩:=ow
          have hm:=aBq (e:=st.env V) hi (dT hs hx ha) how
          have hstr:=(dT hs hy hb).str_inv
          split at h
          ·rename_i hk
           simp only at hk
           subst hk
           have hss:=aSG (g:=g) (w:=w) (P:=P) hu (cQ st.objs) s
           rw [<-hstr] at hss
           have h':=h
           rw [show oA base 1 1=oA base inf.size inf.bytes by rw [h11.1,h11.2]] at h'
           rw [<-h11.1] at hss
           exact fin (aCt (e:=st.env V) hi hf0 ht hinf hz hzs.1 hzs.2 hm hss h') hn
          ·exact h.fail.elim
         ·exact h.fail.elim
        ·cases hc
       ·cases hc
      ·cases hc
     ·cases hc
    ·cases hc
   ·unfold cMm at hc
    split at hc
    ·rename_i x y t u hx' ht'
     have e1:args=#[x,y]:=by rw [<-Array.toArray_toList (xs:=args),hx']
     have e2:argTypes=#[t,u]:=by rw [<-Array.toArray_toList (xs:=argTypes),ht']
     subst e1;subst e2
     split at hc
     ·obtain ⟨x',hx,hc⟩:=Option.bind_eq_some_iff.1 hc
      obtain ⟨y',hy,hc⟩:=Option.map_eq_some_iff.1 hc
      obtain rfl:=dJ hc rfl
      obtain ⟨a,ha,h⟩:=Out.bind h
      obtain ⟨b,hb,h⟩:=Out.bind h
      have hok:=aUb (P:=P) (e:=st.env V) (base:=base) (mx:=false) (t:=#[t,u]) (ty:=o.type) hi (dT hs hx ha) (dT hs hy hb) h
      simp only [Bool.false_eq_true,if_false] at hok
      refine xD hok (fun v w' hr=>?_) hn
      unfold resolve
      simp only [Sem.run_bind,Sem.run_pure,Result.andThen_ok]
      unfold invoke builtin
      simp only [List.map_toArray,List.map_cons,List.map_nil,Sem.run_bind,hr,Result.andThen_ok,Sem.run_pure]
     ·cases hc
    ·cases hc
   ·unfold cMm at hc
    split at hc
    ·rename_i x y t u hx' ht'
     have e1:args=#[x,y]:=by rw [<-Array.toArray_toList (xs:=args),hx']
     have e2:argTypes=#[t,u]:=by rw [<-Array.toArray_toList (xs:=argTypes),ht']
     subst e1;subst e2
     split at hc
     ·obtain ⟨x',hx,hc⟩:=Option.bind_eq_some_iff.1 hc
      obtain ⟨y',hy,hc⟩:=Option.map_eq_some_iff.1 hc
      obtain rfl:=dJ hc rfl
      obtain ⟨a,ha,h⟩:=Out.bind h
      obtain ⟨b,hb,h⟩:=Out.bind h
      have hok:=aUb (P:=P) (e:=st.env V) (base:=base) (mx:=true) (t:=#[t,u]) (ty:=o.type) hi (dT hs hx ha) (dT hs hy hb) h
      simp only [if_true] at hok
      refine xD hok (fun v w' hr=>?_) hn
      unfold resolve
      simp only [Sem.run_bind,Sem.run_pure,Result.andThen_ok]
      unfold invoke builtin
      simp only [List.map_toArray,List.map_cons,List.map_nil,Sem.run_bind,hr,Result.andThen_ok,Sem.run_pure]
     ·cases hc
    ·cases hc
   ·cases hc
  ·cases hc
theorem aTJ {vl:List Nat} {st:St} {V:FuncId->List C->C->List (Option C)->Prop} {act:Act} {o:Oper} {ao:AOp} {wr:Wr} {next:Act->World->Prop} {Q:Exit->Act->World->Prop}
  (hi:fB c g (cQ st.objs) w) (hs:aJ7 vl g (cQ st.objs) w st.tmps st.vars act) (hV:∀ f cs r os,V f cs r os->aC P c.gv f cs r os) (hf:∀ n,base<=n->n<base+64->¬g.Nm n)
  (hc:cOp P vl o.type o.op=some ao.erase) (h:Out (st.env V) (aCi base ao) wr) (hn:aFp c g (cQ st.objs) w base wr fun v w'=>next (act.put o.dst v) w'):o.wp P act w next Q:=by
 unfold cOp at hc
 cases h0:aTO P vl o.type o.op with
 |some a=>
  grind [aRL]
 |none=>
  rw [h0] at hc
  have e:AOp.bad=ao.erase:=Option.some.inj hc
  cases ao<;>simp only [AOp.erase,reduceCtorEq] at e
  exact h.fail.elim
end
def St.app (st:St) (d:Dst) (wr:Wr):St where
 tmps:=match d with|.loc t=>put st.tmps t wr.val|_=>st.tmps
 vars:=match d with|.var t=>put st.vars t wr.val|_=>st.vars
 objs:=qM st.objs wr.objs
 nx:=st.nx
def tJ (base:Nat) (o:cM):RM Wr:=
 match o.guard with
 |none=>aCi base o.op
 |some (x,b)=>(ev x).bind fun v=>match v with
  |.d (.bool t)=>.ite (t==b) (aCi base o.op) (out .skip)
  |.skip=>out .skip
  |_=>.fail
def vQ (d:Dst) (wr:Wr):List Loc:=
 (match d with|.none=>[]|.loc t=>[.slot false t]|.var t=>[.slot true t])++wr.objs.map fun p=>.obj p.1
def St.val (st:St):Loc->Option (A ⊕ O)
 |.slot false s=>(cQ st.tmps s).map .inl
 |.slot true s=>(cQ st.vars s).map .inl
 |.obj n=>(cQ st.objs n).map .inr
theorem aKh:∀ (us:List (Nat×Option O)) (h:Nat->Option O) (n:Nat),n ∉ us.map (·.1)->eS h us n=h n:=by
 intro us
 induction us with
 |nil=>intro h n _;rfl
 |cons u us ih=>
  intro h n hn
  simp only [List.map_cons,List.mem_cons,not_or] at hn
  simp only [eS]
  rw [ih _ n hn.2,if_neg hn.1]
theorem aSo:∀ (us:List (Nat×Option O)) (h h':Nat->Option O) (n:Nat),n∈us.map (·.1)->eS h us n=eS h' us n:=by
 intro us
 induction us with
 |nil=>simp
 |cons u us ih=>
  grind [eS,aKh,absurd]
theorem aNH {us:List (Nat×Option O)} {n:Nat}:(Loc.obj n∈us.map fun p=>Loc.obj p.1) ↔ n∈us.map (·.1):=by
 simp
theorem aQr {us:List (Nat×Option O)} {v:Bool} {s:Nat}:¬(Loc.slot v s∈us.map fun p=>Loc.obj p.1):=by
 simp
theorem aN8 {st:St} {d:Dst} {wr:Wr} {x:Loc} (hx:x ∉ vQ d wr):(st.app d wr).val x=st.val x:=by
 unfold vQ at hx
 rw [List.mem_append,not_or] at hx
 obtain ⟨h1,h2⟩:=hx
 cases x with
 |slot v s=>
  cases d with
  |none=>cases v<;>rfl
  |loc t=>
   cases v
   ·simp only [List.mem_singleton,Loc.slot.injEq,true_and] at h1
    simp only [St.val,St.app,nQ,if_neg h1]
   rfl
  |var t=>
   cases v
   ·rfl
   ·simp only [List.mem_singleton,Loc.slot.injEq,true_and] at h1
    simp only [St.val,St.app,nQ,if_neg h1]
 |obj n=>
  rw [aNH] at h2
  simp only [St.val,St.app,fT]
  rw [aKh _ _ _ h2]
theorem aVN {st st':St} {d:Dst} {wr:Wr} {x:Loc} (hx:x∈vQ d wr):(st.app d wr).val x=(st'.app d wr).val x:=by
 unfold vQ at hx
 rw [List.mem_append] at hx
 cases x with
 |slot v s=>
  have h1:=hx.resolve_right aQr
  cases d with
  |none=>grind
  |loc t=>
   simp only [List.mem_singleton,Loc.slot.injEq] at h1
   obtain ⟨rfl,rfl⟩:=h1
   simp only [St.val,St.app,nQ,if_pos]
  |var t=>
   simp only [List.mem_singleton,Loc.slot.injEq] at h1
   obtain ⟨rfl,rfl⟩:=h1
   simp only [St.val,St.app,nQ,if_pos]
 |obj n=>
  have h2:Loc.obj n∈wr.objs.map fun p=>Loc.obj p.1:=by
   grind
  rw [aNH] at h2
  simp only [St.val,St.app,fT]
  rw [aSo _ _ _ _ h2]
theorem St.val_slot {st st':St} {v:Bool} {s:Nat} (h:st.val (.slot v s)=st'.val (.slot v s)) (V:FuncId->List C->C->List (Option C)->Prop):(st.env V).sl v s=(st'.env V).sl v s:=by
 cases v
 ·simp only [St.val] at h
  simp only [St.env,Bool.false_eq_true,if_false]
  cases h1:cQ st.tmps s<;>cases h2:cQ st'.tmps s<;>simp_all
 ·simp only [St.val] at h
  simp only [St.env,if_true]
  cases h1:cQ st.vars s<;>cases h2:cQ st'.vars s<;>simp_all
theorem St.val_obj {st st':St} {n:Nat} (h:st.val (.obj n)=st'.val (.obj n)):cQ st.objs n=cQ st'.objs n:=by
 simp only [St.val] at h
 cases h1:cQ st.objs n<;>cases h2:cQ st'.objs n<;>simp_all
theorem Res.congr {α:Type} {V:FuncId->List C->C->List (Option C)->Prop} {st st':St} {r:α}:∀ {m:RM α} {l:List Loc},(∀ x,x∈l->st.val x=st'.val x)->Res (st.env V) m r l->Res (st'.env V) m r l:=by
 intro m
 induction m with
 |ret a=>intro l _ h;exact h
 |fail=>intro l _ h;exact h
 |rs v s k ih=>
  rintro l hl ⟨x,l',hx,h,rfl⟩
  exact ⟨x,l',by rw [<-St.val_slot (hl _ (by simp)) V];grind,ih x (fun y hy=>hl y (by grind)) h,rfl⟩
 |rh n k ih=>
  rintro l hl ⟨x,l',hx,h,rfl⟩
  exact ⟨x,l',by have:=St.val_obj (hl (.obj n) (by simp));simp only [St.env] at hx ⊢;rw [<-this];grind,ih x (fun y hy=>hl y (by grind)) h,rfl⟩
 |ite b x y ihx ihy=>
  rintro l hl (⟨hb,h⟩|⟨hb,h⟩)
  ·exact .inl ⟨hb,ihx hl h⟩
  ·exact .inr ⟨hb,ihy hl h⟩
 |need p k ih=>rintro l hl ⟨hp,h⟩;exact ⟨hp,ih hl h⟩
 |call f cs k ih=>rintro l hl ⟨c,os,hv,h⟩;exact ⟨c,os,hv,ih c os hl h⟩
def cM.erase (o:cM):cM:={ o with op:=o.op.erase }
def aI.erase:aI->aI
 |.reg ops draw=>.reg (ops.map cM.erase) draw
 |.seq a b=>.seq a.erase b.erase
 |.cond c a b=>.cond c a.erase b.erase
 |.block id c=>.block id c.erase
 |.loop _ c=>.loop [] c.erase
 |c=>c
def aRV (vl:List Nat) (t:Nat):Opd:=if t∈vl then .var t else .loc t
def aPF (nt:Nat×List Nat) (vl:List Nat):Option Tmp->Option Dst
 |none=>some .none
 |some t=>if t ∉ nt.2/\t<nt.1 then some (if t∈vl then .var t else .loc t) else none
def alw (e:Edge):Bool:=match e.ground with|.textOnly _|.gcOnly _=>false|_=>true
def uni (a b:List Nat):List Nat:=a.foldr (fun x r=>if r.contains x then r else x::r) b
theorem aTm {x:Nat}:∀ {a b:List Nat},x∈uni a b->x∈a\/x∈b:=by
 intro a
 induction a with
 |nil=>intro b h;exact .inr h
 |cons y a ih=>
  intro b h
  simp only [uni,List.foldr_cons] at h
  split at h
  ·exact (ih h).imp (fun h=>List.mem_cons_of_mem _ h) id
  ·rcases List.mem_cons.1 h with rfl|h
   ·grind
   ·exact (ih h).imp (fun h=>List.mem_cons_of_mem _ h) id
def aEy (pres:List (List Nat)):List Edge->List Nat
 |[]=>[]
 |e::r=>if alw e then uni (e.on::pres.getD e.on []) (aEy pres r) else aEy pres r
def aJ2 (ops:Array Oper) (vl:List Nat):Option (Nat×Bool)->Option (Option (Opd×Bool))
 |none=>some none
 |some (g,b)=>((ops[g]?).bind (·.dst)).map fun t=>some (aRV vl t,b)
def aFe (P:Program) (nt:Nat×List Nat) (vl:List Nat) (ops:Array Oper) (draw:Bool) (pres:List (List Nat)) (o:Oper):Option cM:=
 (aPF nt vl o.dst).bind fun d=>(cOp P vl o.type o.op).bind fun p=>(aJ2 ops vl o.guard).bind fun g=>
  if (!draw || o.after.toList.all fun e=>!alw e || decide (e.on<pres.length))=true then some { dst:=d,op:=p,guard:=g,after:=if draw then aEy pres o.after.toList else [] } else none
def aNc (P:Program) (nt:Nat×List Nat) (vl:List Nat) (ops:Array Oper) (draw:Bool):List (List Nat)->List Oper->Option (List cM)
 |_,[]=>some []
 |pres,o::r=>(aFe P nt vl ops draw pres o).bind fun a=>(aNc P nt vl ops draw (pres++[a.after]) r).bind fun as=>some (a::as)
def vT (md:Region.Mode):Nat->List Oper->List Nat->List Nat
 |_,[],L=>L
 |i,o::r,L=>vT md (i+1) r (if o.after.toList.all (fun e=>!Region.binds md e || L.contains e.on) then i::L else L)
def aCE (ops:Array Oper):Bool:=
 [Region.Mode.any,.text,.gc].all fun md=>let L:=vT md 0 ops.toList (vT md 0 ops.toList (vT md 0 ops.toList (vT md 0 ops.toList (vT md 0 ops.toList []))));(List.range ops.size).all fun i=>L.contains i
def rS (P:Program) (nt:Nat×List Nat) (vl:List Nat):Code->Option aI
 |.skip=>some .skip
 |.label _=>some .skip
 |.region _ ops draw=>if (!draw || aCE ops)=true then (aNc P nt vl ops draw [] ops.toList).map (.reg · draw) else none
 |.seq a b=>(rS P nt vl a).bind fun a=>(rS P nt vl b).bind fun b=>some (.seq a b)
 |.cond c a b=>(iN P vl 0 c).bind fun c=>(rS P nt vl a).bind fun a=>(rS P nt vl b).bind fun b=>some (.cond c a b)
 |.block id c=>(rS P nt vl c).bind fun c=>some (.block id c)
 |.loop c=>(rS P nt vl c).bind fun c=>some (.loop [] c)
 |.exit id=>some (.exit id)
 |.ret=>some .ret
 |_=>none
structure Inv (c:Ctx) (vl:List Nat) (nt:Nat×List Nat) (g:Gh) (st:St) (act:Act) (w:World):Prop where
 s:aJ7 vl g (cQ st.objs) w st.tmps st.vars act
 h:fB c g (cQ st.objs) w
 ntz:nt.1<=act.tmps.size
 pin:∀ m,m∈nt.2->m<act.tmps.size/\act.tmps.getD m Go.undef=c.arg m
section
variable {P:Program} {c:Ctx} {vl:List Nat} {nt:Nat×List Nat} {V:FuncId->List C->C->List (Option C)->Prop}
theorem Act.put_size (a:Act) (d:Option Tmp) (v:Value):(a.put d v).tmps.size=a.tmps.size:=by
 cases d<;>simp [Act.put]
theorem Act.put_getD (a:Act) (t:Tmp) (v:Value) (s:Nat) (hs:s<a.tmps.size):(a.put (some t) v).tmps.getD s Go.undef=if t=s then v else a.tmps.getD s Go.undef:=by
 simp only [Act.put,Array.getD_eq_getD_getElem?,Array.getElem?_setIfInBounds]
 grind
theorem aN9 {g g':Gh} {st:St} {act:Act} {w w':World} {o:Option Tmp} {d:Dst} {wr:Wr} {v:Value} (hi:Inv c vl nt g st act w) (hd:aPF nt vl o=some d)
  (hh:fB c g' (eS (cQ st.objs) wr.objs) w') (hx:Ext g g' (cQ st.objs) (eS (cQ st.objs) wr.objs) w w') (hv:RA g' (eS (cQ st.objs) wr.objs) w' wr.val v):
  Inv c vl nt g' (st.app d wr) (act.put o v) w':=by
 have eo:cQ (st.app d wr).objs=eS (cQ st.objs) wr.objs:=fT _ _
 have hpin:∀ m,m∈nt.2->m<(act.put o v).tmps.size/\(act.put o v).tmps.getD m Go.undef=c.arg m:=fun m hm=>by
  cases o with
  |none=>exact hi.pin m hm
  |some t=>
   simp only [aPF] at hd
   split at hd
   ·rename_i ht
    obtain ⟨h1,h2⟩:=hi.pin m hm
    refine ⟨by grind [Act.put_size],?_⟩
    rw [Act.put_getD _ _ _ _ h1,if_neg (fun (e:t=m)=>ht.1 (e ▸ hm))]
    grind
   grind
 refine ⟨?_,by grind,by rw [Act.put_size];exact hi.ntz,hpin⟩
 rw [eo]
 have jX:∀ s x,cQ st.tmps s=some x->s ∉ vl/\s<act.tmps.size/\RA g' (eS (cQ st.objs) wr.objs) w' x (act.tmps.getD s Go.undef):=fun s x h=>
  let ⟨h1,h2,h3⟩:=hi.s.loc s x h;⟨h1,h2,h3.ext hx⟩
 have keepV:∀ s x,cQ st.vars s=some x->s∈vl/\s<act.tmps.size/\RA g' (eS (cQ st.objs) wr.objs) w' x (act.tmps.getD s Go.undef):=fun s x h=>
  let ⟨h1,h2,h3⟩:=hi.s.var s x h;⟨h1,h2,h3.ext hx⟩
 cases o with
 |none=>
  simp only [aPF,Option.some.injEq] at hd
  subst hd
  exact ⟨jX,keepV,hi.s.defers⟩
 |some t=>
  simp only [aPF] at hd
  split at hd
  ·rename_i ht
   have hts:t<act.tmps.size:=Nat.lt_of_lt_of_le ht.2 hi.ntz
   split at hd
   ·rename_i hvl
    cases hd
    refine ⟨fun s x h=>?_,fun s x h=>?_,hi.s.defers⟩
    ·obtain ⟨h1,h2,h3⟩:=jX s x h
     refine ⟨h1,by grind [Act.put_size],?_⟩
     rw [Act.put_getD _ _ _ _ h2,if_neg (fun (e:t=s)=>h1 (e ▸ hvl))]
     grind
    ·simp only [St.app,nQ] at h
     split at h
     ·rename_i e
      cases h
      subst e
      exact ⟨hvl,by grind [Act.put_size],by rw [Act.put_getD _ _ _ _ hts,if_pos rfl];grind⟩
     ·rename_i e
      obtain ⟨h1,h2,h3⟩:=keepV s x h
      exact ⟨h1,by rw [Act.put_size];exact h2,by rw [Act.put_getD _ _ _ _ h2,if_neg (fun q=>e q.symm)];exact h3⟩
   ·rename_i hvl
    cases hd
    refine ⟨fun s x h=>?_,fun s x h=>?_,hi.s.defers⟩
    ·simp only [St.app,nQ] at h
     split at h
     ·rename_i e
      cases h
      subst e
      exact ⟨hvl,by rw [Act.put_size];exact hts,by rw [Act.put_getD _ _ _ _ hts,if_pos rfl];exact hv⟩
     ·rename_i e
      obtain ⟨h1,h2,h3⟩:=jX s x h
      exact ⟨h1,by rw [Act.put_size];exact h2,by rw [Act.put_getD _ _ _ _ h2,if_neg (fun q=>e q.symm)];exact h3⟩
    ·obtain ⟨h1,h2,h3⟩:=keepV s x h
     refine ⟨h1,by rw [Act.put_size];exact h2,?_⟩
     rw [Act.put_getD _ _ _ _ h2,if_neg (fun (e:t=s)=>hvl (e ▸ h1))]
     exact h3
  grind
theorem RA.not_bool {g:Gh} {h:Nat->Option O} {w:World} {v:Value} (ha:RA g h w .skip v):∀ b,v≠.bool b:=by
 cases ha
 intro b hb
 cases hb
theorem aND {base:Nat} {g:Gh} {st:St} {act:Act} {w:World} {ops:Array Oper} {draw:Bool} {pres:List (List Nat)} {i:Nat} {o:Oper} {ao:cM} {wr:Wr} {K:Act->World->Prop} {Q:Exit->Act->World->Prop}
  (hi:Inv c vl nt g st act w) (hV:∀ f cs r os,V f cs r os->aC P c.gv f cs r os) (hf:∀ n,base<=n->n<base+64->¬g.Nm n) (ho:ops[i]?=some o) (hc:aFe P nt vl ops draw pres o=some ao.erase)
  (h:Out (st.env V) (tJ base ao) wr) (hK:∀ g' act' w',Inv c vl nt g' (st.app ao.dst wr) act' w'->(∀ n,g'.Nm n->g.Nm n\/(base<=n/\n<base+64))->K act' w'):wpOp P ops Q i K act w:=by
 unfold aFe at hc
 obtain ⟨d,hd,hc⟩:=Option.bind_eq_some_iff.1 hc
 obtain ⟨p,hp,hc⟩:=Option.bind_eq_some_iff.1 hc
 obtain ⟨gd,hg,hc⟩:=Option.bind_eq_some_iff.1 hc
 split at hc
 ·have hc:=Option.some.inj hc
  have e1:d=ao.dst:=congrArg cM.dst hc
  have e2:p=ao.op.erase:=congrArg cM.op hc
  have e3:gd=ao.guard:=congrArg cM.guard hc
  subst e1 e2 e3
  have exec:Out (st.env V) (aCi base ao.op) wr->o.wp P act w K Q:=fun h=>aTJ hi.h hi.s hV hf hp h fun v g' w' h1 h2 h3 h4=>hK g' _ w' (aN9 hi hd h1 h2 h3) h4
  have skip:wr={ val:=.skip }->K (act.put o.dst undef) w:=fun e=>by
   subst e
   exact hK g _ w (aN9 hi hd hi.h (Ext.refl _ _ _) .skip) (fun n h=>.inl h)
  unfold wpOp
  simp only [ho]
  unfold tJ at h
  unfold Region.wanted
  cases hgd:o.guard with
  |none=>
   rw [hgd] at hg
   simp only [aJ2,Option.some.injEq] at hg
   grind
  |some gb=>
   obtain ⟨j,b⟩:=gb
   rw [hgd] at hg
   simp only [aJ2] at hg
   obtain ⟨t,ht,hg⟩:=Option.map_eq_some_iff.1 hg
   rw [<-hg] at h
   simp only at h
   obtain ⟨a,ha,h⟩:=Out.bind h
   have hx:iN P vl 0 (.tmp t)=some (aRV vl t):=rfl
   have hra:=dT hi.s hx ha
   have hlt:t<act.tmps.size:=by
    unfold aRV at ha
    split at ha
    ·obtain ⟨y,hy,_⟩:=ha.rs
     exact (hi.s.var t y hy).2.1
    ·obtain ⟨y,hy,_⟩:=ha.rs
     exact (hi.s.loc t y hy).2.1
   have hy:yielded ops act.tmps j=match act.tmps.getD t Go.undef with|.bool b=>some b|_=>none:=by
    unfold yielded
    rw [ht]
    simp only [Option.bind_some,Array.getD_eq_getD_getElem?,Array.getElem?_eq_getElem hlt,Option.getD_some]
    grind
   simp only [Act.eval] at hra
   simp only
   split at h
   ·rename_i q
    rw [hra.bool_inv] at hy
    simp only at hy
    rcases h.ite with ⟨hb,h'⟩|⟨hb,h'⟩
    ·have:q=b:=by simpa using hb
     subst this
     rw [if_pos (by rw [hy];simp)]
     exact .inl (exec h')
    ·rw [if_neg (by rw [hy];simpa using hb)]
     exact skip (cG h')
   ·have hnb:=hra.not_bool
    have:(match act.tmps.getD t Go.undef with|.bool b=>some b|_=>none)=none:=by
     split
     ·rename_i q hq
      exact absurd hq (hnb q)
     ·rfl
    rw [this] at hy
    rw [if_neg (by rw [hy];simp)]
    exact skip (cG h)
   ·exact h.fail.elim
 grind
end
def goL {α:Type} (e:Env):RM α->(α->List Loc->Prop)->Prop
 |.ret a,K=>K a []
 |.fail,_=>False
 |.rs v s k,K=>match e.sl v s with|some x=>goL e (k x) fun r l=>K r (.slot v s::l)|none=>False
 |.rh n k,K=>match e.h n with|some o=>goL e (k o) fun r l=>K r (.obj n::l)|none=>False
 |.ite b x y,K=>(b=true->goL e x K)/\(b=false->goL e y K)
 |.need p k,K=>p/\goL e k K
 |.call f cs k,K=>∃ c os,e.V f cs c os/\goL e (k c os) K
theorem aDT {α:Type} {e:Env}:∀ {m:RM α} {K:α->List Loc->Prop},goL e m K->∃ r l,Res e m r l/\K r l:=by
 intro m
 induction m with
 |ret a=>intro K h;exact ⟨a,[],⟨rfl,rfl⟩,h⟩
 |fail=>intro K h;exact h.elim
 |rs v s k ih=>
  intro K h
  simp only [goL] at h
  split at h
  ·rename_i x hx
   obtain ⟨r,l,h1,h2⟩:=ih x h
   exact ⟨r,_,⟨x,l,hx,h1,rfl⟩,h2⟩
  grind
 |rh n k ih=>
  intro K h
  simp only [goL] at h
  split at h
  ·rename_i x hx
   obtain ⟨r,l,h1,h2⟩:=ih x h
   exact ⟨r,_,⟨x,l,hx,h1,rfl⟩,h2⟩
  grind
 |ite b x y ihx ihy=>
  intro K h
  cases b with
  |true=>obtain ⟨r,l,h1,h2⟩:=ihx (h.1 rfl);exact ⟨r,l,.inl ⟨rfl,h1⟩,h2⟩
  |false=>obtain ⟨r,l,h1,h2⟩:=ihy (h.2 rfl);exact ⟨r,l,.inr ⟨rfl,h1⟩,h2⟩
 |need p k ih=>
  intro K h
  obtain ⟨r,l,h1,h2⟩:=ih h.2
  exact ⟨r,l,⟨h.1,h1⟩,h2⟩
 |call f cs k ih=>
  intro K h
  obtain ⟨c,os,hv,h⟩:=h
  obtain ⟨r,l,h1,h2⟩:=ih c os h
  exact ⟨r,l,⟨c,os,hv,h1⟩,h2⟩
def aA2 (xs ys:List Loc):Bool:=xs.all fun x=>!ys.contains x
theorem aLT {xs ys:List Loc} (h:aA2 xs ys=true):∀ x,x∈xs->x ∉ ys:=by
 intro x hx
 have:=List.all_eq_true.1 h x hx
 grind
def oX (after:List Nat):Nat->List (List Loc×List Loc)->List Loc->List Loc->Bool
 |_,[],_,_=>true
 |k,(rd',wt')::r,rd,wt=>(after.contains k || (aA2 wt' rd && aA2 wt' wt && aA2 rd' wt)) && oX after (k+1) r rd wt
theorem aLD {after:List Nat} {rd wt:List Loc}:∀ {logs:List (List Loc×List Loc)} {k:Nat},oX after k logs rd wt=true->∀ j rd' wt',logs[j]?=some (rd',wt') →
  (k+j)∈after\/((∀ x,x∈wt'->x ∉ rd/\x ∉ wt)/\∀ x,x∈rd'->x ∉ wt):=by
 intro logs
 induction logs with
 |nil=>grind
 |cons p logs ih=>
  intro k h j rd' wt' hj
  simp only [oX,Bool.and_eq_true,Bool.or_eq_true] at h
  cases j with
  |zero=>
   grind [aLT]
  |succ j=>
   grind
def aMo (V:FuncId->List C->C->List (Option C)->Prop) (base:Nat) (draw:Bool):Nat->List cM->List (List Loc×List Loc)->St->(St->Prop)->Prop
 |_,[],_,st,K=>K st
 |i,o::r,logs,st,K=>goL (st.env V) (tJ (base+64*i) o) fun wr l=>
   (draw=true->oX o.after 0 logs l (vQ o.dst wr)=true)/\aMo V base draw (i+1) r (logs++[(l,vQ o.dst wr)]) (st.app o.dst wr) K
theorem aQy {V:FuncId->List C->C->List (Option C)->Prop} {base:Nat} {draw:Bool} {K:St->Prop}:∀ (r:List cM) (i:Nat) (logs:List (List Loc×List Loc)) (st:St),aMo V base draw i r logs st K →
  ∃ (S:Nat->St) (R:Nat->Wr) (rd wt:Nat->List Loc),S 0=st/\K (S r.length)/\∀ j o,r[j]?=some o->Res ((S j).env V) (tJ (base+64*(i+j)) o) (R j) (rd j)/\S (j+1)=(S j).app o.dst (R j)/\wt j=vQ o.dst (R j) ∧
   (draw=true->oX o.after 0 (logs++(List.range j).map fun q=>(rd q,wt q)) (rd j) (wt j)=true):=by
 intro r
 induction r with
 |nil=>intro i logs st h;exact ⟨fun _=>st,fun _=>default,fun _=>[],fun _=>[],rfl,h,fun j o hj=>by grind⟩
 |cons o r ih=>
  intro i logs st h
  obtain ⟨wr,l,hres,hconf,h⟩:=aDT h
  obtain ⟨S,R,rd,wt,h0,hK,hs⟩:=ih _ _ _ h
  refine ⟨fun j=>match j with|0=>st|j+1=>S j,fun j=>match j with|0=>wr|j+1=>R j,fun j=>match j with|0=>l|j+1=>rd j,fun j=>match j with|0=>vQ o.dst wr|j+1=>wt j,rfl,hK,fun j o' hj=>?_⟩
  cases j with
  |zero=>
   grind
  |succ j=>
   obtain ⟨h1,h2,h3,h4⟩:=hs j o' (by grind)
   refine ⟨by grind,h2,h3,fun hd=>?_⟩
   have:=h4 hd
   rw [List.range_succ_eq_map,List.map_cons,List.map_map]
   rw [List.append_assoc] at this
   exact this
section
variable {n:Nat} {S:Nat->St} {R:Nat->Wr} {rd wt:Nat->List Loc} {dst:Nat->Dst} {ord:Nat->Nat->Prop} {L:Nat->Prop}
structure aHp (n:Nat) (S:Nat->St) (R:Nat->Wr) (rd wt:Nat->List Loc) (dst:Nat->Dst) (ord:Nat->Nat->Prop):Prop where
 next:∀ i,i<n->S (i+1)=(S i).app (dst i) (R i)
 hwt:∀ i,i<n->wt i=vQ (dst i) (R i)
 conf:∀ k i,k<i->i<n->ord k i\/((∀ x,x∈wt k->x ∉ rd i/\x ∉ wt i)/\∀ x,x∈rd k->x ∉ wt i)
theorem aHp.still (hc:aHp n S R rd wt dst ord) {x:Loc} {a:Nat}:∀ {b:Nat},a<=b->b<=n->(∀ m,a<=m->m<b->x ∉ wt m)->(S b).val x=(S a).val x:=by
 intro b
 induction b with
 |zero=>grind
 |succ b ih=>
  intro h1 h2 h3
  by_cases e:a=b+1
  ·rw [e]
  ·rw [hc.next b (by omega),aN8 (by rw [<-hc.hwt b (by omega)];grind)]
   grind
def vG (n:Nat) (S:Nat->St) (wt:Nat->List Loc) (L:Nat->Prop) (st:St):Prop:=
 ∀ x,(∃ k,k<n/\L k/\x∈wt k/\(∀ m,m<n->L m->x∈wt m->m<=k)/\st.val x=(S (k+1)).val x)\/((∀ m,m<n->L m->x ∉ wt m)/\st.val x=(S 0).val x)
theorem vG.read {st:St} (hc:aHp n S R rd wt dst ord) (h:vG n S wt L st) {i:Nat} (hi:i<n) (hL:¬L i) (hp:∀ k,ord k i->L k) (hcl:∀ m k,L m->ord k m->L k):∀ x,x∈rd i->st.val x=(S i).val x:=by
 intro x hx
 have early:∀ m,m<i->x∈wt m->L m:=fun m hm hw=>by
  rcases hc.conf m i hm hi with h1|⟨h1,_⟩
  ·grind
  grind
 have late:∀ m,m<n->L m->x∈wt m->m<i:=fun m hm hl hw=>by
  by_cases e:m=i
  ·grind
  ·by_cases e2:m<i
   ·grind
   ·rcases hc.conf i m (by omega) hm with h1|⟨_,h1⟩
    ·grind
    grind
 rcases h x with ⟨k,hk,hLk,hw,hmax,hv⟩|⟨hno,hv⟩
 ·have hki:=late k hk hLk hw
  rw [hv]
  refine (hc.still (by omega) (by omega) fun m h1 h2 hm=>?_).symm
  grind
 ·rw [hv]
  exact (hc.still (by omega) (by omega) fun m _ h2 hm=>hno m (by omega) (early m h2 hm) hm).symm
theorem vG.step {st:St} (hc:aHp n S R rd wt dst ord) (h:vG n S wt L st) {i:Nat} (hi:i<n) (hL:¬L i) (hcl:∀ m k,L m->ord k m->L k):
  vG n S wt (fun m=>L m\/m=i) (st.app (dst i) (R i)):=by
 intro x
 by_cases hx:x∈wt i
 ·refine .inl ⟨i,hi,.inr rfl,hx,fun m hm hl hw=>?_,?_⟩
  ·rcases hl with hl|rfl
   ·by_cases e:m<=i
    ·exact e
    ·rcases hc.conf i m (by omega) hm with h1|⟨h1,_⟩
     ·grind
     grind
   grind
  ·rw [hc.next i hi]
   rw [hc.hwt i hi] at hx
   exact aVN hx
 ·have e:(st.app (dst i) (R i)).val x=st.val x:=aN8 (by rw [<-hc.hwt i hi];grind)
  rcases h x with ⟨k,hk,hLk,hw,hmax,hv⟩|⟨hno,hv⟩
  ·grind
  grind
theorem vG.done {st:St} (hc:aHp n S R rd wt dst ord) (h:vG n S wt L st) (hL:∀ m,m<n->L m):∀ x,st.val x=(S n).val x:=by
 intro x
 rcases h x with ⟨k,hk,hLk,hw,hmax,hv⟩|⟨hno,hv⟩
 ·rw [hv]
  exact (hc.still (by omega) (Nat.le_refl _) fun m h1 h2 hm=>by grind).symm
 ·rw [hv]
  exact (hc.still (by omega) (Nat.le_refl _) fun m _ h2 hm=>hno m h2 (hL m h2) hm).symm
end
section
variable {P:Program} {c:Ctx} {vl:List Nat} {nt:Nat×List Nat} {V:FuncId->List C->C->List (Option C)->Prop}
theorem Inv.heap {g:Gh} {st:St} {act:Act} {w w':World} (hi:Inv c vl nt g st act w) (hw:w'.heap=w.heap) (hside:w'.os=w.os/\w'.output=w.output):Inv c vl nt g st act w':=by
 have hk:∀ b q,w'.cell? (at_ b q)=w.cell? (at_ b q)/\w'.frz? (at_ b q)=w.frz? (at_ b q):=fun b q=>nV (by rw [hw]) q
 obtain ⟨h1,h2⟩:=rJ (g':=g) (h':=cQ st.objs) (w':=w') hi.h (fun _=>False) hside (by rw [hw];exact Nat.le_refl _) (fun n _=>⟨rfl,fun _=>rfl⟩) (fun _ h=>h) (fun _ _=>rfl) (fun b _ _=>by rw [hw]) (fun b q _ _=>hk b q)
  (fun _ _ h=>h) (fun _ _ h=>.inl h) (fun _ _ _ _ _ h=>h.elim) (fun _ _ _ h=>h.elim) (fun _ _ h=>h.elim) (fun _ _ _ _ h=>h.elim)
 exact ⟨⟨fun s x h=>let ⟨a1,a2,a3⟩:=hi.s.loc s x h;⟨a1,a2,a3.ext h2⟩,fun s x h=>let ⟨a1,a2,a3⟩:=hi.s.var s x h;⟨a1,a2,a3.ext h2⟩,hi.s.defers⟩,h1,hi.ntz,hi.pin⟩
theorem Inv.same {g:Gh} {st st':St} {act:Act} {w:World} (hi:Inv c vl nt g st act w) (h:∀ x,st.val x=st'.val x):Inv c vl nt g st' act w:=by
 have e:cQ st.objs=cQ st'.objs:=funext fun n=>St.val_obj (h (.obj n))
 have hs:=hi.s
 have hh:=hi.h
 rw [e] at hs hh
 refine ⟨⟨fun s x hx=>hs.loc s x ?_,fun s x hx=>hs.var s x ?_,hs.defers⟩,hh,hi.ntz,hi.pin⟩
 ·have:=St.val_slot (h (.slot false s)) (fun _ _ _ _=>False)
  simp only [St.env,Bool.false_eq_true,if_false] at this
  rw [this];exact hx
 ·have:=St.val_slot (h (.slot true s)) (fun _ _ _ _=>False)
  simp only [St.env,if_true] at this
  rw [this];exact hx
theorem Inv.less {g:Gh} {st st':St} {act:Act} {w:World} (hi:Inv c vl nt g st act w) (ho:st'.objs=st.objs) (ht:∀ s x,cQ st'.tmps s=some x->cQ st.tmps s=some x) (hv:∀ s x,cQ st'.vars s=some x->cQ st.vars s=some x):
  Inv c vl nt g st' act w:=by
 obtain ⟨hs,hh,hn,hp⟩:=hi
 rw [<-ho] at hs hh
 exact ⟨⟨fun s x hx=>hs.loc s x (ht s x hx),fun s x hx=>hs.var s x (hv s x hx),hs.defers⟩,hh,hn,hp⟩
theorem aRW {ops:Array Oper} {draw:Bool}:∀ (os:List Oper) (pres:List (List Nat)) (as:List cM),aNc P nt vl ops draw pres os=some as->as.length=os.length ∧
  ∀ j o,os[j]?=some o->∃ a,as[j]?=some a/\aFe P nt vl ops draw (pres++(as.take j).map cM.after) o=some a:=by
 intro os
 induction os with
 |nil=>
  intro pres as h
  simp only [aNc,Option.some.injEq] at h
  subst h
  exact ⟨rfl,fun j o hj=>by simp at hj⟩
 |cons o os ih=>
  intro pres as h
  simp only [aNc] at h
  obtain ⟨a,ha,h⟩:=Option.bind_eq_some_iff.1 h
  obtain ⟨as',has,h⟩:=Option.bind_eq_some_iff.1 h
  obtain rfl:=Option.some.inj h
  obtain ⟨h1,h2⟩:=ih _ _ has
  refine ⟨by simp [h1],fun j o' hj=>?_⟩
  cases j with
  |zero=>
   simp at hj
   subst hj
   exact ⟨a,rfl,by simpa using ha⟩
  |succ j=>
   obtain ⟨a',h3,h4⟩:=h2 j o' (by simpa using hj)
   exact ⟨a',by simpa using h3,by simpa using h4⟩
theorem aOZ (as:List cM) (j:Nat):((as.map cM.erase).take j).map cM.after=(as.take j).map cM.after:=by
 rw [<-List.map_take,List.map_map]
 rfl
structure vF (P:Program) (nt:Nat×List Nat) (vl:List Nat) (ops:Array Oper) (draw:Bool) (aos:List cM):Prop where
 len:aos.length=ops.size
 get:∀ i (o:Oper),ops[i]?=some o->∃ ao,aos[i]?=some ao/\aFe P nt vl ops draw ((aos.take i).map cM.after) o=some ao.erase
theorem aVA {ops:Array Oper} {draw:Bool} {aos:List cM} (h:aNc P nt vl ops draw [] ops.toList=some (aos.map cM.erase)):vF P nt vl ops draw aos:=by
 obtain ⟨h1,h2⟩:=aRW _ _ _ h
 refine ⟨by simpa using h1,fun i o ho=>?_⟩
 obtain ⟨a,h3,h4⟩:=h2 i o (by simpa using ho)
 rw [aOZ] at h4
 rw [List.getElem?_map] at h3
 obtain ⟨ao,h5,h6⟩:=Option.map_eq_some_iff.1 h3
 exact ⟨ao,h5,by rw [h6];simpa using h4⟩
theorem vF.edges {ops:Array Oper} {aos:List cM} (hc:vF P nt vl ops true aos) {i:Nat} {o:Oper} (ho:ops[i]?=some o):∀ e,e∈o.after->alw e=true->e.on<i:=by
 obtain ⟨ao,h1,h2⟩:=hc.get i o ho
 unfold aFe at h2
 obtain ⟨d,hd,h2⟩:=Option.bind_eq_some_iff.1 h2
 obtain ⟨p,hp,h2⟩:=Option.bind_eq_some_iff.1 h2
 obtain ⟨gd,hg,h2⟩:=Option.bind_eq_some_iff.1 h2
 split at h2
 ·rename_i hall
  intro e he hal
  simp only [Bool.not_true,Bool.false_or,List.all_eq_true] at hall
  have:=hall e (by simpa using he)
  have hlt:i<ops.size:=(Array.getElem?_eq_some_iff.1 ho).1
  have hl:=hc.len
  simp only [hal,Bool.not_true,Bool.false_or,List.length_map,List.length_take,decide_eq_true_eq] at this
  omega
 ·cases h2
theorem vF.dst {ops:Array Oper} {draw:Bool} {aos:List cM} (hc:vF P nt vl ops draw aos) {i:Nat} {o:Oper} (ho:ops[i]?=some o) {ao:cM} (ha:aos[i]?=some ao):
  ao.after=if draw then aEy ((aos.take i).map cM.after) o.after.toList else []:=by
 obtain ⟨ao',h1,h2⟩:=hc.get i o ho
 rw [ha] at h1
 cases h1
 unfold aFe at h2
 obtain ⟨d,hd,h2⟩:=Option.bind_eq_some_iff.1 h2
 obtain ⟨p,hp,h2⟩:=Option.bind_eq_some_iff.1 h2
 obtain ⟨gd,hg,h2⟩:=Option.bind_eq_some_iff.1 h2
 split at h2
 ·have:=congrArg cM.after (Option.some.inj h2)
  exact this.symm
 ·cases h2
end
theorem aMB {base i:Nat} {g g':Gh} {L:Nat->Prop} (h:∀ q,g.Nm q->q<base\/∃ k,L k/\base+64*k<=q/\q<base+64*k+64) (h':∀ q,g'.Nm q->g.Nm q\/(base+64*i<=q/\q<base+64*i+64)):
  ∀ q,g'.Nm q->q<base\/∃ k,(L k\/k=i)/\base+64*k<=q/\q<base+64*k+64:=by
 intro q hq
 rcases h' q hq with h1|h1
 ·grind
 simp_all
theorem aMC {base i:Nat} {g:Gh} {L:Nat->Prop} (h:∀ q,g.Nm q->q<base\/∃ k,L k/\base+64*k<=q/\q<base+64*k+64) (hL:¬L i):∀ q,base+64*i<=q->q<base+64*i+64->¬g.Nm q:=by
 grind
section
variable {P:Program} {c:Ctx} {vl:List Nat} {nt:Nat×List Nat} {V:FuncId->List C->C->List (Option C)->Prop} {ops:Array Oper} {aos:List cM} {base:Nat} {S:Nat->St} {R:Nat->Wr} {rd wt:Nat->List Loc} {Q:Exit->Act->World->Prop}
def Ord (aos:List cM) (k i:Nat):Prop:=∃ ao,aos[i]?=some ao/\k∈ao.after
def aLB (aos:List cM) (i:Nat):Dst:=((aos[i]?).map cM.dst).getD .none
structure aXb (V:FuncId->List C->C->List (Option C)->Prop) (base:Nat) (aos:List cM) (S:Nat->St) (R:Nat->Wr) (rd wt:Nat->List Loc):Prop where
 res:∀ i ao,aos[i]?=some ao->Res ((S i).env V) (tJ (base+64*i) ao) (R i) (rd i)
 can:aHp aos.length S R rd wt (aLB aos) (Ord aos)
theorem aNL {pres:List (List Nat)} {k:Nat}:∀ {es:List Edge},k∈aEy pres es->∃ e,e∈es/\alw e=true/\(k=e.on\/k∈pres.getD e.on []):=by
 intro es
 induction es with
 |nil=>grind [aEy]
 |cons e es ih=>
  intro h
  simp only [aEy] at h
  split at h
  ·rcases aTm h with h|h
   ·grind
   grind
  grind
theorem aHf (hc:vF P nt vl ops true aos) {L:Nat->Prop} (hd:∀ (m:Nat) (o:Oper) (e:Edge),ops[m]?=some o->L m->e∈o.after->alw e=true->L e.on):∀ m k,L m->Ord aos k m->L k:=by
 intro m
 induction m using Nat.strongRecOn with
 |_ m ih=>
  intro k hm hk
  obtain ⟨ao,ha,hk⟩:=hk
  have hlt:m<ops.size:=by have:=(List.getElem?_eq_some_iff.1 ha).1;have:=hc.len;omega
  have ho:=Array.getElem?_eq_getElem hlt
  rw [hc.dst ho ha] at hk
  obtain ⟨e,he,hal,hk⟩:=aNL hk
  have he:e∈ops[m].after:=by grind
  have h1:=hd m _ e ho hm he hal
  rcases hk with rfl|hk
  ·grind
  ·have hel:=hc.edges ho e he hal
   refine ih e.on hel k h1 ?_
   have hml:=(List.getElem?_eq_some_iff.1 ha).1
   have hl:e.on<aos.length:=by omega
   refine ⟨aos[e.on],List.getElem?_eq_getElem hl,?_⟩
   grind
theorem aPI {md:Region.Mode} {e:Edge} (h:alw e=true):Region.binds md e=true:=by
 unfold alw at h
 unfold Region.binds
 grind
theorem aCw {md:Region.Mode} {listed:Array Bool} {i:Nat}:i∈Region.ready md ops listed ↔ ∃ o,ops[i]?=some o/\listed.getD i true=false/\∀ e,e∈o.after->Region.binds md e=true->listed.getD e.on false=true:=by
 unfold Region.ready
 rw [List.mem_filter,List.mem_range]
 constructor
 ·rintro ⟨h1,h2⟩
  have ho:=Array.getElem?_eq_getElem h1
  grind [Array.all_eq_true_iff_forall_mem]
 grind
theorem aBp {md:Region.Mode} {G:Nat->Prop}:∀ (os:List Oper) (i:Nat) (L:List Nat),(∀ (j:Nat) (o:Oper),os[j]?=some o->(∀ e,e∈o.after->Region.binds md e=true->G e.on)->G (i+j))->(∀ j,j∈L->G j) →
  ∀ j,j∈vT md i os L->G j:=by
 intro os
 induction os with
 |nil=>intro i L _ hL j hj;exact hL j hj
 |cons o os ih=>
  intro i L hG hL j hj
  refine ih (i+1) _ (fun j o h1 h2=>?_) (fun j hj=>?_) j hj
  ·have:=hG (j+1) o (by grind) h2
   grind
  ·split at hj
   ·rcases List.mem_cons.1 hj with rfl|hj
    ·refine hG 0 o rfl fun e he hb=>hL _ ?_
     grind
    grind
   grind
theorem aNf (hE:aCE ops=true) {md:Region.Mode} {listed:Array Bool} (hsz:listed.size=ops.size) (h:Region.ready md ops listed=[]):∀ i,i<ops.size->listed[i]?=some true:=by
 have key:∀ (j:Nat) (o:Oper),ops.toList[j]?=some o->(∀ e,e∈o.after->Region.binds md e=true->listed[e.on]?=some true)->listed[0+j]?=some true:=by
  intro j o ho he
  have ho:ops[j]?=some o:=by grind
  have hlt:=(Array.getElem?_eq_some_iff.1 ho).1
  cases hb:listed[j]'(by omega) with
  |true=>grind
  |false=>
   have:j∈Region.ready md ops listed:=aCw.2 ⟨_,ho,by simp_all,fun e h1 h2=>by
    simp_all⟩
   grind
 intro i hi
 have hmd:(List.range ops.size).all (fun i=>(vT md 0 ops.toList (vT md 0 ops.toList (vT md 0 ops.toList (vT md 0 ops.toList (vT md 0 ops.toList []))))).contains i)=true:=by
  unfold aCE at hE
  rw [List.all_eq_true] at hE
  exact hE md (by cases md<;>simp)
 rw [List.all_eq_true] at hmd
 have:=hmd i (by grind)
 have hm:i∈vT md 0 ops.toList (vT md 0 ops.toList (vT md 0 ops.toList (vT md 0 ops.toList (vT md 0 ops.toList [])))):=by grind
 exact aBp (G:=fun i=>listed[i]?=some true) _ _ _ key (aBp _ _ _ key (aBp _ _ _ key (aBp _ _ _ key (aBp _ _ _ key (fun j hj=>by grind))))) i hm
theorem aVQ (hc:vF P nt vl ops true aos) (hE:aCE ops=true) (hs:aXb V base aos S R rd wt) (hV:∀ f cs r os,V f cs r os->aC P c.gv f cs r os) (md:Region.Mode)
  (hQ:∀ g act w,Inv c vl nt g (S aos.length) act w->(∀ q,g.Nm q->q<base+64*aos.length)->Q .normal act w):
  ∀ (fuel:Nat) (listed:Array Bool) (g:Gh) (st:St) (act:Act) (w:World),listed.size=ops.size->((List.range ops.size).filter fun i=>!listed.getD i true).length<=fuel →
   (∀ (m:Nat) (o:Oper) (e:Edge),ops[m]?=some o->listed[m]?=some true->e∈o.after->alw e=true->listed[e.on]?=some true)->vG aos.length S wt (fun i=>listed[i]?=some true) st->Inv c vl nt g st act w →
   (∀ q,g.Nm q->q<base\/∃ k,listed[k]?=some true/\base+64*k<=q/\q<base+64*k+64)->wpAny P md ops Q fuel listed act w:=by
 have fin:∀ (listed:Array Bool) (g:Gh) (st:St) (act:Act) (w:World),listed.size=ops.size->vG aos.length S wt (fun i=>listed[i]?=some true) st->Inv c vl nt g st act w →
   (∀ q,g.Nm q->q<base\/∃ k,listed[k]?=some true/\base+64*k<=q/\q<base+64*k+64)->Region.ready md ops listed=[]->Q .normal act w:=by
  intro listed g st act w hsz ha hi hn hr
  have hall:=aNf hE hsz hr
  refine hQ g act w (hi.same (ha.done hs.can fun m hm=>hall m (by rw [<-hc.len];grind))) fun q hq=>?_
  rcases hn q hq with h|⟨k,hk,h1,h2⟩
  ·omega
  ·have:=(Array.getElem?_eq_some_iff.1 hk).1
   have:=hc.len
   omega
 intro fuel
 induction fuel with
 |zero=>
  intro listed g st act w hsz hcnt hcl ha hi hn
  have hr:Region.ready md ops listed=[]:=by
   rw [List.eq_nil_iff_forall_not_mem]
   intro i hi'
   obtain ⟨o,ho,h1,_⟩:=aCw.1 hi'
   have hm:i∈(List.range ops.size).filter fun i=>!listed.getD i true:=by
    grind
   grind
  exact ⟨hr,fin listed g st act w hsz ha hi hn hr⟩
 |succ fuel ih=>
  intro listed g st act w hsz hcnt hcl ha hi hn
  refine ⟨fin listed g st act w hsz ha hi hn,fun i hri=>?_⟩
  obtain ⟨o,ho,h1,h2⟩:=aCw.1 hri
  have hlt:=(Array.getElem?_eq_some_iff.1 ho).1
  have hL:¬listed[i]?=some true:=by
   intro e
   rw [Array.getD_eq_getD_getElem?,e] at h1
   cases h1
  have hL2:∀ e,e∈o.after->alw e=true->listed[e.on]?=some true:=fun e he hal=>by
   have h3:=h2 e he (aPI hal)
   rw [Array.getD_eq_getD_getElem?] at h3
   cases hx:listed[e.on]? with
   |none=>rw [hx] at h3;cases h3
   |some b=>rw [hx] at h3;exact congrArg some h3
  have hclo:=aHf hc (L:=fun i=>listed[i]?=some true) (fun m o e ho hm he hal=>hcl m o e ho hm he hal)
  have hset:∀ m,(listed.setIfInBounds i true)[m]?=some true ↔ (listed[m]?=some true\/m=i):=by
   intro m
   rw [Array.getElem?_setIfInBounds]
   by_cases e:i=m
   ·subst e;simp [hsz,hlt]
   ·have e':¬m=i:=fun q=>e q.symm
    simp [e,e']
  have hcl':∀ (m:Nat) (o:Oper) (e:Edge),ops[m]?=some o->(listed.setIfInBounds i true)[m]?=some true->e∈o.after->alw e=true->(listed.setIfInBounds i true)[e.on]?=some true:=by
   intro m o' e ho' hm he hal
   rw [hset] at hm ⊢
   rcases hm with hm|rfl
   ·exact .inl (hcl m o' e ho' hm he hal)
   ·rw [ho] at ho'
    cases ho'
    exact .inl (hL2 e he hal)
  obtain ⟨ao,hao,hco⟩:=hc.get i o ho
  have hn':i<aos.length:=by rw [hc.len];exact hlt
  have hpre:∀ k,Ord aos k i->listed[k]?=some true:=by
   intro k hk
   have:=aHf hc (L:=fun m=>(listed.setIfInBounds i true)[m]?=some true) hcl' i k ((hset i).2 (.inr rfl)) hk
   rcases (hset k).1 this with h|rfl
   ·exact h
   ·exfalso
    obtain ⟨ao',ha',hk⟩:=hk
    rw [hc.dst ho ha',if_pos rfl] at hk
    obtain ⟨e,he,hal,hk⟩:=aNL hk
    have he:e∈o.after:=by simpa using he
    rcases hk with hk|hk
    ·have:=hL2 e he hal
     rw [<-hk] at this
     exact hL this
    ·have hel:=hc.edges ho e he hal
     have hl:e.on<aos.length:=by omega
     have e1:((aos.take k).map cM.after).getD e.on []=aos[e.on].after:=by
      simp [List.getD_eq_getElem?_getD,hel,hl]
     rw [e1] at hk
     exact hL (hclo e.on k (hL2 e he hal) ⟨_,List.getElem?_eq_getElem hl,hk⟩)
  have hres:=hs.res i ao hao
  have hread:=ha.read hs.can hn' hL hpre hclo
  have hout:Out (st.env V) (tJ (base+64*i) ao) (R i):=⟨rd i,Res.congr (fun x hx=>(hread x hx).symm) hres⟩
  have hd:aLB aos i=ao.dst:=by simp [aLB,hao]
  refine aND hi hV (aMC hn hL) ho hco hout fun g' act' w' hi' hn''=>?_
  refine ih (listed.setIfInBounds i true) g' _ act' w' (by simpa using hsz) ?_ hcl' ?_ hi' ?_
  ·have:((List.range ops.size).filter fun k=>!(listed.setIfInBounds i true).getD k true).length<((List.range ops.size).filter fun k=>!listed.getD k true).length:=by
    have hsub:((List.range ops.size).filter fun k=>!(listed.setIfInBounds i true).getD k true)=((List.range ops.size).filter fun k=>!listed.getD k true).filter fun k=>!(k==i):=by
     rw [List.filter_filter]
     apply List.filter_congr
     intro k hk
     rw [Array.getD_eq_getD_getElem?,Array.getD_eq_getD_getElem?,Array.getElem?_setIfInBounds]
     by_cases e:i=k
     ·subst e;simp [hsz,hlt]
     ·have e':¬k=i:=fun q=>e q.symm
      simp [e,e']
    rw [hsub]
    have hm:i∈(List.range ops.size).filter fun k=>!listed.getD k true:=by
     rw [List.mem_filter,List.mem_range]
     exact ⟨hlt,by rw [h1];rfl⟩
    refine List.length_filter_lt_length_iff_exists.2 ⟨i,hm,by simp⟩
   omega
  ·have:=ha.step hs.can hn' hL hclo
   rw [hd] at this
   intro x
   have hx:=this x
   rcases hx with ⟨k,hk,hLk,hw,hmax,hv⟩|⟨hno,hv⟩
   ·exact .inl ⟨k,hk,(hset k).2 hLk,hw,fun m hm hl hw'=>hmax m hm ((hset m).1 hl) hw',hv⟩
   ·exact .inr ⟨fun m hm hl=>hno m hm ((hset m).1 hl),hv⟩
  ·intro q hq
   rcases aMB hn hn'' q hq with h|⟨k,h,h3⟩
   ·exact .inl h
   ·exact .inr ⟨k,(hset k).2 h,h3⟩
end
inductive Ex where
 |norm|exit (id:Nat)|ret
 deriving DecidableEq,Inhabited
def Ex.toExit:Ex->Exit
 |.norm=>.normal
 |.exit id=>.exit id
 |.ret=>.ret
section
variable {P:Program} {c:Ctx} {vl:List Nat} {nt:Nat×List Nat} {V:FuncId->List C->C->List (Option C)->Prop}
theorem aUM {ops:Array Oper} {aos:List cM} {base:Nat} {S:Nat->St} {R:Nat->Wr} {rd:Nat->List Loc} {Q:Exit->Act->World->Prop} {draw:Bool} (hc:vF P nt vl ops draw aos)
  (hres:∀ i ao,aos[i]?=some ao->Res ((S i).env V) (tJ (base+64*i) ao) (R i) (rd i)/\S (i+1)=(S i).app ao.dst (R i)) (hV:∀ f cs r os,V f cs r os->aC P c.gv f cs r os)
  (hQ:∀ g act w,Inv c vl nt g (S aos.length) act w->(∀ q,g.Nm q->q<base+64*aos.length)->Q .normal act w):
  ∀ (k i:Nat) (g:Gh) (act:Act) (w:World),i+k=ops.size->Inv c vl nt g (S i) act w->(∀ q,g.Nm q->q<base+64*i)->wpOps P ops Q (List.range' i k) act w:=by
 intro k
 induction k with
 |zero=>
  intro i g act w h hi hn
  have:i=aos.length:=by rw [hc.len];omega
  subst this
  exact hQ g act w hi hn
 |succ k ih=>
  intro i g act w h hi hn
  have hlt:i<ops.size:=by omega
  have ho:=Array.getElem?_eq_getElem hlt
  obtain ⟨ao,hao,hco⟩:=hc.get i _ ho
  obtain ⟨h1,h2⟩:=hres i ao hao
  refine aND hi hV (fun n h3 h4 h5=>by have:=hn n h5;omega) ho hco ⟨rd i,h1⟩ fun g' act' w' hi' hn'=>?_
  grind
theorem aUU {id:Nat} {ops:Array Oper} {draw:Bool} {aos:List cM} {st:St} {g:Gh} {act:Act} {w:World} {K:St->Prop} {Q:Exit->Act->World->Prop} (hi:Inv c vl nt g st act w) (hV:∀ f cs r os,V f cs r os->aC P c.gv f cs r os)
  (hn:∀ q,g.Nm q->q<st.nx) (hc:vF P nt vl ops draw aos) (hE:(!draw || aCE ops)=true) (h:aMo V st.nx draw 0 aos [] st K)
  (hQ:∀ g' act' w' st',K st'->Inv c vl nt g' st' act' w'->(∀ q,g'.Nm q->q<st.nx+64*aos.length)->Q .normal act' w'):(Code.region id ops draw).wp P Q act w:=by
 obtain ⟨S,R,rd,wt,h0,hK,hs⟩:=aQy _ _ _ _ h
 simp only [Nat.zero_add,List.nil_append] at hs
 have hQ':∀ g act w,Inv c vl nt g (S aos.length) act w->(∀ q,g.Nm q->q<st.nx+64*aos.length)->Q .normal act w:=fun g act w h1 h2=>hQ g act w _ hK h1 h2
 cases draw with
 |false=>
  refine wp_region ?_
  rw [List.range_eq_range']
  exact aUM hc (fun i ao ha=>⟨(hs i ao ha).1,(hs i ao ha).2.1⟩) hV hQ' ops.size 0 g act w (by omega) (by grind) (fun q hq=>by grind)
 |true=>
  have hseqd:aXb V st.nx aos S R rd wt:=by
   refine ⟨fun i ao ha=>(hs i ao ha).1,fun i hi'=>?_,fun i hi'=>?_,fun k i hki hi'=>?_⟩
   ·grind [List.getElem?_eq_getElem,aLB]
   ·grind [List.getElem?_eq_getElem,aLB]
   ·have ha:=List.getElem?_eq_getElem hi'
    have h1:=(hs i _ ha).2.2.2 rfl
    have h2:=aLD h1 k (rd k) (wt k) (by grind)
    rw [Nat.zero_add] at h2
    rcases h2 with h2|h2
    ·exact .inl ⟨_,ha,h2⟩
    grind
  refine wp_region_draw fun t=>?_
  have hw:Inv c vl nt g st act { w with drawn:=w.drawn+1 }:=hi.heap rfl ⟨rfl,rfl⟩
  have key:∀ md t,wpOps P ops Q (Region.linearise md ops t) act { w with drawn:=w.drawn+1 }:=by
   intro md t
   refine wpAny_sound ops.size t _ _ _ (aVQ hc (by simpa using hE) hseqd hV md hQ' ops.size _ g st act _ (by simp) ?_ ?_ ?_ hw ?_)
   ·refine Nat.le_trans (List.length_filter_le _ _) ?_
    simp
   ·intro m o e _ hm
    rw [Array.getElem?_replicate] at hm
    split at hm<;>cases hm
   ·intro x
    refine .inr ⟨fun m _ hm=>?_,by rw [h0]⟩
    replace hm:(Array.replicate ops.size false)[m]?=some true:=hm
    rw [Array.getElem?_replicate] at hm
    split at hm<;>cases hm
   ·intro q hq
    exact .inl (hn q hq)
  unfold Region.schedule
  grind
def QE (c:Ctx) (vl:List Nat) (nt:Nat×List Nat) (K:Ex->St->Prop):Exit->Act->World->Prop:=fun e act w=>∃ ex st g,e=ex.toExit/\K ex st/\Inv c vl nt g st act w/\∀ q,g.Nm q->q<st.nx
def WS (P:Program) (vl:List Nat) (nt:Nat×List Nat) (V:FuncId->List C->C->List (Option C)->Prop) (ac:aI) (st:St) (K:Ex->St->Prop):Prop:=
 ∀ (code:Code),rS P nt vl code=some ac.erase->∀ (c:Ctx),(∀ f cs r os,V f cs r os->aC P c.gv f cs r os)->∀ (g:Gh) (act:Act) (w:World),Inv c vl nt g st act w->(∀ q,g.Nm q->q<st.nx)->code.wp P (QE c vl nt K) act w
section
variable {st:St} {K:Ex->St->Prop}
theorem QE.mono {K':Ex->St->Prop} (h:∀ ex st,K ex st->K' ex st) {e:Exit} {act:Act} {w:World} (hq:QE c vl nt K e act w):QE c vl nt K' e act w:=
 let ⟨ex,st,g,h1,h2,h3⟩:=hq;⟨ex,st,g,h1,h ex st h2,h3⟩
theorem WS.mono {ac:aI} {K':Ex->St->Prop} (h:WS P vl nt V ac st K) (hk:∀ ex st,K ex st->K' ex st):WS P vl nt V ac st K':=
 fun code hc c hV g act w hi hn=>wp_mono (h code hc c hV g act w hi hn) fun _ _ _ hq=>hq.mono hk
inductive aGm (P:Program) (nt:Nat×List Nat) (vl:List Nat):Code->aI->Prop
 |skip:aGm P nt vl .skip .skip
 |label (l:Nat):aGm P nt vl (.label l) .skip
 |reg (id:Nat) (ops:Array Oper) (draw:Bool) (aos:List cM) (hE:(!draw || aCE ops)=true) (h:aNc P nt vl ops draw [] ops.toList=some aos):aGm P nt vl (.region id ops draw) (.reg aos draw)
 |seq (a b:Code) (x y:aI) (ha:rS P nt vl a=some x) (hb:rS P nt vl b=some y):aGm P nt vl (.seq a b) (.seq x y)
 |cond (c:Operand) (a b:Code) (o:Opd) (x y:aI) (hc:iN P vl 0 c=some o) (ha:rS P nt vl a=some x) (hb:rS P nt vl b=some y):aGm P nt vl (.cond c a b) (.cond o x y)
 |block (id:Nat) (a:Code) (x:aI) (ha:rS P nt vl a=some x):aGm P nt vl (.block id a) (.block id x)
 |loop (a:Code) (x:aI) (ha:rS P nt vl a=some x):aGm P nt vl (.loop a) (.loop [] x)
 |exit (id:Nat):aGm P nt vl (.exit id) (.exit id)
 |ret:aGm P nt vl .ret .ret
theorem aF1 {code:Code} {ac:aI} (hc:rS P nt vl code=some ac):aGm P nt vl code ac:=by
 cases code<;>simp only [rS,reduceCtorEq] at hc
 ·cases hc;exact .skip
 ·split at hc
  ·rename_i hE;obtain ⟨x,h,hx⟩:=Option.map_eq_some_iff.1 hc;subst hx;exact .reg _ _ _ _ hE h
  ·cases hc
 ·obtain ⟨x,h1,hc⟩:=Option.bind_eq_some_iff.1 hc;obtain ⟨y,h2,hc⟩:=Option.bind_eq_some_iff.1 hc;cases hc;exact .seq _ _ _ _ h1 h2
 ·obtain ⟨x,h1,hc⟩:=Option.bind_eq_some_iff.1 hc;obtain ⟨y,h2,hc⟩:=Option.bind_eq_some_iff.1 hc;obtain ⟨z,h3,hc⟩:=Option.bind_eq_some_iff.1 hc;cases hc;exact .cond _ _ _ _ _ _ h1 h2 h3
 ·obtain ⟨x,h1,hc⟩:=Option.bind_eq_some_iff.1 hc;cases hc;exact .block _ _ _ h1
 ·obtain ⟨x,h1,hc⟩:=Option.bind_eq_some_iff.1 hc;cases hc;exact .loop _ _ h1
 ·cases hc;exact .exit _
 ·cases hc;exact .label _
 ·cases hc;exact .ret
theorem aOa (h:K .norm st):WS P vl nt V .skip st K:=by
 intro code hc c hV g act w hi hn
 have hf:=aF1 hc
 cases hf with
 |skip=>exact wp_skip ⟨.norm,st,g,rfl,h,hi,hn⟩
 |label=>exact wp_label ⟨.norm,st,g,rfl,h,hi,hn⟩
theorem wW {ops:List cM} {draw:Bool} (h:aMo V st.nx draw 0 ops [] st fun st'=>K .norm { st' with tmps:=[],nx:=st.nx+64*ops.length }):WS P vl nt V (.reg ops draw) st K:=by
 intro code hc c hV g act w hi hn
 have hf:=aF1 hc
 cases hf with
 |reg id ops' draw aos hE hco=>
  refine aUU hi hV hn (aVA hco) hE h fun g' act' w' st' hK hi' hn'=>⟨.norm,_,g',rfl,hK,?_,hn'⟩
  exact hi'.less (st':={ st' with tmps:=[],nx:=st.nx+64*ops.length }) rfl (fun s x h=>by grind [cQ]) (fun s x h=>h)
theorem aFk {a b:aI} (h:WS P vl nt V a st fun ex st'=>match ex with|.norm=>WS P vl nt V b st' K|ex=>K ex st'):WS P vl nt V (.seq a b) st K:=by
 intro code hc c hV g act w hi hn
 have hf:=aF1 hc
 cases hf with
 |seq x y _ _ hx hy=>
  refine wp_seq (wp_mono (h x hx c hV g act w hi hn) fun e act' w' hq=>?_)
  obtain ⟨ex,st',g',rfl,hk,hi',hn'⟩:=hq
  cases ex with
  |norm=>exact hk y hy c hV g' act' w' hi' hn'
  |exit id=>exact ⟨.exit id,st',g',rfl,hk,hi',hn'⟩
  |ret=>exact ⟨.ret,st',g',rfl,hk,hi',hn'⟩
theorem aOc {x:Opd} {a b:aI} (h:goL (st.env V) (ev x) fun v _=>match v with|.d (.bool t)=>(t=true->WS P vl nt V a st K)/\(t=false->WS P vl nt V b st K)|_=>False):WS P vl nt V (.cond x a b) st K:=by
 intro code hc c hV g act w hi hn
 have hf:=aF1 hc
 cases hf with
 |cond cc x' y' _ _ _ hcc hx hy=>
  obtain ⟨v,l,hres,hk⟩:=aDT h
  have hra:=dT hi.s hcc ⟨l,hres⟩
  split at hk
  ·have e:=hra.bool_inv
   exact wp_cond_split e (fun ht=>hk.1 ht _ hx c hV g act w hi hn) (fun ht=>hk.2 ht _ hy c hV g act w hi hn)
  grind
theorem wX {id:Nat} {a:aI} (h:WS P vl nt V a st fun ex st'=>match ex with|.exit j=>if j=id then K .norm st' else K (.exit j) st'|ex=>K ex st'):WS P vl nt V (.block id a) st K:=by
 intro code hc c hV g act w hi hn
 have hf:=aF1 hc
 cases hf with
 |block _ x _ hx=>
  refine wp_block (wp_mono (h x hx c hV g act w hi hn) fun e act' w' hq=>?_)
  obtain ⟨ex,st',g',rfl,hk,hi',hn'⟩:=hq
  cases ex with
  |norm=>exact ⟨.norm,st',g',rfl,hk,hi',hn'⟩
  |exit j=>
   simp only [Ex.toExit,Exit.inBlock]
   split
   ·rename_i e;simp only [e,if_true] at hk;exact ⟨.norm,st',g',rfl,hk,hi',hn'⟩
   ·rename_i e;simp only [e,if_false] at hk;exact ⟨.exit j,st',g',rfl,hk,hi',hn'⟩
  |ret=>exact ⟨.ret,st',g',rfl,hk,hi',hn'⟩
theorem aOb {id:Nat} (h:K (.exit id) st):WS P vl nt V (.exit id) st K:=by
 intro code hc c hV g act w hi hn
 have hf:=aF1 hc
 cases hf with
 |exit _=>exact wp_exit ⟨.exit id,st,g,rfl,h,hi,hn⟩
theorem aR6 (h:K .ret st):WS P vl nt V .ret st K:=by
 intro code hc c hV g act w hi hn
 have hf:=aF1 hc
 cases hf with
 |ret=>exact wp_ret ⟨.ret,st,g,rfl,h,hi,hn⟩
open Classical in
theorem aTX {live:List Nat} {a:aI} (I:Nat->St->Prop) (h0:∃ n,I n st) (hI:∀ n st,I n st->WS P vl nt V a st fun ex st'=>match ex with|.norm=>∃ m,m<n/\I m st'|ex=>K ex st'):WS P vl nt V (.loop live a) st K:=by
 intro code hc c hV g act w hi hn
 have hf:=aF1 hc
 simp only [aI.erase] at hf
 cases hf with
 |loop x _ hx=>
  let J:Nat->Act->World->Prop:=fun n act w=>∃ st g,I n st/\Inv c vl nt g st act w/\∀ q,g.Nm q->q<st.nx
  let μ:Act->World->Nat:=fun act w=>if h:∃ n,J n act w/\∀ k,J k act w->n<=k then Classical.choose h else 0
  have least:∀ act w n,J n act w->∃ n,J n act w/\∀ k,J k act w->n<=k:=by
   intro act w n
   induction n using Nat.strongRecOn with
   |_ n ih=>
    intro h
    by_cases hlt:∃ k,J k act w/\k<n
    ·obtain ⟨k,h1,h2⟩:=hlt
     exact ih k h2 h1
    ·exact ⟨n,h,fun k hk=>by
      by_cases e:n<=k
      ·exact e
      ·exact absurd ⟨k,hk,by omega⟩ hlt⟩
  have hμ:∀ n act w,J n act w->J (μ act w) act w/\μ act w<=n:=by
   intro n act w h
   have hex:=least act w n h
   have e:μ act w=Classical.choose hex:=dif_pos hex
   rw [e]
   exact ⟨(Classical.choose_spec hex).1,(Classical.choose_spec hex).2 n h⟩
  obtain ⟨n0,h0⟩:=h0
  refine wp_loop (fun act w=>∃ n,J n act w) μ ⟨n0,st,g,h0,hi,hn⟩ fun act w hJ=>?_
  obtain ⟨n,hJ⟩:=hJ
  obtain ⟨⟨st1,g1,hI1,hi1,hn1⟩,_⟩:=hμ n act w hJ
  refine wp_mono (hI _ st1 hI1 x hx c hV g1 act w hi1 hn1) fun e act' w' hq=>?_
  obtain ⟨ex,st',g',rfl,hk,hi',hn'⟩:=hq
  cases ex with
  |norm=>
   obtain ⟨m,hm,hIm⟩:=hk
   have hJ':J m act' w':=⟨st',g',hIm,hi',hn'⟩
   exact ⟨⟨m,hJ'⟩,Nat.lt_of_le_of_lt (hμ m act' w' hJ').2 hm⟩
  |exit id=>exact ⟨.exit id,st',g',rfl,hk,hi',hn'⟩
  |ret=>exact ⟨.ret,st',g',rfl,hk,hi',hn'⟩
end
end
mutual
def bR:A->List Nat
 |.sl n=>[n]
 |.sv n _ _ _=>[n]
 |.inn n _ _=>[n]
 |.elt n _ _ _ _=>[n]
 |.ptr n _=>[n]
 |.agg cs=>aY cs
 |.tup cs=>aY cs
 |.clo _ cs=>aY cs
 |_=>[]
def aY:List A->List Nat
 |[]=>[]
 |a::r=>bR a++aY r
end
def bU:Option O->List Nat
 |some (.box cs)=>aY cs
 |_=>[]
def bP (objs:List (Nat×O)):Nat->List Nat->List Nat->List Nat
 |0,_,seen=>seen
 |_+1,[],seen=>seen
 |k+1,n::q,seen=>if seen.contains n then bP objs k q seen else bP objs k (q++bU (cQ objs n)) (seen++[n])
def dU:List Nat->Nat->Option Nat
 |[],_=>none
 |m::r,n=>if m=n then some 0 else (dU r n).map (·+1)
def aCT (o:Option O):Option Nat:=match o with|some (.arr v _ _ _)=>some v|_=>none
mutual
def dS (f:Nat->Option Nat) (h:Nat->Option O):A->A
 |.sl n=>match f n with|some m=>.sl m|none=>.undef
 |.sv n sz lo hi=>match f n with|some m=>.sv m sz lo hi|none=>.undef
 |.inn n ver p=>match f n with|some m=>if aCT (h n)=some ver then .inn m 0 p else .undef|none=>.undef
 |.elt n ver p i off=>match f n with|some m=>if p=[] then .elt m 0 [] i off else if aCT (h n)=some ver then .elt m 0 p i off else .undef|none=>.undef
 |.ptr n off=>match f n with|some m=>.ptr m off|none=>.undef
 |.agg cs=>.agg (cU f h cs)
 |.tup cs=>.tup (cU f h cs)
 |.clo g cs=>.clo g (cU f h cs)
 |a=>a
def cU (f:Nat->Option Nat) (h:Nat->Option O):List A->List A
 |[]=>[]
 |a::r=>dS f h a::cU f h r
end
def eH (f:Nat->Option Nat) (h:Nat->Option O):O->O
 |.box cs=>.box (cU f h cs)
 |.arr _ k sz rows=>.arr 0 k sz rows
def gcO (f:Nat->Option Nat) (objs:List (Nat×O)):List Nat->List (Nat×O)
 |[]=>[]
 |n::r=>match f n,cQ objs n with
  |some m,some o=>(m,eH f (cQ objs) o)::gcO f objs r
  |_,_=>gcO f objs r
def gcV (f:Nat->Option Nat) (st:St):List Nat->List (Nat×A)
 |[]=>[]
 |s::r=>match cQ st.vars s with
  |some a=>(s,dS f (cQ st.objs) a)::gcV f st r
  |none=>gcV f st r
def cI (vars:List (Nat×A)):List Nat->List A
 |[]=>[]
 |s::r=>match cQ vars s with
  |some a=>a::cI vars r
  |none=>cI vars r
def gc (live:List Nat) (st:St):St:=
 let names:=bP st.objs 200 (aY (cI st.vars live)) []
 { tmps:=[],vars:=gcV (dU names) st live,objs:=gcO (dU names) st.objs names,nx:=names.length }
theorem tE:∀ (names:List Nat) (n m:Nat),dU names n=some m->names[m]?=some n:=by
 intro names
 induction names with
 |nil=>intro n m h;cases h
 |cons q names ih=>
  intro n m h
  simp only [dU] at h
  split at h
  ·grind
  ·obtain ⟨k,hk,rfl⟩:=Option.map_eq_some_iff.1 h
   grind
theorem sZ (f:Nat->Option Nat) (h:Nat->Option O):∀ as:List A,(cU f h as).length=as.length:=by
 intro as
 induction as with
 |nil=>rfl
 |cons a as ih=>grind [cU]
theorem tA (f:Nat->Option Nat) (h:Nat->Option O):∀ (as:List A) (m:Nat) (b:A),(cU f h as)[m]?=some b->∃ a,as[m]?=some a/\b=dS f h a:=by
 intro as
 induction as with
 |nil=>grind [cU]
 |cons a as ih=>
  intro m b hm
  cases m with
  |zero=>simp [cU] at hm;grind
  |succ m=>grind [cU]
def Gh.ren (g:Gh) (names:List Nat):Gh where
 ν:=fun m=>g.ν (names.getD m 0)
 F:=fun m=>g.F (names.getD m 0)
 Fz:=g.Fz
 Nm:=fun m=>m<names.length/\g.Nm (names.getD m 0)
theorem aRA {f:Nat->Option Nat} {objs:List (Nat×O)}:∀ (names:List Nat) (m:Nat) (o:O),cQ (gcO f objs names) m=some o->∃ n o',f n=some m/\cQ objs n=some o'/\o=eH f (cQ objs) o':=by
 intro names
 induction names with
 |nil=>intro m o h;cases h
 |cons n names ih=>
  intro m o h
  simp only [gcO] at h
  split at h
  ·simp only [cQ] at h
   grind
  grind
theorem aRz {f:Nat->Option Nat} {st:St}:∀ (live:List Nat) (s:Nat) (a:A),cQ (gcV f st live) s=some a->∃ b,cQ st.vars s=some b/\a=dS f (cQ st.objs) b:=by
 intro live
 induction live with
 |nil=>intro s a h;cases h
 |cons t live ih=>
  intro s a h
  simp only [gcV] at h
  split at h
  ·simp only [cQ] at h
   grind
  grind
section
variable {g:Gh} {h h':Nat->Option O} {w:World} {names:List Nat}
theorem RA.ren (hh:∀ m o,h' m=some o->∃ n o',dU names n=some m/\h n=some o'/\o=eH (dU names) h o') {a:A} {v:Value} (ha:RA g h w a v):RA (g.ren names) h' w (dS (dU names) h a) v:=by
 have key:∀ {n m:Nat},dU names n=some m->g.Nm n->(g.ren names).Nm m/\(g.ren names).ν m=g.ν n:=by
  intro n m hp hn
  have h1:=tE _ _ _ hp
  have h2:names.getD m 0=n:=by grind
  exact ⟨⟨(List.getElem?_eq_some_iff.1 h1).1,by grind⟩,by show g.ν (names.getD m 0)=g.ν n;rw [h2]⟩
 have back:∀ {n m:Nat} {ver k sz:Nat} {rows:List (List D)},dU names n=some m->h' m=some (.arr ver k sz rows)->ver=0/\∃ ver0,h n=some (.arr ver0 k sz rows):=by
  intro n m ver k sz rows hp ho
  obtain ⟨n',o',h1,h2,h3⟩:=hh _ _ ho
  have e:n'=n:=by
   have a1:=tE _ _ _ h1
   have a2:=tE _ _ _ hp
   grind
  subst e
  cases o' with
  |box cs=>cases h3
  |arr v0 k0 sz0 rows0=>cases h3;grind
 induction ha with
 |d x v h1=>exact .d x v h1
 |nil k sz=>exact .nil k sz
 |sl n hn h1=>
  simp only [dS]
  split
  ·rename_i m hm
   obtain ⟨k1,k2⟩:=key hm hn
   rw [<-k2] at h1 ⊢
   exact .sl m k1 h1
  ·exact .undef _
 |sv n sz lo hi len cap a a' hn e h1 h2 h3 h4 h5 h6=>
  simp only [dS]
  split
  ·rename_i m hm
   obtain ⟨k1,k2⟩:=key hm hn
   exact .sv m sz lo hi len cap a a' k1 (k2.trans e) h1 h2 h3 h4 h5 h6
  ·exact .undef _
 |inn n ver p v hn h1 e=>
  simp only [dS]
  split
  ·rename_i m hm
   obtain ⟨k1,k2⟩:=key hm hn
   split
   ·rename_i hv
    refine .inn m 0 p v k1 h1 fun ver' k sz rows ho=>?_
    obtain ⟨rfl,ver0,h0⟩:=back hm ho
    rw [h0] at hv
    simp only [aCT,Option.some.injEq] at hv
    subst hv
    refine ⟨Nat.le_refl _,fun _=>?_⟩
    rw [k2]
    exact (e _ _ _ _ h0).2 rfl
   ·exact .undef _
  ·exact .undef _
 |elt n ver p i off v hn h1 e=>
  simp only [dS]
  split
  ·rename_i m hm
   obtain ⟨k1,k2⟩:=key hm hn
   split
   ·rename_i hp
    subst hp
    refine .elt m 0 [] i off v k1 h1 fun ver' k sz rows ho=>?_
    obtain ⟨rfl,ver0,h0⟩:=back hm ho
    refine ⟨Nat.le_refl _,fun _=>?_⟩
    rw [k2]
    exact (e _ _ _ _ h0).2 (.inl rfl)
   ·split
    ·rename_i hv
     refine .elt m 0 p i off v k1 h1 fun ver' k sz rows ho=>?_
     obtain ⟨rfl,ver0,h0⟩:=back hm ho
     rw [h0] at hv
     simp only [aCT,Option.some.injEq] at hv
     subst hv
     refine ⟨Nat.le_refl _,fun _=>?_⟩
     rw [k2]
     exact (e _ _ _ _ h0).2 (.inr rfl)
    ·exact .undef _
  ·exact .undef _
 |ptr n off b o hn e=>
  simp only [dS]
  split
  ·rename_i m hm
   obtain ⟨k1,k2⟩:=key hm hn
   exact .ptr m off b o k1 (k2.trans e)
  ·exact .undef _
 |rp row off b o vs hc hs=>exact .rp row off b o vs hc hs
 |agg cells vs hl h1 hc ih=>
  simp only [dS]
  refine .agg _ vs (by rw [sZ];exact hl) (fun m a hm=>?_) fun m a hm=>?_
  ·obtain ⟨a',h2,_⟩:=tA _ _ _ _ _ hm;exact h1 m a' h2
  ·obtain ⟨a',h2,rfl⟩:=tA _ _ _ _ _ hm;exact ih m a' h2
 |tup cells vs hl hc ih=>
  simp only [dS]
  refine .tup _ vs (by rw [sZ];exact hl) fun m a hm=>?_
  obtain ⟨a',h2,rfl⟩:=tA _ _ _ _ _ hm;exact ih m a' h2
 |clo f caps vs hl hc ih=>
  simp only [dS]
  refine .clo f _ vs (by rw [sZ];exact hl) fun m a hm=>?_
  obtain ⟨a',h2,rfl⟩:=tA _ _ _ _ _ hm;exact ih m a' h2
 |skip=>exact .skip
 |undef v=>exact .undef v
theorem RO.ren (hh:∀ m o,h' m=some o->∃ n o',dU names n=some m/\h n=some o'/\o=eH (dU names) h o') {n m:Nat} (hp:dU names n=some m) {o:O} (ho:RO g h w n o):RO (g.ren names) h' w m (eH (dU names) h o):=by
 have h1:=tE _ _ _ hp
 have h2:names.getD m 0=n:=by grind
 have e1:(g.ren names).ν m=g.ν n:=by show g.ν (names.getD m 0)=g.ν n;rw [h2]
 have e2:(g.ren names).F m=g.F n:=by show g.F (names.getD m 0)=g.F n;rw [h2]
 cases o with
 |box cells=>
  obtain ⟨b,o,e,hr,hf,hc⟩:=ho
  refine ⟨b,o,e1.trans e,by grind [sZ],by grind [sZ],fun k a hk=>?_⟩
  obtain ⟨a',h3,rfl⟩:=tA _ _ _ _ _ hk
  obtain ⟨u,h4,h5,h6⟩:=hc k a' h3
  exact ⟨u,h4,h5,h6.ren hh⟩
 |arr ver k sz rows=>
  show Own w g.Fz (k+1) ((g.ren names).ν m) (.slc sz rows) ((g.ren names).F m)
  rw [e1,e2]
  exact ho
end
theorem aVw {c:Ctx} {vl:List Nat} {nt:Nat×List Nat} {g:Gh} {st:St} {act:Act} {w:World} (live:List Nat) (hi:Inv c vl nt g st act w):∃ g',Inv c vl nt g' (gc live st) act w/\∀ q,g'.Nm q->q<(gc live st).nx:=by
 simp only [gc]
 generalize bP st.objs 200 (aY (cI st.vars live)) []=names
 have hh:∀ m o,cQ (gcO (dU names) st.objs names) m=some o->∃ n o',dU names n=some m/\cQ st.objs n=some o'/\o=eH (dU names) (cQ st.objs) o':=fun m o h=>aRA names m o h
 have pM:∀ {n m:Nat},dU names n=some m->names.getD m 0=n:=fun hp=>by rw [List.getD_eq_getElem?_getD,tE _ _ _ hp];rfl
 refine ⟨g.ren names,⟨⟨fun s x h=>(by cases h),fun s x h=>?_,hi.s.defers⟩,⟨hi.h.fz0,hi.h.fzlt,hi.h.fzof,hi.h.gl,hi.h.side,hi.h.size,hi.h.blk,hi.h.cell,fun m o ho=>?_,fun m o ho=>?_,fun m o ho=>?_,fun m m' o o' ho ho' hne=>?_,fun m o ho=>?_⟩,hi.ntz,hi.pin⟩,fun q hq=>hq.1⟩
 ·obtain ⟨b,hb,rfl⟩:=aRz live s x h
  obtain ⟨h1,h2,h3⟩:=hi.s.var s b hb
  exact ⟨h1,h2,h3.ren hh⟩
 ·obtain ⟨n,o',hp,ho',rfl⟩:=hh m o ho
  exact ⟨(List.getElem?_eq_some_iff.1 (tE _ _ _ hp)).1,by rw [pM hp];exact hi.h.nm n o' ho'⟩
 ·obtain ⟨n,o',hp,ho',rfl⟩:=hh m o ho
  exact (hi.h.obj n o' ho').ren hh hp
 ·obtain ⟨n,o',hp,ho',rfl⟩:=hh m o ho
  show ∀ x y,g.F (names.getD m 0) x y->x<w.heap.size
  rw [pM hp]
  exact hi.h.lt n o' ho'
 ·obtain ⟨n,o1,hp,ho1,rfl⟩:=hh m o ho
  obtain ⟨n',o1',hp',ho1',rfl⟩:=hh m' o' ho'
  show ∀ x y,g.F (names.getD m 0) x y->¬g.F (names.getD m' 0) x y
  rw [pM hp,pM hp']
  refine hi.h.disj n n' o1 o1' ho1 ho1' fun e=>hne ?_
  grind
 ·obtain ⟨n,o',hp,ho',rfl⟩:=hh m o ho
  show ∀ x y,g.F (names.getD m 0) x y->_
  rw [pM hp]
  exact hi.h.mine n o' ho'
section
variable {P:Program} {vl:List Nat} {nt:Nat×List Nat} {V:FuncId->List C->C->List (Option C)->Prop} {st:St} {K:Ex->St->Prop}
theorem aR7 {ac:aI} (live:List Nat) (h:WS P vl nt V ac (gc live st) K):WS P vl nt V ac st K:=by
 intro code hc c hV g act w hi hn
 obtain ⟨g',h1,h2⟩:=aVw live hi
 exact h code hc c hV g' act w h1 h2
theorem aFl {live:List Nat} {a:aI} (I:Nat->St->Prop) (h0:∃ n,I n (gc live st))
  (hI:∀ n st,I n st->WS P vl nt V a st fun ex st'=>match ex with|.norm=>∃ m,m<n/\I m (gc live st')|ex=>K ex st'):WS P vl nt V (.loop live a) st K:=by
 refine aTX (fun n st=>I n (gc live st)) h0 fun n st h=>aR7 live (hI n _ h)
theorem aVX {live:List Nat} {a b:aI} (M:St->Prop) (h:WS P vl nt V a st fun ex st'=>match ex with|.norm=>M (gc live st')|ex=>K ex st')
  (hM:∀ st',M st'->WS P vl nt V b st' K):WS P vl nt V (.seq a b) st K:=
 aFk (h.mono fun ex st' hk=>by grind [aR7,id])
end
def nI:List (Option eN×A)->RM (List (Option C)×List Nat×List Nat)
 |[]=>.ret ([],[],[])
 |(none,_)::r=>(nI r).bind fun q=>.ret (none::q.1,q.2.1,q.2.2)
 |(some m,a)::r=>(pV m a).bind fun p=>(nI r).bind fun q=>.ret (some p.1::q.1,(p.2.1++p.2.2.1)++q.2.1,p.2.2.2++q.2.2)
section
variable {c:Ctx} {g:Gh} {w:World} {e:Env}
theorem aFR (hi:fB c g e.h w) {Z:bK}:∀ (as:List (Option eN×A)) (vs:Nat->Value) (r:List (Option C)×List Nat×List Nat),(∀ (m:Nat) p,as[m]?=some p->RA g e.h w p.2 (vs m))->Out e (nI as) r →
  (∀ b o,g.Fz b o->Z b o)->(∀ n,n∈r.2.2->∀ b o,g.F n b o->Z b o)->r.2.1.Nodup →
  r.1.length=as.length/\(∀ n,n∈r.2.1->∃ o,e.h n=some o)/\(∀ n,n∈r.2.2->∃ o,e.h n=some o) ∧
  ∃ T:Nat->bK,(∀ (m:Nat) c,r.1[m]?=some (some c)->RC w Z c (vs m) (T m))/\(∀ m x y,T m x y->∃ n,n∈r.2.1/\g.F n x y)/\∀ i j,i≠j->∀ x y,T i x y->¬T j x y:=by
 intro as
 induction as with
 |nil=>
  intro vs r _ h _ _ _
  have:=h.ret
  subst this
  exact ⟨rfl,fun n hn=>by simp at hn,fun n hn=>by simp at hn,fun _ _ _=>False,fun m c hm=>by simp at hm,fun _ _ _ h=>h.elim,fun _ _ _ _ _ h=>h.elim⟩
 |cons a as ih=>
  intro vs r hra h hz hZ hnd
  obtain ⟨m0,a⟩:=a
  cases m0 with
  |none=>
   unfold nI at h
   obtain ⟨⟨cs,us,bs⟩,h1,h2⟩:=Out.bind h
   have:=h2.ret
   subst this
   simp only at hZ hnd ⊢
   obtain ⟨i1,i2,i3,T,i4,i5,i6⟩:=ih (fun m=>vs (m+1)) _ (fun m a' hm=>hra (m+1) a' (by simpa using hm)) h1 hz hZ hnd
   refine ⟨by simp at i1 ⊢;exact i1,i2,i3,fun m=>(match m with|0=>fun _ _=>False|m+1=>T m),fun m c hm=>?_,fun m x y hT=>?_,fun i j hij x y hT hT'=>?_⟩
   ·cases m with
    |zero=>simp at hm
    |succ m=>exact i4 m c (by simpa using hm)
   ·cases m with
    |zero=>exact hT.elim
    |succ m=>exact i5 m x y hT
   ·cases i with
    |zero=>exact hT.elim
    |succ i=>
     cases j with
     |zero=>exact hT'.elim
     |succ j=>exact i6 i j (by omega) x y hT hT'
  |some m0=>
   unfold nI at h
   obtain ⟨⟨c0,l0,g0,b0⟩,h1,h2⟩:=Out.bind h
   simp only at h2
   obtain ⟨⟨cs,us,bs⟩,h3,h4⟩:=Out.bind h2
   have:=h4.ret
   subst this
   simp only at hZ hnd ⊢
   obtain ⟨n1,n2,n3⟩:=List.nodup_append.1 hnd
   obtain ⟨⟨⟨S0,q1,q2⟩,q3⟩,q4⟩:=uO hi (hra 0 _ rfl) h1 hz (fun n hn=>hZ n (by simp only at hn;simp [hn])) n1
   obtain ⟨i1,i2,i3,T,i4,i5,i6⟩:=ih (fun m=>vs (m+1)) _ (fun m a' hm=>hra (m+1) a' (by simpa using hm)) h3 hz (fun n hn=>hZ n (by simp only at hn;simp [hn])) n2
   simp only at q1 q2 q3 q4 i1 i2 i3 i4 i5 i6
   have hx:∀ x y m,S0 x y->T m x y->False:=by
    intro x y m h5 h6
    obtain ⟨k1,a1,b1⟩:=q2 x y h5
    obtain ⟨k2,a2,b2⟩:=i5 m x y h6
    obtain ⟨o1,p1⟩:=q3 k1 a1
    obtain ⟨o2,p2⟩:=i2 k2 a2
    exact hi.disj k1 k2 o1 o2 p1 p2 (n3 k1 a1 k2 a2) x y b1 b2
   refine ⟨by simp [i1],fun n hn=>(List.mem_append.1 hn).elim (q3 n) (i2 n),fun n hn=>(List.mem_append.1 hn).elim (q4 n) (i3 n),fun m=>(match m with|0=>S0|m+1=>T m),fun m c hm=>?_,fun m x y hT=>?_,fun i j hij x y hT hT'=>?_⟩
   ·cases m with
    |zero=>simp at hm;subst hm;exact q1
    |succ m=>exact i4 m c (by simpa using hm)
   ·cases m with
    |zero=>obtain ⟨n,h5,h6⟩:=q2 x y hT;exact ⟨n,List.mem_append.2 (.inl h5),h6⟩
    |succ m=>obtain ⟨n,h5,h6⟩:=i5 m x y hT;exact ⟨n,List.mem_append.2 (.inr h5),h6⟩
   ·cases i with
    |zero=>
     cases j with
     |zero=>exact hij rfl
     |succ j=>exact hx x y j hT hT'
    |succ i=>
     cases j with
     |zero=>exact hx x y i hT' hT
     |succ j=>exact i6 i j (by omega) x y hT hT'
end
def mY:Nat->List A->List (Nat×A)
 |_,[]=>[]
 |n,a::r=>(n,a)::mY (n+1) r
def rR (cs:List C):St where
 tmps:=[]
 vars:=mY 0 (cH.openL 0 cs).1
 objs:=qM [] (cH.openL 0 cs).2.1
 nx:=(cH.openL 0 cs).2.2
theorem aK2:∀ (as:List A) (n s:Nat) (a:A),cQ (mY n as) s=some a->n<=s/\as[s-n]?=some a:=by
 intro as
 induction as with
 |nil=>intro n s a h;cases h
 |cons x as ih=>
  intro n s a h
  simp only [mY,cQ] at h
  split at h
  ·rename_i e;cases h;subst e;simp
  ·obtain ⟨h1,h2⟩:=ih _ _ _ h
   refine ⟨by omega,?_⟩
   have:s-n=(s-(n+1))+1:=by omega
   rw [this]
   simpa using h2
theorem aOi:∀ (os:List (Nat×Option O)) (n:Nat) (o:O),eS (cQ []) os n=some o->(n,some o)∈os:=by
 have gen:∀ (os:List (Nat×Option O)) (h:Nat->Option O) (n:Nat) (o:O),eS h os n=some o->(n,some o)∈os\/h n=some o:=by
  intro os
  induction os with
  |nil=>intro h n o hh;exact .inr hh
  |cons p os ih=>
   intro h n o hh
   obtain ⟨m,x⟩:=p
   simp only [eS] at hh
   rcases ih _ n o hh with h1|h1
   ·exact .inl (by simp [h1])
   ·(try dsimp only at h1)
    split at h1
    ·rename_i e;subst e;subst h1;exact .inl (by simp)
    ·exact .inr h1
 intro os n o h
 rcases gen os _ n o h with h1|h1
 ·exact h1
 ·cases h1
theorem aWf:∀ (cs:List C) (n:Nat),(cH.openL n cs).1.length=cs.length:=by
 intro cs
 induction cs with
 |nil=>intro n;rfl
 |cons c cs ih=>intro n;simp [cH.openL,ih]
section
variable {P:Program} {vl:List Nat} {nt:Nat×List Nat} {V:FuncId->List C->C->List (Option C)->Prop}
theorem aPB {G:GV} {w:World} {Fz:bK} {cs:List C} {args:Array Value} {U:Nat->bK} {N:Nat} (hG:∀ b p,G b=some p->(∀ o,Fz b o)/\∃ ob,w.heap[b]?=some ob/\p ob) (hFz:∀ b o,Fz b o->b<w.heap.size) (hRC:RCs w Fz cs args U) (hap:∀ i,i<cs.length->∀ x y,U i x y->¬Fz x y)
  (hvl:∀ m,m<cs.length->m∈vl) (hN:cs.length<=N) (h1:nt.1=N) (h2:∀ m,m∈nt.2->m<cs.length):
  ∃ g,Inv ⟨G,w,fun x y=>∃ i,i<cs.length/\U i x y,Fz,fun m=>args.getD m Go.undef⟩ vl nt g (rR cs) { tmps:=args++Array.replicate (N-args.size) undef,defers:=[] } w/\∀ q,g.Nm q->q<(rR cs).nx:=by
 obtain ⟨hl,hRC,hD⟩:=hRC
 obtain ⟨hlen,hO⟩:=wH cs (fun m=>args.getD m Go.undef) U (fun m c hm=>aED (hRC m c hm)) hD 0
 obtain ⟨νs,Fs,le,key,uniq,once,sub,disj,ok⟩:=hO
 have el:cQ (rR cs).objs=eS (cQ []) (cH.openL 0 cs).2.1:=fT _ _
 let g:Gh:={ ν:=νs,F:=Fs,Fz:=Fz,Nm:=fun q=>q<(cH.openL 0 cs).2.2 }
 obtain ⟨k1,k2⟩:=ok g (cQ (rR cs).objs) rfl (fun q _ h=>⟨rfl,rfl,h⟩)
 have hget:∀ m,m<args.size->(args++Array.replicate (N-args.size) undef).getD m Go.undef=args.getD m Go.undef:=fun m hm=>by
  simp [Array.getD_eq_getD_getElem?,Array.getElem?_append,hm]
 have hmem:∀ n o,cQ (rR cs).objs n=some o->(n,some o)∈(cH.openL 0 cs).2.1:=fun n o h=>aOi _ _ _ (el ▸ h)
 have hU:∀ m x y,m<cs.length->U m x y->x<w.heap.size:=fun m x y hm h=>(hRC m _ (List.getElem?_eq_getElem hm)).lt x y h
 refine ⟨g,⟨⟨fun s x h=>(by cases h),fun s x h=>?_,rfl⟩,⟨fun _ _ h=>h,hFz,fun _ _ h=>.inl h,hG,⟨rfl,rfl⟩,Nat.le_refl _,fun _ _ _=>rfl,fun _ _ _ _=>⟨rfl,rfl⟩,fun n o h=>(key n _ (hmem n o h)).2.1,fun n o h=>k2 n o (hmem n o h),
  fun n o h x y hF=>?_,fun n m o o' h h' hne=>?_,fun n o h x y hF=>?_⟩,?_,fun m hm=>?_⟩,fun q h=>h⟩
 ·obtain ⟨_,h3⟩:=aK2 _ _ _ _ h
  grind
 ·grind
 ·grind
 ·obtain ⟨m,hm,hT⟩:=sub n (Nat.zero_le _) (key n _ (hmem n o h)).2.1 x y hF
  exact ⟨.inl ⟨m,hm,hT⟩,hap m hm x y hT⟩
 ·grind
 grind
def aDR (a:A):Option (Bool×Nat)->RM A
 |none=>.ret a
 |some (agg,n)=>match a with
  |.ptr m off=>.rh m fun
   |.box cells=>if off+n<=cells.length then (yF agg ((cells.drop off).take n)).bind fun wr=>.ret wr.val else .fail
   |_=>.fail
  |_=>.fail
def aCj:List (Option eN×Nat×Option (Bool×Nat))->RM (List (Option eN×A))
 |[]=>.ret []
 |(none,_)::r=>(aCj r).bind fun q=>.ret ((none,.undef)::q)
 |(some m,t,ld)::r=>.rs true t fun a=>(aDR a ld).bind fun a=>(aCj r).bind fun q=>.ret ((some m,a)::q)
def sY (P:Program):List ResultVar->List (eN×Nat×Option (Bool×Nat))->Bool
 |[],[]=>true
 |.tmp t::r,(_,t',none)::s=>decide (t=t') && sY P r s
 |.cell a t::r,(_,a',some p)::s=>decide (a=a') && (qF P t==some p) && sY P r s
 |_,_=>false
def oP:Nat->List (Option eN)->List (Option eN×Nat×Option (Bool×Nat))
 |_,[]=>[]
 |n,m::r=>(m,n,none)::oP (n+1) r
def aRK (rs:List (eN×Nat×Option (Bool×Nat))) (om:List (Option eN)):RM (List (Option C)×List Nat×List Nat):=
 (aCj (rs.map (fun p=>(some p.1,p.2))++oP 0 om)).bind nI
def wC:List C->C
 |[c]=>c
 |cs=>.tup cs
def lK:Nat->List (Option eN)->List Nat
 |_,[]=>[]
 |n,none::r=>lK (n+1) r
 |n,some _::r=>n::lK (n+1) r
theorem aU6:∀ (om:List (Option eN)) (n m:Nat),m∈lK n om->m<n+om.length:=by
 intro om
 induction om with
 |nil=>grind [lK]
 |cons x om ih=>
  intro n m h
  cases x with
  |none=>have:=ih _ _ h;grind
  |some y=>
   simp only [lK,List.mem_cons] at h
   grind
theorem aS4:∀ (om:List (Option eN)) (n m:Nat) (y:eN),om[m]?=some (some y)->n+m∈lK n om:=by
 intro om
 induction om with
 |nil=>grind
 |cons x om ih=>
  intro n m y h
  cases m with
  |zero=>grind [lK]
  |succ m=>
   have:=ih (n+1) m y (by grind)
   rw [show n+1+m=n+(m+1) by omega] at this
   cases x with
   |none=>exact this
   |some z=>exact List.mem_cons_of_mem _ this
def Fin (V:FuncId->List C->C->List (Option C)->Prop) (rs:List (eN×Nat×Option (Bool×Nat))) (om:List (Option eN)) (rcs:List C) (os:List (Option C)) (st:St):Prop:=
 goL (st.env V) (aRK rs om) fun q _=>yZ q.2.1=true/\aCO q.2.1 q.2.2=true/\q.1=rcs.map some++os
def aPO (P:Program) (w:World) (v:Value):Option (Bool×Nat)->Value->Prop
 |none,u=>u=v
 |some p,u=>∀ ty,qF P ty=some p->(do loadVar ty (<-asAddr v)).run P w=.ok u w
theorem aMn {c:Ctx} {g:Gh} {e:Env} {w:World} {a a':A} {v:Value} (hi:fB c g e.h w) (hx:RA g e.h w a v):∀ (ld:Option (Bool×Nat)),(∀ p,ld=some p->∃ ty,qF P ty=some p)->Out e (aDR a ld) a'->∃ u,aPO P w v ld u/\RA g e.h w a' u:=by
 intro ld hty h
 unfold aDR at h
 split at h
 ·have:=h.ret;subst this;exact ⟨v,rfl,hx⟩
 ·rename_i agg n
  split at h
  ·rename_i m off
   obtain ⟨o,ho,h⟩:=h.rh
   split at h
   ·rename_i cells
    split at h
    ·obtain ⟨wr,h1,h2⟩:=Out.bind h
     have:=h2.ret
     subst this
     obtain ⟨b,q,hν,hr,hF,hc⟩:=hi.obj m _ ho
     cases hx with|ptr _ _ b' q' hn hν'=>?_
     rw [hν] at hν'
     have hcells:∀ (i:Nat) a,((cells.drop off).take n)[i]?=some a->∃ u,w.cell? (at_ b (q+off+i))=some u/\u.oneCell'=true/\RA g e.h w a u:=by
      grind
     have hl:((cells.drop off).take n).length=n:=by grind
     obtain ⟨ty0,hty0⟩:=hty _ rfl
     obtain ⟨u,h3,h4⟩:=aNN (qY hty0) hl hcells h1
     refine ⟨u,fun ty ht=>?_,h4⟩
     obtain ⟨u',h5,h6⟩:=aNN (qY ht) hl hcells h1
     have e1:u'=u:=by
      have key:∀ {t t':TypeId},qF P t=some (agg,n)->qF P t'=some (agg,n)->(loadVar t (at_ b (q+off))).run P w=(loadVar t' (at_ b (q+off))).run P w:=by
       intro t t' h h'
       obtain ⟨d,inf,k1,k2,k3,k4⟩:=qY h
       obtain ⟨d',inf',k1',k2',k3',k4'⟩:=qY h'
       simp only [Sem.run_bind,loadVar,nF k1,nF k1',k4,k4',Result.andThen_ok]
       split
       ·simp only [Sem.run_bind,sizeOf,typeInfo,run_program,k2,k2',k3,k3',Sem.run_pure,Result.andThen_ok]
       rfl
      grind
     simp only [asAddr,Sem.run_bind,Sem.run_pure,Result.andThen_ok]
     grind
    ·exact h.fail.elim
   ·exact h.fail.elim
  ·exact h.fail.elim
theorem aQq {c:Ctx} {g:Gh} {st:St} {act:Act} {w:World} (hi:fB c g (cQ st.objs) w) (hs:aJ7 vl g (cQ st.objs) w st.tmps st.vars act):∀ (l:List (Option eN×Nat×Option (Bool×Nat))) (q:List (Option eN×A)),
  (∀ x,x∈l->∀ p,x.2.2=some p->∃ ty,qF P ty=some p)->Out (st.env V) (aCj l) q →
  q.length=l.length/\∃ vs:Nat->Value,∀ (m:Nat) p,q[m]?=some p->RA g (cQ st.objs) w p.2 (vs m)/\((∃ y,p.1=some y)->aPO P w (act.tmps.getD ((l.getD m (none,0,none)).2.1) Go.undef) (l.getD m (none,0,none)).2.2 (vs m)):=by
 intro l
 induction l with
 |nil=>intro q _ h;have:=h.ret;simp_all
 |cons x l ih=>
  intro q hty h
  obtain ⟨m0,t,ld⟩:=x
  cases m0 with
  |none=>
   obtain ⟨q',h1,h2⟩:=Out.bind h
   have:=h2.ret
   subst this
   obtain ⟨i1,vs,i2⟩:=ih q' (fun x hx=>hty x (by grind)) h1
   refine ⟨by grind,fun m=>match m with|0=>Go.undef|m+1=>vs m,fun m p hm=>?_⟩
   cases m with
   |zero=>simp at hm;subst hm;exact ⟨.undef _,fun ⟨y,hy⟩=>by grind⟩
   |succ m=>grind
  |some md=>
   obtain ⟨a,ha,h⟩:=h.rs
   obtain ⟨a',h0,h⟩:=Out.bind h
   obtain ⟨q',h1,h2⟩:=Out.bind h
   have:=h2.ret
   subst this
   obtain ⟨i1,vs,i2⟩:=ih q' (fun x hx=>hty x (by grind)) h1
   obtain ⟨u,k1,k2⟩:=aMn (e:=st.env V) hi (hs.var t a ha).2.2 ld (fun p hp=>hty (some md,t,ld) (by simp) p hp) h0
   refine ⟨by grind,fun m=>match m with|0=>u|m+1=>vs m,fun m p hm=>?_⟩
   cases m with
   |zero=>simp at hm;subst hm;exact ⟨k2,fun _=>k1⟩
   |succ m=>exact i2 m p (by simpa using hm)
theorem aEI:∀ (om:List (Option eN)) (n m:Nat),m<om.length->(oP n om).getD m (none,0,none)=(om.getD m none,n+m,none):=by
 intro om
 induction om with
 |nil=>grind
 |cons x om ih=>
  intro n m h
  cases m with
  |zero=>rfl
  |succ m=>
   grind [oP,List.getD_cons_succ]
theorem aEH:∀ (om:List (Option eN)) (n:Nat),(oP n om).length=om.length:=by
 intro om
 induction om with
 |nil=>intro n;rfl
 |cons x om ih=>grind [oP]
def aWH:List Value->Value
 |[v]=>v
 |vs=>.tuple vs.toArray
theorem aQX {α:Type} {w:World} {f:α->Sem Value}:∀ (l:List α) (vs:List Value),vs.length=l.length->(∀ (i:Nat) x v,l[i]?=some x->vs[i]?=some v->(f x).run P w=.ok v w)->(l.mapM f).run P w=.ok vs w:=by
 intro l
 induction l with
 |nil=>simp_all
 |cons x l ih=>
  intro vs h hf
  cases vs with
  |nil=>grind
  |cons v vs=>
   rw [List.mapM_cons]
   simp only [Sem.run_bind,hf 0 x v rfl rfl,Result.andThen_ok,ih vs (by grind) (fun i x v h1 h2=>hf (i+1) x v (by grind) (by grind)),Sem.run_pure]
theorem aGK:∀ (rv:List ResultVar) (rs:List (eN×Nat×Option (Bool×Nat))),sY P rv rs=true->rv.length=rs.length/\(∀ x,x∈rs->∀ p,x.2.2=some p->∃ ty,qF P ty=some p) ∧
  ∀ (i:Nat) r x w tmps v,rv[i]?=some r->rs[i]?=some x->aPO P w (Array.getD tmps x.2.1 Go.undef) x.2.2 v->(match r with|.tmp t=>pure (tmps.getD t Go.undef)|.cell a t=>do loadVar t (<-asAddr (tmps.getD a Go.undef)):Sem Value).run P w=.ok v w:=by
 intro rv
 induction rv with
 |nil=>
  intro rs h
  cases rs with
  |nil=>grind
  |cons=>grind [sY]
 |cons r rv ih=>
  intro rs h
  cases rs with
  |nil=>grind [sY]
  |cons x rs=>
   obtain ⟨md,t',ld⟩:=x
   cases r with
   |tmp t=>
    cases ld with
    |some p=>grind [sY]
    |none=>
     simp only [sY,Bool.and_eq_true,decide_eq_true_eq] at h
     obtain ⟨rfl,h⟩:=h
     obtain ⟨i1,i2,i3⟩:=ih rs h
     refine ⟨by grind,fun x hx p hp=>?_,fun i r x w tmps v h1 h2 h3=>?_⟩
     ·grind
     ·cases i with
      |zero=>simp at h1 h2;subst h1 h2;simp only [aPO] at h3;subst h3;rfl
      |succ i=>exact i3 i r x w tmps v (by simpa using h1) (by simpa using h2) h3
   |cell a t=>
    cases ld with
    |none=>simp [sY] at h
    |some p=>
     simp only [sY,Bool.and_eq_true,decide_eq_true_eq,beq_iff_eq] at h
     obtain ⟨⟨rfl,ht⟩,h⟩:=h
     obtain ⟨i1,i2,i3⟩:=ih rs h
     refine ⟨by simp [i1],fun x hx p' hp=>?_,fun i r x w tmps v h1 h2 h3=>?_⟩
     ·rcases List.mem_cons.1 hx with rfl|hx
      ·simp only [Option.some.injEq] at hp;subst hp;exact ⟨t,ht⟩
      ·exact i2 x hx p' hp
     ·cases i with
      |zero=>simp at h1 h2;subst h1 h2;exact h3 t ht
      |succ i=>exact i3 i r x w tmps v (by simpa using h1) (by simpa using h2) h3
theorem aKL {fn:Func} {rv:List ResultVar} {rs:List (eN×Nat×Option (Bool×Nat))} {tmps:Array Value} {w:World} (vs:List Value) (hr:fn.results=rv.toArray) (hok:sY P rv rs=true) (hl:vs.length=rs.length)
  (hv:∀ (i:Nat) x v,rs[i]?=some x->vs[i]?=some v->aPO P w (tmps.getD x.2.1 Go.undef) x.2.2 v):(results fn tmps).run P w=.ok (aWH vs) w:=by
 obtain ⟨h1,_,h3⟩:=aGK rv rs hok
 unfold results
 rw [hr,List.mapM_toArray]
 have hm:=aQX (P:=P) (w:=w) (f:=fun r=>(match r with|.tmp t=>pure (tmps.getD t Go.undef)|.cell a t=>do loadVar t (<-asAddr (tmps.getD a Go.undef)):Sem Value)) rv vs (by omega) (fun i r v k1 k2=>by
  have hi:=(List.getElem?_eq_some_iff.1 k1).1
  have kx:=List.getElem?_eq_getElem (show i<rs.length by omega)
  grind)
 have key:∀ F:ResultVar->Sem Value,(∀ r,F r=(match r with|.tmp t=>pure (tmps.getD t Go.undef)|.cell a t=>do loadVar t (<-asAddr (tmps.getD a Go.undef)):Sem Value))->(rv.mapM F).run P w=.ok vs w:=fun F h=>by
  rw [funext h];grind
 simp only [map_eq_pure_bind,Sem.run_bind,Sem.run_pure]
 rw [key _ (fun r=>by grind)]
 match vs with
 |[]=>rfl
 |[v]=>rfl
 |v::u::r=>rfl
theorem aSX {w:World} {Z:bK} {T:Nat->bK} {vs:List Value} {rcs:List C} (hrl:rcs.length=vs.length) (hd:∀ i j,i≠j->∀ x y,T i x y->¬T j x y)
  (h:∀ (m:Nat) v,vs[m]?=some v->∀ c,rcs[m]?=some c->RC w Z c v (T m)):RC w Z (wC rcs) (aWH vs) (fun x y=>∃ m,m<vs.length/\T m x y):=by
 have tup:RC w Z (.tup rcs) (.tuple vs.toArray) (fun x y=>∃ m,m<vs.length/\T m x y):=by
  refine .tup rcs _ T _ (by grind) (fun m c hm=>?_) (fun i j _ _ hij=>hd i j hij) (fun x y=>by grind)
  have hm':=(List.getElem?_eq_some_iff.1 hm).1
  simp_all
 match vs,rcs,hrl,tup,h with
 |[],[],_,tup,_=>exact tup
 |[p],[c],_,_,h=>
  refine (h 0 p rfl c rfl).congr fun x y=>⟨fun h=>⟨0,by simp,h⟩,fun ⟨m,hm,h⟩=>?_⟩
  grind
 |_::_::_,_::_::_,_,tup,_=>exact tup
theorem aFc {e:Env}:∀ (q:List (Option eN×A)) (r:List (Option C)×List Nat×List Nat),Out e (nI q) r->∀ (m:Nat) (c:C),r.1[m]?=some (some c)->∃ (y:eN) (a:A),q[m]?=some (some y,a):=by
 intro q
 induction q with
 |nil=>intro r h m c hm;have:=h.ret;grind
 |cons x q ih=>
  intro r h m c hm
  obtain ⟨m0,a⟩:=x
  cases m0 with
  |none=>
   obtain ⟨r',h1,h2⟩:=Out.bind h
   have:=h2.ret
   grind
  |some y=>
   obtain ⟨p,_,h⟩:=Out.bind h
   obtain ⟨r',h1,h2⟩:=Out.bind h
   have:=h2.ret
   grind
theorem aEb {e:Env}:∀ (l:List (Option eN×Nat×Option (Bool×Nat))) (q:List (Option eN×A)),Out e (aCj l) q->∀ (m:Nat) (p:Option eN×A),q[m]?=some p->∃ t:Nat×Option (Bool×Nat),l[m]?=some (p.1,t):=by
 intro l
 induction l with
 |nil=>intro q h m p hm;have:=h.ret;grind
 |cons x l ih=>
  intro q h m p hm
  obtain ⟨m0,t⟩:=x
  cases m0 with
  |none=>
   obtain ⟨q',h1,h2⟩:=Out.bind h
   have:=h2.ret
   grind
  |some md=>
   obtain ⟨a,ha,h⟩:=h.rs
   obtain ⟨a',h0,h⟩:=Out.bind h
   obtain ⟨q',h1,h2⟩:=Out.bind h
   have:=h2.ret
   grind
theorem aK4:∀ (om:List (Option eN)) (n m:Nat) (y:eN) (t:Nat×Option (Bool×Nat)),(oP n om)[m]?=some (some y,t)->om[m]?=some (some y):=by
 intro om
 induction om with
 |nil=>grind [oP]
 |cons x om ih=>
  grind [oP]
theorem aPZ {G:GV} {f:FuncId} {fn:Func} {code:Code} {ac:aI} {cs:List C} {rs:List (eN×Nat×Option (Bool×Nat))} {om:List (Option eN)} {rcs:List C} {os:List (Option C)} (hf:P.funcs[f]?=some fn) (hb:fn.body=some code)
  (hname:(fn.name == "runtime.NumGoroutine")=false) {rv:List ResultVar} (hr:fn.results=rv.toArray) (hrok:sY P rv rs=true) (hcomp:rS P (fn.ntmps,lK 0 om) vl code=some ac.erase) (hvl:∀ m,m<cs.length->m∈vl) (hN:cs.length<=fn.ntmps)
  (hol:om.length<=cs.length) (hrl:rcs.length=rs.length) (hV:∀ f cs r os,V f cs r os->aC P G f cs r os) (hW:WS P vl (fn.ntmps,lK 0 om) V ac (rR cs) fun ex st=>(ex=.norm\/ex=.ret)/\Fin V rs om rcs os st):aC P G f cs (wC rcs) os:=by
 refine ⟨⟨fn,hf,hname,by grind⟩,fun w args Fz U hG hFz hRC hap=>?_⟩
 refine calls_of_wp hf hb ?_
 obtain ⟨g,hi,hn⟩:=aPB (nt:=(fn.ntmps,lK 0 om)) (N:=fn.ntmps) hG hFz hRC hap hvl hN rfl (fun m hm=>by have:=aU6 om 0 m hm;omega)
 refine wp_mono (hW code hcomp _ hV g _ w hi hn) fun e act w' hq=>?_
 obtain ⟨ex,st,g',rfl,⟨hex,hfin⟩,hi',hn'⟩:=hq
 obtain ⟨⟨cs',us,bs⟩,l,hres,h1,h2,h3⟩:=aDT hfin
 simp only at h1 h2 h3
 subst h3
 obtain ⟨q,h4,h5⟩:=Out.bind (⟨l,hres⟩:Out (st.env V) (aRK rs om) _)
 obtain ⟨_,hro2,_⟩:=aGK rv rs hrok
 obtain ⟨s1,vs,s2⟩:=aQq (P:=P) (V:=V) hi'.h hi'.s (rs.map (fun p=>(some p.1,p.2))++oP 0 om) q (fun x hx p hp=>by
  rcases List.mem_append.1 hx with hx|hx
  ·obtain ⟨y,hy,rfl⟩:=List.mem_map.1 hx;exact hro2 y hy p hp
  ·exfalso
   obtain ⟨i,hi⟩:=List.getElem?_of_mem hx
   have hlt:=(List.getElem?_eq_some_iff.1 hi).1
   rw [aEH] at hlt
   have:=aEI om 0 i hlt
   rw [List.getD_eq_getElem?_getD,hi,Option.getD_some] at this
   rw [this] at hp
   cases hp) h4
 let Z:bK:=fun x y=>g'.Fz x y\/∃ n,n∈bs/\g'.F n x y
 obtain ⟨i1,i2,i3,T,i4,i5,i6⟩:=aFR (e:=st.env V) hi'.h (Z:=Z) q vs _ (fun m p hp=>(s2 m p hp).1) h5 (fun _ _ h=>.inl h) (fun n hn b o h=>.inr ⟨n,hn,h⟩) (yY h1)
 simp only at i1 i2 i3 i4 i5
 have hap':=aA1 h2
 have hlt:∀ x y,Z x y->x<w'.heap.size:=by
  rintro x y (h|⟨n,hn,h⟩)
  ·exact hi'.h.fzlt x y h
  ·obtain ⟨o,ho⟩:=i3 n hn
   exact hi'.h.lt n o ho x y h
 have hT:∀ m x y,T m x y->((∃ i,i<cs.length/\U i x y)\/w.heap.size<=x)/\¬Z x y/\x<w'.heap.size:=by
  intro m x y h
  obtain ⟨n,hn,hF⟩:=i5 m x y h
  obtain ⟨o,ho⟩:=i2 n hn
  obtain ⟨m1,m2⟩:=hi'.h.mine n o ho x y hF
  refine ⟨m1,?_,hi'.h.lt n o ho x y hF⟩
  rintro (hz|⟨n',hn',hF'⟩)
  ·exact m2 hz
  ·obtain ⟨o',ho'⟩:=i3 n' hn'
   exact hi'.h.disj n n' o o' ho ho' (fun e=>hap' n hn (e ▸ hn')) x y hF hF'
 have hzof:∀ x y,Z x y->Fz x y\/(∃ i,i<cs.length/\U i x y)\/w.heap.size<=x:=by
  rintro x y (h|⟨n,hn,h⟩)
  ·exact hi'.h.fzof x y h
  ·obtain ⟨o,ho⟩:=i3 n hn
   exact .inr (hi'.h.mine n o ho x y h).1
 let k:=rs.length
 have hlen:∀ m,(rcs.map some++os)[k+m]?=os[m]?:=fun m=>by
  rw [List.getElem?_append_right (by simp [hrl,k])]
  simp [hrl,k]
 have hql:q.length=rs.length+om.length:=by simp [s1,aEH]
 have hpin:∀ m c,os[m]?=some (some c)->RC w' Z c (args.getD m Go.undef) (T (k+m)):=by
  intro m c hm
  have h6:=i4 (k+m) c (by rw [hlen];exact hm)
  have hml:=(List.getElem?_eq_some_iff.1 hm).1
  have hm':m<om.length:=by
   simp only [List.length_append,List.length_map] at i1
   omega
  obtain ⟨y,a,hy⟩:=aFc _ _ h5 (k+m) c (by rw [hlen];exact hm)
  have e:(rs.map (fun p=>(some p.1,p.2))++oP 0 om).getD (k+m) (none,0,none)=(om.getD m none,0+m,none):=by
   have:=aEI om 0 m hm'
   rw [List.getD_eq_getElem?_getD,List.getElem?_append_right (by simp [k])]
   rw [List.getD_eq_getElem?_getD] at this
   simp only [List.length_map,k]
   rw [show rs.length+m-rs.length=m by omega]
   exact this
  have hp:=hi'.pin m (by
   obtain ⟨t,hz⟩:=aEb _ _ h4 (k+m) _ hy
   rw [List.getElem?_append_right (by simp [k])] at hz
   simp only [List.length_map,k] at hz
   rw [show rs.length+m-rs.length=m by omega] at hz
   have:=aS4 om 0 m y (aK4 om 0 m y t hz)
   rwa [Nat.zero_add] at this)
  have h7:=(s2 (k+m) _ hy).2 ⟨y,rfl⟩
  rw [e] at h7
  simp only [aPO,Nat.zero_add] at h7
  rw [h7,hp.2] at h6
  exact h6
 have hval:∀ m p,rs[m]?=some p->(rs.map (fun p=>(some p.1,p.2))++oP 0 om).getD m ((none:Option eN),0,none)=(some p.1,p.2):=by
  intro m p hm
  have hm':=(List.getElem?_eq_some_iff.1 hm).1
  rw [List.getD_eq_getElem?_getD,List.getElem?_append_left (by simp;omega)]
  simp [hm]
 let vl':List Value:=(List.range rs.length).map vs
 have hvl':∀ (m:Nat) v,vl'[m]?=some v->v=vs m/\m<rs.length:=by
  intro m v hm
  have hlt:=(List.getElem?_eq_some_iff.1 hm).1
  simp only [vl',List.length_map,List.length_range] at hlt
  refine ⟨?_,hlt⟩
  simp [vl',hlt] at hm
  exact hm.symm
 have hres0:∀ (m:Nat) v,vl'[m]?=some v->∀ c,rcs[m]?=some c->RC w' Z c v (T m):=by
  intro m v hm c hc
  obtain ⟨rfl,hlt⟩:=hvl' m v hm
  exact i4 m c (by
   have:=(List.getElem?_eq_some_iff.1 hc).1
   rw [List.getElem?_append_left (by simpa using this)]
   simp [hc])
 have hrun:=aKL (P:=P) (tmps:=act.tmps) (w:=w') vl' hr hrok (by simp [vl']) (fun i x v hx hv=>by
  obtain ⟨rfl,hlt⟩:=hvl' i v hv
  have hq:=List.getElem?_eq_getElem (show i<q.length by omega)
  have h6:=s2 i _ hq
  obtain ⟨t,hz⟩:=aEb _ _ h4 i _ hq
  have e:=hval i x hx
  rw [List.getD_eq_getElem?_getD,hz,Option.getD_some] at e
  have e1:(q[i]'(by omega)).1=some x.1:=congrArg Prod.fst e
  have h7:=h6.2 ⟨_,e1⟩
  rw [hval i x hx] at h7
  exact h7)
 let U':Nat->bK:=fun i=>match i with|0=>(fun x y=>∃ m,m<k/\T m x y)|i+1=>T (k+i)
 have hbp:bodyPost P fn (fun e w'_1=>∃ v Fz' U',e=.returned v/\aVY w w'_1 Fz Fz' (fun x y=>∃ i,i<cs.length/\U i x y) args v (wC rcs) os U') .normal act w':=by
  refine ⟨hi'.s.defers,_,hrun,_,Z,U',rfl,hi'.h.side,hi'.h.size,hi'.h.blk,hi'.h.cell,fun x y h=>.inl (hi'.h.fz0 x y h),hlt,hzof,?_,fun m c hm=>hpin m c hm,fun i j hij x y h h'=>?_,fun i x y h=>?_⟩
  ·have:=aSX (vs:=vl') (by simp [vl',hrl]) i6 hres0
   refine this.congr fun x y=>?_
   simp only [vl',List.length_map,List.length_range,U',k]
  ·match i,j with
   |0,0=>exact hij rfl
   |0,j+1=>obtain ⟨m,hm,h⟩:=h;exact i6 m (k+j) (by omega) x y h h'
   |i+1,0=>obtain ⟨m,hm,h'⟩:=h';exact i6 m (k+i) (by omega) x y h' h
   |i+1,j+1=>exact i6 (k+i) (k+j) (by omega) x y h h'
  ·match i with
   |0=>obtain ⟨m,_,h⟩:=h;exact hT m x y h
   |i+1=>exact hT (k+i) x y h
 rcases hex with rfl|rfl
 ·exact hbp
 ·exact hbp
end
section
variable (V:FuncId->List C->C->List (Option C)->Prop) (base:Nat)
def uI:Nat->List cM->St->(St->Prop)->Prop
 |_,[],st,K=>K st
 |i,o::r,st,K=>goL (st.env V) (tJ (base+64*i) o) fun wr _=>uI (i+1) r (st.app o.dst wr) K
def aHe (after:List Nat) (rd wt:List Loc):List (List Loc×List Loc)->Bool
 |[]=>true
 |(rd',wt')::r=>(after.contains r.length || (aA2 wt' rd && aA2 wt' wt && aA2 rd' wt)) && aHe after rd wt r
def aTT (a b:Bool):Bool:=a && b
def aT0 (b:Bool):Prop:=b=true
theorem aL {b:Bool} (h:b=true):aT0 b:=h
def tB:Nat->List cM->List (List Loc×List Loc)->Bool->St->(St->Prop)->Prop
 |_,[],_,acc,st,K=>aT0 acc/\K st
 |i,o::r,logs,acc,st,K=>goL (st.env V) (tJ (base+64*i) o) fun wr l=>tB (i+1) r ((l,vQ o.dst wr)::logs) (aTT acc (aHe o.after l (vQ o.dst wr) logs)) (st.app o.dst wr) K
end
theorem rO {α:Type} {e:Env}:∀ {m:RM α} {K K':α->List Loc->Prop},(∀ r l,K r l->K' r l)->goL e m K->goL e m K':=by
 intro m
 induction m with
 |ret a=>intro K K' h hg;exact h _ _ hg
 |fail=>intro K K' h hg;exact hg
 |rs v s k ih=>
  intro K K' h hg
  simp only [goL] at hg ⊢
  split at hg
  ·rename_i x hx;exact ih x (fun r l=>h r _) hg
  ·exact hg.elim
 |rh n k ih=>
  intro K K' h hg
  simp only [goL] at hg ⊢
  split at hg
  ·rename_i x hx;exact ih x (fun r l=>h r _) hg
  ·exact hg.elim
 |ite b x y ihx ihy=>intro K K' h hg;exact ⟨fun hb=>ihx h (hg.1 hb),fun hb=>ihy h (hg.2 hb)⟩
 |need p k ih=>intro K K' h hg;exact ⟨hg.1,ih h hg.2⟩
 |call f cs k ih=>intro K K' h hg;obtain ⟨c,os,hv,hg⟩:=hg;exact ⟨c,os,hv,ih c os h hg⟩
theorem aHT {V:FuncId->List C->C->List (Option C)->Prop} {base:Nat} {K:St->Prop}:∀ (r:List cM) (i:Nat) (logs:List (List Loc×List Loc)) (st:St),uI V base i r st K->aMo V base false i r logs st K:=by
 intro r
 induction r with
 |nil=>intro i logs st h;exact h
 |cons o r ih=>intro i logs st h;exact rO (fun wr l hk=>⟨fun e=>absurd e Bool.false_ne_true,ih _ _ _ hk⟩) h
theorem aRU {after:List Nat} {rd wt:List Loc}:∀ (logs:List (List Loc×List Loc)),aHe after rd wt logs=true->oX after 0 logs.reverse rd wt=true:=by
 have app:∀ (xs ys:List (List Loc×List Loc)) (k:Nat),oX after k (xs++ys) rd wt=(oX after k xs rd wt && oX after (k+xs.length) ys rd wt):=by
  intro xs
  induction xs with
  |nil=>intro ys k;simp [oX]
  |cons x xs ih=>intro ys k;obtain ⟨a,b⟩:=x;simp only [List.cons_append,oX,ih,List.length_cons,Bool.and_assoc];rw [show k+1+xs.length=k+(xs.length+1) by omega]
 intro logs
 induction logs with
 |nil=>intro _;rfl
 |cons x logs ih=>
  intro h
  obtain ⟨a,b⟩:=x
  simp only [aHe,Bool.and_eq_true] at h
  rw [List.reverse_cons,app,ih h.2]
  simp only [oX,List.length_reverse,Nat.zero_add,Bool.and_true,Bool.true_and]
  simpa using h.1
theorem aBm {V:FuncId->List C->C->List (Option C)->Prop} {base:Nat} {K:St->Prop}:∀ (r:List cM) (i:Nat) (logs:List (List Loc×List Loc)) (acc:Bool) (st:St),tB V base i r logs acc st K->acc=true/\aMo V base true i r logs.reverse st K:=by
 intro r
 induction r with
 |nil=>intro i logs acc st h;exact h
 |cons o r ih=>
  intro i logs acc st h
  have h':goL (st.env V) (tJ (base+64*i) o) fun wr l=>acc=true/\((true=true->oX o.after 0 logs.reverse l (vQ o.dst wr)=true)/\aMo V base true (i+1) r (logs.reverse++[(l,vQ o.dst wr)]) (st.app o.dst wr) K):=by
   refine rO (fun wr l hk=>?_) h
   obtain ⟨h1,h2⟩:=ih _ _ _ _ hk
   unfold aTT at h1
   rw [Bool.and_eq_true] at h1
   rw [List.reverse_cons] at h2
   exact ⟨h1.1,fun _=>aRU _ h1.2,h2⟩
  obtain ⟨r',l',h1,h2⟩:=aDT h'
  exact ⟨h2.1,rO (fun _ _ hk=>hk.2) h'⟩
def W (P:Program) (vl:List Nat) (nt:Nat×List Nat) (V:FuncId->List C->C->List (Option C)->Prop) (ac:aI) (st:St) (Kn:St->Prop) (Ke:Nat->St->Prop) (Kr:St->Prop):Prop:=
 WS P vl nt V ac st fun ex st=>match ex with|.norm=>Kn st|.exit id=>Ke id st|.ret=>Kr st
section
variable {P:Program} {vl:List Nat} {nt:Nat×List Nat} {V:FuncId->List C->C->List (Option C)->Prop} {st:St} {Kn:St->Prop} {Ke:Nat->St->Prop} {Kr:St->Prop}
theorem aQ (h:Kn st):W P vl nt V .skip st Kn Ke Kr:=aOa h
theorem kI (h:Kr st):W P vl nt V .ret st Kn Ke Kr:=aR6 h
theorem cR {id:Nat} (h:Ke id st):W P vl nt V (.exit id) st Kn Ke Kr:=aOb h
theorem aN {a b:aI} (h:W P vl nt V a st (fun st'=>W P vl nt V b st' Kn Ke Kr) Ke Kr):W P vl nt V (.seq a b) st Kn Ke Kr:=
 aFk (WS.mono h fun ex st' hk=>by cases ex<;>exact hk)
theorem aU {id:Nat} {a:aI} (h:W P vl nt V a st Kn (fun j st'=>if j=id then Kn st' else Ke j st') Kr):W P vl nt V (.block id a) st Kn Ke Kr:=
 wX (WS.mono h fun ex st' hk=>by cases ex<;>exact hk)
theorem mQ {ops:List cM} {st':St} (h:∀ K:St->Prop,K st'->uI V st.nx 0 ops st K) (hK:Kn ⟨[],st'.vars,st'.objs,st.nx+64*ops.length⟩):W P vl nt V (.reg ops false) st Kn Ke Kr:=
 wW (aHT _ _ _ _ (h (fun st'=>Kn ⟨[],st'.vars,st'.objs,st.nx+64*ops.length⟩) hK))
theorem aA3 {ops:List cM} {st':St} (h:∀ K:St->Prop,K st'->tB V st.nx 0 ops [] true st K) (hK:Kn ⟨[],st'.vars,st'.objs,st.nx+64*ops.length⟩):W P vl nt V (.reg ops true) st Kn Ke Kr:=
 wW (aBm _ _ _ _ _ (h (fun st'=>Kn ⟨[],st'.vars,st'.objs,st.nx+64*ops.length⟩) hK)).2
theorem pG {ops:List cM} (r:Nat) (b:Bool) (h:∀ K:St->Prop,(∀ t tm,t=b->K ⟨tm,put st.vars r (.d (.bool t)),st.objs,st.nx⟩)->uI V st.nx 0 ops st K)
  (hK:Kn ⟨[],put st.vars r (.d (.bool b)),st.objs,st.nx+64*ops.length⟩):W P vl nt V (.reg ops false) st Kn Ke Kr:=
 wW (aHT _ _ _ _ (h (fun st'=>Kn ⟨[],st'.vars,st'.objs,st.nx+64*ops.length⟩) fun t tm e=>by subst e;exact hK))
theorem aB5 {ops:List cM} (r:Nat) (b:Bool) (h:∀ K:St->Prop,(∀ t tm,t=b->K ⟨tm,put st.vars r (.d (.bool t)),st.objs,st.nx⟩)->tB V st.nx 0 ops [] true st K)
  (hK:Kn ⟨[],put st.vars r (.d (.bool b)),st.objs,st.nx+64*ops.length⟩):W P vl nt V (.reg ops true) st Kn Ke Kr:=
 wW (aBm _ _ _ _ _ (h (fun st'=>Kn ⟨[],st'.vars,st'.objs,st.nx+64*ops.length⟩) fun t tm e=>by subst e;exact hK)).2
theorem aO {x:Nat} {t:Bool} {a b:aI} (hx:cQ st.vars x=some (.d (.bool t))) (h1:t=true->W P vl nt V a st Kn Ke Kr) (h2:t=false->W P vl nt V b st Kn Ke Kr):W P vl nt V (.cond (.var x) a b) st Kn Ke Kr:=by
 refine aOc ?_
 show goL (st.env V) (.rs true x .ret) _
 simp only [goL]
 have:(st.env V).sl true x=some (.d (.bool t)):=hx
 rw [this]
 exact ⟨h1,h2⟩
theorem aVV {ac:aI} (live:List Nat) (h:W P vl nt V ac (gc live st) Kn Ke Kr):W P vl nt V ac st Kn Ke Kr:=aR7 live h
theorem bH {live:List Nat} {a:aI} (I:Nat->St->Prop) (n:Nat) (h0:I n (gc live st)) (hI:∀ n st,I n st->W P vl nt V a st (fun st'=>∃ m,m<n/\I m (gc live st')) Ke Kr):W P vl nt V (.loop live a) st Kn Ke Kr:=
 aFl I ⟨n,h0⟩ fun n st h=>WS.mono (hI n st h) fun ex st' hk=>by cases ex<;>exact hk
theorem W.mono {ac:aI} {Kn':St->Prop} {Ke':Nat->St->Prop} {Kr':St->Prop} (h:W P vl nt V ac st Kn Ke Kr) (h1:∀ st,Kn st->Kn' st) (h2:∀ j st,Ke j st->Ke' j st) (h3:∀ st,Kr st->Kr' st):W P vl nt V ac st Kn' Ke' Kr':=
 WS.mono h fun ex st' hk=>by
  cases ex with
  |norm=>exact h1 _ hk
  |exit id=>exact h2 _ _ hk
  |ret=>exact h3 _ hk
end
end Go.Proofs.YtiejbbcpihpgpaaGreatDoor.Ab
