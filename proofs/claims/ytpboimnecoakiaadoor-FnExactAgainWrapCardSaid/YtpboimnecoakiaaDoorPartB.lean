/-
  A part of a proof about the given program; what is proved is said where each theorem stands.
-/
import Derived.Test.YtpboimnecoakiaaDoorFrameA
import Derived.Test.YtpboimnecoakiaaDoorFrameB
import Derived.Test.YtpboimnecoakiaaDoorFrameC
import Derived.Test.YtpboimnecoakiaaDoorFrameD
import Derived.Test.YtpboimnecoakiaaDoorFrameE
import Derived.Test.YtpboimnecoakiaaDoorShelf
import Derived.Test.YtpboimnecoakiaaDoorCodesO
import Derived.Test.YtpboimnecoakiaaDoorPartA
namespace Go.Proofs
end Go.Proofs
set_option linter.unusedSimpArgs false
set_option linter.unusedVariables false
set_option maxRecDepth 100000
set_option maxHeartbeats 2000000
namespace Go.Proofs.YtpboimnecoakiaaDoor.Ab
open Go.Proofs
variable {GG : GV}

theorem adj_lt {α : Type} {key : α → Int} {l : List α} (h : ∀ (i : Nat) x y, l[i]? = some y → l[i + 1]? = some x → key y < key x) : ∀ (d i : Nat) x y, l[i]? = some y → l[i + d + 1]? = some x → key y < key x := by
  intro d
  induction d with
  | zero => intro i x y hy hx; exact h i x y hy hx
  | succ d ih =>
    intro i x y hy hx
    have hlt : i + d + 1 < l.length := by have := (List.getElem?_eq_some_iff.1 hx).1; omega
    have hz := List.getElem?_eq_getElem hlt
    have h1 := ih i _ y hy hz
    have h2 := h (i + d + 1) x _ hz (by rw [show i + d + 1 + 1 = i + (d + 1) + 1 by omega]; exact hx)
    omega

theorem filter_del {α : Type} {key : α → Int} {l : List α} (h : ∀ (i : Nat) x y, l[i]? = some y → l[i + 1]? = some x → key y < key x) {i : Nat} {x : α} (hx : l[i]? = some x) :
    l.filter (fun y => !(key y == key x)) = l.take i ++ l.drop (i + 1) := by
  have hlt := (List.getElem?_eq_some_iff.1 hx).1
  have e : l = l.take i ++ (x :: l.drop (i + 1)) := by
    have h1 : l.drop i = x :: l.drop (i + 1) := by rw [List.drop_eq_getElem_cons hlt]; congr 1; rw [List.getElem?_eq_getElem hlt] at hx; exact Option.some.inj hx
    rw [← h1, List.take_append_drop]
  have h1 : (l.take i).filter (fun y => !(key y == key x)) = l.take i := by
    rw [List.filter_eq_self]
    intro y hy
    obtain ⟨j, hj⟩ := List.getElem?_of_mem hy
    rw [List.getElem?_take] at hj
    split at hj
    · rename_i hji
      have := adj_lt h (i - j - 1) j x y hj (by rw [show j + (i - j - 1) + 1 = i by omega]; exact hx)
      have hne : ¬ key y = key x := by omega
      simp [hne]
    · cases hj
  have h2 : (l.drop (i + 1)).filter (fun y => !(key y == key x)) = l.drop (i + 1) := by
    rw [List.filter_eq_self]
    intro y hy
    obtain ⟨j, hj⟩ := List.getElem?_of_mem hy
    rw [List.getElem?_drop] at hj
    have := adj_lt h j i y x hx (by rw [show i + j + 1 = i + 1 + j by omega]; exact hj)
    have hne : ¬ key y = key x := by omega
    simp [hne]
  conv => lhs; rw [e]
  rw [List.filter_append, List.filter_cons, h1, h2]
  simp

def openR (k : Int) (b : GBox) : Option (List UInt8) := if keyB k = true ∧ keyB b.fNonce = true ∧ b.fData.length ≤ 2000 ∧ tagV k b.fNonce b.fData = b.fTag then some (mask k b.fNonce b.fData) else none

theorem openR_len {k : Int} {b : GBox} {o : List UInt8} (h : openR k b = some o) : o.length = b.fData.length ∧ keyB b.fNonce = true ∧ o.length ≤ 2000 := by
  unfold openR at h
  split at h
  · rename_i hc
    cases h
    rw [mask_len]
    exact ⟨rfl, hc.2.1, hc.2.2.1⟩
  · cases h

theorem s_OpenBox_ok (k : Int) (b : GBox) (r : Option (List UInt8)) (hr : openR k b = r) (hb : b.cost ≤ 1048576) : Valid PP GG F_S_OpenBox [.d (.int .i64 k), .agg b.c] (.tup [.own 0 1 (bytesD (r.getD [])), .d (.bool r.isSome)]) [none, none] := by
  refine v_S_OpenBox [.own 0 1 (bytesD (r.getD [])), .d (.bool r.isSome)] rfl rfl ?_
  obtain ⟨n, a, t⟩ := b
  have hco : (GBox.mk n a t).cost = a.length := rfl
  have ck := l04Key_ok (GG := GG) k
  have cn := l04Key_ok (GG := GG) n
  obtain ⟨v, hv⟩ : ∃ v, decide (a.length ≤ 2000) = v := ⟨_, rfl⟩
  have hv2 : decide (2000 < (a.length : Int)) = !v := by rw [← hv, ← decide_not]; exact decide_eq_decide.2 (by omega)
  obtain ⟨p, hp⟩ : ∃ p, keyB k = p := ⟨_, rfl⟩
  obtain ⟨q, hq⟩ : ∃ q, keyB n = q := ⟨_, rfl⟩
  rw [hp] at ck
  rw [hq] at cn
  refine W_seq (?_)
  apply W_regS
  · intro K hK
    simp
    repeat' (first | with_reducible exact hK | (with_reducible refine goL_split (fun _ => ?_) (fun _ => ?_) <;> simp) | with_reducible refine And.intro ?_ ?_ | with_reducible exact okay_rfl rfl | with_reducible assumption | omega)
  cases p with
  | false =>
    have hr0 : r = none := by rw [← hr]; exact if_neg (fun hc => by have := hc.1; rw [hp] at this; cases this)
    subst hr0
    refine W_seq (W_seq (?_))
    refine W_regBD 31 (true) (fun K hK => ?_) ?_
    · simp [hv2]
      repeat' (first | exact hK _ _ (by clear hK; first | omega | (exact decide_eq_false (by omega)) | (exact decide_eq_true (by omega)) | (exact (decide_eq_true (by omega)).symm) | (exact (decide_eq_false (by omega)).symm) | (exact decide_eq_decide.2 (by omega)) | (simp [*]; done) | (simp [*]; omega) | (simp_all; done) | (simp_all; omega) | (rw [Bool.eq_iff_iff]; simp at *; omega)) | (with_reducible refine callQ (ck) ?_; simp [hv2]) | (with_reducible refine callQ (cn) ?_; simp [hv2]) | (with_reducible refine goL_split (fun _ => ?_) (fun _ => ?_) <;> simp [hv2]) | with_reducible refine And.intro ?_ ?_ | with_reducible exact okay_rfl rfl | with_reducible assumption | omega)
    refine W_cond rfl (fun h => W_seq ?_) (fun h => ?_)
    rotate_left
    · cases h
    apply W_regS
    · intro K hK
      simp
      repeat' (first | with_reducible exact hK | (with_reducible refine goL_split (fun _ => ?_) (fun _ => ?_) <;> simp) | with_reducible refine And.intro ?_ ?_ | with_reducible exact okay_rfl rfl | with_reducible assumption | omega)
    refine W_ret ?_
    simp [Fin, bytesD]
    all_goals omega
  | true =>
  cases q with
  | false =>
    have hr0 : r = none := by rw [← hr]; exact if_neg (fun hc => by have := hc.2.1; simp only at this; rw [hq] at this; cases this)
    subst hr0
    refine W_seq (W_seq (?_))
    refine W_regBD 31 (true) (fun K hK => ?_) ?_
    · simp [hv2]
      repeat' (first | exact hK _ _ (by clear hK; first | omega | (exact decide_eq_false (by omega)) | (exact decide_eq_true (by omega)) | (exact (decide_eq_true (by omega)).symm) | (exact (decide_eq_false (by omega)).symm) | (exact decide_eq_decide.2 (by omega)) | (simp [*]; done) | (simp [*]; omega) | (simp_all; done) | (simp_all; omega) | (rw [Bool.eq_iff_iff]; simp at *; omega)) | (with_reducible refine callQ (ck) ?_; simp [hv2]) | (with_reducible refine callQ (cn) ?_; simp [hv2]) | (with_reducible refine goL_split (fun _ => ?_) (fun _ => ?_) <;> simp [hv2]) | with_reducible refine And.intro ?_ ?_ | with_reducible exact okay_rfl rfl | with_reducible assumption | omega)
    refine W_cond rfl (fun h => W_seq ?_) (fun h => ?_)
    rotate_left
    · cases h
    apply W_regS
    · intro K hK
      simp
      repeat' (first | with_reducible exact hK | (with_reducible refine goL_split (fun _ => ?_) (fun _ => ?_) <;> simp) | with_reducible refine And.intro ?_ ?_ | with_reducible exact okay_rfl rfl | with_reducible assumption | omega)
    refine W_ret ?_
    simp [Fin, bytesD]
    all_goals omega
  | true =>
  cases v with
  | false =>
    have hr0 : r = none := by rw [← hr]; exact if_neg (fun hc => by have := hc.2.2.1; simp only at this; rw [decide_eq_false_iff_not] at hv; exact hv this)
    subst hr0
    refine W_seq (W_seq (?_))
    refine W_regBD 31 (true) (fun K hK => ?_) ?_
    · simp [hv2]
      repeat' (first | exact hK _ _ (by clear hK; first | omega | (exact decide_eq_false (by omega)) | (exact decide_eq_true (by omega)) | (exact (decide_eq_true (by omega)).symm) | (exact (decide_eq_false (by omega)).symm) | (exact decide_eq_decide.2 (by omega)) | (simp [*]; done) | (simp [*]; omega) | (simp_all; done) | (simp_all; omega) | (rw [Bool.eq_iff_iff]; simp at *; omega)) | (with_reducible refine callQ (ck) ?_; simp [hv2]) | (with_reducible refine callQ (cn) ?_; simp [hv2]) | (with_reducible refine goL_split (fun _ => ?_) (fun _ => ?_) <;> simp [hv2]) | with_reducible refine And.intro ?_ ?_ | with_reducible exact okay_rfl rfl | with_reducible assumption | omega)
    refine W_cond rfl (fun h => W_seq ?_) (fun h => ?_)
    rotate_left
    · cases h
    apply W_regS
    · intro K hK
      simp
      repeat' (first | with_reducible exact hK | (with_reducible refine goL_split (fun _ => ?_) (fun _ => ?_) <;> simp) | with_reducible refine And.intro ?_ ?_ | with_reducible exact okay_rfl rfl | with_reducible assumption | omega)
    refine W_ret ?_
    simp [Fin, bytesD]
    all_goals omega
  | true =>
    have hal : a.length ≤ 2000 := of_decide_eq_true hv
    have ct := s_TagOf_ok (GG := GG) k n a hp hq (by omega)
    have cm := l04Mask_ok (GG := GG) k n a hp hq (by omega)
    have hind := ind_bytes (mask k n a)
    have hor : openR k (GBox.mk n a t) = if tagV k n a = t then some (mask k n a) else none := by
      unfold openR
      simp only [hp, hq, true_and]
      by_cases ht : tagV k n a = t
      · rw [if_pos ht, if_pos ⟨hal, ht⟩]
      · rw [if_neg ht, if_neg (fun hc => ht hc.2)]
    rw [hor] at hr
    generalize tagV k n a = z at ct hr
    generalize mask k n a = m at cm hr hind
    obtain ⟨u, hu⟩ : ∃ u, (z != t) = u := ⟨_, rfl⟩
    refine W_seq (W_seq (?_))
    refine W_regBD 31 (u) (fun K hK => ?_) ?_
    · simp [hv2, hu]
      repeat' (first | exact hK _ _ (by clear hK; first | omega | (exact decide_eq_false (by omega)) | (exact decide_eq_true (by omega)) | (exact (decide_eq_true (by omega)).symm) | (exact (decide_eq_false (by omega)).symm) | (exact decide_eq_decide.2 (by omega)) | (simp [*]; done) | (simp [*]; omega) | (simp_all; done) | (simp_all; omega) | (rw [Bool.eq_iff_iff]; simp at *; omega)) | (with_reducible refine callQ (ck) ?_; simp [hv2, hu]) | (with_reducible refine callQ (cn) ?_; simp [hv2, hu]) | (with_reducible refine callQ (ct) ?_; simp [hv2, hu]) | (with_reducible refine goL_split (fun _ => ?_) (fun _ => ?_) <;> simp [hv2, hu]) | with_reducible refine And.intro ?_ ?_ | with_reducible exact okay_rfl rfl | with_reducible assumption | omega)
    refine W_cond rfl (fun h => W_seq ?_) (fun h => W_skip ?_)
    · rw [if_neg (by rw [h] at hu; simpa using hu)] at hr
      subst hr
      apply W_regS
      · intro K hK
        simp
        repeat' (first | with_reducible exact hK | (with_reducible refine goL_split (fun _ => ?_) (fun _ => ?_) <;> simp) | with_reducible refine And.intro ?_ ?_ | with_reducible exact okay_rfl rfl | with_reducible assumption | omega)
      refine W_ret ?_
      simp [Fin, bytesD]
      all_goals omega
    rw [if_pos (by rw [h] at hu; simpa using hu)] at hr
    subst hr
    refine W_seq (?_)
    apply W_regS
    · intro K hK
      simp
      repeat' (first | with_reducible exact hK | (with_reducible refine callQ (cm) ?_; simp) | (with_reducible refine goL_split (fun _ => ?_) (fun _ => ?_) <;> simp) | with_reducible refine And.intro ?_ ?_ | with_reducible exact okay_rfl rfl | with_reducible assumption | omega)
    refine W_ret ?_
    simp [Fin]
    all_goals omega

theorem openBox_ok (k : Int) (b : GBox) (r : Option (List UInt8)) (hr : openR k b = r) (hb : b.cost ≤ 1048576) (hkey : keyB k = true) : Valid PP GG F_I_openBox [.d (.int .i64 k), .agg b.c] (.tup [.own 0 1 (bytesD (r.getD [])), .d (.bool r.isSome)]) [none, none] := by
  refine v_I_openBox [.own 0 1 (bytesD (r.getD [])), .d (.bool r.isSome)] rfl rfl ?_
  obtain ⟨n, a, t⟩ := b
  have hco : (GBox.mk n a t).cost = a.length := rfl
  have ck := isKey_ok (GG := GG) k
  have cn := isKey_ok (GG := GG) n
  obtain ⟨v, hv⟩ : ∃ v, decide (a.length ≤ 2000) = v := ⟨_, rfl⟩
  have hv2 : decide (2000 < (a.length : Int)) = !v := by rw [← hv, ← decide_not]; exact decide_eq_decide.2 (by omega)
  obtain ⟨p, hp⟩ : ∃ p, keyB k = p := ⟨_, rfl⟩
  obtain ⟨q, hq⟩ : ∃ q, keyB n = q := ⟨_, rfl⟩
  rw [hp] at ck
  rw [hq] at cn
  refine W_seq (?_)
  apply W_regS
  · intro K hK
    simp
    repeat' (first | with_reducible exact hK | (with_reducible refine goL_split (fun _ => ?_) (fun _ => ?_) <;> simp) | with_reducible refine And.intro ?_ ?_ | with_reducible exact okay_rfl rfl | with_reducible assumption | omega)
  cases q with
  | false =>
    have hr0 : r = none := by rw [← hr]; exact if_neg (fun hc => by have := hc.2.1; simp only at this; rw [hq] at this; cases this)
    subst hr0
    refine W_seq (W_seq (?_))
    refine W_regBD 26 (true) (fun K hK => ?_) ?_
    · simp [hv2]
      repeat' (first | exact hK _ _ (by clear hK; first | omega | (exact decide_eq_false (by omega)) | (exact decide_eq_true (by omega)) | (exact (decide_eq_true (by omega)).symm) | (exact (decide_eq_false (by omega)).symm) | (exact decide_eq_decide.2 (by omega)) | (simp [*]; done) | (simp [*]; omega) | (simp_all; done) | (simp_all; omega) | (rw [Bool.eq_iff_iff]; simp at *; omega)) | (with_reducible refine callQ (cn) ?_; simp [hv2]) | (with_reducible refine goL_split (fun _ => ?_) (fun _ => ?_) <;> simp [hv2]) | with_reducible refine And.intro ?_ ?_ | with_reducible exact okay_rfl rfl | with_reducible assumption | omega)
    refine W_cond rfl (fun h => W_seq ?_) (fun h => ?_)
    rotate_left
    · cases h
    apply W_regS
    · intro K hK
      simp
      repeat' (first | with_reducible exact hK | (with_reducible refine goL_split (fun _ => ?_) (fun _ => ?_) <;> simp) | with_reducible refine And.intro ?_ ?_ | with_reducible exact okay_rfl rfl | with_reducible assumption | omega)
    refine W_ret ?_
    simp [Fin, bytesD]
    all_goals omega
  | true =>
  cases v with
  | false =>
    have hr0 : r = none := by rw [← hr]; exact if_neg (fun hc => by have := hc.2.2.1; simp only at this; rw [decide_eq_false_iff_not] at hv; exact hv this)
    subst hr0
    refine W_seq (W_seq (?_))
    refine W_regBD 26 (true) (fun K hK => ?_) ?_
    · simp [hv2]
      repeat' (first | exact hK _ _ (by clear hK; first | omega | (exact decide_eq_false (by omega)) | (exact decide_eq_true (by omega)) | (exact (decide_eq_true (by omega)).symm) | (exact (decide_eq_false (by omega)).symm) | (exact decide_eq_decide.2 (by omega)) | (simp [*]; done) | (simp [*]; omega) | (simp_all; done) | (simp_all; omega) | (rw [Bool.eq_iff_iff]; simp at *; omega)) | (with_reducible refine callQ (cn) ?_; simp [hv2]) | (with_reducible refine goL_split (fun _ => ?_) (fun _ => ?_) <;> simp [hv2]) | with_reducible refine And.intro ?_ ?_ | with_reducible exact okay_rfl rfl | with_reducible assumption | omega)
    refine W_cond rfl (fun h => W_seq ?_) (fun h => ?_)
    rotate_left
    · cases h
    apply W_regS
    · intro K hK
      simp
      repeat' (first | with_reducible exact hK | (with_reducible refine goL_split (fun _ => ?_) (fun _ => ?_) <;> simp) | with_reducible refine And.intro ?_ ?_ | with_reducible exact okay_rfl rfl | with_reducible assumption | omega)
    refine W_ret ?_
    simp [Fin, bytesD]
    all_goals omega
  | true =>
    have hal : a.length ≤ 2000 := of_decide_eq_true hv
    have ct := tagOf_ok (GG := GG) k n a hkey hq (by omega)
    have cm := crossed_ok (GG := GG) k n a hkey hq (by omega)
    have hind := ind_bytes (mask k n a)
    have hor : openR k (GBox.mk n a t) = if tagV k n a = t then some (mask k n a) else none := by
      unfold openR
      simp only [hkey, hq, true_and]
      by_cases ht : tagV k n a = t
      · rw [if_pos ht, if_pos ⟨hal, ht⟩]
      · rw [if_neg ht, if_neg (fun hc => ht hc.2)]
    rw [hor] at hr
    generalize tagV k n a = z at ct hr
    generalize mask k n a = m at cm hr hind
    obtain ⟨u, hu⟩ : ∃ u, (z != t) = u := ⟨_, rfl⟩
    refine W_seq (W_seq (?_))
    refine W_regBD 26 (u) (fun K hK => ?_) ?_
    · simp [hv2, hu]
      repeat' (first | exact hK _ _ (by clear hK; first | omega | (exact decide_eq_false (by omega)) | (exact decide_eq_true (by omega)) | (exact (decide_eq_true (by omega)).symm) | (exact (decide_eq_false (by omega)).symm) | (exact decide_eq_decide.2 (by omega)) | (simp [*]; done) | (simp [*]; omega) | (simp_all; done) | (simp_all; omega) | (rw [Bool.eq_iff_iff]; simp at *; omega)) | (with_reducible refine callQ (cn) ?_; simp [hv2, hu]) | (with_reducible refine callQ (ct) ?_; simp [hv2, hu]) | (with_reducible refine goL_split (fun _ => ?_) (fun _ => ?_) <;> simp [hv2, hu]) | with_reducible refine And.intro ?_ ?_ | with_reducible exact okay_rfl rfl | with_reducible assumption | omega)
    refine W_cond rfl (fun h => W_seq ?_) (fun h => W_skip ?_)
    · rw [if_neg (by rw [h] at hu; simpa using hu)] at hr
      subst hr
      apply W_regS
      · intro K hK
        simp
        repeat' (first | with_reducible exact hK | (with_reducible refine goL_split (fun _ => ?_) (fun _ => ?_) <;> simp) | with_reducible refine And.intro ?_ ?_ | with_reducible exact okay_rfl rfl | with_reducible assumption | omega)
      refine W_ret ?_
      simp [Fin, bytesD]
      all_goals omega
    rw [if_pos (by rw [h] at hu; simpa using hu)] at hr
    subst hr
    refine W_seq (?_)
    apply W_regS
    · intro K hK
      simp
      repeat' (first | with_reducible exact hK | (with_reducible refine callQ (cm) ?_; simp) | (with_reducible refine goL_split (fun _ => ?_) (fun _ => ?_) <;> simp) | with_reducible refine And.intro ?_ ?_ | with_reducible exact okay_rfl rfl | with_reducible assumption | omega)
    refine W_ret ?_
    simp [Fin]
    all_goals omega

theorem ind_rWrap (l : List GWrap) : ∀ row, row ∈ rWrap l → ∀ d, d ∈ row → IndD 1 d := by
  intro row hr d hd
  simp only [rWrap, List.mem_map] at hr
  obtain ⟨x, _, rfl⟩ := hr
  simp only [GWrap.row, List.mem_cons, List.not_mem_nil, or_false] at hd
  rcases hd with rfl | rfl | rfl | rfl | rfl | rfl
  · trivial
  · trivial
  · trivial
  · trivial
  · exact ind_bytes x.fBox.fData
  · trivial

def lessW (id : Int) (l : List GWrap) : List GWrap := l.filter fun x => !(x.fId == id)

def lessR (r : GRack) (id : Int) : GRack := { fKey := r.fKey, fNext := r.fNext, fWraps := lessW id r.fWraps }

def openT (r : GRack) (id now : Int) : GRack × List UInt8 × Int :=
  if rackOk r = false ∨ inB now 0 1000000000 = false then (r, [], 1) else
  match r.fWraps.find? (fun x => x.fId == id) with
  | none => (r, [], 2)
  | some x => if x.fEnds ≤ now then (lessR r id, [], 3) else
    match openR r.fKey x.fBox with
    | none => (lessR r id, [], 4)
    | some o => (lessR r id, o, 0)

theorem idxV_find {α : Type} (p : α → Bool) (l : List α) : (idxV p l = -1 ∧ l.find? p = none) ∨ ∃ (i : Nat) (x : α), idxV p l = i ∧ l[i]? = some x ∧ p x = true ∧ l.find? p = some x := by
  unfold idxV
  cases h : l.findIdx? p with
  | none =>
    refine .inl ⟨rfl, ?_⟩
    rw [List.find?_eq_none]
    intro x hx
    have := List.findIdx?_eq_none_iff.1 h x hx
    simp [this]
  | some i =>
    obtain ⟨h1, h2, h3⟩ := List.findIdx?_eq_some_iff_getElem.1 h
    refine .inr ⟨i, l[i], rfl, List.getElem?_eq_getElem h1, h2, ?_⟩
    rw [List.find?_eq_some_iff_getElem]
    exact ⟨h2, i, h1, rfl, fun j hj => by simpa using h3 j hj⟩

theorem lessW_cost (id : Int) (l : List GWrap) : (lessW id l).length ≤ l.length ∧ sumBy GWrap.cost (lessW id l) ≤ sumBy GWrap.cost l := by
  unfold lessW
  induction l with
  | nil => simp
  | cons x l ih =>
    simp only [List.filter_cons]
    split
    · simp only [sumBy, List.length_cons]; omega
    · simp only [sumBy, List.length_cons]; omega

theorem lessW_succ {id : Int} {l : List GWrap} {i : Nat} {x : GWrap} (h : l[i]? = some x) : lessW id (l.take (i + 1)) = if x.fId = id then lessW id (l.take i) else lessW id (l.take i) ++ [x] := by
  unfold lessW
  rw [List.take_add_one, h]
  by_cases e : x.fId = id <;> simp [List.filter_append, e]

theorem l14Less_ok (r : GRack) (id : Int) (hc : r.cost ≤ 1048576) : Valid PP GG F_S_l14Less [.agg r.c, .d (.int .i64 id)] (.agg (lessR r id).o) [none, none] := by
  refine v_S_l14Less [.agg (lessR r id).o] rfl rfl ?_
  obtain ⟨f, k, l⟩ := r
  have hco : (GRack.mk f k l).cost = l.length + sumBy GWrap.cost l := rfl
  refine W_seq (?_)
  apply W_regS
  · intro K hK
    simp
    repeat' (first | with_reducible exact hK | (with_reducible refine goL_split (fun _ => ?_) (fun _ => ?_) <;> simp) | with_reducible refine And.intro ?_ ?_ | with_reducible exact okay_rfl rfl | with_reducible assumption | omega)
  refine W_seq (?_)
  apply W_regS
  · intro K hK
    simp
    repeat' (first | with_reducible exact hK | (with_reducible refine goL_split (fun _ => ?_) (fun _ => ?_) <;> simp) | with_reducible refine And.intro ?_ ?_ | with_reducible exact okay_rfl rfl | with_reducible assumption | omega)
  refine W_seq (W_seq (?_))
  apply W_regS
  · intro K hK
    simp
    repeat' (first | with_reducible exact hK | (with_reducible refine goL_split (fun _ => ?_) (fun _ => ?_) <;> simp) | with_reducible refine And.intro ?_ ?_ | with_reducible exact okay_rfl rfl | with_reducible assumption | omega)
  refine W_nilP 5 2 rfl rfl rfl ?_
  refine W_block (W_loop (fun n st => ∃ (i : Nat) (w : List GWrap), n = l.length - i ∧ i ≤ l.length ∧ w = lessW id (l.take i) ∧
     st = ⟨[], [(1, .d (.int .i64 id)), (2, .ptr 0 0), (4, .ptr 1 0), (5, .ptr 2 0), (6, .d (.int .i64 i))], [(0, .box [.d (.int .i64 f), .d (.int .i64 k), .d (.slc 6 (rWrap l))]), (1, .box [.d (.int .i64 0), .d (.int .i64 0), .nil 1 6]), (2, .box [.d (.int .i64 f), .d (.int .i64 k), .sl 3]), (3, .arr 0 1 6 (rWrap w))], 4⟩) _ ⟨0, [], rfl, by omega, rfl, rfl⟩ ?_)
  rintro n st ⟨i, w, rfl, hi, hw, rfl⟩
  refine W_seq (W_seq (?_))
  apply W_regS
  · intro K hK
    simp
    repeat' (first | with_reducible exact hK | (with_reducible refine goL_split (fun _ => ?_) (fun _ => ?_) <;> simp) | with_reducible refine And.intro ?_ ?_ | with_reducible exact okay_rfl rfl | with_reducible assumption | omega)
  refine W_cond rfl (fun h => W_skip ?_) (fun h => W_exit ?_)
  · simp at h
    have ha := List.getElem?_eq_getElem h
    generalize l[i] = x at ha
    have hg := sumBy_get (f := GWrap.cost) ha
    have cw := l14CopyWrap_ok (GG := GG) x (by omega)
    have hs := lessW_succ (id := id) ha
    have hwl : w.length ≤ l.length := by rw [hw]; have := (lessW_cost id (l.take i)).1; rw [List.length_take] at this; omega
    rw [← hw] at hs
    refine W_seq (W_block (W_seq ?_))
    apply W_regS
    · intro K hK
      simp [ha]
      repeat' (first | with_reducible exact hK | (with_reducible refine goL_split (fun _ => ?_) (fun _ => ?_) <;> simp [ha]) | with_reducible refine And.intro ?_ ?_ | with_reducible exact okay_rfl rfl | with_reducible assumption | omega)
    refine W_cond rfl (fun h2 => ?_) (fun h2 => W_skip ?_)
    · have h3 : ¬ x.fId = id := by simpa using h2
      rw [if_neg h3] at hs
      apply W_regD
      · intro K hK
        simp [ha, limit]
        repeat' (first | with_reducible exact hK | (with_reducible refine callQ (cw) ?_; simp [ha, limit]) | (with_reducible refine goL_split (fun _ => ?_) (fun _ => ?_) <;> simp [ha, limit]) | with_reducible refine And.intro ?_ ?_ | with_reducible exact okay_rfl rfl | with_reducible assumption | omega)
      apply W_regS
      · intro K hK
        simp
        repeat' (first | with_reducible exact hK | (with_reducible refine goL_split (fun _ => ?_) (fun _ => ?_) <;> simp) | with_reducible refine And.intro ?_ ?_ | with_reducible exact okay_rfl rfl | with_reducible assumption | omega)
      refine ⟨l.length - (i + 1), by omega, i + 1, w ++ [x], rfl, h, hs.symm, ?_⟩
      rw [rWrap_snoc]
      simp [gc, closeN, liveA, gcV, gcO, renA, renAs, renO, namesAs, namesA, namesO, posn]
      exact wrap_id (by omega) (by omega)
    · have h3 : x.fId = id := by simpa using h2
      rw [if_pos h3] at hs
      apply W_regS
      · intro K hK
        simp
        repeat' (first | with_reducible exact hK | (with_reducible refine goL_split (fun _ => ?_) (fun _ => ?_) <;> simp) | with_reducible refine And.intro ?_ ?_ | with_reducible exact okay_rfl rfl | with_reducible assumption | omega)
      refine ⟨l.length - (i + 1), by omega, i + 1, w, rfl, h, hs.symm, ?_⟩
      simp [gc, closeN, liveA, gcV, gcO, renA, renAs, renO, namesAs, namesA, namesO, posn]
      exact wrap_id (by omega) (by omega)
  · simp at h
    rw [List.take_of_length_le h] at hw
    subst hw
    rw [if_pos rfl]
    refine W_seq (?_)
    apply W_regS
    · intro K hK
      simp
      repeat' (first | with_reducible exact hK | (with_reducible refine goL_split (fun _ => ?_) (fun _ => ?_) <;> simp) | with_reducible refine And.intro ?_ ?_ | with_reducible exact okay_rfl rfl | with_reducible assumption | omega)
    refine W_ret ?_
    simp [Fin, lessR]
    all_goals omega

theorem s_OpenWrap_ok (r : GRack) (id now : Int) (hc : r.cost ≤ 1048576) : Valid PP GG F_S_OpenWrap [.agg r.c, .d (.int .i64 id), .d (.int .i64 now)] (.tup [.agg (openT r id now).1.o, .own 0 1 (bytesD (openT r id now).2.1), .d (.int .i64 (openT r id now).2.2)]) [none, none, none] := by
  refine v_S_OpenWrap [.agg (openT r id now).1.o, .own 0 1 (bytesD (openT r id now).2.1), .d (.int .i64 (openT r id now).2.2)] rfl rfl ?_
  have cr := s_RackOk_ok (GG := GG) r hc
  have cn : Valid PP GG F_S_l01In [.d (.int .i64 now), .d (.int .i64 0), .d (.int .i64 1000000000)] (.d (.bool (inB now 0 1000000000))) [none, none, none] := l01In_ok _ _ _
  have ca := s_l14At_ok (GG := GG) r id hc
  have cc := l14Copy_ok (GG := GG) r hc
  have cl := l14Less_ok (GG := GG) r id hc
  obtain ⟨t, ht⟩ : ∃ t, openT r id now = t := ⟨_, rfl⟩
  rw [ht]
  unfold openT at ht
  generalize rackOk r = b at cr ht
  generalize inB now 0 1000000000 = b2 at cn ht
  have hco : r.cost = r.fWraps.length + sumBy GWrap.cost r.fWraps := rfl
  rcases idxV_find (fun x : GWrap => x.fId == id) r.fWraps with ⟨e1, e2⟩ | ⟨i, x, e1, e2, e3, e4⟩
  · rw [e1] at ca
    rw [e2] at ht
    simp only at ht
    subst ht
    repeat' (first | refine W_seq ?_ | refine W_skip ?_ | (refine W_regP fun K hK => ?_; simp) | (refine W_regPD fun K hK => ?_; simp) | (with_reducible refine hK _ ?_; clear hK K) | (with_reducible refine callQ (cr) ?_; simp) | (with_reducible refine callQ (cn) ?_; simp) | (with_reducible refine callQ (ca) ?_; simp) | (with_reducible refine callQ (cc) ?_; simp) | (with_reducible refine goL_split (fun h => ?_) (fun h => ?_) <;> simp) | with_reducible refine And.intro ?_ ?_ | with_reducible exact okay_rfl rfl | with_reducible assumption | (refine W_cond rfl (fun h => ?_) (fun h => ?_) <;> try simp at h) | (refine W_ret ?_; simp [Fin]) | omega)
    all_goals (first | (simp_all [bytesD]; done) | ((repeat' split) <;> first | omega | (simp_all [bytesD]; done)))
  · rw [e1] at ca
    rw [e4] at ht
    simp only at ht
    subst ht
    have hg := sumBy_get (f := GWrap.cost) e2
    have hcx : x.cost = x.fKind.length + x.fBox.cost := rfl
    have hlt := (List.getElem?_eq_some_iff.1 e2).1
    have co := s_OpenBox_ok (GG := GG) r.fKey x.fBox _ rfl (by omega)
    have hol := @openR_len r.fKey x.fBox
    generalize openR r.fKey x.fBox = q at co hol ⊢
    cases q <;> (simp only [Option.getD_none, Option.getD_some, Option.isSome_none, Option.isSome_some] at co)
    · repeat' (first | refine W_seq ?_ | refine W_skip ?_ | (refine W_regP fun K hK => ?_; simp [e2]) | (refine W_regPD fun K hK => ?_; simp [e2]) | (with_reducible refine hK _ ?_; clear hK K) | (with_reducible refine callQ (cr) ?_; simp [e2]) | (with_reducible refine callQ (cn) ?_; simp [e2]) | (with_reducible refine callQ (ca) ?_; simp [e2]) | (with_reducible refine callQ (cl) ?_; simp [e2]) | (with_reducible refine callQ (co) ?_; simp [e2]) | (with_reducible refine callQ (cc) ?_; simp [e2]) | (with_reducible refine goL_split (fun h => ?_) (fun h => ?_) <;> simp [e2]) | with_reducible refine And.intro ?_ ?_ | with_reducible exact okay_rfl rfl | with_reducible assumption | (refine W_cond rfl (fun h => ?_) (fun h => ?_) <;> try simp at h) | (refine W_ret ?_; simp [Fin, e2]) | omega)
      all_goals (first | (simp_all [bytesD]; done) | ((repeat' split) <;> first | omega | (simp_all [bytesD]; done)))
    · rename_i o
      have hio := ind_bytes o
      repeat' (first | refine W_seq ?_ | refine W_skip ?_ | (refine W_regP fun K hK => ?_; simp [e2]) | (refine W_regPD fun K hK => ?_; simp [e2]) | (with_reducible refine hK _ ?_; clear hK K) | (with_reducible refine callQ (cr) ?_; simp [e2]) | (with_reducible refine callQ (cn) ?_; simp [e2]) | (with_reducible refine callQ (ca) ?_; simp [e2]) | (with_reducible refine callQ (cl) ?_; simp [e2]) | (with_reducible refine callQ (co) ?_; simp [e2]) | (with_reducible refine callQ (cc) ?_; simp [e2]) | (with_reducible refine goL_split (fun h => ?_) (fun h => ?_) <;> simp [e2]) | with_reducible refine And.intro ?_ ?_ | with_reducible exact okay_rfl rfl | with_reducible assumption | (refine W_cond rfl (fun h => ?_) (fun h => ?_) <;> try simp at h) | (refine W_ret ?_; simp [Fin, e2]) | omega)
      all_goals (first | (simp_all [bytesD]; done) | ((repeat' split) <;> first | omega | (simp_all [bytesD]; done)))

theorem rack_adj {r : GRack} (h : rackOk r = true) : ∀ (i : Nat) x y, r.fWraps[i]? = some y → r.fWraps[i + 1]? = some x → y.fId < x.fId := by
  intro i x y hy hx
  have hlt := (List.getElem?_eq_some_iff.1 hx).1
  unfold rackOk at h
  simp only [Bool.and_eq_true, List.all_eq_true] at h
  have := h.2 (i + 1) (List.mem_range.2 hlt)
  unfold wlinkAt at this
  rw [hx] at this
  simp only [hy, Bool.and_eq_true, decide_eq_true_eq] at this
  exact this.2

theorem less_del {r : GRack} (h : rackOk r = true) {i : Nat} {x : GWrap} {id : Int} (hx : r.fWraps[i]? = some x) (hid : x.fId = id) : rWrap (lessW id r.fWraps) = (rWrap r.fWraps).take i ++ (rWrap r.fWraps).drop (i + 1) := by
  subst hid
  unfold lessW rWrap
  rw [filter_del (key := GWrap.fId) (rack_adj h) hx]
  simp

def delWrap_ren : Go.Shelf.Ren := ⟨fun | 45 => 112 | n => n, fun | 22 => 47 | 23 => 94 | n => n, fun n => n⟩

theorem delWrap : Go.Proofs.SlLaysE0.n45 PP delWrap_ren := {
  mixed := by kernel_rfl
  f45 := ⟨"slices.Delete[[]loop.example/g00705/impl.Wrap,loop.example/g00705/impl.Wrap]", by decide, Tryd.func112.trans (congrArg some (by kernel_rfl))⟩
  t0 := Tryd.underlying0
  a0 := Tryd.isAgg0
  z0 := Tryd.sizeOf0
  v0 := Tryd.zeroValue0
  t3 := Tryd.underlying3
  a3 := Tryd.isAgg3
  z3 := Tryd.sizeOf3
  v3 := Tryd.zeroValue3
  t4 := Tryd.underlying4
  a4 := Tryd.isAgg4
  z4 := Tryd.sizeOf4
  v4 := Tryd.zeroValue4
  t22 := Tryd.underlying47
  a22 := Tryd.isAgg47
  z22 := Tryd.sizeOf47
  v22 := Tryd.zeroValue47
}

theorem DeleteWrap_ok (rows : List (List D)) (i j : Nat) (hij : i ≤ j) (hj : j ≤ rows.length) : Valid PP GG 112 [.own 1 6 rows, .d (.int .i64 i), .d (.int .i64 j)] (.own 1 6 (rows.take i ++ rows.drop j)) [none, none, none] :=
  delete_valid delWrap ⟨Tryd.f112, Tryd.func112, by kernel_rfl, by kernel_rfl⟩ (by kernel_rfl) (by omega) i j hij hj

theorem openWrap_ok [MaxL GG] (r : GRack) (id now : Int) (hc : r.cost ≤ 1048576) (hrok : rackOk r = true) (hnow : inB now 0 1000000000 = true) : Valid PP GG F_I_openWrap [.agg r.c, .d (.int .i64 id), .d (.int .i64 now)] (.tup [.agg (openT r id now).1.o, .own 0 1 (bytesD (openT r id now).2.1), .d (.int .i64 (openT r id now).2.2)]) [none, none, none] := by
  refine v_I_openWrap [.agg (openT r id now).1.o, .own 0 1 (bytesD (openT r id now).2.1), .d (.int .i64 (openT r id now).2.2)] rfl rfl ?_
  have ca := wrapIndex_ok (GG := GG) r id hc
  have cc := cloneRack_ok (GG := GG) r hc
  obtain ⟨t, ht⟩ : ∃ t, openT r id now = t := ⟨_, rfl⟩
  rw [ht]
  unfold openT at ht
  rw [hrok, hnow] at ht
  simp only [Bool.true_eq_false, or_self, if_false] at ht
  have hco : r.cost = r.fWraps.length + sumBy GWrap.cost r.fWraps := rfl
  have hind := ind_rWrap r.fWraps
  rcases idxV_find (fun x : GWrap => x.fId == id) r.fWraps with ⟨e1, e2⟩ | ⟨i, x, e1, e2, e3, e4⟩
  · rw [e1] at ca
    rw [e2] at ht
    simp only at ht
    subst ht
    repeat' (first | refine W_seq ?_ | refine W_skip ?_ | (refine W_regP fun K hK => ?_; simp) | (refine W_regPD fun K hK => ?_; simp) | (with_reducible refine hK _ ?_; clear hK K) | (with_reducible refine callQ (ca) ?_; simp) | (with_reducible refine callQ (cc) ?_; simp) | (with_reducible refine goL_split (fun h => ?_) (fun h => ?_) <;> simp) | with_reducible refine And.intro ?_ ?_ | with_reducible exact okay_rfl rfl | with_reducible assumption | (refine W_cond rfl (fun h => ?_) (fun h => ?_) <;> try simp at h) | (refine W_ret ?_; simp [Fin]) | omega)
    all_goals (first | (simp_all [bytesD]; done) | ((repeat' split) <;> first | omega | (simp_all [bytesD]; done)))
  · rw [e1] at ca
    rw [e4] at ht
    simp only at ht
    subst ht
    have hld := less_del hrok e2 (by simpa using e3)
    have hg := sumBy_get (f := GWrap.cost) e2
    have hcx : x.cost = x.fKind.length + x.fBox.cost := rfl
    have hlt := (List.getElem?_eq_some_iff.1 e2).1
    have co := openBox_ok (GG := GG) r.fKey x.fBox _ rfl (by omega) (rack_key hrok).1
    have hol := @openR_len r.fKey x.fBox
    have cd := DeleteWrap_ok (GG := GG) (rWrap r.fWraps) i (i + 1) (by omega) (by rw [rWrap_len]; omega)
    rw [← hld, show ((i + 1 : Nat) : Int) = (i : Int) + 1 by omega] at cd
    have hwi : IntKind.i64.wrap ((i : Int) + 1) = (i : Int) + 1 := wrap_id (by omega) (by omega)
    generalize openR r.fKey x.fBox = q at co hol ⊢
    cases q <;> (simp only [Option.getD_none, Option.getD_some, Option.isSome_none, Option.isSome_some] at co)
    · repeat' (first | refine W_seq ?_ | refine W_skip ?_ | (refine W_regP fun K hK => ?_; simp [e2, hwi]) | (refine W_regPD fun K hK => ?_; simp [e2, hwi]) | (with_reducible refine hK _ ?_; clear hK K) | (with_reducible refine callQ (ca) ?_; simp [e2, hwi]) | (with_reducible refine callQ (cc) ?_; simp [e2, hwi]) | (with_reducible refine callQ (cd) ?_; simp [e2, hwi]) | (with_reducible refine callQ (co) ?_; simp [e2, hwi]) | (with_reducible refine goL_split (fun h => ?_) (fun h => ?_) <;> simp [e2, hwi]) | with_reducible refine And.intro ?_ ?_ | with_reducible exact okay_rfl rfl | with_reducible assumption | (refine W_cond rfl (fun h => ?_) (fun h => ?_) <;> try simp at h) | (refine W_ret ?_; simp [Fin, e2, hwi]) | omega)
      all_goals (first | (simp_all [lessR, bytesD]; done) | ((repeat' split) <;> first | omega | (simp_all [lessR, bytesD]; done)))
    · rename_i o
      have hio := ind_bytes o
      repeat' (first | refine W_seq ?_ | refine W_skip ?_ | (refine W_regP fun K hK => ?_; simp [e2, hwi]) | (refine W_regPD fun K hK => ?_; simp [e2, hwi]) | (with_reducible refine hK _ ?_; clear hK K) | (with_reducible refine callQ (ca) ?_; simp [e2, hwi]) | (with_reducible refine callQ (cc) ?_; simp [e2, hwi]) | (with_reducible refine callQ (cd) ?_; simp [e2, hwi]) | (with_reducible refine callQ (co) ?_; simp [e2, hwi]) | (with_reducible refine goL_split (fun h => ?_) (fun h => ?_) <;> simp [e2, hwi]) | with_reducible refine And.intro ?_ ?_ | with_reducible exact okay_rfl rfl | with_reducible assumption | (refine W_cond rfl (fun h => ?_) (fun h => ?_) <;> try simp at h) | (refine W_ret ?_; simp [Fin, e2, hwi]) | omega)
      all_goals (first | (simp_all [lessR, bytesD]; done) | ((repeat' split) <;> first | omega | (simp_all [lessR, bytesD]; done)))

end Go.Proofs.YtpboimnecoakiaaDoor.Ab


namespace Go.Proofs
end Go.Proofs
set_option linter.unusedSimpArgs false
set_option linter.unusedVariables false
set_option maxRecDepth 100000
set_option maxHeartbeats 2000000
namespace Go.Proofs.YtpboimnecoakiaaDoor.Ab
open Go.Proofs
variable {GG : GV}

theorem adj_pairwise {α : Type} {key : α → Int} {l : List α} : (∀ (i : Nat) x y, l[i]? = some y → l[i + 1]? = some x → key y < key x) ↔ l.Pairwise (fun y x => key y < key x) := by
  constructor
  · intro h
    rw [List.pairwise_iff_getElem]
    intro i j hi hj hij
    exact adj_lt h (j - i - 1) i _ _ (List.getElem?_eq_getElem hi) (by rw [show i + (j - i - 1) + 1 = j by omega]; exact List.getElem?_eq_getElem hj)
  · intro h i x y hy hx
    rw [List.pairwise_iff_getElem] at h
    obtain ⟨h1, e1⟩ := List.getElem?_eq_some_iff.1 hy
    obtain ⟨h2, e2⟩ := List.getElem?_eq_some_iff.1 hx
    have := h i (i + 1) h1 h2 (by omega)
    rw [e1, e2] at this
    exact this

theorem rackOk_iff (r : GRack) : rackOk r = true ↔ keyB r.fKey = true ∧ inB r.fNext 1 1000000000 = true ∧ r.fWraps.length ≤ 60 ∧ (∀ x, x ∈ r.fWraps → wrapOk r.fNext x = true) ∧ r.fWraps.Pairwise (fun y x => y.fId < x.fId) := by
  constructor
  · intro h
    refine ⟨(rack_key h).1, (rack_key h).2, ?_, ?_, adj_pairwise.1 (rack_adj h)⟩
    · unfold rackOk at h; simp only [Bool.and_eq_true, decide_eq_true_eq] at h; exact h.1.2
    · intro x hx
      obtain ⟨i, hi⟩ := List.getElem?_of_mem hx
      unfold rackOk at h
      simp only [Bool.and_eq_true, List.all_eq_true] at h
      have := h.2 i (List.mem_range.2 (List.getElem?_eq_some_iff.1 hi).1)
      unfold wlinkAt at this
      rw [hi] at this
      simp only [Bool.and_eq_true] at this
      exact this.1
  · rintro ⟨h1, h2, h3, h4, h5⟩
    unfold rackOk
    simp only [Bool.and_eq_true, decide_eq_true_eq, List.all_eq_true]
    refine ⟨⟨⟨h1, h2⟩, h3⟩, fun i hi => ?_⟩
    have hi := List.mem_range.1 hi
    have hx := List.getElem?_eq_getElem hi
    have hw := h4 _ (List.mem_of_getElem? hx)
    unfold wlinkAt
    rw [hx]
    simp only [hw, Bool.true_and]
    cases i with
    | zero => rfl
    | succ j =>
      have hy := List.getElem?_eq_getElem (show j < r.fWraps.length by omega)
      simp only [hy, decide_eq_true_eq]
      exact adj_pairwise.2 h5 j _ _ hy hx

theorem rackOk_less {r : GRack} (h : rackOk r = true) (id : Int) : rackOk (lessR r id) = true := by
  rw [rackOk_iff] at h ⊢
  obtain ⟨h1, h2, h3, h4, h5⟩ := h
  exact ⟨h1, h2, Nat.le_trans (lessW_cost id r.fWraps).1 h3, fun x hx => h4 x ((List.mem_filter.1 hx).1), h5.filter _⟩

theorem less_cost (r : GRack) (id : Int) : (lessR r id).cost ≤ r.cost := by
  have := lessW_cost id r.fWraps
  show (lessW id r.fWraps).length + sumBy GWrap.cost (lessW id r.fWraps) ≤ r.fWraps.length + sumBy GWrap.cost r.fWraps
  omega

theorem openT_done {r : GRack} {id now : Int} (h : (openT r id now).2.2 = 0) : rackOk r = true ∧ inB now 0 1000000000 = true ∧ ∃ (i : Nat) (x : GWrap) (o : List UInt8), idxV (fun x : GWrap => x.fId == id) r.fWraps = i ∧ r.fWraps[i]? = some x ∧
    r.fWraps.find? (fun x : GWrap => x.fId == id) = some x ∧ x.fId = id ∧ now < x.fEnds ∧ openR r.fKey x.fBox = some o ∧ openT r id now = (lessR r id, o, 0) := by
  obtain ⟨t, ht⟩ : ∃ t, openT r id now = t := ⟨_, rfl⟩
  rw [ht] at h ⊢
  unfold openT at ht
  cases h1 : rackOk r with
  | false => simp [h1] at ht; rw [← ht] at h; simp at h
  | true =>
  cases h2 : inB now 0 1000000000 with
  | false => simp [h2] at ht; rw [← ht] at h; simp at h
  | true =>
  rw [h1, h2] at ht
  simp only [Bool.true_eq_false, or_self, if_false] at ht
  refine ⟨rfl, rfl, ?_⟩
  rcases idxV_find (fun x : GWrap => x.fId == id) r.fWraps with ⟨e1, e2⟩ | ⟨i, x, e1, e2, e3, e4⟩
  · rw [e2] at ht; simp only at ht; rw [← ht] at h; simp at h
  · rw [e4] at ht
    simp only at ht
    by_cases h3 : x.fEnds ≤ now
    · rw [if_pos h3] at ht; rw [← ht] at h; simp at h
    · rw [if_neg h3] at ht
      cases h4 : openR r.fKey x.fBox with
      | none => rw [h4] at ht; simp only at ht; rw [← ht] at h; simp at h
      | some o => rw [h4] at ht; exact ⟨i, x, o, e1, e2, e4, by simpa using e3, by omega, h4, ht.symm⟩

def againT (r : GRack) (id now : Int) : GRack × Int × Int :=
  if (openT r id now).2.2 = 0 then
    match r.fWraps.find? (fun x => x.fId == id) with
    | some x => (putR (openT r id now).1 x.fKind (openT r id now).2.1 now (x.fEnds - now), putI (openT r id now).1 x.fKind (openT r id now).2.1 now (x.fEnds - now), putC (openT r id now).1 x.fKind (openT r id now).2.1 now (x.fEnds - now))
    | none => (r, 0, 0)
  else ((openT r id now).1, 0, (openT r id now).2.2)

theorem openT_cost (r : GRack) (id now : Int) : (openT r id now).1.cost ≤ r.cost := by
  have := less_cost r id
  unfold openT
  split
  · exact Nat.le_refl _
  · split
    · exact Nat.le_refl _
    · split
      · exact this
      · split <;> exact this

theorem s_AgainWrap_ok (r : GRack) (id now : Int) (hc : r.cost ≤ 1048576) : Valid PP GG F_S_AgainWrap [.agg r.c, .d (.int .i64 id), .d (.int .i64 now)] (.tup [.agg (againT r id now).1.o, .d (.int .i64 (againT r id now).2.1), .d (.int .i64 (againT r id now).2.2)]) [none, none, none] := by
  refine v_S_AgainWrap [.agg (againT r id now).1.o, .d (.int .i64 (againT r id now).2.1), .d (.int .i64 (againT r id now).2.2)] rfl rfl ?_
  have cpk := s_PeekWrap_ok (GG := GG) r id hc
  have cop := s_OpenWrap_ok (GG := GG) r id now hc
  have hoc := openT_cost r id now
  obtain ⟨t, ht⟩ : ∃ t, againT r id now = t := ⟨_, rfl⟩
  rw [ht]
  unfold againT at ht
  have hco : r.cost = r.fWraps.length + sumBy GWrap.cost r.fWraps := rfl
  by_cases h0 : (openT r id now).2.2 = 0
  · obtain ⟨h1, h2, i, x, o, e1, e2, e3, e4, e5, e6, e7⟩ := openT_done h0
    have hg := sumBy_get (f := GWrap.cost) e2
    have hcx : x.cost = x.fKind.length + x.fBox.cost := rfl
    have hol := openR_len e6
    have hn := inB_true h2
    have hwx := (rackOk_iff r).1 h1
    have hxe : 1 ≤ x.fEnds ∧ x.fEnds ≤ 1000000000 := by
      have := hwx.2.2.2.1 x (List.mem_of_getElem? e2)
      unfold wrapOk at this
      simp only [Bool.and_eq_true] at this
      exact inB_true this.1.2
    have hw : IntKind.i64.wrap (x.fEnds - now) = x.fEnds - now := wrap_id (by omega) (by omega)
    have hk : peekK r id = x.fKind := by unfold peekK; rw [if_pos h1, e1, Int.toNat_natCast, e2]; simp only; rw [if_neg (by omega)]
    have he : peekE r id = x.fEnds := by unfold peekE; rw [if_pos h1, e1, Int.toNat_natCast, e2]; simp only; rw [if_neg (by omega)]
    rw [if_pos h0, e3] at ht
    simp only [e7] at ht
    rw [e7] at cop hoc
    rw [hk, he] at cpk
    have cpu := s_PutWrap_ok (GG := GG) (lessR r id) x.fKind o now (x.fEnds - now) (by simp only at hoc; omega) (by omega) (by omega)
    subst ht
    simp only
    generalize peekC r id = pc at cpk
    generalize putR (lessR r id) x.fKind o now (x.fEnds - now) = g1 at cpu ⊢
    generalize putI (lessR r id) x.fKind o now (x.fEnds - now) = g2 at cpu ⊢
    generalize putC (lessR r id) x.fKind o now (x.fEnds - now) = g3 at cpu ⊢
    have hi1 := ind_rWrap g1.fWraps
    generalize lessR r id = lr at cop cpu hoc
    have hi2 := ind_rWrap lr.fWraps
    have hio := ind_bytes o
    repeat' (first | refine W_seq ?_ | refine W_skip ?_ | (refine W_regP fun K hK => ?_; simp [hw]) | (refine W_regPD fun K hK => ?_; simp [hw]) | (with_reducible refine hK _ ?_; clear hK K) | (with_reducible refine callQ (cpk) ?_; simp [hw]) | (with_reducible refine callQ (cop) ?_; simp [hw]) | (with_reducible refine callQ (cpu) ?_; simp [hw]) | (with_reducible refine goL_split (fun h => ?_) (fun h => ?_) <;> simp [hw]) | with_reducible refine And.intro ?_ ?_ | with_reducible exact okay_rfl rfl | with_reducible assumption | (refine W_cond rfl (fun h => ?_) (fun h => ?_) <;> try simp at h) | (refine W_ret ?_; simp [Fin, hw]) | omega)
  · rw [if_neg h0] at ht
    subst ht
    generalize openT r id now = q at cop h0 ⊢
    obtain ⟨g, o, c⟩ := q
    simp only at cop h0 ⊢
    have hi2 := ind_rWrap g.fWraps
    have hio := ind_bytes o
    generalize peekK r id = pk at cpk
    generalize peekE r id = pe at cpk
    generalize peekC r id = pc at cpk
    have hc0 : (c != 0) = true := by simpa using h0
    repeat' (first | refine W_seq ?_ | refine W_skip ?_ | (refine W_regP fun K hK => ?_; simp [hc0]) | (refine W_regPD fun K hK => ?_; simp [hc0]) | (with_reducible refine hK _ ?_; clear hK K) | (with_reducible refine callQ (cpk) ?_; simp [hc0]) | (with_reducible refine callQ (cop) ?_; simp [hc0]) | (with_reducible refine goL_split (fun h => ?_) (fun h => ?_) <;> simp [hc0]) | with_reducible refine And.intro ?_ ?_ | with_reducible exact okay_rfl rfl | with_reducible assumption | (refine W_cond rfl (fun h => ?_) (fun h => ?_) <;> try simp at h) | (refine W_ret ?_; simp [Fin, hc0]) | omega)

theorem i_AgainWrap_ok [MaxL GG] (r : GRack) (id now : Int) (hc : r.cost ≤ 1048576) : Valid PP GG F_I_AgainWrap [.agg r.c, .d (.int .i64 id), .d (.int .i64 now)] (.tup [.agg (againT r id now).1.o, .d (.int .i64 (againT r id now).2.1), .d (.int .i64 (againT r id now).2.2)]) [none, none, none] := by
  refine v_I_AgainWrap [.agg (againT r id now).1.o, .d (.int .i64 (againT r id now).2.1), .d (.int .i64 (againT r id now).2.2)] rfl rfl ?_
  have cr := isRack_ok (GG := GG) r hc
  have cn : Valid PP GG F_I_within [.d (.int .i64 now), .d (.int .i64 0), .d (.int .i64 1000000000)] (.d (.bool (inB now 0 1000000000))) [none, none, none] := within_ok _ _ _
  have cc := cloneRack_ok (GG := GG) r hc
  have hoc := openT_cost r id now
  obtain ⟨t, ht⟩ : ∃ t, againT r id now = t := ⟨_, rfl⟩
  rw [ht]
  unfold againT at ht
  have hco : r.cost = r.fWraps.length + sumBy GWrap.cost r.fWraps := rfl
  by_cases hb : rackOk r = false ∨ inB now 0 1000000000 = false
  · have ho : openT r id now = (r, [], 1) := by unfold openT; rw [if_pos hb]
    rw [ho] at ht
    simp only [show ¬ ((1 : Int) = 0) by omega, if_false] at ht
    subst ht
    simp only
    generalize rackOk r = b1 at cr hb
    generalize inB now 0 1000000000 = b2 at cn hb
    repeat' (first | refine W_seq ?_ | refine W_skip ?_ | (refine W_regP fun K hK => ?_; simp) | (refine W_regPD fun K hK => ?_; simp) | (with_reducible refine hK _ ?_; clear hK K) | (with_reducible refine callQ (cr) ?_; simp) | (with_reducible refine callQ (cn) ?_; simp) | (with_reducible refine callQ (cc) ?_; simp) | (with_reducible refine goL_split (fun h => ?_) (fun h => ?_) <;> simp) | with_reducible refine And.intro ?_ ?_ | with_reducible exact okay_rfl rfl | with_reducible assumption | (refine W_cond rfl (fun h => ?_) (fun h => ?_) <;> try simp at h) | (refine W_ret ?_; simp [Fin]) | omega)
    all_goals simp_all
  · have h1 : rackOk r = true := by cases h : rackOk r <;> simp_all
    have h2 : inB now 0 1000000000 = true := by cases h : inB now 0 1000000000 <;> simp_all
    have cop := openWrap_ok (GG := GG) r id now hc h1 h2
    rw [h1] at cr
    rw [h2] at cn
    by_cases h0 : (openT r id now).2.2 = 0
    · obtain ⟨_, _, i, x, o, e1, e2, e3, e4, e5, e6, e7⟩ := openT_done h0
      have hg := sumBy_get (f := GWrap.cost) e2
      have hcx : x.cost = x.fKind.length + x.fBox.cost := rfl
      have hol := openR_len e6
      have hn := inB_true h2
      have hwx := (rackOk_iff r).1 h1
      have hxe : 1 ≤ x.fEnds ∧ x.fEnds ≤ 1000000000 := by
        have := hwx.2.2.2.1 x (List.mem_of_getElem? e2)
        unfold wrapOk at this
        simp only [Bool.and_eq_true] at this
        exact inB_true this.1.2
      have hw : IntKind.i64.wrap (x.fEnds - now) = x.fEnds - now := wrap_id (by omega) (by omega)
      have hlt := (List.getElem?_eq_some_iff.1 e2).1
      have cwi := wrapIndex_ok (GG := GG) r id hc
      rw [e1] at cwi
      rw [if_pos h0, e3] at ht
      simp only [e7] at ht
      rw [e7] at cop hoc
      have cpu := putWrap_ok (GG := GG) (lessR r id) x.fKind o now (x.fEnds - now) (by simp only at hoc; omega) (by omega) (by omega) (rackOk_less h1 id)
      subst ht
      simp only
      generalize putR (lessR r id) x.fKind o now (x.fEnds - now) = g1 at cpu ⊢
      generalize putI (lessR r id) x.fKind o now (x.fEnds - now) = g2 at cpu ⊢
      generalize putC (lessR r id) x.fKind o now (x.fEnds - now) = g3 at cpu ⊢
      have hi1 := ind_rWrap g1.fWraps
      generalize lessR r id = lr at cop cpu hoc
      have hi2 := ind_rWrap lr.fWraps
      have hio := ind_bytes o
      repeat' (first | refine W_seq ?_ | refine W_skip ?_ | (refine W_regP fun K hK => ?_; simp [hw, e2]) | (refine W_regPD fun K hK => ?_; simp [hw, e2]) | (with_reducible refine hK _ ?_; clear hK K) | (with_reducible refine callQ (cr) ?_; simp [hw, e2]) | (with_reducible refine callQ (cn) ?_; simp [hw, e2]) | (with_reducible refine callQ (cop) ?_; simp [hw, e2]) | (with_reducible refine callQ (cwi) ?_; simp [hw, e2]) | (with_reducible refine callQ (cpu) ?_; simp [hw, e2]) | (with_reducible refine goL_split (fun h => ?_) (fun h => ?_) <;> simp [hw, e2]) | with_reducible refine And.intro ?_ ?_ | with_reducible exact okay_rfl rfl | with_reducible assumption | (refine W_cond rfl (fun h => ?_) (fun h => ?_) <;> try simp at h) | (refine W_ret ?_; simp [Fin, hw, e2]) | omega)
    · rw [if_neg h0] at ht
      subst ht
      generalize openT r id now = q at cop h0 ⊢
      obtain ⟨g, o, c⟩ := q
      simp only at cop h0 ⊢
      have hi2 := ind_rWrap g.fWraps
      have hio := ind_bytes o
      have hc0 : (c != 0) = true := by simpa using h0
      repeat' (first | refine W_seq ?_ | refine W_skip ?_ | (refine W_regP fun K hK => ?_; simp [hc0]) | (refine W_regPD fun K hK => ?_; simp [hc0]) | (with_reducible refine hK _ ?_; clear hK K) | (with_reducible refine callQ (cr) ?_; simp [hc0]) | (with_reducible refine callQ (cn) ?_; simp [hc0]) | (with_reducible refine callQ (cop) ?_; simp [hc0]) | (with_reducible refine goL_split (fun h => ?_) (fun h => ?_) <;> simp [hc0]) | with_reducible refine And.intro ?_ ?_ | with_reducible exact okay_rfl rfl | with_reducible assumption | (refine W_cond rfl (fun h => ?_) (fun h => ?_) <;> try simp at h) | (refine W_ret ?_; simp [Fin, hc0]) | omega)

theorem i_OpenWrap_ok [MaxL GG] (r : GRack) (id now : Int) (hc : r.cost ≤ 1048576) : Valid PP GG F_I_OpenWrap [.agg r.c, .d (.int .i64 id), .d (.int .i64 now)] (.tup [.agg (openT r id now).1.o, .own 0 1 (bytesD (openT r id now).2.1), .d (.int .i64 (openT r id now).2.2)]) [none, none, none] := by
  refine v_I_OpenWrap [.agg (openT r id now).1.o, .own 0 1 (bytesD (openT r id now).2.1), .d (.int .i64 (openT r id now).2.2)] rfl rfl ?_
  have cr := isRack_ok (GG := GG) r hc
  have cn : Valid PP GG F_I_within [.d (.int .i64 now), .d (.int .i64 0), .d (.int .i64 1000000000)] (.d (.bool (inB now 0 1000000000))) [none, none, none] := within_ok _ _ _
  have cc := cloneRack_ok (GG := GG) r hc
  have hco : r.cost = r.fWraps.length + sumBy GWrap.cost r.fWraps := rfl
  by_cases hb : rackOk r = false ∨ inB now 0 1000000000 = false
  · have ho : openT r id now = (r, [], 1) := by unfold openT; rw [if_pos hb]
    rw [ho]
    simp only
    generalize rackOk r = b1 at cr hb
    generalize inB now 0 1000000000 = b2 at cn hb
    repeat' (first | refine W_seq ?_ | refine W_skip ?_ | (refine W_regP fun K hK => ?_; simp) | (refine W_regPD fun K hK => ?_; simp) | (with_reducible refine hK _ ?_; clear hK K) | (with_reducible refine callQ (cr) ?_; simp) | (with_reducible refine callQ (cn) ?_; simp) | (with_reducible refine callQ (cc) ?_; simp) | (with_reducible refine goL_split (fun h => ?_) (fun h => ?_) <;> simp) | with_reducible refine And.intro ?_ ?_ | with_reducible exact okay_rfl rfl | with_reducible assumption | (refine W_cond rfl (fun h => ?_) (fun h => ?_) <;> try simp at h) | (refine W_ret ?_; simp [Fin]) | omega)
    all_goals simp_all [bytesD]
  · have h1 : rackOk r = true := by cases h : rackOk r <;> simp_all
    have h2 : inB now 0 1000000000 = true := by cases h : inB now 0 1000000000 <;> simp_all
    have cop := openWrap_ok (GG := GG) r id now hc h1 h2
    rw [h1] at cr
    rw [h2] at cn
    generalize openT r id now = q at cop ⊢
    obtain ⟨g, o, c⟩ := q
    simp only at cop ⊢
    have hi2 := ind_rWrap g.fWraps
    have hio := ind_bytes o
    repeat' (first | refine W_seq ?_ | refine W_skip ?_ | (refine W_regP fun K hK => ?_; simp) | (refine W_regPD fun K hK => ?_; simp) | (with_reducible refine hK _ ?_; clear hK K) | (with_reducible refine callQ (cr) ?_; simp) | (with_reducible refine callQ (cn) ?_; simp) | (with_reducible refine callQ (cop) ?_; simp) | (with_reducible refine goL_split (fun h => ?_) (fun h => ?_) <;> simp) | with_reducible refine And.intro ?_ ?_ | with_reducible exact okay_rfl rfl | with_reducible assumption | (refine W_cond rfl (fun h => ?_) (fun h => ?_) <;> try simp at h) | (refine W_ret ?_; simp [Fin]) | omega)

end Go.Proofs.YtpboimnecoakiaaDoor.Ab

