/-
  A part of a proof about the given program; what is proved is said where each theorem stands.
-/
import Derived.Test.YtpboimnecoakiaaDoorFrameA
import Derived.Test.YtpboimnecoakiaaDoorFrameB
import Derived.Test.YtpboimnecoakiaaDoorFrameC
import Derived.Test.YtpboimnecoakiaaDoorFrameD
import Derived.Test.YtpboimnecoakiaaDoorFrameE
import Derived.Test.YtpboimnecoakiaaDoorShelf
import Derived.Test.YtpboimnecoakiaaDoorCodesO
namespace Go.Proofs
end Go.Proofs
set_option linter.unusedSimpArgs false
set_option linter.unusedVariables false
set_option maxRecDepth 100000
set_option maxHeartbeats 2000000
namespace Go.Proofs.YtpboimnecoakiaaDoor.Ab
open Go.Proofs
variable {GG : GV}

theorem wrap_id {n : Int} (h1 : -9223372036854775808 ≤ n) (h2 : n ≤ 9223372036854775807) : IntKind.i64.wrap n = n := by
  rw [IntKind.wrap_i64]; omega

theorem row_one {R : List (List D)} {i : Nat} (h : ∀ r, r ∈ R → r.length = 1) (hi : i < R.length) : ∃ d, R[i]? = some [d] := by
  have := h _ (List.getElem_mem hi)
  rw [List.length_eq_one_iff] at this
  obtain ⟨d, hd⟩ := this
  exact ⟨d, by rw [List.getElem?_eq_getElem hi, hd]⟩

theorem set_one {R : List (List D)} {i : Nat} {d : D} (h : ∀ r, r ∈ R → r.length = 1) : ∀ r, r ∈ R.set i [d] → r.length = 1 := by
  intro r hr
  rcases List.mem_or_eq_of_mem_set hr with h1 | h1
  · exact h r h1
  · subst h1; rfl

theorem take_set_succ {R : List (List D)} {i : Nat} {r : List D} (hi : i < R.length) : (R.set i r).take (i + 1) = R.take i ++ [r] := by
  rw [List.take_add_one, List.take_set_of_le (Nat.le_refl _)]
  simp [hi]

theorem bytesD_succ {a : List UInt8} {i : Nat} {x : UInt8} (ha : a[i]? = some x) : bytesD (a.take (i + 1)) = bytesD (a.take i) ++ [[.int .u8 x.toNat]] := by
  rw [List.take_add_one, ha]; simp [bytesD]

theorem l01In_ok (x lo hi : Int) : Valid PP GG F_S_l01In [.d (.int .i64 x), .d (.int .i64 lo), .d (.int .i64 hi)] (.d (.bool (decide (lo ≤ x) && decide (x ≤ hi)))) [none, none, none] := by
  refine v_S_l01In [.d (.bool (decide (lo ≤ x) && decide (x ≤ hi)))] rfl rfl ?_
  refine W_seq (?_)
  apply W_regS
  · intro K hK
    simp
    repeat' (first | with_reducible exact hK | (with_reducible refine goL_split (fun _ => ?_) (fun _ => ?_) <;> simp) | with_reducible refine And.intro ?_ ?_ | with_reducible exact okay_rfl rfl | with_reducible assumption | omega)
  refine W_seq (?_)
  refine W_regB 6 (decide (lo ≤ x) && decide (x ≤ hi)) (fun K hK => ?_) ?_
  · simp
    repeat' (first | exact hK _ _ (by clear hK; first | omega | (exact decide_eq_false (by omega)) | (exact decide_eq_true (by omega)) | (exact (decide_eq_true (by omega)).symm) | (exact (decide_eq_false (by omega)).symm) | (exact decide_eq_decide.2 (by omega)) | (simp [*]; done) | (simp [*]; omega) | (simp_all; done) | (simp_all; omega) | (rw [Bool.eq_iff_iff]; simp at *; omega)) | (with_reducible refine goL_split (fun _ => ?_) (fun _ => ?_) <;> simp) | with_reducible refine And.intro ?_ ?_ | with_reducible exact okay_rfl rfl | with_reducible assumption | omega)
  refine W_ret ?_
  simp [Fin]
  all_goals omega

theorem within_ok (x lo hi : Int) : Valid PP GG F_I_within [.d (.int .i64 x), .d (.int .i64 lo), .d (.int .i64 hi)] (.d (.bool (decide (lo ≤ x) && decide (x ≤ hi)))) [none, none, none] := by
  refine v_I_within [.d (.bool (decide (lo ≤ x) && decide (x ≤ hi)))] rfl rfl ?_
  refine W_seq (?_)
  apply W_regS
  · intro K hK
    simp
    repeat' (first | with_reducible exact hK | (with_reducible refine goL_split (fun _ => ?_) (fun _ => ?_) <;> simp) | with_reducible refine And.intro ?_ ?_ | with_reducible exact okay_rfl rfl | with_reducible assumption | omega)
  refine W_seq (?_)
  refine W_regB 6 (decide (lo ≤ x) && decide (x ≤ hi)) (fun K hK => ?_) ?_
  · simp
    repeat' (first | exact hK _ _ (by clear hK; first | omega | (exact decide_eq_false (by omega)) | (exact decide_eq_true (by omega)) | (exact (decide_eq_true (by omega)).symm) | (exact (decide_eq_false (by omega)).symm) | (exact decide_eq_decide.2 (by omega)) | (simp [*]; done) | (simp [*]; omega) | (simp_all; done) | (simp_all; omega) | (rw [Bool.eq_iff_iff]; simp at *; omega)) | (with_reducible refine goL_split (fun _ => ?_) (fun _ => ?_) <;> simp) | with_reducible refine And.intro ?_ ?_ | with_reducible exact okay_rfl rfl | with_reducible assumption | omega)
  refine W_ret ?_
  simp [Fin]
  all_goals omega

def dA (l : List UInt8) : Nat := l.foldl (fun p b => (131 * p + b.toNat + 1) % 2147483647) 7

def dB (l : List UInt8) : Nat := l.foldl (fun p b => (137 * p + b.toNat + 3) % 2147483629) 11

def digN (l : List UInt8) : Int := 2147483648 * (dA l : Int) + (dB l : Int)

theorem dA_lt (l : List UInt8) : dA l < 2147483647 := by
  rcases List.eq_nil_or_concat l with rfl | ⟨r, x, rfl⟩
  · simp [dA]
  · simp only [dA, List.concat_eq_append, List.foldl_append, List.foldl_cons, List.foldl_nil]; omega

theorem dB_lt (l : List UInt8) : dB l < 2147483629 := by
  rcases List.eq_nil_or_concat l with rfl | ⟨r, x, rfl⟩
  · simp [dB]
  · simp only [dB, List.concat_eq_append, List.foldl_append, List.foldl_cons, List.foldl_nil]; omega

theorem dA_succ {l : List UInt8} {i : Nat} {x : UInt8} (h : l[i]? = some x) : dA (l.take (i + 1)) = (131 * dA (l.take i) + x.toNat + 1) % 2147483647 := by
  rw [List.take_add_one, h]; simp [dA, List.foldl_append]

theorem dB_succ {l : List UInt8} {i : Nat} {x : UInt8} (h : l[i]? = some x) : dB (l.take (i + 1)) = (137 * dB (l.take i) + x.toNat + 3) % 2147483629 := by
  rw [List.take_add_one, h]; simp [dB, List.foldl_append]

theorem stepA (p : Nat) (x : UInt8) (hp : p < 2147483647) : (IntKind.i64.wrap (IntKind.i64.wrap (IntKind.i64.wrap (131 * (p : Int)) + IntKind.i64.wrap (x.toNat : Int)) + 1)).tmod 2147483647 = (((131 * p + x.toNat + 1) % 2147483647 : Nat) : Int) := by
  have hx := x.toNat_lt
  rw [wrap_id (n := 131 * (p : Int)) (by omega) (by omega), wrap_id (n := (x.toNat : Int)) (by omega) (by omega), wrap_id (n := 131 * (p : Int) + x.toNat) (by omega) (by omega), wrap_id (by omega) (by omega)]
  rw [Int.tmod_eq_emod_of_nonneg (by omega)]
  omega

theorem stepB (p : Nat) (x : UInt8) (hp : p < 2147483629) : (IntKind.i64.wrap (IntKind.i64.wrap (IntKind.i64.wrap (137 * (p : Int)) + IntKind.i64.wrap (x.toNat : Int)) + 3)).tmod 2147483629 = (((137 * p + x.toNat + 3) % 2147483629 : Nat) : Int) := by
  have hx := x.toNat_lt
  rw [wrap_id (n := 137 * (p : Int)) (by omega) (by omega), wrap_id (n := (x.toNat : Int)) (by omega) (by omega), wrap_id (n := 137 * (p : Int) + x.toNat) (by omega) (by omega), wrap_id (by omega) (by omega)]
  rw [Int.tmod_eq_emod_of_nonneg (by omega)]
  omega

theorem digFin (l : List UInt8) : IntKind.i64.wrap (IntKind.i64.wrap (2147483648 * (dA l : Int)) + (dB l : Int)) = digN l := by
  have := dA_lt l
  have := dB_lt l
  rw [wrap_id (n := 2147483648 * (dA l : Int)) (by omega) (by omega), wrap_id (by omega) (by omega)]; rfl

theorem Digest_ok (a : List UInt8) (ha : a.length ≤ 140737488355328) : Valid PP GG F_S_Digest [.d (.slc 1 (bytesD a))] (.d (.int .i64 (digN a))) [none] := by
  refine v_S_Digest [.d (.int .i64 (digN a))] rfl rfl ?_
  refine W_seq (?_)
  apply W_regS
  · intro K hK
    simp
    repeat' (first | with_reducible exact hK | (with_reducible refine goL_split (fun _ => ?_) (fun _ => ?_) <;> simp) | with_reducible refine And.intro ?_ ?_ | with_reducible exact okay_rfl rfl | with_reducible assumption | omega)
  refine W_seq (?_)
  apply W_regS
  · intro K hK
    simp
    repeat' (first | with_reducible exact hK | (with_reducible refine goL_split (fun _ => ?_) (fun _ => ?_) <;> simp) | with_reducible refine And.intro ?_ ?_ | with_reducible exact okay_rfl rfl | with_reducible assumption | omega)
  refine W_seq (?_)
  apply W_regS
  · intro K hK
    simp
    repeat' (first | with_reducible exact hK | (with_reducible refine goL_split (fun _ => ?_) (fun _ => ?_) <;> simp) | with_reducible refine And.intro ?_ ?_ | with_reducible exact okay_rfl rfl | with_reducible assumption | omega)
  refine W_seq (W_seq (?_))
  apply W_regS
  · intro K hK
    simp
    repeat' (first | with_reducible exact hK | (with_reducible refine goL_split (fun _ => ?_) (fun _ => ?_) <;> simp) | with_reducible refine And.intro ?_ ?_ | with_reducible exact okay_rfl rfl | with_reducible assumption | omega)
  refine W_block (W_loop (fun n st => ∃ (i : Nat), n = a.length - i ∧ i ≤ a.length ∧
    st = ⟨[], [(0, .d (.slc 1 (bytesD a))), (3, .d (.int .i64 (dA (a.take i)))), (4, .d (.int .i64 (dB (a.take i)))), (5, .d (.int .i64 i))], [], 0⟩) _ ⟨0, rfl, by omega, rfl⟩ ?_)
  rintro n st ⟨i, rfl, hi, rfl⟩
  refine W_seq (W_seq (?_))
  apply W_regS
  · intro K hK
    simp
    repeat' (first | with_reducible exact hK | (with_reducible refine goL_split (fun _ => ?_) (fun _ => ?_) <;> simp) | with_reducible refine And.intro ?_ ?_ | with_reducible exact okay_rfl rfl | with_reducible assumption | omega)
  refine W_cond rfl (fun h => W_skip ?_) (fun h => W_exit ?_)
  · simp at h
    have hx := List.getElem?_eq_getElem h
    generalize a[i] = x at hx
    have sA := stepA _ x (dA_lt (a.take i))
    have sB := stepB _ x (dB_lt (a.take i))
    rw [← dA_succ hx] at sA
    rw [← dB_succ hx] at sB
    refine W_seq (W_block (W_seq ?_))
    apply W_regS
    · intro K hK
      simp [hx, sA]
      repeat' (first | with_reducible exact hK | (with_reducible refine goL_split (fun _ => ?_) (fun _ => ?_) <;> simp [hx, sA]) | with_reducible refine And.intro ?_ ?_ | with_reducible exact okay_rfl rfl | with_reducible assumption | omega)
    apply W_regS
    · intro K hK
      simp [hx, sB]
      repeat' (first | with_reducible exact hK | (with_reducible refine goL_split (fun _ => ?_) (fun _ => ?_) <;> simp [hx, sB]) | with_reducible refine And.intro ?_ ?_ | with_reducible exact okay_rfl rfl | with_reducible assumption | omega)
    apply W_regS
    · intro K hK
      simp
      repeat' (first | with_reducible exact hK | (with_reducible refine goL_split (fun _ => ?_) (fun _ => ?_) <;> simp) | with_reducible refine And.intro ?_ ?_ | with_reducible exact okay_rfl rfl | with_reducible assumption | omega)
    exact ⟨a.length - (i + 1), by omega, i + 1, rfl, h, by
      simp [gc, closeN, liveA, gcV, gcO, renA, namesAs, namesA]
      rw [wrap_id (by omega) (by omega)]⟩
  · simp at h
    rw [if_pos rfl]
    refine W_seq (?_)
    apply W_regS
    · intro K hK
      simp [List.take_of_length_le h, digFin]
      repeat' (first | with_reducible exact hK | (with_reducible refine goL_split (fun _ => ?_) (fun _ => ?_) <;> simp [List.take_of_length_le h, digFin]) | with_reducible refine And.intro ?_ ?_ | with_reducible exact okay_rfl rfl | with_reducible assumption | omega)
    refine W_ret ?_
    simp [Fin]
    all_goals omega

theorem digest_ok (a : List UInt8) (ha : a.length ≤ 140737488355328) : Valid PP GG F_I_digest [.d (.slc 1 (bytesD a))] (.d (.int .i64 (digN a))) [none] := by
  refine v_I_digest [.d (.int .i64 (digN a))] rfl rfl ?_
  refine W_seq (?_)
  apply W_regS
  · intro K hK
    simp
    repeat' (first | with_reducible exact hK | (with_reducible refine goL_split (fun _ => ?_) (fun _ => ?_) <;> simp) | with_reducible refine And.intro ?_ ?_ | with_reducible exact okay_rfl rfl | with_reducible assumption | omega)
  refine W_seq (?_)
  apply W_regS
  · intro K hK
    simp
    repeat' (first | with_reducible exact hK | (with_reducible refine goL_split (fun _ => ?_) (fun _ => ?_) <;> simp) | with_reducible refine And.intro ?_ ?_ | with_reducible exact okay_rfl rfl | with_reducible assumption | omega)
  refine W_seq (W_seq (?_))
  apply W_regS
  · intro K hK
    simp
    repeat' (first | with_reducible exact hK | (with_reducible refine goL_split (fun _ => ?_) (fun _ => ?_) <;> simp) | with_reducible refine And.intro ?_ ?_ | with_reducible exact okay_rfl rfl | with_reducible assumption | omega)
  refine W_block (W_loop (fun n st => ∃ (i : Nat), n = a.length - i ∧ i ≤ a.length ∧
    st = ⟨[], [(3, .d (.int .i64 (dA (a.take i)))), (4, .d (.int .i64 (dB (a.take i)))), (7, .d (.slc 1 (bytesD a))), (8, .d (.int .i64 a.length)), (9, .d (.int .i64 i))], [], 0⟩) _ ⟨0, rfl, by omega, rfl⟩ ?_)
  rintro n st ⟨i, rfl, hi, rfl⟩
  refine W_seq (?_)
  apply W_regS
  · intro K hK
    simp
    repeat' (first | with_reducible exact hK | (with_reducible refine goL_split (fun _ => ?_) (fun _ => ?_) <;> simp) | with_reducible refine And.intro ?_ ?_ | with_reducible exact okay_rfl rfl | with_reducible assumption | omega)
  refine W_seq (?_)
  refine W_cond rfl (fun h => W_skip ?_) (fun h => W_exit ?_)
  · simp at h
    have hx := List.getElem?_eq_getElem h
    generalize a[i] = x at hx
    have sA := stepA _ x (dA_lt (a.take i))
    have sB := stepB _ x (dB_lt (a.take i))
    rw [← dA_succ hx] at sA
    rw [← dB_succ hx] at sB
    refine W_seq (W_block (W_seq ?_))
    apply W_regS
    · intro K hK
      simp [hx]
      repeat' (first | with_reducible exact hK | (with_reducible refine goL_split (fun _ => ?_) (fun _ => ?_) <;> simp [hx]) | with_reducible refine And.intro ?_ ?_ | with_reducible exact okay_rfl rfl | with_reducible assumption | omega)
    refine W_seq (?_)
    apply W_regS
    · intro K hK
      simp [hx, sA]
      repeat' (first | with_reducible exact hK | (with_reducible refine goL_split (fun _ => ?_) (fun _ => ?_) <;> simp [hx, sA]) | with_reducible refine And.intro ?_ ?_ | with_reducible exact okay_rfl rfl | with_reducible assumption | omega)
    apply W_regS
    · intro K hK
      simp [hx, sB]
      repeat' (first | with_reducible exact hK | (with_reducible refine goL_split (fun _ => ?_) (fun _ => ?_) <;> simp [hx, sB]) | with_reducible refine And.intro ?_ ?_ | with_reducible exact okay_rfl rfl | with_reducible assumption | omega)
    apply W_regS
    · intro K hK
      simp
      repeat' (first | with_reducible exact hK | (with_reducible refine goL_split (fun _ => ?_) (fun _ => ?_) <;> simp) | with_reducible refine And.intro ?_ ?_ | with_reducible exact okay_rfl rfl | with_reducible assumption | omega)
    exact ⟨a.length - (i + 1), by omega, i + 1, rfl, h, by
      simp [gc, closeN, liveA, gcV, gcO, renA, namesAs, namesA]
      rw [wrap_id (by omega) (by omega)]⟩
  · simp at h
    rw [if_pos rfl]
    refine W_seq (?_)
    apply W_regS
    · intro K hK
      simp [List.take_of_length_le h, digFin]
      repeat' (first | with_reducible exact hK | (with_reducible refine goL_split (fun _ => ?_) (fun _ => ?_) <;> simp [List.take_of_length_le h, digFin]) | with_reducible refine And.intro ?_ ?_ | with_reducible exact okay_rfl rfl | with_reducible assumption | omega)
    refine W_ret ?_
    simp [Fin]
    all_goals omega

theorem u8_all {p : UInt8 → Prop} (h : ∀ n : _root_.Fin 256, p (UInt8.ofNat n.val)) (x : UInt8) : p x := by
  have := h ⟨x.toNat, x.toNat_lt⟩
  simpa using this

def sumBy {α : Type} (f : α → Nat) : List α → Nat
  | [] => 0
  | x :: r => f x + sumBy f r

theorem sumBy_mem {α : Type} {f : α → Nat} {a : List α} {x : α} (h : x ∈ a) : f x ≤ sumBy f a := by
  induction a with
  | nil => simp at h
  | cons y a ih =>
    rcases List.mem_cons.1 h with rfl | h
    · simp [sumBy]
    · have := ih h; simp [sumBy]; omega

theorem sumBy_get {α : Type} {f : α → Nat} {a : List α} {i : Nat} {x : α} (h : a[i]? = some x) : f x ≤ sumBy f a := sumBy_mem (List.mem_of_getElem? h)

theorem set_mid {α : Type} {P Q : List α} {x y : α} {i : Nat} (h : P.length = i) : (P ++ x :: Q).set i y = (P ++ [y]) ++ Q := by
  subst h; simp

theorem mid_get {α : Type} {P Q : List α} {x : α} {i : Nat} (h : P.length = i) : (P ++ x :: Q)[i]? = some x := by
  subst h; simp

theorem drop_get {α : Type} {a : List α} {i : Nat} {x : α} (h : a[i]? = some x) : a.drop i = x :: a.drop (i + 1) := by
  obtain ⟨h1, rfl⟩ := List.getElem?_eq_some_iff.1 h
  exact List.drop_eq_getElem_cons h1

structure GBox where
  fNonce : Int
  fData : List UInt8
  fTag : Int
  deriving DecidableEq

@[simp] abbrev GBox.row (x : GBox) : List D := [.int .i64 x.fNonce, .slc 1 (bytesD x.fData), .int .i64 x.fTag]

@[simp] abbrev GBox.c (x : GBox) : List C := [.d (.int .i64 x.fNonce), .d (.slc 1 (bytesD x.fData)), .d (.int .i64 x.fTag)]

@[simp] abbrev GBox.o (x : GBox) : List C := [.d (.int .i64 x.fNonce), .own 0 1 (bytesD x.fData), .d (.int .i64 x.fTag)]

def GBox.cost (x : GBox) : Nat := x.fData.length

def GBox.ok (x : GBox) : Prop := int64 x.fNonce ∧ x.fData.length ≤ maxLen ∧ int64 x.fTag

structure GWrap where
  fId : Int
  fEnds : Int
  fKind : List UInt8
  fBox : GBox
  deriving DecidableEq

@[simp] abbrev GWrap.row (x : GWrap) : List D := [.int .i64 x.fId, .int .i64 x.fEnds, .str x.fKind, .int .i64 x.fBox.fNonce, .slc 1 (bytesD x.fBox.fData), .int .i64 x.fBox.fTag]

@[simp] abbrev GWrap.c (x : GWrap) : List C := [.d (.int .i64 x.fId), .d (.int .i64 x.fEnds), .d (.str x.fKind), .d (.int .i64 x.fBox.fNonce), .d (.slc 1 (bytesD x.fBox.fData)), .d (.int .i64 x.fBox.fTag)]

@[simp] abbrev GWrap.o (x : GWrap) : List C := [.d (.int .i64 x.fId), .d (.int .i64 x.fEnds), .d (.str x.fKind), .d (.int .i64 x.fBox.fNonce), .own 0 1 (bytesD x.fBox.fData), .d (.int .i64 x.fBox.fTag)]

def rWrap (l : List GWrap) : List (List D) := l.map GWrap.row

@[simp] theorem rWrap_len (l : List GWrap) : (rWrap l).length = l.length := by simp [rWrap]

@[simp] theorem rWrap_get (l : List GWrap) (i : Nat) : (rWrap l)[i]? = (l[i]?).map GWrap.row := by simp [rWrap]

def GWrap.cost (x : GWrap) : Nat := x.fKind.length + x.fBox.cost

def GWrap.ok (x : GWrap) : Prop := int64 x.fId ∧ int64 x.fEnds ∧ x.fKind.length ≤ maxLen ∧ x.fBox.ok

structure GRack where
  fKey : Int
  fNext : Int
  fWraps : List GWrap
  deriving DecidableEq

@[simp] abbrev GRack.row (x : GRack) : List D := [.int .i64 x.fKey, .int .i64 x.fNext, .slc 6 (rWrap x.fWraps)]

@[simp] abbrev GRack.c (x : GRack) : List C := [.d (.int .i64 x.fKey), .d (.int .i64 x.fNext), .d (.slc 6 (rWrap x.fWraps))]

@[simp] abbrev GRack.o (x : GRack) : List C := [.d (.int .i64 x.fKey), .d (.int .i64 x.fNext), .own 1 6 (rWrap x.fWraps)]

def GRack.cost (x : GRack) : Nat := (x.fWraps.length + sumBy GWrap.cost x.fWraps)

def GRack.ok (x : GRack) : Prop := int64 x.fKey ∧ int64 x.fNext ∧ x.fWraps.length ≤ maxLen ∧ (∀ y, y ∈ x.fWraps → y.ok)

def segB (b : UInt8) : Bool := decide ((97 ≤ b.toNat ∧ b.toNat ≤ 122 ∨ 48 ≤ b.toNat ∧ b.toNat ≤ 57) ∨ b.toNat = 45)

def segOk (s : List UInt8) : Bool := decide (1 ≤ s.length ∧ s.length ≤ 16) && s.all segB

def headCons (b : UInt8) : List (List UInt8) → List (List UInt8)
  | [] => []
  | p :: ps => (b :: p) :: ps

def headApp (c : List UInt8) : List (List UInt8) → List (List UInt8)
  | [] => []
  | p :: ps => (c ++ p) :: ps

/-- A text cut at each byte c. -/
def cutAt (c : UInt8) : List UInt8 → List (List UInt8)
  | [] => [[]]
  | b :: r => if b = c then [] :: cutAt c r else headCons b (cutAt c r)

theorem cutAt_ne (c : UInt8) (s : List UInt8) : ∃ p ps, cutAt c s = p :: ps := by
  induction s with
  | nil => exact ⟨_, _, rfl⟩
  | cons b r ih =>
    obtain ⟨p, ps, h⟩ := ih
    unfold cutAt
    split
    · exact ⟨_, _, rfl⟩
    · rw [h]; exact ⟨_, _, rfl⟩

theorem headApp_nil (c : UInt8) (s : List UInt8) : headApp [] (cutAt c s) = cutAt c s := by
  obtain ⟨p, ps, h⟩ := cutAt_ne c s
  rw [h]; rfl

theorem headApp_hit (c : UInt8) (cur r : List UInt8) : headApp cur (cutAt c (c :: r)) = cur :: headApp [] (cutAt c r) := by
  rw [headApp_nil, cutAt, if_pos rfl]; simp [headApp]

theorem headApp_miss {c b : UInt8} (h : b ≠ c) (cur r : List UInt8) : headApp cur (cutAt c (b :: r)) = headApp (cur ++ [b]) (cutAt c r) := by
  obtain ⟨p, ps, e⟩ := cutAt_ne c r
  rw [cutAt, if_neg h, e]; simp [headCons, headApp]

theorem cutAt_len (c : UInt8) (s : List UInt8) : (cutAt c s).length ≤ s.length + 1 := by
  induction s with
  | nil => simp [cutAt]
  | cons b r ih =>
    unfold cutAt
    split
    · simp; exact ih
    · obtain ⟨p, ps, e⟩ := cutAt_ne c r
      rw [e] at ih ⊢
      simp [headCons] at ih ⊢; omega

theorem cutAt_mem {c : UInt8} : ∀ (s : List UInt8) {p : List UInt8}, p ∈ cutAt c s → p.length ≤ s.length := by
  intro s
  induction s with
  | nil => intro p h; simp [cutAt] at h; subst h; simp
  | cons b r ih =>
    intro p h
    unfold cutAt at h
    split at h
    · rcases List.mem_cons.1 h with rfl | h
      · simp
      · have := ih h; simp; omega
    · obtain ⟨q, qs, e⟩ := cutAt_ne c r
      rw [e] at h ih
      simp only [headCons] at h
      rcases List.mem_cons.1 h with rfl | h
      · have := ih (List.mem_cons_self ..); simp; omega
      · have := ih (List.mem_cons_of_mem _ h); simp; omega

/-- What is in a text is in one of its pieces, or is the cutting byte. -/
theorem cutAt_all {c : UInt8} {P : UInt8 → Prop} (hc : P c) : ∀ (s : List UInt8), (∀ p, p ∈ cutAt c s → ∀ b, b ∈ p → P b) → ∀ b, b ∈ s → P b := by
  intro s
  induction s with
  | nil => intro _ b h; simp at h
  | cons x r ih =>
    intro h b hb
    unfold cutAt at h
    split at h
    · rename_i e
      rcases List.mem_cons.1 hb with rfl | hb
      · rw [e]; exact hc
      · exact ih (fun p hp => h p (by simp [hp])) b hb
    · obtain ⟨q, qs, e⟩ := cutAt_ne c r
      rw [e] at h ih
      simp only [headCons] at h
      rcases List.mem_cons.1 hb with rfl | hb
      · exact h _ (List.mem_cons_self ..) _ (by simp)
      · refine ih (fun p hp b' hb' => ?_) b hb
        rcases List.mem_cons.1 hp with rfl | hp
        · exact h _ (List.mem_cons_self ..) b' (by simp [hb'])
        · exact h p (by simp [hp]) b' hb'

def segAt (l : List (List UInt8)) (i : Nat) : Bool := match l[i]? with | some s => segOk s || (s == [43]) || (s == [42] && decide (i + 1 = l.length)) | none => true

def globOk (s : List UInt8) : Bool := decide (s.length ≤ 120) && ((List.range (cutAt 47 s).length).all (segAt (cutAt 47 s)) && decide ((cutAt 47 s).length ≤ 8))

def starB (b : UInt8) : Bool := decide (b.toNat = 43 ∨ b.toNat = 42)

def pathOk (s : List UInt8) : Bool := globOk s && !s.any starB

theorem globOk_ascii {s : List UInt8} (h : globOk s = true) : ∀ b, b ∈ s → b.toNat < 128 := by
  simp only [globOk, Bool.and_eq_true, List.all_eq_true, List.mem_range] at h
  refine cutAt_all (c := 47) (P := fun b => b.toNat < 128) (by decide) s fun p hp b hb => ?_
  obtain ⟨i, hi, he⟩ := List.mem_iff_getElem.1 hp
  have := h.2.1 i hi
  unfold segAt at this
  rw [List.getElem?_eq_getElem hi, he] at this
  simp only [Bool.or_eq_true, Bool.and_eq_true, beq_iff_eq] at this
  rcases this with (h1 | h1) | h1
  · unfold segOk at h1
    simp only [Bool.and_eq_true, List.all_eq_true] at h1
    have := h1.2 b hb
    unfold segB at this
    simp at this
    omega
  · subst h1; simp at hb; subst hb; decide
  · obtain ⟨h1, _⟩ := h1; subst h1; simp at hb; subst hb; decide

theorem all_no {α : Type} {p : α → Bool} {l : List α} {i : Nat} {x : α} (h : l[i]? = some x) (hx : p x = false) : l.all p = false := by
  rw [List.all_eq_false]; exact ⟨x, List.mem_of_getElem? h, by simp [hx]⟩

theorem any_yes {α : Type} {p : α → Bool} {l : List α} {i : Nat} {x : α} (h : l[i]? = some x) (hx : p x = true) : l.any p = true := by
  rw [List.any_eq_true]; exact ⟨x, List.mem_of_getElem? h, hx⟩

theorem take_all {α : Type} {p : α → Prop} {l : List α} {i : Nat} {x : α} (ha : l[i]? = some x) (hn : ∀ y, y ∈ l.take i → p y) (hx : p x) : ∀ y, y ∈ l.take (i + 1) → p y := by
  intro y hy
  rw [List.take_add_one, ha] at hy
  rcases List.mem_append.1 hy with hy | hy
  · exact hn y hy
  · simp at hy; subst hy; exact hx

theorem getD_of {s : List UInt8} {i : Nat} {x : UInt8} (h : s[i]? = some x) : s[i]?.getD 0 = x := by rw [h]; rfl

theorem l01Segment_ok (s : List UInt8) (hs : s.length ≤ 281474976710656) : Valid PP GG F_S_l01Segment [.d (.str s)] (.d (.bool (segOk s))) [none] := by
  refine v_S_l01Segment [.d (.bool (segOk s))] rfl rfl ?_
  have cl := l01In_ok (GG := GG) s.length 1 16
  obtain ⟨p, hp⟩ : ∃ p, (decide (1 ≤ (s.length : Int)) && decide ((s.length : Int) ≤ 16)) = p := ⟨_, rfl⟩
  have hp2 : segOk s = (p && s.all segB) := by
    unfold segOk
    rw [← hp]
    congr 1
    rw [Bool.eq_iff_iff]; simp; omega
  rw [hp] at cl
  refine W_seq (?_)
  apply W_regS
  · intro K hK
    simp
    repeat' (first | with_reducible exact hK | (with_reducible refine goL_split (fun _ => ?_) (fun _ => ?_) <;> simp) | with_reducible refine And.intro ?_ ?_ | with_reducible exact okay_rfl rfl | with_reducible assumption | omega)
  refine W_seq (W_seq (?_))
  apply W_regS
  · intro K hK
    simp
    repeat' (first | with_reducible exact hK | (with_reducible refine callQ (cl) ?_; simp) | (with_reducible refine goL_split (fun _ => ?_) (fun _ => ?_) <;> simp) | with_reducible refine And.intro ?_ ?_ | with_reducible exact okay_rfl rfl | with_reducible assumption | omega)
  refine W_cond rfl (fun h => W_seq ?_) (fun h => W_skip ?_)
  · simp at h
    subst h
    apply W_regS
    · intro K hK
      simp
      repeat' (first | with_reducible exact hK | (with_reducible refine goL_split (fun _ => ?_) (fun _ => ?_) <;> simp) | with_reducible refine And.intro ?_ ?_ | with_reducible exact okay_rfl rfl | with_reducible assumption | omega)
    refine W_ret ?_
    simp [Fin, hp2]
    all_goals omega
  simp at h
  subst h
  refine W_seq (W_seq (?_))
  apply W_regS
  · intro K hK
    simp
    repeat' (first | with_reducible exact hK | (with_reducible refine goL_split (fun _ => ?_) (fun _ => ?_) <;> simp) | with_reducible refine And.intro ?_ ?_ | with_reducible exact okay_rfl rfl | with_reducible assumption | omega)
  refine W_block (W_loop (fun n st => ∃ i : Nat, n = s.length - i ∧ i ≤ s.length ∧ (∀ y, y ∈ s.take i → segB y = true) ∧ st = ⟨[], [(0, .d (.str s)), (3, .d (.int .i64 i))], [], 0⟩) _ ⟨0, rfl, by omega, fun y h => by simp at h, rfl⟩ ?_)
  rintro n st ⟨i, rfl, hi, hn, rfl⟩
  refine W_seq (W_seq (?_))
  apply W_regS
  · intro K hK
    simp
    repeat' (first | with_reducible exact hK | (with_reducible refine goL_split (fun _ => ?_) (fun _ => ?_) <;> simp) | with_reducible refine And.intro ?_ ?_ | with_reducible exact okay_rfl rfl | with_reducible assumption | omega)
  refine W_cond rfl (fun h => W_skip ?_) (fun h => W_exit ?_)
  · simp at h
    have ha := List.getElem?_eq_getElem h
    generalize s[i] = x at ha
    have hd := getD_of ha
    refine W_seq (W_block (W_seq ?_))
    apply W_regS
    · intro K hK
      simp [hd]
      repeat' (first | with_reducible exact hK | (with_reducible refine goL_split (fun _ => ?_) (fun _ => ?_) <;> simp [hd]) | with_reducible refine And.intro ?_ ?_ | with_reducible exact okay_rfl rfl | with_reducible assumption | omega)
    obtain ⟨v, hv⟩ : ∃ v, x.toNat = v := ⟨_, rfl⟩
    have hnb : segB x = decide ((97 ≤ v ∧ v ≤ 122 ∨ 48 ≤ v ∧ v ≤ 57) ∨ v = 45) := by rw [← hv]; rfl
    rw [hv]
    refine W_seq (?_)
    refine W_regB 37 (decide (¬ ((97 ≤ v ∧ v ≤ 122 ∨ 48 ≤ v ∧ v ≤ 57) ∨ v = 45))) (fun K hK => ?_) ?_
    · simp
      repeat' (first | exact hK _ _ (by clear hK; first | omega | (exact decide_eq_false (by omega)) | (exact decide_eq_true (by omega)) | (exact (decide_eq_true (by omega)).symm) | (exact (decide_eq_false (by omega)).symm) | (exact decide_eq_decide.2 (by omega)) | (simp [*]; done) | (simp [*]; omega) | (simp_all; done) | (simp_all; omega) | (rw [Bool.eq_iff_iff]; simp at *; omega)) | (with_reducible refine goL_split (fun _ => ?_) (fun _ => ?_) <;> simp) | with_reducible refine And.intro ?_ ?_ | with_reducible exact okay_rfl rfl | with_reducible assumption | omega)
    refine W_cond rfl (fun h2 => W_seq ?_) (fun h2 => W_skip ?_)
    · rw [h2]
      apply W_regS
      · intro K hK
        simp
        repeat' (first | with_reducible exact hK | (with_reducible refine goL_split (fun _ => ?_) (fun _ => ?_) <;> simp) | with_reducible refine And.intro ?_ ?_ | with_reducible exact okay_rfl rfl | with_reducible assumption | omega)
      have : segOk s = false := by
        rw [hp2, all_no ha (by rw [hnb]; exact decide_eq_false (of_decide_eq_true h2)), Bool.and_false]
      refine W_ret ?_
      simp [Fin, this]
      all_goals omega
    rw [h2]
    apply W_regS
    · intro K hK
      simp
      repeat' (first | with_reducible exact hK | (with_reducible refine goL_split (fun _ => ?_) (fun _ => ?_) <;> simp) | with_reducible refine And.intro ?_ ?_ | with_reducible exact okay_rfl rfl | with_reducible assumption | omega)
    exact ⟨s.length - (i + 1), by omega, i + 1, rfl, h, take_all ha hn (by rw [hnb]; exact decide_eq_true (Decidable.not_not.1 (of_decide_eq_false h2))), by simp [gc, closeN, liveA, gcV, gcO, renA, namesAs, namesA]; rw [wrap_id (by omega) (by omega)]⟩
  · simp at h
    rw [if_pos rfl]
    rw [List.take_of_length_le h] at hn
    refine W_seq (?_)
    apply W_regS
    · intro K hK
      simp
      repeat' (first | with_reducible exact hK | (with_reducible refine goL_split (fun _ => ?_) (fun _ => ?_) <;> simp) | with_reducible refine And.intro ?_ ?_ | with_reducible exact okay_rfl rfl | with_reducible assumption | omega)
    have : segOk s = true := by rw [hp2, List.all_eq_true.2 hn]; rfl
    refine W_ret ?_
    simp [Fin, this]
    all_goals omega

theorem take_drop_snoc {s : List UInt8} {a i : Nat} {x : UInt8} (h : s[i]? = some x) (ha : a ≤ i) : (s.take (i + 1)).drop a = (s.take i).drop a ++ [x] := by
  have hl := (List.getElem?_eq_some_iff.1 h).1
  rw [List.take_add_one, h, List.drop_append_of_le_length (by rw [List.length_take]; omega)]; rfl

theorem l01Parts_ok (s : List UInt8) (c : UInt8) (hs : s.length ≤ 4194304) : Valid PP GG F_S_l01Parts [.d (.str s), .d (.int .u8 c.toNat)] (.own 0 1 (strsD (cutAt c s))) [none, none] := by
  refine v_S_l01Parts [.own 0 1 (strsD (cutAt c s))] rfl rfl ?_
  refine W_seq (?_)
  apply W_regS
  · intro K hK
    simp
    repeat' (first | with_reducible exact hK | (with_reducible refine goL_split (fun _ => ?_) (fun _ => ?_) <;> simp) | with_reducible refine And.intro ?_ ?_ | with_reducible exact okay_rfl rfl | with_reducible assumption | omega)
  refine W_seq (?_)
  apply W_regS
  · intro K hK
    simp [litA]
    repeat' (first | with_reducible exact hK | (with_reducible refine goL_split (fun _ => ?_) (fun _ => ?_) <;> simp [litA]) | with_reducible refine And.intro ?_ ?_ | with_reducible exact okay_rfl rfl | with_reducible assumption | omega)
  refine W_seq (?_)
  apply W_regS
  · intro K hK
    simp
    repeat' (first | with_reducible exact hK | (with_reducible refine goL_split (fun _ => ?_) (fun _ => ?_) <;> simp) | with_reducible refine And.intro ?_ ?_ | with_reducible exact okay_rfl rfl | with_reducible assumption | omega)
  refine W_seq (W_seq (?_))
  apply W_regS
  · intro K hK
    simp
    repeat' (first | with_reducible exact hK | (with_reducible refine goL_split (fun _ => ?_) (fun _ => ?_) <;> simp) | with_reducible refine And.intro ?_ ?_ | with_reducible exact okay_rfl rfl | with_reducible assumption | omega)
  refine W_block (W_loop (fun n st => ∃ (i a : Nat) (o : List (List UInt8)), n = s.length + 1 - i ∧ o.length ≤ i ∧ a ≤ i ∧ (i ≤ s.length ∧ cutAt c s = o ++ headApp ((s.take i).drop a) (cutAt c (s.drop i)) ∨ i = s.length + 1 ∧ cutAt c s = o) ∧
    st = ⟨[], [(0, .d (.str s)), (1, .d (.int .u8 c.toNat)), (5, .sl 0), (6, .d (.int .i64 a)), (7, .d (.int .i64 i))], [(0, .arr 0 0 1 (strsD o))], 1⟩) _ ⟨0, 0, [], rfl, by simp, by omega, .inl ⟨by omega, by simp [headApp_nil]⟩, rfl⟩ ?_)
  rintro n st ⟨i, a, o, rfl, hol, hai, hinv, rfl⟩
  refine W_seq (W_seq (?_))
  apply W_regS
  · intro K hK
    simp
    repeat' (first | with_reducible exact hK | (with_reducible refine goL_split (fun _ => ?_) (fun _ => ?_) <;> simp) | with_reducible refine And.intro ?_ ?_ | with_reducible exact okay_rfl rfl | with_reducible assumption | omega)
  refine W_cond rfl (fun h => W_skip ?_) (fun h => W_exit ?_)
  · rw [h]
    simp at h
    obtain ⟨_, hcut⟩ := hinv.resolve_right (by omega)
    clear hinv
    have hw : IntKind.i64.wrap ((i : Int) + 1) = ((i + 1 : Nat) : Int) := by rw [wrap_id (by omega) (by omega)]; omega
    have t1 : ((a : Int)).toNat = a := by omega
    have t2 : ((i : Int)).toNat = i := by omega
    refine W_seq (W_block (W_seq ?_))
    by_cases hend : i = s.length
    · subst hend
      refine W_regB 25 (true) (fun K hK => ?_) ?_
      · simp
        repeat' (first | exact hK _ _ (by clear hK; first | omega | (exact decide_eq_false (by omega)) | (exact decide_eq_true (by omega)) | (exact (decide_eq_true (by omega)).symm) | (exact (decide_eq_false (by omega)).symm) | (exact decide_eq_decide.2 (by omega)) | (simp [*]; done) | (simp [*]; omega) | (simp_all; done) | (simp_all; omega) | (rw [Bool.eq_iff_iff]; simp at *; omega)) | (with_reducible refine goL_split (fun _ => ?_) (fun _ => ?_) <;> simp) | with_reducible refine And.intro ?_ ?_ | with_reducible exact okay_rfl rfl | with_reducible assumption | omega)
      refine W_cond rfl (fun h2 => W_seq ?_) (fun h2 => ?_)
      rotate_left
      · cases h2
      apply W_regS
      · intro K hK
        simp [t1, t2, limit]
        repeat' (first | with_reducible exact hK | (with_reducible refine goL_split (fun _ => ?_) (fun _ => ?_) <;> simp [t1, t2, limit]) | with_reducible refine And.intro ?_ ?_ | with_reducible exact okay_rfl rfl | with_reducible assumption | omega)
      apply W_regS
      · intro K hK
        simp [hw]
        repeat' (first | with_reducible exact hK | (with_reducible refine goL_split (fun _ => ?_) (fun _ => ?_) <;> simp [hw]) | with_reducible refine And.intro ?_ ?_ | with_reducible exact okay_rfl rfl | with_reducible assumption | omega)
      apply W_regS
      · intro K hK
        simp [hw]
        repeat' (first | with_reducible exact hK | (with_reducible refine goL_split (fun _ => ?_) (fun _ => ?_) <;> simp [hw]) | with_reducible refine And.intro ?_ ?_ | with_reducible exact okay_rfl rfl | with_reducible assumption | omega)
      refine ⟨s.length + 1 - (s.length + 1), by omega, s.length + 1, s.length + 1, o ++ [(s.take s.length).drop a], rfl, by simp; omega, by omega, .inr ⟨by omega, ?_⟩, by simp [gc, closeN, liveA, gcV, gcO, renA, renO, namesAs, namesA, namesO, posn, strsD]⟩
      rw [hcut, List.drop_length]
      simp [cutAt, headApp]
    · have ha := List.getElem?_eq_getElem (show i < s.length by omega)
      generalize s[i]'_ = x at ha
      have hd := getD_of ha
      have hdr := drop_get ha
      by_cases hx : x = c
      · subst hx
        refine W_regB 25 (true) (fun K hK => ?_) ?_
        · simp [hd]
          repeat' (first | exact hK _ _ (by clear hK; first | omega | (exact decide_eq_false (by omega)) | (exact decide_eq_true (by omega)) | (exact (decide_eq_true (by omega)).symm) | (exact (decide_eq_false (by omega)).symm) | (exact decide_eq_decide.2 (by omega)) | (simp [*]; done) | (simp [*]; omega) | (simp_all; done) | (simp_all; omega) | (rw [Bool.eq_iff_iff]; simp at *; omega)) | (with_reducible refine goL_split (fun _ => ?_) (fun _ => ?_) <;> simp [hd]) | with_reducible refine And.intro ?_ ?_ | with_reducible exact okay_rfl rfl | with_reducible assumption | omega)
        refine W_cond rfl (fun h2 => W_seq ?_) (fun h2 => ?_)
        rotate_left
        · cases h2
        apply W_regS
        · intro K hK
          simp [t1, t2, limit]
          repeat' (first | with_reducible exact hK | (with_reducible refine goL_split (fun _ => ?_) (fun _ => ?_) <;> simp [t1, t2, limit]) | with_reducible refine And.intro ?_ ?_ | with_reducible exact okay_rfl rfl | with_reducible assumption | omega)
        apply W_regS
        · intro K hK
          simp [hw]
          repeat' (first | with_reducible exact hK | (with_reducible refine goL_split (fun _ => ?_) (fun _ => ?_) <;> simp [hw]) | with_reducible refine And.intro ?_ ?_ | with_reducible exact okay_rfl rfl | with_reducible assumption | omega)
        apply W_regS
        · intro K hK
          simp [hw]
          repeat' (first | with_reducible exact hK | (with_reducible refine goL_split (fun _ => ?_) (fun _ => ?_) <;> simp [hw]) | with_reducible refine And.intro ?_ ?_ | with_reducible exact okay_rfl rfl | with_reducible assumption | omega)
        refine ⟨s.length + 1 - (i + 1), by omega, i + 1, i + 1, o ++ [(s.take i).drop a], rfl, by simp; omega, by omega, .inl ⟨by omega, ?_⟩, by simp [gc, closeN, liveA, gcV, gcO, renA, renO, namesAs, namesA, namesO, posn, strsD]⟩
        have hnil : (s.take (i + 1)).drop (i + 1) = [] := List.drop_eq_nil_of_le (by rw [List.length_take]; omega)
        rw [hcut, hdr, headApp_hit, hnil]
        simp
      · have hx2 : x.toNat ≠ c.toNat := fun e => hx (UInt8.toNat_inj.1 e)
        refine W_regB 25 (false) (fun K hK => ?_) ?_
        · simp [hd]
          repeat' (first | exact hK _ _ (by clear hK; first | omega | (exact decide_eq_false (by omega)) | (exact decide_eq_true (by omega)) | (exact (decide_eq_true (by omega)).symm) | (exact (decide_eq_false (by omega)).symm) | (exact decide_eq_decide.2 (by omega)) | (simp [*]; done) | (simp [*]; omega) | (simp_all; done) | (simp_all; omega) | (rw [Bool.eq_iff_iff]; simp at *; omega)) | (with_reducible refine goL_split (fun _ => ?_) (fun _ => ?_) <;> simp [hd]) | with_reducible refine And.intro ?_ ?_ | with_reducible exact okay_rfl rfl | with_reducible assumption | omega)
        refine W_cond rfl (fun h2 => ?_) (fun h2 => W_skip ?_)
        · cases h2
        apply W_regS
        · intro K hK
          simp [hw]
          repeat' (first | with_reducible exact hK | (with_reducible refine goL_split (fun _ => ?_) (fun _ => ?_) <;> simp [hw]) | with_reducible refine And.intro ?_ ?_ | with_reducible exact okay_rfl rfl | with_reducible assumption | omega)
        refine ⟨s.length + 1 - (i + 1), by omega, i + 1, a, o, rfl, by omega, by omega, .inl ⟨by omega, ?_⟩, by simp [gc, closeN, liveA, gcV, gcO, renA, renO, namesAs, namesA, namesO, posn, strsD]⟩
        rw [hcut, hdr, headApp_miss hx, take_drop_snoc ha hai]
  · simp at h
    obtain ⟨_, hcut⟩ := hinv.resolve_left (by omega)
    rw [if_pos rfl]
    subst hcut
    refine W_seq (?_)
    apply W_regS
    · intro K hK
      simp
      repeat' (first | with_reducible exact hK | (with_reducible refine goL_split (fun _ => ?_) (fun _ => ?_) <;> simp) | with_reducible refine And.intro ?_ ?_ | with_reducible exact okay_rfl rfl | with_reducible assumption | omega)
    refine W_ret ?_
    simp [Fin]
    all_goals omega

theorem range_no {p : Nat → Bool} {n i : Nat} (h : i < n) (hp : p i = false) : (List.range n).all p = false := by
  rw [List.all_eq_false]; exact ⟨i, by simpa using h, by simp [hp]⟩

theorem s_GlobOk_ok (s : List UInt8) (hs : s.length ≤ 4194304) : Valid PP GG F_S_GlobOk [.d (.str s)] (.d (.bool (globOk s))) [none] := by
  refine v_S_GlobOk [.d (.bool (globOk s))] rfl rfl ?_
  refine W_seq (?_)
  apply W_regS
  · intro K hK
    simp
    repeat' (first | with_reducible exact hK | (with_reducible refine goL_split (fun _ => ?_) (fun _ => ?_) <;> simp) | with_reducible refine And.intro ?_ ?_ | with_reducible exact okay_rfl rfl | with_reducible assumption | omega)
  refine W_seq (W_seq (?_))
  apply W_regS
  · intro K hK
    simp
    repeat' (first | with_reducible exact hK | (with_reducible refine goL_split (fun _ => ?_) (fun _ => ?_) <;> simp) | with_reducible refine And.intro ?_ ?_ | with_reducible exact okay_rfl rfl | with_reducible assumption | omega)
  refine W_cond rfl (fun h => W_seq ?_) (fun h => W_skip ?_)
  · simp at h
    apply W_regS
    · intro K hK
      simp
      repeat' (first | with_reducible exact hK | (with_reducible refine goL_split (fun _ => ?_) (fun _ => ?_) <;> simp) | with_reducible refine And.intro ?_ ?_ | with_reducible exact okay_rfl rfl | with_reducible assumption | omega)
    have : globOk s = false := by unfold globOk; rw [decide_eq_false (by omega)]; rfl
    refine W_ret ?_
    simp [Fin, this]
    all_goals omega
  simp at h
  have cp : Valid PP GG F_S_l01Parts [.d (.str s), .d (.int .u8 47)] (.own 0 1 (strsD (cutAt 47 s))) [none, none] := l01Parts_ok s 47 hs
  have hg : globOk s = ((List.range (cutAt 47 s).length).all (segAt (cutAt 47 s)) && decide ((cutAt 47 s).length ≤ 8)) := by unfold globOk; rw [decide_eq_true (by omega)]; rfl
  have hml : ∀ x, x ∈ cutAt 47 s → x.length ≤ 4194304 := fun x hx => by have := cutAt_mem s hx; omega
  have hll := cutAt_len 47 s
  generalize cutAt 47 s = l at cp hg hml hll
  refine W_seq (?_)
  apply W_regS
  · intro K hK
    simp
    repeat' (first | with_reducible exact hK | (with_reducible refine callQ (cp) ?_; simp) | (with_reducible refine goL_split (fun _ => ?_) (fun _ => ?_) <;> simp) | with_reducible refine And.intro ?_ ?_ | with_reducible exact okay_rfl rfl | with_reducible assumption | omega)
  refine W_seq (W_seq (?_))
  apply W_regS
  · intro K hK
    simp
    repeat' (first | with_reducible exact hK | (with_reducible refine goL_split (fun _ => ?_) (fun _ => ?_) <;> simp) | with_reducible refine And.intro ?_ ?_ | with_reducible exact okay_rfl rfl | with_reducible assumption | omega)
  refine W_block (W_loop (fun n st => ∃ i : Nat, n = l.length - i ∧ i ≤ l.length ∧ (∀ j, j < i → segAt l j = true) ∧ st = ⟨[], [(3, .sl 0), (4, .d (.int .i64 i))], [(0, .arr 0 0 1 (strsD l))], 1⟩) _ ⟨0, rfl, by omega, fun j h => by omega, rfl⟩ ?_)
  rintro n st ⟨i, rfl, hi, hn, rfl⟩
  refine W_seq (W_seq (?_))
  apply W_regS
  · intro K hK
    simp
    repeat' (first | with_reducible exact hK | (with_reducible refine goL_split (fun _ => ?_) (fun _ => ?_) <;> simp) | with_reducible refine And.intro ?_ ?_ | with_reducible exact okay_rfl rfl | with_reducible assumption | omega)
  refine W_cond rfl (fun h => W_skip ?_) (fun h => W_exit ?_)
  · simp at h
    have ha := List.getElem?_eq_getElem h
    generalize l[i] = x at ha
    have ct := l01Segment_ok (GG := GG) x (by have := hml x (List.mem_of_getElem? ha); omega)
    have hseg : segAt l i = (segOk x || (x == [43]) || (x == [42] && decide (i + 1 = l.length))) := by unfold segAt; rw [ha]
    obtain ⟨p, hp⟩ : ∃ p, segOk x = p := ⟨_, rfl⟩
    obtain ⟨u, hu⟩ : ∃ p, (x == [43]) = p := ⟨_, rfl⟩
    obtain ⟨w, hw⟩ : ∃ p, (x == [42]) = p := ⟨_, rfl⟩
    rw [hp] at ct
    rw [hp, hu, hw] at hseg
    have hwl : IntKind.i64.wrap ((l.length : Int) - 1) = (l.length : Int) - 1 := wrap_id (by omega) (by omega)
    obtain ⟨z, hz⟩ : ∃ z, decide ((i : Int) = (l.length : Int) - 1) = z := ⟨_, rfl⟩
    have hz2 : decide (i + 1 = l.length) = z := by rw [← hz]; exact decide_eq_decide.2 (by omega)
    rw [hz2] at hseg
    have hzb : ((i : Int) == (l.length : Int) - 1) = z := by rw [← hz]; rfl
    refine W_seq (W_block (W_seq ?_))
    refine W_regB 43 (!(p || u || (w && z))) (fun K hK => ?_) ?_
    · simp [ha, hu, hw, hwl, hzb]
      repeat' (first | exact hK _ _ (by clear hK; first | omega | (exact decide_eq_false (by omega)) | (exact decide_eq_true (by omega)) | (exact (decide_eq_true (by omega)).symm) | (exact (decide_eq_false (by omega)).symm) | (exact decide_eq_decide.2 (by omega)) | (simp [*]; done) | (simp [*]; omega) | (simp_all; done) | (simp_all; omega) | (rw [Bool.eq_iff_iff]; simp at *; omega)) | (with_reducible refine callQ (ct) ?_; simp [ha, hu, hw, hwl, hzb]) | (with_reducible refine goL_split (fun _ => ?_) (fun _ => ?_) <;> simp [ha, hu, hw, hwl, hzb]) | with_reducible refine And.intro ?_ ?_ | with_reducible exact okay_rfl rfl | with_reducible assumption | omega)
    refine W_cond rfl (fun h2 => W_seq ?_) (fun h2 => W_skip ?_)
    · apply W_regS
      · intro K hK
        simp
        repeat' (first | with_reducible exact hK | (with_reducible refine goL_split (fun _ => ?_) (fun _ => ?_) <;> simp) | with_reducible refine And.intro ?_ ?_ | with_reducible exact okay_rfl rfl | with_reducible assumption | omega)
      have : globOk s = false := by
        rw [hg, range_no (i := i) (by omega) (by rw [hseg]; generalize (p || u || (w && z)) = q at h2 ⊢; cases q <;> simp_all), Bool.false_and]
      refine W_ret ?_
      simp [Fin, this]
      all_goals omega
    apply W_regS
    · intro K hK
      simp
      repeat' (first | with_reducible exact hK | (with_reducible refine goL_split (fun _ => ?_) (fun _ => ?_) <;> simp) | with_reducible refine And.intro ?_ ?_ | with_reducible exact okay_rfl rfl | with_reducible assumption | omega)
    refine ⟨l.length - (i + 1), by omega, i + 1, rfl, h, fun j hj => ?_, by simp [gc, closeN, liveA, gcV, gcO, renA, renO, namesAs, namesA, namesO, posn]; rw [wrap_id (by omega) (by omega)]⟩
    by_cases e : j = i
    · subst e; rw [hseg]; generalize (p || u || (w && z)) = q at h2 ⊢; cases q <;> simp_all
    · exact hn j (by omega)
  · simp at h
    rw [if_pos rfl]
    have hall : (List.range l.length).all (segAt l) = true := List.all_eq_true.2 fun j hj => hn j (by have := List.mem_range.1 hj; omega)
    refine W_seq (?_)
    apply W_regS
    · intro K hK
      simp
      repeat' (first | with_reducible exact hK | (with_reducible refine goL_split (fun _ => ?_) (fun _ => ?_) <;> simp) | with_reducible refine And.intro ?_ ?_ | with_reducible exact okay_rfl rfl | with_reducible assumption | omega)
    have : globOk s = decide ((l.length : Int) ≤ 8) := by rw [hg, hall, Bool.true_and]; exact decide_eq_decide.2 (by omega)
    refine W_ret ?_
    simp [Fin, this]
    all_goals omega

theorem s_PathOk_ok (s : List UInt8) (hs : s.length ≤ 4194304) : Valid PP GG F_S_PathOk [.d (.str s)] (.d (.bool (pathOk s))) [none] := by
  refine v_S_PathOk [.d (.bool (pathOk s))] rfl rfl ?_
  have cg := s_GlobOk_ok (GG := GG) s hs
  have hp : pathOk s = (globOk s && !s.any starB) := rfl
  generalize globOk s = g at cg hp
  refine W_seq (?_)
  apply W_regS
  · intro K hK
    simp
    repeat' (first | with_reducible exact hK | (with_reducible refine goL_split (fun _ => ?_) (fun _ => ?_) <;> simp) | with_reducible refine And.intro ?_ ?_ | with_reducible exact okay_rfl rfl | with_reducible assumption | omega)
  refine W_seq (W_seq (?_))
  apply W_regS
  · intro K hK
    simp
    repeat' (first | with_reducible exact hK | (with_reducible refine callQ (cg) ?_; simp) | (with_reducible refine goL_split (fun _ => ?_) (fun _ => ?_) <;> simp) | with_reducible refine And.intro ?_ ?_ | with_reducible exact okay_rfl rfl | with_reducible assumption | omega)
  refine W_cond rfl (fun h => W_seq ?_) (fun h => W_skip ?_)
  · simp at h
    subst h
    apply W_regS
    · intro K hK
      simp
      repeat' (first | with_reducible exact hK | (with_reducible refine goL_split (fun _ => ?_) (fun _ => ?_) <;> simp) | with_reducible refine And.intro ?_ ?_ | with_reducible exact okay_rfl rfl | with_reducible assumption | omega)
    refine W_ret ?_
    simp [Fin, hp]
    all_goals omega
  simp at h
  subst h
  refine W_seq (W_seq (?_))
  apply W_regS
  · intro K hK
    simp
    repeat' (first | with_reducible exact hK | (with_reducible refine goL_split (fun _ => ?_) (fun _ => ?_) <;> simp) | with_reducible refine And.intro ?_ ?_ | with_reducible exact okay_rfl rfl | with_reducible assumption | omega)
  refine W_block (W_loop (fun n st => ∃ i : Nat, n = s.length - i ∧ i ≤ s.length ∧ (∀ y, y ∈ s.take i → starB y = false) ∧ st = ⟨[], [(0, .d (.str s)), (3, .d (.int .i64 i))], [], 0⟩) _ ⟨0, rfl, by omega, fun y h => by simp at h, rfl⟩ ?_)
  rintro n st ⟨i, rfl, hi, hn, rfl⟩
  refine W_seq (W_seq (?_))
  apply W_regS
  · intro K hK
    simp
    repeat' (first | with_reducible exact hK | (with_reducible refine goL_split (fun _ => ?_) (fun _ => ?_) <;> simp) | with_reducible refine And.intro ?_ ?_ | with_reducible exact okay_rfl rfl | with_reducible assumption | omega)
  refine W_cond rfl (fun h => W_skip ?_) (fun h => W_exit ?_)
  · simp at h
    have ha := List.getElem?_eq_getElem h
    generalize s[i] = x at ha
    have hd := getD_of ha
    obtain ⟨v, hv⟩ : ∃ v, x.toNat = v := ⟨_, rfl⟩
    have hnb : starB x = decide (v = 43 ∨ v = 42) := by rw [← hv]; rfl
    refine W_seq (W_block (W_seq ?_))
    refine W_regB 22 (decide (v = 43 ∨ v = 42)) (fun K hK => ?_) ?_
    · simp [hd, hv]
      repeat' (first | exact hK _ _ (by clear hK; first | omega | (exact decide_eq_false (by omega)) | (exact decide_eq_true (by omega)) | (exact (decide_eq_true (by omega)).symm) | (exact (decide_eq_false (by omega)).symm) | (exact decide_eq_decide.2 (by omega)) | (simp [*]; done) | (simp [*]; omega) | (simp_all; done) | (simp_all; omega) | (rw [Bool.eq_iff_iff]; simp at *; omega)) | (with_reducible refine goL_split (fun _ => ?_) (fun _ => ?_) <;> simp [hd, hv]) | with_reducible refine And.intro ?_ ?_ | with_reducible exact okay_rfl rfl | with_reducible assumption | omega)
    refine W_cond rfl (fun h2 => W_seq ?_) (fun h2 => W_skip ?_)
    · rw [h2]
      apply W_regS
      · intro K hK
        simp
        repeat' (first | with_reducible exact hK | (with_reducible refine goL_split (fun _ => ?_) (fun _ => ?_) <;> simp) | with_reducible refine And.intro ?_ ?_ | with_reducible exact okay_rfl rfl | with_reducible assumption | omega)
      have : pathOk s = false := by rw [hp, any_yes ha (by rw [hnb]; exact h2)]; rfl
      refine W_ret ?_
      simp [Fin, this]
      all_goals omega
    rw [h2]
    apply W_regS
    · intro K hK
      simp
      repeat' (first | with_reducible exact hK | (with_reducible refine goL_split (fun _ => ?_) (fun _ => ?_) <;> simp) | with_reducible refine And.intro ?_ ?_ | with_reducible exact okay_rfl rfl | with_reducible assumption | omega)
    exact ⟨s.length - (i + 1), by omega, i + 1, rfl, h, take_all ha hn (by rw [hnb]; exact h2), by simp [gc, closeN, liveA, gcV, gcO, renA, namesAs, namesA]; rw [wrap_id (by omega) (by omega)]⟩
  · simp at h
    rw [if_pos rfl]
    rw [List.take_of_length_le h] at hn
    refine W_seq (?_)
    apply W_regS
    · intro K hK
      simp
      repeat' (first | with_reducible exact hK | (with_reducible refine goL_split (fun _ => ?_) (fun _ => ?_) <;> simp) | with_reducible refine And.intro ?_ ?_ | with_reducible exact okay_rfl rfl | with_reducible assumption | omega)
    have : pathOk s = true := by
      have e : s.any starB = false := by rw [List.any_eq_false]; intro y hy; simp [hn y hy]
      rw [hp, e]; rfl
    refine W_ret ?_
    simp [Fin, this]
    all_goals omega

theorem IndexByte_ok (al : List UInt8) (b : UInt8) : Valid PP GG 169 [.d (.str al), .d (.int .u8 b.toNat)] (.d (.int .i64 (Lib.indexByte al b))) [none, none] := by
  refine lib_new [.str al, .int .u8 b.toNat] ⟨Tryd.f169, Tryd.func169, by kernel_rfl, by kernel_rfl⟩ fun w Fz args hG hFz hl hA => ?_
  have e : args = #[.string ⟨al.toArray⟩, .int .u8 b.toNat] := by
    refine args_eq (l := [.string ⟨al.toArray⟩, .int .u8 b.toNat]) hl fun i v hv => ?_
    match i, hv with
    | 0, hv => cases hv; exact shr_str (hA 0 _ rfl)
    | 1, hv => cases hv; exact shr_int (hA 1 _ rfl)
  subst e
  refine (Go.Proofs.YtpboimnecoakiaaDoor.Tryd.strings_IndexByte ⟨al.toArray⟩ b.toNat w).mono ?_
  rintro e w' ⟨rfl, rfl⟩
  have hb : ((b.toNat : Int).toNat).toUInt8 = b := by simp
  rw [hb]
  exact ⟨_, Fz, fun _ _ => False, rfl, ⟨rfl, rfl⟩, Nat.le_refl _, fun _ _ => rfl, fun _ _ h => h, fun b o h => ⟨.inl h, hFz b o h⟩, .d _ _ _ (.int _ _) fun _ _ h => h, fun _ _ h => h.elim⟩

theorem ContainsAny_ok (s c : List UInt8) (h1 : s.length < 4294967281) (h2 : c.length < 4294967281) (h3 : ∀ b, b ∈ s → b.toNat < 128) (h4 : ∀ b, b ∈ c → b.toNat < 128) :
    Valid PP GG 139 [.d (.str s), .d (.str c)] (.d (.bool (Lib.containsAny s c))) [none, none] := by
  refine lib_new [.str s, .str c] ⟨Tryd.f139, Tryd.func139, by kernel_rfl, by kernel_rfl⟩ fun w Fz args hG hFz hl hA => ?_
  have e : args = #[.string ⟨s.toArray⟩, .string ⟨c.toArray⟩] := by
    refine args_eq (l := [.string ⟨s.toArray⟩, .string ⟨c.toArray⟩]) hl fun i v hv => ?_
    match i, hv with
    | 0, hv => cases hv; exact shr_str (hA 0 _ rfl)
    | 1, hv => cases hv; exact shr_str (hA 1 _ rfl)
  subst e
  refine (Go.Proofs.YtpboimnecoakiaaDoor.Tryd.strings_ContainsAny_laid ⟨s.toArray⟩ ⟨c.toArray⟩ w h1 h2 (fun j b hb => h3 b (List.mem_of_getElem? hb)) (fun j b hb => h4 b (List.mem_of_getElem? hb))).mono ?_
  rintro e w' ⟨rfl, hb⟩
  exact ⟨_, Fz, fun _ _ => False, rfl, ⟨hb.os, hb.output⟩, hb.size, fun b h => hb.block b h, fun _ _ h => h, fun b o h => ⟨.inl h, Nat.lt_of_lt_of_le (hFz b o h) hb.size⟩, .d _ _ _ (.bool _) fun _ _ h => h, fun _ _ h => h.elim⟩

theorem splitK_cons {b c : UInt8} (h : b ≠ c) : ∀ (k : Nat) (l : List UInt8), Lib.splitK [c] 0 k (b :: l) = headCons b (Lib.splitK [c] 0 k l) := by
  intro k l
  cases k with
  | zero => rfl
  | succ k =>
    have hp : ([c] : List UInt8).isPrefixOf (b :: l) = false := by simp [List.isPrefixOf, Ne.symm h]
    have hix : Lib.index (b :: l) [c] = if Lib.index l [c] == -1 then -1 else Lib.index l [c] + 1 := by rw [Lib.index, hp]; simp
    unfold Lib.splitK
    rw [hix]
    have hge := Lib.index_ge l [c]
    by_cases hm : Lib.index l [c] = -1
    · rw [hm]; simp [headCons]
    · obtain ⟨j, hj⟩ : ∃ j : Nat, Lib.index l [c] = j := ⟨(Lib.index l [c]).toNat, by omega⟩
      have h1 : ¬ ((j : Int) == -1) = true := fun e => by have := beq_iff_eq.1 e; omega
      have h2 : ¬ ((j : Int) + 1 == -1) = true := fun e => by have := beq_iff_eq.1 e; omega
      rw [hj, if_neg h1, if_neg h1, if_neg h2]
      have e1 : ((j : Int) + 1).toNat = j + 1 := by omega
      simp [headCons, e1]

theorem split_cut (c : UInt8) : ∀ s : List UInt8, Lib.splitK [c] 0 (Lib.count s [c]) s = cutAt c s := by
  intro s
  induction s with
  | nil => rw [Lib.count_one]; rfl
  | cons b r ih =>
    by_cases h : b = c
    · subst h
      have hix : Lib.index (b :: r) [b] = 0 := by rw [Lib.index]; simp [List.isPrefixOf]
      rw [Lib.count_cons_eq, show 1 + Lib.count r [b] = Lib.count r [b] + 1 by omega, Lib.splitK, hix, cutAt, if_pos rfl]
      simp [ih]
    · rw [Lib.count_cons_ne b c r h, splitK_cons h, ih, cutAt, if_neg h]

theorem Split_ok (s : List UInt8) (c : UInt8) [MaxL GG] (hs : s.length < 4294967281) : Valid PP GG 119 [.d (.str s), .d (.str [c])] (.d (.slc 1 (strsD (cutAt c s)))) [none, none] := by
  refine lib_new [.str s, .str [c]] ⟨Tryd.f119, Tryd.func119, by kernel_rfl, by kernel_rfl⟩ fun w Fz args hG hFz hl hA => ?_
  have e : args = #[.string ⟨s.toArray⟩, .string ⟨#[c]⟩] := by
    refine args_eq (l := [.string ⟨s.toArray⟩, .string ⟨#[c]⟩]) hl fun i v hv => ?_
    match i, hv with
    | 0, hv => cases hv; exact shr_str (hA 0 _ rfl)
    | 1, hv => cases hv; exact shr_str (hA 1 _ rfl)
  subst e
  obtain ⟨ob, h1, h2⟩ := hG 0 _ MaxL.h
  cases ob with
  | cells cs t fr =>
    obtain ⟨m, h3⟩ := h2
    refine (Go.Proofs.YtpboimnecoakiaaDoor.Tryd.strings_Split ⟨s.toArray⟩ ⟨#[c]⟩ m w hs (by unfold World.cell?; simp [h1, h3]) (Nat.le_refl 1)).mono ?_
    rintro e w' ⟨rfl, rfl⟩
    have hcount : Lib.countB ⟨s.toArray⟩ ⟨#[c]⟩ = Lib.count s [c] := rfl
    have hsplit : (Lib.splitB ⟨#[c]⟩ 0 (Lib.countB ⟨s.toArray⟩ ⟨#[c]⟩) ⟨s.toArray⟩).map (·.data.toList) = cutAt c s := by
      rw [Lib.splitB_data, hcount]; exact split_cut c s
    have hlen : (cutAt c s).length = Lib.countB ⟨s.toArray⟩ ⟨#[c]⟩ + 1 := by
      rw [← hsplit, List.length_map, Lib.splitB_all ⟨#[c]⟩ (Nat.le_refl 1) 0 _ _ rfl]
    generalize Lib.countB ⟨s.toArray⟩ ⟨#[c]⟩ = k at hsplit hlen ⊢
    generalize hL : Lib.splitB ⟨#[c]⟩ 0 k ⟨s.toArray⟩ = L at hsplit ⊢
    have hLl : L.length = k + 1 := by rw [← hlen, ← hsplit, List.length_map]
    have hblk : ∀ b, b < w.heap.size → (w.alloc (.cells (L.map Value.string).toArray 9)).heap[b]? = w.heap[b]? := fun b hb => by
      show (w.heap.push _)[b]? = _
      rw [Array.getElem?_push_lt hb, Array.getElem?_eq_getElem hb]
    have hnew : (w.alloc (.cells (L.map Value.string).toArray 9)).heap[w.heap.size]? = some (.cells (L.map Value.string).toArray 9) := by
      show (w.heap.push _)[w.heap.size]? = _
      simp
    have hsz : (w.alloc (.cells (L.map Value.string).toArray 9)).heap.size = w.heap.size + 1 := by
      show (w.heap.push _).size = _
      simp
    refine ⟨_, fun b o => Fz b o ∨ b = w.heap.size, fun _ _ => False, rfl, ⟨rfl, rfl⟩, by omega, hblk, fun _ _ h => .inl h, fun b o h => ?_, .d _ _ _ ?_ fun _ _ h => h, fun _ _ h => h.elim⟩
    · rcases h with h | h
      · exact ⟨.inl h, by have := hFz b o h; omega⟩
      · exact ⟨.inr (by omega), by omega⟩
    · have hrows : (strsD (cutAt c s)).length = k + 1 := by simp [hlen]
      have hget : ∀ (m : Nat) (d : D), (strsD (cutAt c s)).flatten[m]? = some d → ∃ t : ByteArray, L[m]? = some t ∧ d = D.str t.data.toList := by
        intro m d hm
        rw [← hsplit] at hm
        have hf : (strsD (L.map (·.data.toList))).flatten = L.map fun t => D.str t.data.toList := by
          unfold strsD
          generalize L = M
          induction M with
          | nil => rfl
          | cons x M ih => simp only [List.map_cons, List.flatten_cons] at ih ⊢; rw [ih]; rfl
        rw [hf, List.getElem?_map] at hm
        cases ht : L[m]? with
        | none => rw [ht] at hm; cases hm
        | some t => rw [ht] at hm; cases hm; exact ⟨t, rfl, rfl⟩
      have hcell : ∀ (m : Nat) (t : ByteArray), L[m]? = some t → (w.alloc (.cells (L.map Value.string).toArray 9)).cell? (at_ w.heap.size (0 + m)) = some (.string t) := by
        intro m t ht
        unfold World.cell?
        rw [show (at_ w.heap.size (0 + m)).block = w.heap.size from rfl, hnew]
        simp [ht]
      have := Shr.slc (w := w.alloc (.cells (L.map Value.string).toArray 9)) (Fz := fun b o => Fz b o ∨ b = w.heap.size) w.heap.size 0 (k + 1) 1 (strsD (cutAt c s)) (fun m => match L[m]? with | some t => .string t | none => Go.undef)
        (fun r hr => by unfold strsD at hr; obtain ⟨x, _, rfl⟩ := List.mem_map.1 hr; rfl) (by omega)
        (fun m d hm => by
          obtain ⟨t, ht, _⟩ := hget m d hm
          exact ⟨by rw [hcell m t ht, ht], .inr rfl⟩)
        (fun m d hm => by
          obtain ⟨t, ht, rfl⟩ := hget m d hm
          rw [ht]
          exact Shr.str t.data.toList)
      rw [hrows] at this
      exact this
  | _ => exact h2.elim

theorem onlyOf_ok (s al : List UInt8) (hs : s.length ≤ 281474976710656) : Valid PP GG F_I_onlyOf [.d (.str s), .d (.str al)] (.d (.bool (s.all fun b => decide (0 ≤ Lib.indexByte al b)))) [none, none] := by
  refine v_I_onlyOf [.d (.bool (s.all fun b => decide (0 ≤ Lib.indexByte al b)))] rfl rfl ?_
  refine W_seq (?_)
  apply W_regS
  · intro K hK
    simp
    repeat' (first | with_reducible exact hK | (with_reducible refine goL_split (fun _ => ?_) (fun _ => ?_) <;> simp) | with_reducible refine And.intro ?_ ?_ | with_reducible exact okay_rfl rfl | with_reducible assumption | omega)
  refine W_seq (W_seq (?_))
  apply W_regS
  · intro K hK
    simp
    repeat' (first | with_reducible exact hK | (with_reducible refine goL_split (fun _ => ?_) (fun _ => ?_) <;> simp) | with_reducible refine And.intro ?_ ?_ | with_reducible exact okay_rfl rfl | with_reducible assumption | omega)
  refine W_block (W_loop (fun n st => ∃ i : Nat, n = s.length - i ∧ i ≤ s.length ∧ (∀ y, y ∈ s.take i → decide (0 ≤ Lib.indexByte al y) = true) ∧ st = ⟨[], [(0, .d (.str s)), (1, .d (.str al)), (7, .d (.int .i64 s.length)), (8, .d (.int .i64 i))], [], 0⟩) _ ⟨0, rfl, by omega, fun y h => by simp at h, rfl⟩ ?_)
  rintro n st ⟨i, rfl, hi, hn, rfl⟩
  refine W_seq (?_)
  apply W_regS
  · intro K hK
    simp
    repeat' (first | with_reducible exact hK | (with_reducible refine goL_split (fun _ => ?_) (fun _ => ?_) <;> simp) | with_reducible refine And.intro ?_ ?_ | with_reducible exact okay_rfl rfl | with_reducible assumption | omega)
  refine W_seq (?_)
  refine W_cond rfl (fun h => W_skip ?_) (fun h => W_exit ?_)
  · simp at h
    have ha := List.getElem?_eq_getElem h
    generalize s[i] = x at ha
    have hd := getD_of ha
    have ci := IndexByte_ok (GG := GG) al x
    refine W_seq (W_block (W_seq ?_))
    apply W_regS
    · intro K hK
      simp
      repeat' (first | with_reducible exact hK | (with_reducible refine goL_split (fun _ => ?_) (fun _ => ?_) <;> simp) | with_reducible refine And.intro ?_ ?_ | with_reducible exact okay_rfl rfl | with_reducible assumption | omega)
    obtain ⟨v, hv⟩ : ∃ v, Lib.indexByte al x = v := ⟨_, rfl⟩
    rw [hv] at ci
    refine W_seq (?_)
    apply W_regS
    · intro K hK
      simp [hd]
      repeat' (first | with_reducible exact hK | (with_reducible refine callQ (ci) ?_; simp [hd]) | (with_reducible refine goL_split (fun _ => ?_) (fun _ => ?_) <;> simp [hd]) | with_reducible refine And.intro ?_ ?_ | with_reducible exact okay_rfl rfl | with_reducible assumption | omega)
    refine W_cond rfl (fun h2 => W_seq ?_) (fun h2 => W_skip ?_)
    · simp at h2
      apply W_regS
      · intro K hK
        simp
        repeat' (first | with_reducible exact hK | (with_reducible refine goL_split (fun _ => ?_) (fun _ => ?_) <;> simp) | with_reducible refine And.intro ?_ ?_ | with_reducible exact okay_rfl rfl | with_reducible assumption | omega)
      have : (s.all fun b => decide (0 ≤ Lib.indexByte al b)) = false := all_no ha (decide_eq_false (by omega))
      refine W_ret ?_
      simp [Fin, this]
      all_goals omega
    simp at h2
    apply W_regS
    · intro K hK
      simp
      repeat' (first | with_reducible exact hK | (with_reducible refine goL_split (fun _ => ?_) (fun _ => ?_) <;> simp) | with_reducible refine And.intro ?_ ?_ | with_reducible exact okay_rfl rfl | with_reducible assumption | omega)
    exact ⟨s.length - (i + 1), by omega, i + 1, rfl, h, take_all ha hn (decide_eq_true (by omega)), by simp [gc, closeN, liveA, gcV, gcO, renA, namesAs, namesA]; rw [wrap_id (by omega) (by omega)]⟩
  · simp at h
    rw [if_pos rfl]
    rw [List.take_of_length_le h] at hn
    refine W_seq (?_)
    apply W_regS
    · intro K hK
      simp
      repeat' (first | with_reducible exact hK | (with_reducible refine goL_split (fun _ => ?_) (fun _ => ?_) <;> simp) | with_reducible refine And.intro ?_ ?_ | with_reducible exact okay_rfl rfl | with_reducible assumption | omega)
    have : (s.all fun b => decide (0 ≤ Lib.indexByte al b)) = true := List.all_eq_true.2 hn
    refine W_ret ?_
    simp [Fin, this]
    all_goals omega

def nameT : List UInt8 := [97, 98, 99, 100, 101, 102, 103, 104, 105, 106, 107, 108, 109, 110, 111, 112, 113, 114, 115, 116, 117, 118, 119, 120, 121, 122, 48, 49, 50, 51, 52, 53, 54, 55, 56, 57]

theorem segT_is (b : UInt8) : decide (0 ≤ Lib.indexByte (nameT ++ [45]) b) = segB b := by
  revert b; exact u8_all (p := fun b => decide (0 ≤ Lib.indexByte (nameT ++ [45]) b) = segB b) (by decide +kernel)

theorem onlySeg_ok (s : List UInt8) (hs : s.length ≤ 281474976710656) : Valid PP GG F_I_onlyOf [.d (.str s), .d (.str (nameT ++ [45]))] (.d (.bool (s.all segB))) [none, none] := by
  have h := onlyOf_ok (GG := GG) s (nameT ++ [45]) hs
  rw [show (fun b => decide (0 ≤ Lib.indexByte (nameT ++ [45]) b)) = segB from funext segT_is] at h
  exact h

theorem isGlob_ok [MaxL GG] (s : List UInt8) (hs : s.length ≤ 4194304) : Valid PP GG F_I_isGlob [.d (.str s)] (.d (.bool (globOk s))) [none] := by
  refine v_I_isGlob [.d (.bool (globOk s))] rfl rfl ?_
  refine W_seq (?_)
  apply W_regS
  · intro K hK
    simp
    repeat' (first | with_reducible exact hK | (with_reducible refine goL_split (fun _ => ?_) (fun _ => ?_) <;> simp) | with_reducible refine And.intro ?_ ?_ | with_reducible exact okay_rfl rfl | with_reducible assumption | omega)
  refine W_seq (W_seq (?_))
  apply W_regS
  · intro K hK
    simp
    repeat' (first | with_reducible exact hK | (with_reducible refine goL_split (fun _ => ?_) (fun _ => ?_) <;> simp) | with_reducible refine And.intro ?_ ?_ | with_reducible exact okay_rfl rfl | with_reducible assumption | omega)
  refine W_cond rfl (fun h => W_seq ?_) (fun h => W_skip ?_)
  · simp at h
    apply W_regS
    · intro K hK
      simp
      repeat' (first | with_reducible exact hK | (with_reducible refine goL_split (fun _ => ?_) (fun _ => ?_) <;> simp) | with_reducible refine And.intro ?_ ?_ | with_reducible exact okay_rfl rfl | with_reducible assumption | omega)
    have : globOk s = false := by unfold globOk; rw [decide_eq_false (by omega)]; rfl
    refine W_ret ?_
    simp [Fin, this]
    all_goals omega
  simp at h
  have cp := Split_ok (GG := GG) s 47 (by omega)
  have hg : globOk s = ((List.range (cutAt 47 s).length).all (segAt (cutAt 47 s)) && decide ((cutAt 47 s).length ≤ 8)) := by unfold globOk; rw [decide_eq_true (by omega)]; rfl
  have hml : ∀ x, x ∈ cutAt 47 s → x.length ≤ 4194304 := fun x hx => by have := cutAt_mem s hx; omega
  have hll := cutAt_len 47 s
  generalize cutAt 47 s = l at cp hg hml hll
  refine W_seq (?_)
  apply W_regS
  · intro K hK
    simp
    repeat' (first | with_reducible exact hK | (with_reducible refine callQ (cp) ?_; simp) | (with_reducible refine goL_split (fun _ => ?_) (fun _ => ?_) <;> simp) | with_reducible refine And.intro ?_ ?_ | with_reducible exact okay_rfl rfl | with_reducible assumption | omega)
  refine W_seq (W_seq (?_))
  apply W_regS
  · intro K hK
    simp
    repeat' (first | with_reducible exact hK | (with_reducible refine goL_split (fun _ => ?_) (fun _ => ?_) <;> simp) | with_reducible refine And.intro ?_ ?_ | with_reducible exact okay_rfl rfl | with_reducible assumption | omega)
  refine W_block (W_loop (fun n st => ∃ i : Nat, n = l.length - i ∧ i ≤ l.length ∧ (∀ j, j < i → segAt l j = true) ∧ st = ⟨[], [(3, .d (.slc 1 (strsD l))), (11, .d (.slc 1 (strsD l))), (12, .d (.int .i64 l.length)), (13, .d (.int .i64 i))], [], 0⟩) _ ⟨0, rfl, by omega, fun j h => by omega, rfl⟩ ?_)
  rintro n st ⟨i, rfl, hi, hn, rfl⟩
  refine W_seq (?_)
  apply W_regS
  · intro K hK
    simp
    repeat' (first | with_reducible exact hK | (with_reducible refine goL_split (fun _ => ?_) (fun _ => ?_) <;> simp) | with_reducible refine And.intro ?_ ?_ | with_reducible exact okay_rfl rfl | with_reducible assumption | omega)
  refine W_seq (?_)
  refine W_cond rfl (fun h => W_skip ?_) (fun h => W_exit ?_)
  · simp at h
    have ha := List.getElem?_eq_getElem h
    generalize l[i] = x at ha
    have hxl := hml x (List.mem_of_getElem? ha)
    have cw := within_ok (GG := GG) x.length 1 16
    have co := onlySeg_ok (GG := GG) x (by omega)
    simp only [nameT, List.cons_append, List.nil_append] at co
    have hseg : segAt l i = (segOk x || (x == [43]) || (x == [42] && decide (i + 1 = l.length))) := by unfold segAt; rw [ha]
    obtain ⟨p, hp⟩ : ∃ p, (decide (1 ≤ (x.length : Int)) && decide ((x.length : Int) ≤ 16)) = p := ⟨_, rfl⟩
    have hr : segOk x = (p && x.all segB) := by
      unfold segOk
      rw [← hp]
      congr 1
      rw [Bool.eq_iff_iff]; simp; omega
    rw [hp] at cw
    obtain ⟨q, hq⟩ : ∃ q, x.all segB = q := ⟨_, rfl⟩
    rw [hq] at co hr
    obtain ⟨u, hu⟩ : ∃ p, (x == [43]) = p := ⟨_, rfl⟩
    obtain ⟨w, hw⟩ : ∃ p, (x == [42]) = p := ⟨_, rfl⟩
    rw [hr, hu, hw] at hseg
    have hwl : IntKind.i64.wrap ((l.length : Int) - 1) = (l.length : Int) - 1 := wrap_id (by omega) (by omega)
    obtain ⟨z, hz⟩ : ∃ z, decide ((i : Int) = (l.length : Int) - 1) = z := ⟨_, rfl⟩
    have hz2 : decide (i + 1 = l.length) = z := by rw [← hz]; exact decide_eq_decide.2 (by omega)
    rw [hz2] at hseg
    have hzb : ((i : Int) == (l.length : Int) - 1) = z := by rw [← hz]; rfl
    have hnext : segAt l i = true → ∀ j, j < i + 1 → segAt l j = true := fun hh j hj => by
      by_cases e : j = i
      · subst e; exact hh
      · exact hn j (by omega)
    refine W_seq (W_block (W_seq ?_))
    apply W_regS
    · intro K hK
      simp [ha]
      repeat' (first | with_reducible exact hK | (with_reducible refine goL_split (fun _ => ?_) (fun _ => ?_) <;> simp [ha]) | with_reducible refine And.intro ?_ ?_ | with_reducible exact okay_rfl rfl | with_reducible assumption | omega)
    refine W_seq (W_seq (?_))
    refine W_regB 30 (u || (w && z)) (fun K hK => ?_) ?_
    · simp [hu, hw, hwl, hzb]
      repeat' (first | exact hK _ _ (by clear hK; first | omega | (exact decide_eq_false (by omega)) | (exact decide_eq_true (by omega)) | (exact (decide_eq_true (by omega)).symm) | (exact (decide_eq_false (by omega)).symm) | (exact decide_eq_decide.2 (by omega)) | (simp [*]; done) | (simp [*]; omega) | (simp_all; done) | (simp_all; omega) | (rw [Bool.eq_iff_iff]; simp at *; omega)) | (with_reducible refine goL_split (fun _ => ?_) (fun _ => ?_) <;> simp [hu, hw, hwl, hzb]) | with_reducible refine And.intro ?_ ?_ | with_reducible exact okay_rfl rfl | with_reducible assumption | omega)
    refine W_cond rfl (fun h2 => W_exit ?_) (fun h2 => W_skip ?_)
    · rw [if_pos rfl]
      apply W_regS
      · intro K hK
        simp
        repeat' (first | with_reducible exact hK | (with_reducible refine goL_split (fun _ => ?_) (fun _ => ?_) <;> simp) | with_reducible refine And.intro ?_ ?_ | with_reducible exact okay_rfl rfl | with_reducible assumption | omega)
      exact ⟨l.length - (i + 1), by omega, i + 1, rfl, h, hnext (by rw [hseg]; revert h2; cases u <;> cases w <;> cases z <;> simp), by simp [gc, closeN, liveA, gcV, gcO, renA, renO, namesAs, namesA, namesO, posn]; rw [wrap_id (by omega) (by omega)]⟩
    refine W_seq (?_)
    refine W_regB 39 (!(p && q)) (fun K hK => ?_) ?_
    · simp
      repeat' (first | exact hK _ _ (by clear hK; first | omega | (exact decide_eq_false (by omega)) | (exact decide_eq_true (by omega)) | (exact (decide_eq_true (by omega)).symm) | (exact (decide_eq_false (by omega)).symm) | (exact decide_eq_decide.2 (by omega)) | (simp [*]; done) | (simp [*]; omega) | (simp_all; done) | (simp_all; omega) | (rw [Bool.eq_iff_iff]; simp at *; omega)) | (with_reducible refine callQ (cw) ?_; simp) | (with_reducible refine callQ (co) ?_; simp) | (with_reducible refine goL_split (fun _ => ?_) (fun _ => ?_) <;> simp) | with_reducible refine And.intro ?_ ?_ | with_reducible exact okay_rfl rfl | with_reducible assumption | omega)
    refine W_cond rfl (fun h3 => W_seq ?_) (fun h3 => W_skip ?_)
    · apply W_regS
      · intro K hK
        simp
        repeat' (first | with_reducible exact hK | (with_reducible refine goL_split (fun _ => ?_) (fun _ => ?_) <;> simp) | with_reducible refine And.intro ?_ ?_ | with_reducible exact okay_rfl rfl | with_reducible assumption | omega)
      have : globOk s = false := by
        rw [hg, range_no (i := i) (by omega) (by rw [hseg]; revert h2 h3; cases u <;> cases w <;> cases z <;> cases p <;> cases q <;> simp), Bool.false_and]
      refine W_ret ?_
      simp [Fin, this]
      all_goals omega
    apply W_regS
    · intro K hK
      simp
      repeat' (first | with_reducible exact hK | (with_reducible refine goL_split (fun _ => ?_) (fun _ => ?_) <;> simp) | with_reducible refine And.intro ?_ ?_ | with_reducible exact okay_rfl rfl | with_reducible assumption | omega)
    exact ⟨l.length - (i + 1), by omega, i + 1, rfl, h, hnext (by rw [hseg]; revert h3; cases p <;> cases q <;> simp), by simp [gc, closeN, liveA, gcV, gcO, renA, renO, namesAs, namesA, namesO, posn]; rw [wrap_id (by omega) (by omega)]⟩
  · simp at h
    rw [if_pos rfl]
    have hall : (List.range l.length).all (segAt l) = true := List.all_eq_true.2 fun j hj => hn j (by have := List.mem_range.1 hj; omega)
    refine W_seq (?_)
    apply W_regS
    · intro K hK
      simp
      repeat' (first | with_reducible exact hK | (with_reducible refine goL_split (fun _ => ?_) (fun _ => ?_) <;> simp) | with_reducible refine And.intro ?_ ?_ | with_reducible exact okay_rfl rfl | with_reducible assumption | omega)
    have : globOk s = decide ((l.length : Int) ≤ 8) := by rw [hg, hall, Bool.true_and]; exact decide_eq_decide.2 (by omega)
    refine W_ret ?_
    simp [Fin, this]
    all_goals omega

theorem containsAny_star : ∀ s : List UInt8, Lib.containsAny s [43, 42] = s.any starB := by
  have hb : ∀ b : UInt8, ([43, 42] : List UInt8).contains b = starB b := u8_all (p := fun b => ([43, 42] : List UInt8).contains b = starB b) (by decide +kernel)
  intro s
  unfold Lib.containsAny
  induction s with
  | nil => rfl
  | cons b r ih =>
    have hge := Lib.indexAny_ge [43, 42] r
    rw [Lib.indexAny, hb, List.any_cons, ← ih]
    cases starB b with
    | true => rfl
    | false =>
      simp only [Bool.false_eq_true, if_false, Bool.false_or]
      by_cases hm : Lib.indexAny r [43, 42] = -1
      · rw [hm]; rfl
      · rw [if_neg (fun e => hm (beq_iff_eq.1 e))]
        exact decide_eq_decide.2 (by omega)

theorem isPath_ok [MaxL GG] (s : List UInt8) (hs : s.length ≤ 4194304) : Valid PP GG F_I_isPath [.d (.str s)] (.d (.bool (pathOk s))) [none] := by
  refine v_I_isPath [.d (.bool (pathOk s))] rfl rfl ?_
  have cg := isGlob_ok (GG := GG) s hs
  have hp : pathOk s = (globOk s && !s.any starB) := rfl
  have hasc := globOk_ascii (s := s)
  generalize globOk s = g at cg hp hasc
  cases g with
  | false =>
    refine W_seq (?_)
    apply W_regS
    · intro K hK
      simp
      repeat' (first | with_reducible exact hK | (with_reducible refine goL_split (fun _ => ?_) (fun _ => ?_) <;> simp) | with_reducible refine And.intro ?_ ?_ | with_reducible exact okay_rfl rfl | with_reducible assumption | omega)
    refine W_seq (?_)
    refine W_regB 2 (false) (fun K hK => ?_) ?_
    · simp
      repeat' (first | exact hK _ _ (by clear hK; first | omega | (exact decide_eq_false (by omega)) | (exact decide_eq_true (by omega)) | (exact (decide_eq_true (by omega)).symm) | (exact (decide_eq_false (by omega)).symm) | (exact decide_eq_decide.2 (by omega)) | (simp [*]; done) | (simp [*]; omega) | (simp_all; done) | (simp_all; omega) | (rw [Bool.eq_iff_iff]; simp at *; omega)) | (with_reducible refine callQ (cg) ?_; simp) | (with_reducible refine goL_split (fun _ => ?_) (fun _ => ?_) <;> simp) | with_reducible refine And.intro ?_ ?_ | with_reducible exact okay_rfl rfl | with_reducible assumption | omega)
    refine W_ret ?_
    simp [Fin, hp]
    all_goals omega
  | true =>
    have cc := ContainsAny_ok (GG := GG) s [43, 42] (by omega) (by simp) (hasc rfl) (by decide)
    rw [containsAny_star] at cc
    generalize s.any starB = q at cc hp
    refine W_seq (?_)
    apply W_regS
    · intro K hK
      simp
      repeat' (first | with_reducible exact hK | (with_reducible refine goL_split (fun _ => ?_) (fun _ => ?_) <;> simp) | with_reducible refine And.intro ?_ ?_ | with_reducible exact okay_rfl rfl | with_reducible assumption | omega)
    refine W_seq (?_)
    refine W_regB 2 (!q) (fun K hK => ?_) ?_
    · simp
      repeat' (first | exact hK _ _ (by clear hK; first | omega | (exact decide_eq_false (by omega)) | (exact decide_eq_true (by omega)) | (exact (decide_eq_true (by omega)).symm) | (exact (decide_eq_false (by omega)).symm) | (exact decide_eq_decide.2 (by omega)) | (simp [*]; done) | (simp [*]; omega) | (simp_all; done) | (simp_all; omega) | (rw [Bool.eq_iff_iff]; simp at *; omega)) | (with_reducible refine callQ (cg) ?_; simp) | (with_reducible refine callQ (cc) ?_; simp) | (with_reducible refine goL_split (fun _ => ?_) (fun _ => ?_) <;> simp) | with_reducible refine And.intro ?_ ?_ | with_reducible exact okay_rfl rfl | with_reducible assumption | omega)
    refine W_ret ?_
    simp [Fin, hp]
    all_goals omega

def inB (x lo hi : Int) : Bool := decide (lo ≤ x) && decide (x ≤ hi)

def keyB (x : Int) : Bool := inB x 0 1099511627776

theorem l04Key_ok (x : Int) : Valid PP GG F_S_l04Key [.d (.int .i64 x)] (.d (.bool (keyB x))) [none] := by
  refine v_S_l04Key [.d (.bool (keyB x))] rfl rfl ?_
  have cl : Valid PP GG F_S_l01In [.d (.int .i64 x), .d (.int .i64 0), .d (.int .i64 1099511627776)] (.d (.bool (keyB x))) [none, none, none] := l01In_ok x 0 1099511627776
  refine W_seq (?_)
  apply W_regS
  · intro K hK
    simp
    repeat' (first | with_reducible exact hK | (with_reducible refine goL_split (fun _ => ?_) (fun _ => ?_) <;> simp) | with_reducible refine And.intro ?_ ?_ | with_reducible exact okay_rfl rfl | with_reducible assumption | omega)
  refine W_seq (?_)
  apply W_regS
  · intro K hK
    simp
    repeat' (first | with_reducible exact hK | (with_reducible refine callQ (cl) ?_; simp) | (with_reducible refine goL_split (fun _ => ?_) (fun _ => ?_) <;> simp) | with_reducible refine And.intro ?_ ?_ | with_reducible exact okay_rfl rfl | with_reducible assumption | omega)
  refine W_ret ?_
  simp [Fin]
  all_goals omega

theorem isKey_ok (x : Int) : Valid PP GG F_I_isKey [.d (.int .i64 x)] (.d (.bool (keyB x))) [none] := by
  refine v_I_isKey [.d (.bool (keyB x))] rfl rfl ?_
  have cl : Valid PP GG F_I_within [.d (.int .i64 x), .d (.int .i64 0), .d (.int .i64 1099511627776)] (.d (.bool (keyB x))) [none, none, none] := within_ok x 0 1099511627776
  refine W_seq (?_)
  apply W_regS
  · intro K hK
    simp
    repeat' (first | with_reducible exact hK | (with_reducible refine goL_split (fun _ => ?_) (fun _ => ?_) <;> simp) | with_reducible refine And.intro ?_ ?_ | with_reducible exact okay_rfl rfl | with_reducible assumption | omega)
  refine W_seq (?_)
  apply W_regS
  · intro K hK
    simp
    repeat' (first | with_reducible exact hK | (with_reducible refine callQ (cl) ?_; simp) | (with_reducible refine goL_split (fun _ => ?_) (fun _ => ?_) <;> simp) | with_reducible refine And.intro ?_ ?_ | with_reducible exact okay_rfl rfl | with_reducible assumption | omega)
  refine W_ret ?_
  simp [Fin]
  all_goals omega

theorem range_step {p : Nat → Bool} {i : Nat} (hn : ∀ j, j < i → p j = true) (h : p i = true) : ∀ j, j < i + 1 → p j = true := fun j hj => by
  by_cases e : j = i
  · subst e; exact h
  · exact hn j (by omega)

def wrapOk (next : Int) (x : GWrap) : Bool := inB x.fId 1 (next - 1) && inB x.fEnds 1 1000000000 && pathOk x.fKind

def wlinkAt (next : Int) (l : List GWrap) (i : Nat) : Bool := match l[i]? with
  | none => true
  | some x => wrapOk next x && (match i with | 0 => true | j + 1 => match l[j]? with | some y => decide (y.fId < x.fId) | none => true)

def rackOk (r : GRack) : Bool := keyB r.fKey && inB r.fNext 1 1000000000 && decide (r.fWraps.length ≤ 60) && (List.range r.fWraps.length).all (wlinkAt r.fNext r.fWraps)

theorem inB_true {x lo hi : Int} (h : inB x lo hi = true) : lo ≤ x ∧ x ≤ hi := by
  simp only [inB, Bool.and_eq_true, decide_eq_true_eq] at h; exact h

theorem s_RackOk_ok (r : GRack) (hc : r.cost ≤ 1048576) : Valid PP GG F_S_RackOk [.agg r.c] (.d (.bool (rackOk r))) [none] := by
  refine v_S_RackOk [.d (.bool (rackOk r))] rfl rfl ?_
  obtain ⟨f, k, l⟩ := r
  have hco : (GRack.mk f k l).cost = l.length + sumBy GWrap.cost l := rfl
  have ck := l04Key_ok (GG := GG) f
  have cn : Valid PP GG F_S_l01In [.d (.int .i64 k), .d (.int .i64 1), .d (.int .i64 1000000000)] (.d (.bool (inB k 1 1000000000))) [none, none, none] := l01In_ok _ _ _
  have hr : rackOk (GRack.mk f k l) = (keyB f && inB k 1 1000000000 && decide (l.length ≤ 60) && (List.range l.length).all (wlinkAt k l)) := rfl
  have hkr : inB k 1 1000000000 = true → 1 ≤ k ∧ k ≤ 1000000000 := inB_true
  generalize keyB f = p at ck hr
  generalize inB k 1 1000000000 = u at cn hr hkr
  obtain ⟨v, hv⟩ : ∃ v, decide (l.length ≤ 60) = v := ⟨_, rfl⟩
  have hv2 : decide (60 < (l.length : Int)) = !v := by rw [← hv, ← decide_not]; exact decide_eq_decide.2 (by omega)
  rw [hv] at hr
  refine W_seq (?_)
  apply W_regS
  · intro K hK
    simp
    repeat' (first | with_reducible exact hK | (with_reducible refine goL_split (fun _ => ?_) (fun _ => ?_) <;> simp) | with_reducible refine And.intro ?_ ?_ | with_reducible exact okay_rfl rfl | with_reducible assumption | omega)
  refine W_seq (W_seq (?_))
  refine W_regB 20 (!(p && u && v)) (fun K hK => ?_) ?_
  · simp [hv2]
    repeat' (first | exact hK _ _ (by clear hK; first | omega | (exact decide_eq_false (by omega)) | (exact decide_eq_true (by omega)) | (exact (decide_eq_true (by omega)).symm) | (exact (decide_eq_false (by omega)).symm) | (exact decide_eq_decide.2 (by omega)) | (simp [*]; done) | (simp [*]; omega) | (simp_all; done) | (simp_all; omega) | (rw [Bool.eq_iff_iff]; simp at *; omega)) | (with_reducible refine callQ (ck) ?_; simp [hv2]) | (with_reducible refine callQ (cn) ?_; simp [hv2]) | (with_reducible refine goL_split (fun _ => ?_) (fun _ => ?_) <;> simp [hv2]) | with_reducible refine And.intro ?_ ?_ | with_reducible exact okay_rfl rfl | with_reducible assumption | omega)
  refine W_cond rfl (fun h => W_seq ?_) (fun h => W_skip ?_)
  · apply W_regS
    · intro K hK
      simp
      repeat' (first | with_reducible exact hK | (with_reducible refine goL_split (fun _ => ?_) (fun _ => ?_) <;> simp) | with_reducible refine And.intro ?_ ?_ | with_reducible exact okay_rfl rfl | with_reducible assumption | omega)
    have : rackOk (GRack.mk f k l) = false := by rw [hr]; revert h; cases u <;> cases p <;> cases v <;> simp
    refine W_ret ?_
    simp [Fin, this]
    all_goals omega
  have hr2 : rackOk (GRack.mk f k l) = (List.range l.length).all (wlinkAt k l) := by rw [hr]; revert h; cases u <;> cases p <;> cases v <;> simp
  have hk := hkr (by revert h; cases u <;> cases p <;> cases v <;> simp)
  have hwk : IntKind.i64.wrap (k - 1) = k - 1 := wrap_id (by omega) (by omega)
  refine W_seq (W_seq (?_))
  apply W_regS
  · intro K hK
    simp
    repeat' (first | with_reducible exact hK | (with_reducible refine goL_split (fun _ => ?_) (fun _ => ?_) <;> simp) | with_reducible refine And.intro ?_ ?_ | with_reducible exact okay_rfl rfl | with_reducible assumption | omega)
  refine W_block (W_loop (fun n st => ∃ i : Nat, n = l.length - i ∧ i ≤ l.length ∧ (∀ j, j < i → wlinkAt k l j = true) ∧
    st = ⟨[], [(1, .ptr 0 0), (3, .d (.int .i64 i))], [(0, .box [.d (.int .i64 f), .d (.int .i64 k), .d (.slc 6 (rWrap l))])], 1⟩) _ ⟨0, rfl, by omega, fun j h => by omega, rfl⟩ ?_)
  rintro n st ⟨i, rfl, hi, hn, rfl⟩
  refine W_seq (W_seq (?_))
  apply W_regS
  · intro K hK
    simp
    repeat' (first | with_reducible exact hK | (with_reducible refine goL_split (fun _ => ?_) (fun _ => ?_) <;> simp) | with_reducible refine And.intro ?_ ?_ | with_reducible exact okay_rfl rfl | with_reducible assumption | omega)
  refine W_cond rfl (fun h2 => W_skip ?_) (fun h2 => W_exit ?_)
  · simp at h2
    have ha := List.getElem?_eq_getElem h2
    generalize l[i] = x at ha
    have hg := sumBy_get (f := GWrap.cost) ha
    have hcx : x.cost = x.fKind.length + x.fBox.cost := rfl
    refine W_seq (W_block (W_seq ?_))
    apply W_regS
    · intro K hK
      simp [ha]
      repeat' (first | with_reducible exact hK | (with_reducible refine goL_split (fun _ => ?_) (fun _ => ?_) <;> simp [ha]) | with_reducible refine And.intro ?_ ?_ | with_reducible exact okay_rfl rfl | with_reducible assumption | omega)
    have c1 : Valid PP GG F_S_l01In [.d (.int .i64 x.fId), .d (.int .i64 1), .d (.int .i64 (k - 1))] (.d (.bool (inB x.fId 1 (k - 1)))) [none, none, none] := l01In_ok _ _ _
    have c2 : Valid PP GG F_S_l01In [.d (.int .i64 x.fEnds), .d (.int .i64 1), .d (.int .i64 1000000000)] (.d (.bool (inB x.fEnds 1 1000000000))) [none, none, none] := l01In_ok _ _ _
    have c3 := s_PathOk_ok (GG := GG) x.fKind (by omega)
    have hno : wrapOk k x = (inB x.fId 1 (k - 1) && inB x.fEnds 1 1000000000 && pathOk x.fKind) := rfl
    generalize inB x.fId 1 (k - 1) = p1 at c1 hno
    generalize inB x.fEnds 1 1000000000 = p2 at c2 hno
    generalize pathOk x.fKind = p3 at c3 hno
    refine W_seq (?_)
    cases i with
    | zero =>
      have hlk : wlinkAt k l 0 = (p1 && p2 && p3) := by unfold wlinkAt; rw [ha]; simp only [hno, Bool.and_true]
      refine W_regBD 67 (!(p1 && p2 && p3)) (fun K hK => ?_) ?_
      · simp [ha, hwk]
        repeat' (first | exact hK _ _ (by clear hK; first | omega | (exact decide_eq_false (by omega)) | (exact decide_eq_true (by omega)) | (exact (decide_eq_true (by omega)).symm) | (exact (decide_eq_false (by omega)).symm) | (exact decide_eq_decide.2 (by omega)) | (simp [*]; done) | (simp [*]; omega) | (simp_all; done) | (simp_all; omega) | (rw [Bool.eq_iff_iff]; simp at *; omega)) | (with_reducible refine callQ (c1) ?_; simp [ha, hwk]) | (with_reducible refine callQ (c2) ?_; simp [ha, hwk]) | (with_reducible refine callQ (c3) ?_; simp [ha, hwk]) | (with_reducible refine goL_split (fun _ => ?_) (fun _ => ?_) <;> simp [ha, hwk]) | with_reducible refine And.intro ?_ ?_ | with_reducible exact okay_rfl rfl | with_reducible assumption | omega)
      generalize (p1 && p2 && p3) = q at hlk
      refine W_cond rfl (fun h4 => W_seq ?_) (fun h4 => W_skip ?_)
      · apply W_regS
        · intro K hK
          simp
          repeat' (first | with_reducible exact hK | (with_reducible refine goL_split (fun _ => ?_) (fun _ => ?_) <;> simp) | with_reducible refine And.intro ?_ ?_ | with_reducible exact okay_rfl rfl | with_reducible assumption | omega)
        have : rackOk (GRack.mk f k l) = false := by rw [hr2]; exact range_no (i := 0) (by omega) (by rw [hlk]; revert h4; cases q <;> simp)
        refine W_ret ?_
        simp [Fin, this]
        all_goals omega
      apply W_regS
      · intro K hK
        simp
        repeat' (first | with_reducible exact hK | (with_reducible refine goL_split (fun _ => ?_) (fun _ => ?_) <;> simp) | with_reducible refine And.intro ?_ ?_ | with_reducible exact okay_rfl rfl | with_reducible assumption | omega)
      exact ⟨l.length - (0 + 1), by omega, 0 + 1, rfl, h2, range_step hn (by rw [hlk]; revert h4; cases q <;> simp), by simp [gc, closeN, liveA, gcV, gcO, renA, renAs, renO, namesAs, namesA, namesO, posn]; exact wrap_id (by omega) (by omega)⟩
    | succ j =>
      have hb := List.getElem?_eq_getElem (show j < l.length by omega)
      generalize l[j]'_ = y at hb
      have hw1 : IntKind.i64.wrap (j : Int) = j := wrap_id (by omega) (by omega)
      obtain ⟨z, hz⟩ : ∃ z, decide (y.fId < x.fId) = z := ⟨_, rfl⟩
      have hz2 : decide (x.fId ≤ y.fId) = !z := by rw [← hz, ← decide_not]; exact decide_eq_decide.2 (by omega)
      have hlk : wlinkAt k l (j + 1) = (p1 && p2 && p3 && z) := by unfold wlinkAt; rw [ha]; simp only [hno, hb, hz]
      have hlt : j < l.length := by omega
      refine W_regBD 67 (!(p1 && p2 && p3 && z)) (fun K hK => ?_) ?_
      · simp [ha, hb, hw1, hwk, hz2]
        repeat' (first | exact hK _ _ (by clear hK; first | omega | (exact decide_eq_false (by omega)) | (exact decide_eq_true (by omega)) | (exact (decide_eq_true (by omega)).symm) | (exact (decide_eq_false (by omega)).symm) | (exact decide_eq_decide.2 (by omega)) | (simp [*]; done) | (simp [*]; omega) | (simp_all; done) | (simp_all; omega) | (rw [Bool.eq_iff_iff]; simp at *; omega)) | (with_reducible refine callQ (c1) ?_; simp [ha, hb, hw1, hwk, hz2]) | (with_reducible refine callQ (c2) ?_; simp [ha, hb, hw1, hwk, hz2]) | (with_reducible refine callQ (c3) ?_; simp [ha, hb, hw1, hwk, hz2]) | (with_reducible refine goL_split (fun _ => ?_) (fun _ => ?_) <;> simp [ha, hb, hw1, hwk, hz2]) | with_reducible refine And.intro ?_ ?_ | with_reducible exact okay_rfl rfl | with_reducible assumption | omega)
      generalize (p1 && p2 && p3 && z) = q at hlk
      refine W_cond rfl (fun h4 => W_seq ?_) (fun h4 => W_skip ?_)
      · apply W_regS
        · intro K hK
          simp
          repeat' (first | with_reducible exact hK | (with_reducible refine goL_split (fun _ => ?_) (fun _ => ?_) <;> simp) | with_reducible refine And.intro ?_ ?_ | with_reducible exact okay_rfl rfl | with_reducible assumption | omega)
        have : rackOk (GRack.mk f k l) = false := by rw [hr2]; exact range_no (i := j + 1) (by omega) (by rw [hlk]; revert h4; cases q <;> simp)
        refine W_ret ?_
        simp [Fin, this]
        all_goals omega
      apply W_regS
      · intro K hK
        simp
        repeat' (first | with_reducible exact hK | (with_reducible refine goL_split (fun _ => ?_) (fun _ => ?_) <;> simp) | with_reducible refine And.intro ?_ ?_ | with_reducible exact okay_rfl rfl | with_reducible assumption | omega)
      refine ⟨l.length - (j + 1 + 1), by omega, j + 1 + 1, rfl, h2, range_step hn (by rw [hlk]; revert h4; cases q <;> simp), ?_⟩
      simp [gc, closeN, liveA, gcV, gcO, renA, renAs, renO, namesAs, namesA, namesO, posn]
      rw [wrap_id (by omega) (by omega)]
  · simp at h2
    rw [if_pos rfl]
    refine W_seq (?_)
    apply W_regS
    · intro K hK
      simp
      repeat' (first | with_reducible exact hK | (with_reducible refine goL_split (fun _ => ?_) (fun _ => ?_) <;> simp) | with_reducible refine And.intro ?_ ?_ | with_reducible exact okay_rfl rfl | with_reducible assumption | omega)
    have : rackOk (GRack.mk f k l) = true := by rw [hr2]; exact List.all_eq_true.2 fun j hj => hn j (by have := List.mem_range.1 hj; omega)
    refine W_ret ?_
    simp [Fin, this]
    all_goals omega

theorem isRack_ok [MaxL GG] (r : GRack) (hc : r.cost ≤ 1048576) : Valid PP GG F_I_isRack [.agg r.c] (.d (.bool (rackOk r))) [none] := by
  refine v_I_isRack [.d (.bool (rackOk r))] rfl rfl ?_
  obtain ⟨f, k, l⟩ := r
  have hco : (GRack.mk f k l).cost = l.length + sumBy GWrap.cost l := rfl
  have ck := isKey_ok (GG := GG) f
  have cn : Valid PP GG F_I_within [.d (.int .i64 k), .d (.int .i64 1), .d (.int .i64 1000000000)] (.d (.bool (inB k 1 1000000000))) [none, none, none] := within_ok _ _ _
  have hr : rackOk (GRack.mk f k l) = (keyB f && inB k 1 1000000000 && decide (l.length ≤ 60) && (List.range l.length).all (wlinkAt k l)) := rfl
  have hkr : inB k 1 1000000000 = true → 1 ≤ k ∧ k ≤ 1000000000 := inB_true
  generalize keyB f = p at ck hr
  generalize inB k 1 1000000000 = u at cn hr hkr
  obtain ⟨v, hv⟩ : ∃ v, decide (l.length ≤ 60) = v := ⟨_, rfl⟩
  have hv2 : decide (60 < (l.length : Int)) = !v := by rw [← hv, ← decide_not]; exact decide_eq_decide.2 (by omega)
  rw [hv] at hr
  refine W_seq (?_)
  apply W_regS
  · intro K hK
    simp
    repeat' (first | with_reducible exact hK | (with_reducible refine goL_split (fun _ => ?_) (fun _ => ?_) <;> simp) | with_reducible refine And.intro ?_ ?_ | with_reducible exact okay_rfl rfl | with_reducible assumption | omega)
  refine W_seq (W_seq (?_))
  refine W_regB 20 (!(p && u && v)) (fun K hK => ?_) ?_
  · simp [hv2]
    repeat' (first | exact hK _ _ (by clear hK; first | omega | (exact decide_eq_false (by omega)) | (exact decide_eq_true (by omega)) | (exact (decide_eq_true (by omega)).symm) | (exact (decide_eq_false (by omega)).symm) | (exact decide_eq_decide.2 (by omega)) | (simp [*]; done) | (simp [*]; omega) | (simp_all; done) | (simp_all; omega) | (rw [Bool.eq_iff_iff]; simp at *; omega)) | (with_reducible refine callQ (ck) ?_; simp [hv2]) | (with_reducible refine callQ (cn) ?_; simp [hv2]) | (with_reducible refine goL_split (fun _ => ?_) (fun _ => ?_) <;> simp [hv2]) | with_reducible refine And.intro ?_ ?_ | with_reducible exact okay_rfl rfl | with_reducible assumption | omega)
  refine W_cond rfl (fun h => W_seq ?_) (fun h => W_skip ?_)
  · apply W_regS
    · intro K hK
      simp
      repeat' (first | with_reducible exact hK | (with_reducible refine goL_split (fun _ => ?_) (fun _ => ?_) <;> simp) | with_reducible refine And.intro ?_ ?_ | with_reducible exact okay_rfl rfl | with_reducible assumption | omega)
    have : rackOk (GRack.mk f k l) = false := by rw [hr]; revert h; cases u <;> cases p <;> cases v <;> simp
    refine W_ret ?_
    simp [Fin, this]
    all_goals omega
  have hr2 : rackOk (GRack.mk f k l) = (List.range l.length).all (wlinkAt k l) := by rw [hr]; revert h; cases u <;> cases p <;> cases v <;> simp
  have hk := hkr (by revert h; cases u <;> cases p <;> cases v <;> simp)
  have hwk : IntKind.i64.wrap (k - 1) = k - 1 := wrap_id (by omega) (by omega)
  refine W_seq (W_seq (?_))
  apply W_regS
  · intro K hK
    simp
    repeat' (first | with_reducible exact hK | (with_reducible refine goL_split (fun _ => ?_) (fun _ => ?_) <;> simp) | with_reducible refine And.intro ?_ ?_ | with_reducible exact okay_rfl rfl | with_reducible assumption | omega)
  refine W_block (W_loop (fun n st => ∃ i : Nat, n = l.length - i ∧ i ≤ l.length ∧ (∀ j, j < i → wlinkAt k l j = true) ∧
    st = ⟨[], [(1, .ptr 0 0), (22, .d (.slc 6 (rWrap l))), (23, .d (.int .i64 l.length)), (24, .d (.int .i64 i))], [(0, .box [.d (.int .i64 f), .d (.int .i64 k), .d (.slc 6 (rWrap l))])], 1⟩) _ ⟨0, rfl, by omega, fun j h => by omega, rfl⟩ ?_)
  rintro n st ⟨i, rfl, hi, hn, rfl⟩
  refine W_seq (?_)
  apply W_regS
  · intro K hK
    simp
    repeat' (first | with_reducible exact hK | (with_reducible refine goL_split (fun _ => ?_) (fun _ => ?_) <;> simp) | with_reducible refine And.intro ?_ ?_ | with_reducible exact okay_rfl rfl | with_reducible assumption | omega)
  refine W_seq (?_)
  refine W_cond rfl (fun h2 => W_skip ?_) (fun h2 => W_exit ?_)
  · simp at h2
    have ha := List.getElem?_eq_getElem h2
    generalize l[i] = x at ha
    have hg := sumBy_get (f := GWrap.cost) ha
    have hcx : x.cost = x.fKind.length + x.fBox.cost := rfl
    refine W_seq (W_block (W_seq ?_))
    apply W_regS
    · intro K hK
      simp [ha]
      repeat' (first | with_reducible exact hK | (with_reducible refine goL_split (fun _ => ?_) (fun _ => ?_) <;> simp [ha]) | with_reducible refine And.intro ?_ ?_ | with_reducible exact okay_rfl rfl | with_reducible assumption | omega)
    have c1 : Valid PP GG F_I_within [.d (.int .i64 x.fId), .d (.int .i64 1), .d (.int .i64 (k - 1))] (.d (.bool (inB x.fId 1 (k - 1)))) [none, none, none] := within_ok _ _ _
    have c2 : Valid PP GG F_I_within [.d (.int .i64 x.fEnds), .d (.int .i64 1), .d (.int .i64 1000000000)] (.d (.bool (inB x.fEnds 1 1000000000))) [none, none, none] := within_ok _ _ _
    have c3 := isPath_ok (GG := GG) x.fKind (by omega)
    have hno : wrapOk k x = (inB x.fId 1 (k - 1) && inB x.fEnds 1 1000000000 && pathOk x.fKind) := rfl
    generalize inB x.fId 1 (k - 1) = p1 at c1 hno
    generalize inB x.fEnds 1 1000000000 = p2 at c2 hno
    generalize pathOk x.fKind = p3 at c3 hno
    refine W_seq (?_)
    cases i with
    | zero =>
      have hlk : wlinkAt k l 0 = (p1 && p2 && p3) := by unfold wlinkAt; rw [ha]; simp only [hno, Bool.and_true]
      refine W_regBD 63 (!(p1 && p2 && p3)) (fun K hK => ?_) ?_
      · simp [ha, hwk]
        repeat' (first | exact hK _ _ (by clear hK; first | omega | (exact decide_eq_false (by omega)) | (exact decide_eq_true (by omega)) | (exact (decide_eq_true (by omega)).symm) | (exact (decide_eq_false (by omega)).symm) | (exact decide_eq_decide.2 (by omega)) | (simp [*]; done) | (simp [*]; omega) | (simp_all; done) | (simp_all; omega) | (rw [Bool.eq_iff_iff]; simp at *; omega)) | (with_reducible refine callQ (c1) ?_; simp [ha, hwk]) | (with_reducible refine callQ (c2) ?_; simp [ha, hwk]) | (with_reducible refine callQ (c3) ?_; simp [ha, hwk]) | (with_reducible refine goL_split (fun _ => ?_) (fun _ => ?_) <;> simp [ha, hwk]) | with_reducible refine And.intro ?_ ?_ | with_reducible exact okay_rfl rfl | with_reducible assumption | omega)
      generalize (p1 && p2 && p3) = q at hlk
      refine W_cond rfl (fun h4 => W_seq ?_) (fun h4 => W_skip ?_)
      · apply W_regS
        · intro K hK
          simp
          repeat' (first | with_reducible exact hK | (with_reducible refine goL_split (fun _ => ?_) (fun _ => ?_) <;> simp) | with_reducible refine And.intro ?_ ?_ | with_reducible exact okay_rfl rfl | with_reducible assumption | omega)
        have : rackOk (GRack.mk f k l) = false := by rw [hr2]; exact range_no (i := 0) (by omega) (by rw [hlk]; revert h4; cases q <;> simp)
        refine W_ret ?_
        simp [Fin, this]
        all_goals omega
      apply W_regS
      · intro K hK
        simp
        repeat' (first | with_reducible exact hK | (with_reducible refine goL_split (fun _ => ?_) (fun _ => ?_) <;> simp) | with_reducible refine And.intro ?_ ?_ | with_reducible exact okay_rfl rfl | with_reducible assumption | omega)
      exact ⟨l.length - (0 + 1), by omega, 0 + 1, rfl, h2, range_step hn (by rw [hlk]; revert h4; cases q <;> simp), by simp [gc, closeN, liveA, gcV, gcO, renA, renAs, renO, namesAs, namesA, namesO, posn]; exact wrap_id (by omega) (by omega)⟩
    | succ j =>
      have hb := List.getElem?_eq_getElem (show j < l.length by omega)
      generalize l[j]'_ = y at hb
      have hw1 : IntKind.i64.wrap (j : Int) = j := wrap_id (by omega) (by omega)
      obtain ⟨z, hz⟩ : ∃ z, decide (y.fId < x.fId) = z := ⟨_, rfl⟩
      have hz2 : decide (x.fId ≤ y.fId) = !z := by rw [← hz, ← decide_not]; exact decide_eq_decide.2 (by omega)
      have hlk : wlinkAt k l (j + 1) = (p1 && p2 && p3 && z) := by unfold wlinkAt; rw [ha]; simp only [hno, hb, hz]
      have hlt : j < l.length := by omega
      refine W_regBD 63 (!(p1 && p2 && p3 && z)) (fun K hK => ?_) ?_
      · simp [ha, hb, hw1, hwk, hz2]
        repeat' (first | exact hK _ _ (by clear hK; first | omega | (exact decide_eq_false (by omega)) | (exact decide_eq_true (by omega)) | (exact (decide_eq_true (by omega)).symm) | (exact (decide_eq_false (by omega)).symm) | (exact decide_eq_decide.2 (by omega)) | (simp [*]; done) | (simp [*]; omega) | (simp_all; done) | (simp_all; omega) | (rw [Bool.eq_iff_iff]; simp at *; omega)) | (with_reducible refine callQ (c1) ?_; simp [ha, hb, hw1, hwk, hz2]) | (with_reducible refine callQ (c2) ?_; simp [ha, hb, hw1, hwk, hz2]) | (with_reducible refine callQ (c3) ?_; simp [ha, hb, hw1, hwk, hz2]) | (with_reducible refine goL_split (fun _ => ?_) (fun _ => ?_) <;> simp [ha, hb, hw1, hwk, hz2]) | with_reducible refine And.intro ?_ ?_ | with_reducible exact okay_rfl rfl | with_reducible assumption | omega)
      generalize (p1 && p2 && p3 && z) = q at hlk
      refine W_cond rfl (fun h4 => W_seq ?_) (fun h4 => W_skip ?_)
      · apply W_regS
        · intro K hK
          simp
          repeat' (first | with_reducible exact hK | (with_reducible refine goL_split (fun _ => ?_) (fun _ => ?_) <;> simp) | with_reducible refine And.intro ?_ ?_ | with_reducible exact okay_rfl rfl | with_reducible assumption | omega)
        have : rackOk (GRack.mk f k l) = false := by rw [hr2]; exact range_no (i := j + 1) (by omega) (by rw [hlk]; revert h4; cases q <;> simp)
        refine W_ret ?_
        simp [Fin, this]
        all_goals omega
      apply W_regS
      · intro K hK
        simp
        repeat' (first | with_reducible exact hK | (with_reducible refine goL_split (fun _ => ?_) (fun _ => ?_) <;> simp) | with_reducible refine And.intro ?_ ?_ | with_reducible exact okay_rfl rfl | with_reducible assumption | omega)
      refine ⟨l.length - (j + 1 + 1), by omega, j + 1 + 1, rfl, h2, range_step hn (by rw [hlk]; revert h4; cases q <;> simp), ?_⟩
      simp [gc, closeN, liveA, gcV, gcO, renA, renAs, renO, namesAs, namesA, namesO, posn]
      rw [wrap_id (by omega) (by omega)]
  · simp at h2
    rw [if_pos rfl]
    refine W_seq (?_)
    apply W_regS
    · intro K hK
      simp
      repeat' (first | with_reducible exact hK | (with_reducible refine goL_split (fun _ => ?_) (fun _ => ?_) <;> simp) | with_reducible refine And.intro ?_ ?_ | with_reducible exact okay_rfl rfl | with_reducible assumption | omega)
    have : rackOk (GRack.mk f k l) = true := by rw [hr2]; exact List.all_eq_true.2 fun j hj => hn j (by have := List.mem_range.1 hj; omega)
    refine W_ret ?_
    simp [Fin, this]
    all_goals omega

theorem findIdx_hit {α : Type} {p : α → Bool} {l : List α} {i : Nat} {x : α} (ha : l[i]? = some x) (hn : ∀ y, y ∈ l.take i → p y = false) (hx : p x = true) : l.findIdx? p = some i := by
  obtain ⟨h, e⟩ := List.getElem?_eq_some_iff.1 ha
  rw [List.findIdx?_eq_some_iff_getElem]
  refine ⟨h, by rw [e]; exact hx, fun j hj => ?_⟩
  have := hn l[j] (List.mem_take_iff_getElem.2 ⟨j, by omega, rfl⟩)
  simp [this]

theorem findIdx_miss {α : Type} {p : α → Bool} {l : List α} (hn : ∀ y, y ∈ l → p y = false) : l.findIdx? p = none := List.findIdx?_eq_none_iff.2 hn

def idxV {α : Type} (p : α → Bool) (l : List α) : Int := match l.findIdx? p with | some i => (i : Int) | none => -1

theorem s_l14At_ok (r : GRack) (id : Int) (hc : r.cost ≤ 1048576) : Valid PP GG F_S_l14At [.agg r.c, .d (.int .i64 id)] (.d (.int .i64 (idxV (fun x : GWrap => x.fId == id) r.fWraps))) [none, none] := by
  refine v_S_l14At [.d (.int .i64 (idxV (fun x : GWrap => x.fId == id) r.fWraps))] rfl rfl ?_
  obtain ⟨f, k, l⟩ := r
  have hco : (GRack.mk f k l).cost = l.length + sumBy GWrap.cost l := rfl
  simp only
  refine W_seq (?_)
  apply W_regS
  · intro K hK
    simp
    repeat' (first | with_reducible exact hK | (with_reducible refine goL_split (fun _ => ?_) (fun _ => ?_) <;> simp) | with_reducible refine And.intro ?_ ?_ | with_reducible exact okay_rfl rfl | with_reducible assumption | omega)
  refine W_seq (W_seq (?_))
  apply W_regS
  · intro K hK
    simp
    repeat' (first | with_reducible exact hK | (with_reducible refine goL_split (fun _ => ?_) (fun _ => ?_) <;> simp) | with_reducible refine And.intro ?_ ?_ | with_reducible exact okay_rfl rfl | with_reducible assumption | omega)
  refine W_block (W_loop (fun n st => ∃ i : Nat, n = l.length - i ∧ i ≤ l.length ∧ (∀ y, y ∈ l.take i → (y.fId == id) = false) ∧
    st = ⟨[], [(1, .d (.int .i64 id)), (2, .ptr 0 0), (5, .d (.int .i64 i))], [(0, .box [.d (.int .i64 f), .d (.int .i64 k), .d (.slc 6 (rWrap l))])], 1⟩) _ ⟨0, rfl, by omega, fun y h => by simp at h, rfl⟩ ?_)
  rintro n st ⟨i, rfl, hi, hn, rfl⟩
  refine W_seq (W_seq (?_))
  apply W_regS
  · intro K hK
    simp
    repeat' (first | with_reducible exact hK | (with_reducible refine goL_split (fun _ => ?_) (fun _ => ?_) <;> simp) | with_reducible refine And.intro ?_ ?_ | with_reducible exact okay_rfl rfl | with_reducible assumption | omega)
  refine W_cond rfl (fun h2 => W_skip ?_) (fun h2 => W_exit ?_)
  · simp at h2
    have ha := List.getElem?_eq_getElem h2
    generalize l[i] = x at ha
    refine W_seq (W_block (W_seq ?_))
    apply W_regS
    · intro K hK
      simp [ha]
      repeat' (first | with_reducible exact hK | (with_reducible refine goL_split (fun _ => ?_) (fun _ => ?_) <;> simp [ha]) | with_reducible refine And.intro ?_ ?_ | with_reducible exact okay_rfl rfl | with_reducible assumption | omega)
    refine W_cond rfl (fun h3 => W_seq ?_) (fun h3 => W_skip ?_)
    · apply W_regS
      · intro K hK
        simp
        repeat' (first | with_reducible exact hK | (with_reducible refine goL_split (fun _ => ?_) (fun _ => ?_) <;> simp) | with_reducible refine And.intro ?_ ?_ | with_reducible exact okay_rfl rfl | with_reducible assumption | omega)
      have : idxV (fun x : GWrap => x.fId == id) l = i := by unfold idxV; rw [findIdx_hit ha hn (by simpa using h3)]
      refine W_ret ?_
      simp [Fin, this]
      all_goals omega
    apply W_regS
    · intro K hK
      simp
      repeat' (first | with_reducible exact hK | (with_reducible refine goL_split (fun _ => ?_) (fun _ => ?_) <;> simp) | with_reducible refine And.intro ?_ ?_ | with_reducible exact okay_rfl rfl | with_reducible assumption | omega)
    exact ⟨l.length - (i + 1), by omega, i + 1, rfl, h2, take_all ha hn (by simpa using h3), by simp [gc, closeN, liveA, gcV, gcO, renA, renAs, renO, namesAs, namesA, namesO, posn]; exact wrap_id (by omega) (by omega)⟩
  · simp at h2
    rw [if_pos rfl]
    rw [List.take_of_length_le h2] at hn
    refine W_seq (?_)
    apply W_regS
    · intro K hK
      simp
      repeat' (first | with_reducible exact hK | (with_reducible refine goL_split (fun _ => ?_) (fun _ => ?_) <;> simp) | with_reducible refine And.intro ?_ ?_ | with_reducible exact okay_rfl rfl | with_reducible assumption | omega)
    have : idxV (fun x : GWrap => x.fId == id) l = -1 := by unfold idxV; rw [findIdx_miss hn]
    refine W_ret ?_
    simp [Fin, this]
    all_goals omega

theorem wrapIndex_c1_ok (x : GWrap) (id : Int) : Valid PP GG F_I_wrapIndex_c1 [.agg x.c, .rp [.int .i64 id]] (.d (.bool (x.fId == id))) [none] := by
  refine v_I_wrapIndex_c1 [.d (.bool (x.fId == id))] rfl rfl ?_
  refine W_seq (?_)
  apply W_regS
  · intro K hK
    simp
    repeat' (first | with_reducible exact hK | (with_reducible refine goL_split (fun _ => ?_) (fun _ => ?_) <;> simp) | with_reducible refine And.intro ?_ ?_ | with_reducible exact okay_rfl rfl | with_reducible assumption | omega)
  refine W_seq (?_)
  apply W_regS
  · intro K hK
    simp
    repeat' (first | with_reducible exact hK | (with_reducible refine goL_split (fun _ => ?_) (fun _ => ?_) <;> simp) | with_reducible refine And.intro ?_ ?_ | with_reducible exact okay_rfl rfl | with_reducible assumption | omega)
  refine W_ret ?_
  simp [Fin]
  all_goals omega

theorem IndexFuncWrap_ok (a : List GWrap) (g : FuncId) (caps : List (List D)) (p : GWrap → Bool) (hsz : a.length ≤ 281474976710656) (hp : ∀ x, x ∈ a → Valid PP GG g (.agg x.c :: caps.map .rp) (.d (.bool (p x))) [none]) :
    Valid PP GG F_slices_IndexFunc___impl_Wrap_impl_Wrap_ [.d (.slc 6 (rWrap a)), .d (.fn g caps)] (.d (.int .i64 (idxV p a))) [none, none] := by
  refine v_slices_IndexFunc___impl_Wrap_impl_Wrap_ [.d (.int .i64 (idxV p a))] rfl rfl ?_
  refine W_seq (?_)
  apply W_regS
  · intro K hK
    simp
    repeat' (first | with_reducible exact hK | (with_reducible refine goL_split (fun _ => ?_) (fun _ => ?_) <;> simp) | with_reducible refine And.intro ?_ ?_ | with_reducible exact okay_rfl rfl | with_reducible assumption | omega)
  refine W_seq (W_seq (?_))
  apply W_regS
  · intro K hK
    simp
    repeat' (first | with_reducible exact hK | (with_reducible refine goL_split (fun _ => ?_) (fun _ => ?_) <;> simp) | with_reducible refine And.intro ?_ ?_ | with_reducible exact okay_rfl rfl | with_reducible assumption | omega)
  refine W_block (W_loop (fun n st => ∃ i : Nat, n = a.length - i ∧ i ≤ a.length ∧ (∀ x, x ∈ a.take i → p x = false) ∧
    st = ⟨[], [(0, .d (.slc 6 (rWrap a))), (1, .d (.fn g caps)), (7, .d (.int .i64 a.length)), (8, .d (.int .i64 i))], [], 0⟩) _ ⟨0, rfl, by omega, fun x hx => by simp at hx, rfl⟩ ?_)
  rintro n st ⟨i, rfl, hi, hn, rfl⟩
  refine W_seq (?_)
  apply W_regS
  · intro K hK
    simp
    repeat' (first | with_reducible exact hK | (with_reducible refine goL_split (fun _ => ?_) (fun _ => ?_) <;> simp) | with_reducible refine And.intro ?_ ?_ | with_reducible exact okay_rfl rfl | with_reducible assumption | omega)
  refine W_seq (?_)
  refine W_cond rfl (fun h => W_skip ?_) (fun h => W_exit ?_)
  · simp at h
    have ha := List.getElem?_eq_getElem h
    generalize a[i] = x at ha
    have cp := hp x (List.mem_of_getElem? ha)
    refine W_seq (W_block (W_seq ?_))
    apply W_regS
    · intro K hK
      simp
      repeat' (first | with_reducible exact hK | (with_reducible refine goL_split (fun _ => ?_) (fun _ => ?_) <;> simp) | with_reducible refine And.intro ?_ ?_ | with_reducible exact okay_rfl rfl | with_reducible assumption | omega)
    refine W_seq (?_)
    apply W_regS
    · intro K hK
      simp [ha]
      repeat' (first | with_reducible exact hK | (with_reducible refine callQ (cp) ?_; simp [ha]) | (with_reducible refine goL_split (fun _ => ?_) (fun _ => ?_) <;> simp [ha]) | with_reducible refine And.intro ?_ ?_ | with_reducible exact okay_rfl rfl | with_reducible assumption | omega)
    refine W_cond rfl (fun h2 => W_seq ?_) (fun h2 => W_skip ?_)
    · apply W_regS
      · intro K hK
        simp
        repeat' (first | with_reducible exact hK | (with_reducible refine goL_split (fun _ => ?_) (fun _ => ?_) <;> simp) | with_reducible refine And.intro ?_ ?_ | with_reducible exact okay_rfl rfl | with_reducible assumption | omega)
      have e : idxV p a = i := by unfold idxV; rw [findIdx_hit ha hn h2]
      refine W_ret ?_
      simp [Fin, e]
      all_goals omega
    apply W_regS
    · intro K hK
      simp
      repeat' (first | with_reducible exact hK | (with_reducible refine goL_split (fun _ => ?_) (fun _ => ?_) <;> simp) | with_reducible refine And.intro ?_ ?_ | with_reducible exact okay_rfl rfl | with_reducible assumption | omega)
    exact ⟨a.length - (i + 1), by omega, i + 1, rfl, h, take_all ha hn h2, by simp [gc, closeN, liveA, gcV, gcO, renA, namesAs, namesA]; rw [wrap_id (by omega) (by omega)]⟩
  · simp at h
    rw [if_pos rfl]
    rw [List.take_of_length_le h] at hn
    refine W_seq (?_)
    apply W_regS
    · intro K hK
      simp
      repeat' (first | with_reducible exact hK | (with_reducible refine goL_split (fun _ => ?_) (fun _ => ?_) <;> simp) | with_reducible refine And.intro ?_ ?_ | with_reducible exact okay_rfl rfl | with_reducible assumption | omega)
    have e : idxV p a = -1 := by unfold idxV; rw [findIdx_miss hn]
    refine W_ret ?_
    simp [Fin, e]
    all_goals omega

theorem wrapIndex_ok (r : GRack) (id : Int) (hc : r.cost ≤ 1048576) : Valid PP GG F_I_wrapIndex [.agg r.c, .d (.int .i64 id)] (.d (.int .i64 (idxV (fun x : GWrap => x.fId == id) r.fWraps))) [none, none] := by
  refine v_I_wrapIndex [.d (.int .i64 (idxV (fun x : GWrap => x.fId == id) r.fWraps))] rfl rfl ?_
  have hco : r.cost = r.fWraps.length + sumBy GWrap.cost r.fWraps := rfl
  have ci : Valid PP GG F_slices_IndexFunc___impl_Wrap_impl_Wrap_ [.d (.slc 6 (rWrap r.fWraps)), .d (.fn 117 [[.int .i64 id]])] (.d (.int .i64 (idxV (fun x : GWrap => x.fId == id) r.fWraps))) [none, none] :=
    IndexFuncWrap_ok r.fWraps 117 [[.int .i64 id]] (fun x => x.fId == id) (by omega) (fun x _ => wrapIndex_c1_ok x id)
  generalize idxV (fun x : GWrap => x.fId == id) r.fWraps = v at ci ⊢
  refine W_seq (?_)
  apply W_regS
  · intro K hK
    simp
    repeat' (first | with_reducible exact hK | (with_reducible refine goL_split (fun _ => ?_) (fun _ => ?_) <;> simp) | with_reducible refine And.intro ?_ ?_ | with_reducible exact okay_rfl rfl | with_reducible assumption | omega)
  refine W_seq (?_)
  apply W_regS
  · intro K hK
    simp
    repeat' (first | with_reducible exact hK | (with_reducible refine callQ (ci) ?_; simp) | (with_reducible refine goL_split (fun _ => ?_) (fun _ => ?_) <;> simp) | with_reducible refine And.intro ?_ ?_ | with_reducible exact okay_rfl rfl | with_reducible assumption | omega)
  refine W_ret ?_
  simp [Fin]
  all_goals omega

def peekK (r : GRack) (id : Int) : List UInt8 := if rackOk r = true then (match r.fWraps[(idxV (fun x : GWrap => x.fId == id) r.fWraps).toNat]? with | some x => if idxV (fun x : GWrap => x.fId == id) r.fWraps < 0 then [] else x.fKind | none => []) else []

def peekE (r : GRack) (id : Int) : Int := if rackOk r = true then (match r.fWraps[(idxV (fun x : GWrap => x.fId == id) r.fWraps).toNat]? with | some x => if idxV (fun x : GWrap => x.fId == id) r.fWraps < 0 then 0 else x.fEnds | none => 0) else 0

def peekC (r : GRack) (id : Int) : Int := if rackOk r = true then (if idxV (fun x : GWrap => x.fId == id) r.fWraps < 0 then 2 else 0) else 1

theorem idxV_range {α : Type} (p : α → Bool) (l : List α) : idxV p l = -1 ∨ ∃ (i : Nat) (x : α), idxV p l = i ∧ l[i]? = some x ∧ p x = true := by
  unfold idxV
  cases h : l.findIdx? p with
  | none => exact .inl rfl
  | some i =>
    obtain ⟨h1, h2, _⟩ := List.findIdx?_eq_some_iff_getElem.1 h
    exact .inr ⟨i, l[i], rfl, List.getElem?_eq_getElem h1, h2⟩

theorem s_PeekWrap_ok (r : GRack) (id : Int) (hc : r.cost ≤ 1048576) : Valid PP GG F_S_PeekWrap [.agg r.c, .d (.int .i64 id)] (.tup [.d (.str (peekK r id)), .d (.int .i64 (peekE r id)), .d (.int .i64 (peekC r id))]) [none, none] := by
  refine v_S_PeekWrap [.d (.str (peekK r id)), .d (.int .i64 (peekE r id)), .d (.int .i64 (peekC r id))] rfl rfl ?_
  have cr := s_RackOk_ok (GG := GG) r hc
  have ca := s_l14At_ok (GG := GG) r id hc
  have hk : peekK r id = (if rackOk r = true then (match r.fWraps[(idxV (fun x : GWrap => x.fId == id) r.fWraps).toNat]? with | some x => if idxV (fun x : GWrap => x.fId == id) r.fWraps < 0 then [] else x.fKind | none => []) else []) := rfl
  have he : peekE r id = (if rackOk r = true then (match r.fWraps[(idxV (fun x : GWrap => x.fId == id) r.fWraps).toNat]? with | some x => if idxV (fun x : GWrap => x.fId == id) r.fWraps < 0 then 0 else x.fEnds | none => 0) else 0) := rfl
  have hcc : peekC r id = (if rackOk r = true then (if idxV (fun x : GWrap => x.fId == id) r.fWraps < 0 then 2 else 0) else 1) := rfl
  generalize peekK r id = vk at hk ⊢
  generalize peekE r id = ve at he ⊢
  generalize peekC r id = vc at hcc ⊢
  have hx := idxV_range (fun x : GWrap => x.fId == id) r.fWraps
  generalize idxV (fun x : GWrap => x.fId == id) r.fWraps = at' at ca hk he hcc hx
  generalize rackOk r = b at cr hk he hcc
  cases b with
  | false =>
    rw [if_neg (by simp)] at hk he hcc
    subst hk he hcc
    refine W_seq (?_)
    apply W_regS
    · intro K hK
      simp
      repeat' (first | with_reducible exact hK | (with_reducible refine goL_split (fun _ => ?_) (fun _ => ?_) <;> simp) | with_reducible refine And.intro ?_ ?_ | with_reducible exact okay_rfl rfl | with_reducible assumption | omega)
    refine W_seq (W_seq (?_))
    apply W_regS
    · intro K hK
      simp
      repeat' (first | with_reducible exact hK | (with_reducible refine callQ (cr) ?_; simp) | (with_reducible refine goL_split (fun _ => ?_) (fun _ => ?_) <;> simp) | with_reducible refine And.intro ?_ ?_ | with_reducible exact okay_rfl rfl | with_reducible assumption | omega)
    refine W_cond rfl (fun h => W_seq ?_) (fun h => ?_)
    rotate_left
    · simp at h
    apply W_regS
    · intro K hK
      simp
      repeat' (first | with_reducible exact hK | (with_reducible refine goL_split (fun _ => ?_) (fun _ => ?_) <;> simp) | with_reducible refine And.intro ?_ ?_ | with_reducible exact okay_rfl rfl | with_reducible assumption | omega)
    refine W_ret ?_
    simp [Fin]
    all_goals omega
  | true =>
    rw [if_pos rfl] at hk he hcc
    refine W_seq (?_)
    apply W_regS
    · intro K hK
      simp
      repeat' (first | with_reducible exact hK | (with_reducible refine goL_split (fun _ => ?_) (fun _ => ?_) <;> simp) | with_reducible refine And.intro ?_ ?_ | with_reducible exact okay_rfl rfl | with_reducible assumption | omega)
    refine W_seq (W_seq (?_))
    apply W_regS
    · intro K hK
      simp
      repeat' (first | with_reducible exact hK | (with_reducible refine callQ (cr) ?_; simp) | (with_reducible refine goL_split (fun _ => ?_) (fun _ => ?_) <;> simp) | with_reducible refine And.intro ?_ ?_ | with_reducible exact okay_rfl rfl | with_reducible assumption | omega)
    refine W_cond rfl (fun h => ?_) (fun h => W_skip ?_)
    · simp at h
    refine W_seq (?_)
    apply W_regS
    · intro K hK
      simp
      repeat' (first | with_reducible exact hK | (with_reducible refine callQ (ca) ?_; simp) | (with_reducible refine goL_split (fun _ => ?_) (fun _ => ?_) <;> simp) | with_reducible refine And.intro ?_ ?_ | with_reducible exact okay_rfl rfl | with_reducible assumption | omega)
    rcases hx with rfl | ⟨i, x, rfl, ha, _⟩
    · rw [if_pos (by omega)] at hcc
      have hk2 : vk = [] := by rw [hk]; split <;> simp
      have he2 : ve = 0 := by rw [he]; split <;> simp
      subst hk2 he2 hcc
      refine W_seq (W_seq (?_))
      apply W_regS
      · intro K hK
        simp
        repeat' (first | with_reducible exact hK | (with_reducible refine goL_split (fun _ => ?_) (fun _ => ?_) <;> simp) | with_reducible refine And.intro ?_ ?_ | with_reducible exact okay_rfl rfl | with_reducible assumption | omega)
      refine W_cond rfl (fun h => W_seq ?_) (fun h => ?_)
      rotate_left
      · simp at h
      apply W_regS
      · intro K hK
        simp
        repeat' (first | with_reducible exact hK | (with_reducible refine goL_split (fun _ => ?_) (fun _ => ?_) <;> simp) | with_reducible refine And.intro ?_ ?_ | with_reducible exact okay_rfl rfl | with_reducible assumption | omega)
      refine W_ret ?_
      simp [Fin]
      all_goals omega
    · have hlt := (List.getElem?_eq_some_iff.1 ha).1
      rw [if_neg (by omega)] at hcc
      rw [Int.toNat_natCast, ha] at hk he
      simp only [show ¬ ((i : Int) < 0) by omega, if_false] at hk he
      subst hk he hcc
      refine W_seq (W_seq (?_))
      apply W_regS
      · intro K hK
        simp
        repeat' (first | with_reducible exact hK | (with_reducible refine goL_split (fun _ => ?_) (fun _ => ?_) <;> simp) | with_reducible refine And.intro ?_ ?_ | with_reducible exact okay_rfl rfl | with_reducible assumption | omega)
      refine W_cond rfl (fun h => ?_) (fun h => W_skip ?_)
      · simp at h; omega
      refine W_seq (?_)
      apply W_regD
      · intro K hK
        simp [ha]
        repeat' (first | with_reducible exact hK | (with_reducible refine goL_split (fun _ => ?_) (fun _ => ?_) <;> simp [ha]) | with_reducible refine And.intro ?_ ?_ | with_reducible exact okay_rfl rfl | with_reducible assumption | omega)
      refine W_ret ?_
      simp [Fin]
      all_goals omega

theorem l01Bytes_ok (a : List UInt8) (ha : a.length ≤ 70368744177664) : Valid PP GG F_S_l01Bytes [.d (.slc 1 (bytesD a))] (.own 0 1 (bytesD a)) [none] := by
  refine v_S_l01Bytes [.own 0 1 (bytesD a)] rfl rfl ?_
  refine W_seq (?_)
  apply W_regS
  · intro K hK
    simp
    repeat' (first | with_reducible exact hK | (with_reducible refine goL_split (fun _ => ?_) (fun _ => ?_) <;> simp) | with_reducible refine And.intro ?_ ?_ | with_reducible exact okay_rfl rfl | with_reducible assumption | omega)
  refine W_seq (?_)
  apply W_regS
  · intro K hK
    simp [litA]
    repeat' (first | with_reducible exact hK | (with_reducible refine goL_split (fun _ => ?_) (fun _ => ?_) <;> simp [litA]) | with_reducible refine And.intro ?_ ?_ | with_reducible exact okay_rfl rfl | with_reducible assumption | omega)
  refine W_seq (W_seq (?_))
  apply W_regS
  · intro K hK
    simp
    repeat' (first | with_reducible exact hK | (with_reducible refine goL_split (fun _ => ?_) (fun _ => ?_) <;> simp) | with_reducible refine And.intro ?_ ?_ | with_reducible exact okay_rfl rfl | with_reducible assumption | omega)
  refine W_block (W_loop (fun n st => ∃ i : Nat, n = a.length - i ∧ i ≤ a.length ∧
    st = ⟨[], [(0, .d (.slc 1 (bytesD a))), (3, .sl 0), (4, .d (.int .i64 i))], [(0, .arr 0 0 1 (bytesD (a.take i)))], 1⟩) _ ⟨0, rfl, by omega, rfl⟩ ?_)
  rintro n st ⟨i, rfl, hi, rfl⟩
  refine W_seq (W_seq (?_))
  apply W_regS
  · intro K hK
    simp
    repeat' (first | with_reducible exact hK | (with_reducible refine goL_split (fun _ => ?_) (fun _ => ?_) <;> simp) | with_reducible refine And.intro ?_ ?_ | with_reducible exact okay_rfl rfl | with_reducible assumption | omega)
  refine W_cond rfl (fun h => W_skip ?_) (fun h => W_exit ?_)
  · simp at h
    have hx := List.getElem?_eq_getElem h
    generalize a[i] = x at hx
    have hl : (a.take i).length ≤ a.length := by rw [List.length_take]; omega
    refine W_seq (W_block ?_)
    apply W_regS
    · intro K hK
      simp [hx, limit]
      repeat' (first | with_reducible exact hK | (with_reducible refine goL_split (fun _ => ?_) (fun _ => ?_) <;> simp [hx, limit]) | with_reducible refine And.intro ?_ ?_ | with_reducible exact okay_rfl rfl | with_reducible assumption | omega)
    apply W_regS
    · intro K hK
      simp
      repeat' (first | with_reducible exact hK | (with_reducible refine goL_split (fun _ => ?_) (fun _ => ?_) <;> simp) | with_reducible refine And.intro ?_ ?_ | with_reducible exact okay_rfl rfl | with_reducible assumption | omega)
    exact ⟨a.length - (i + 1), by omega, i + 1, rfl, h, by simp [gc, closeN, liveA, gcV, gcO, renA, renAs, renO, namesAs, namesA, namesO, posn, bytesD_succ hx]; exact wrap_id (by omega) (by omega)⟩
  · simp at h
    rw [if_pos rfl]
    refine W_seq (?_)
    apply W_regS
    · intro K hK
      simp [List.take_of_length_le h]
      repeat' (first | with_reducible exact hK | (with_reducible refine goL_split (fun _ => ?_) (fun _ => ?_) <;> simp [List.take_of_length_le h]) | with_reducible refine And.intro ?_ ?_ | with_reducible exact okay_rfl rfl | with_reducible assumption | omega)
    refine W_ret ?_
    simp [Fin]
    all_goals omega

theorem l01Join_ok (a b : List UInt8) (ha : a.length + b.length ≤ 70368744177664) : Valid PP GG F_S_l01Join [.d (.slc 1 (bytesD a)), .d (.slc 1 (bytesD b))] (.own 0 1 (bytesD (a ++ b))) [none, none] := by
  refine v_S_l01Join [.own 0 1 (bytesD (a ++ b))] rfl rfl ?_
  have cb := l01Bytes_ok (GG := GG) a (by omega)
  have happ : ∀ x y : List UInt8, bytesD (x ++ y) = bytesD x ++ bytesD y := fun x y => by simp [bytesD]
  refine W_seq (?_)
  apply W_regS
  · intro K hK
    simp
    repeat' (first | with_reducible exact hK | (with_reducible refine goL_split (fun _ => ?_) (fun _ => ?_) <;> simp) | with_reducible refine And.intro ?_ ?_ | with_reducible exact okay_rfl rfl | with_reducible assumption | omega)
  refine W_seq (?_)
  apply W_regS
  · intro K hK
    simp
    repeat' (first | with_reducible exact hK | (with_reducible refine callQ (cb) ?_; simp) | (with_reducible refine goL_split (fun _ => ?_) (fun _ => ?_) <;> simp) | with_reducible refine And.intro ?_ ?_ | with_reducible exact okay_rfl rfl | with_reducible assumption | omega)
  refine W_seq (W_seq (?_))
  apply W_regS
  · intro K hK
    simp
    repeat' (first | with_reducible exact hK | (with_reducible refine goL_split (fun _ => ?_) (fun _ => ?_) <;> simp) | with_reducible refine And.intro ?_ ?_ | with_reducible exact okay_rfl rfl | with_reducible assumption | omega)
  refine W_block (W_loop (fun n st => ∃ i : Nat, n = b.length - i ∧ i ≤ b.length ∧
    st = ⟨[], [(1, .d (.slc 1 (bytesD b))), (5, .sl 0), (6, .d (.int .i64 i))], [(0, .arr 0 0 1 (bytesD (a ++ b.take i)))], 1⟩) _ ⟨0, rfl, by omega, by simp [gc, closeN, liveA, gcV, gcO, renA, renAs, renO, namesAs, namesA, namesO, posn]⟩ ?_)
  rintro n st ⟨i, rfl, hi, rfl⟩
  refine W_seq (W_seq (?_))
  apply W_regS
  · intro K hK
    simp
    repeat' (first | with_reducible exact hK | (with_reducible refine goL_split (fun _ => ?_) (fun _ => ?_) <;> simp) | with_reducible refine And.intro ?_ ?_ | with_reducible exact okay_rfl rfl | with_reducible assumption | omega)
  refine W_cond rfl (fun h => W_skip ?_) (fun h => W_exit ?_)
  · simp at h
    have hx := List.getElem?_eq_getElem h
    generalize b[i] = x at hx
    have hl : (a ++ b.take i).length ≤ a.length + b.length := by rw [List.length_append, List.length_take]; omega
    have hs := bytesD_succ hx
    obtain ⟨w, hw⟩ : ∃ w, a ++ b.take i = w := ⟨_, rfl⟩
    have hw2 : bytesD (a ++ b.take (i + 1)) = bytesD w ++ [[.int .u8 x.toNat]] := by rw [happ, hs, ← hw, happ, List.append_assoc]
    rw [hw] at hl ⊢
    refine W_seq (W_block ?_)
    apply W_regS
    · intro K hK
      simp [hx, limit]
      repeat' (first | with_reducible exact hK | (with_reducible refine goL_split (fun _ => ?_) (fun _ => ?_) <;> simp [hx, limit]) | with_reducible refine And.intro ?_ ?_ | with_reducible exact okay_rfl rfl | with_reducible assumption | omega)
    apply W_regS
    · intro K hK
      simp
      repeat' (first | with_reducible exact hK | (with_reducible refine goL_split (fun _ => ?_) (fun _ => ?_) <;> simp) | with_reducible refine And.intro ?_ ?_ | with_reducible exact okay_rfl rfl | with_reducible assumption | omega)
    exact ⟨b.length - (i + 1), by omega, i + 1, rfl, h, by simp [gc, closeN, liveA, gcV, gcO, renA, renAs, renO, namesAs, namesA, namesO, posn, hw2]; exact wrap_id (by omega) (by omega)⟩
  · simp at h
    rw [if_pos rfl]
    refine W_seq (?_)
    apply W_regS
    · intro K hK
      simp [List.take_of_length_le h]
      repeat' (first | with_reducible exact hK | (with_reducible refine goL_split (fun _ => ?_) (fun _ => ?_) <;> simp [List.take_of_length_le h]) | with_reducible refine And.intro ?_ ?_ | with_reducible exact okay_rfl rfl | with_reducible assumption | omega)
    refine W_ret ?_
    simp [Fin]
    all_goals omega

def wideB (x : Int) (i : Nat) : UInt8 := UInt8.ofNat ((x.toNat / 2 ^ (8 * i)) % 256)

def wide (x : Int) : List UInt8 := (List.range 8).map (wideB x)

theorem wide_len (x : Int) : (wide x).length = 8 := by simp [wide]

theorem wide_sh {x : Int} (hx : 0 ≤ x) {i q : Nat} (hi : i < 8) (hq : x.toNat / 2 ^ (8 * i) = q) : shBin .shr .i64 x (8 * (i : Int)) = some (.int .i64 (q : Int)) := by
  rw [shBin_shr _ _ _ (by omega)]
  have e1 : (8 * (i : Int)).toNat = 8 * i := by omega
  have e2 : min (8 * i) IntKind.i64.bits = 8 * i := by
    show min (8 * i) 64 = 8 * i
    omega
  have e4 : ((2 : Int) ^ (8 * i)) = ((2 ^ (8 * i) : Nat) : Int) := by simp
  obtain ⟨m, rfl⟩ : ∃ m : Nat, x = m := ⟨x.toNat, by omega⟩
  rw [e1, e2, e4, Int.fdiv_eq_ediv_of_nonneg _ (Int.natCast_nonneg _), ← hq]
  rfl

theorem wide_and (q : Nat) : intBin .and .i64 (q : Int) 255 = some (.int .i64 ((q % 256 : Nat) : Int)) := by
  have e : (BitVec.ofInt IntKind.i64.bits (q : Int) &&& BitVec.ofInt IntKind.i64.bits 255).toNat = q % 256 := by
    show (BitVec.ofInt 64 (q : Int) &&& 255#64).toNat = q % 256
    rw [BitVec.toNat_and, show (255#64).toNat = 2 ^ 8 - 1 from rfl, Nat.and_two_pow_sub_one_eq_mod, BitVec.ofInt_natCast, BitVec.toNat_ofNat]
    omega
  show some (D.int .i64 (IntKind.i64.wrap (((BitVec.ofInt IntKind.i64.bits (q : Int) &&& BitVec.ofInt IntKind.i64.bits 255).toNat : Nat) : Int))) = _
  rw [e, wrap_id (by omega) (by omega)]

theorem wide_u8 {x : Int} {i q : Nat} (hq : x.toNat / 2 ^ (8 * i) = q) : IntKind.u8.wrap (q : Int) = ((wideB x i).toNat : Int) := by
  unfold wideB
  rw [hq, IntKind.wrap_u8, UInt8.toNat_ofNat']; omega

theorem wide_u8' {x : Int} {i q : Nat} (hq : x.toNat / 2 ^ (8 * i) = q) : IntKind.u8.wrap ((q : Int) % 256) = ((wideB x i).toNat : Int) := by
  unfold wideB
  rw [hq, IntKind.wrap_u8, UInt8.toNat_ofNat']; omega

theorem wide_succ (x : Int) (i : Nat) : bytesD ((List.range (i + 1)).map (wideB x)) = bytesD ((List.range i).map (wideB x)) ++ [[.int .u8 (wideB x i).toNat]] := by
  simp [List.range_succ, bytesD]

theorem s_PutWide_ok (x : Int) (hk : keyB x = true) : Valid PP GG F_S_PutWide [.d (.int .i64 x)] (.own 0 1 (bytesD (wide x))) [none] := by
  refine v_S_PutWide [.own 0 1 (bytesD (wide x))] rfl rfl ?_
  have ck := l04Key_ok (GG := GG) x
  rw [hk] at ck
  have hx := inB_true hk
  refine W_seq (?_)
  apply W_regS
  · intro K hK
    simp
    repeat' (first | with_reducible exact hK | (with_reducible refine goL_split (fun _ => ?_) (fun _ => ?_) <;> simp) | with_reducible refine And.intro ?_ ?_ | with_reducible exact okay_rfl rfl | with_reducible assumption | omega)
  refine W_seq (?_)
  apply W_regS
  · intro K hK
    simp [litA]
    repeat' (first | with_reducible exact hK | (with_reducible refine goL_split (fun _ => ?_) (fun _ => ?_) <;> simp [litA]) | with_reducible refine And.intro ?_ ?_ | with_reducible exact okay_rfl rfl | with_reducible assumption | omega)
  refine W_seq (W_seq (?_))
  apply W_regS
  · intro K hK
    simp
    repeat' (first | with_reducible exact hK | (with_reducible refine callQ (ck) ?_; simp) | (with_reducible refine goL_split (fun _ => ?_) (fun _ => ?_) <;> simp) | with_reducible refine And.intro ?_ ?_ | with_reducible exact okay_rfl rfl | with_reducible assumption | omega)
  refine W_cond rfl (fun h => ?_) (fun h => W_skip ?_)
  · simp at h
  refine W_seq (W_seq (?_))
  apply W_regS
  · intro K hK
    simp
    repeat' (first | with_reducible exact hK | (with_reducible refine goL_split (fun _ => ?_) (fun _ => ?_) <;> simp) | with_reducible refine And.intro ?_ ?_ | with_reducible exact okay_rfl rfl | with_reducible assumption | omega)
  refine W_block (W_loop (fun n st => ∃ i : Nat, n = 8 - i ∧ i ≤ 8 ∧
    st = ⟨[], [(0, .d (.int .i64 x)), (3, .sl 0), (4, .d (.int .i64 i))], [(0, .arr 0 0 1 (bytesD ((List.range i).map (wideB x))))], 1⟩) _ ⟨0, rfl, by omega, rfl⟩ ?_)
  rintro n st ⟨i, rfl, hi, rfl⟩
  refine W_seq (W_seq (?_))
  apply W_regS
  · intro K hK
    simp
    repeat' (first | with_reducible exact hK | (with_reducible refine goL_split (fun _ => ?_) (fun _ => ?_) <;> simp) | with_reducible refine And.intro ?_ ?_ | with_reducible exact okay_rfl rfl | with_reducible assumption | omega)
  refine W_cond rfl (fun h => W_skip ?_) (fun h => W_exit ?_)
  · simp at h
    obtain ⟨q, hq⟩ : ∃ q : Nat, x.toNat / 2 ^ (8 * i) = q := ⟨_, rfl⟩
    have f1 := wide_sh hx.1 (by omega) hq
    have f2 := wide_and q
    have f3 := wide_u8' hq
    have f4 : IntKind.i64.wrap (8 * (i : Int)) = 8 * i := wrap_id (by omega) (by omega)
    have f5 : IntKind.u64.wrap (8 * (i : Int)) = 8 * i := by rw [IntKind.wrap_u64]; omega
    have hs := wide_succ x i
    have hl : ((List.range i).map (wideB x)).length = i := by simp
    generalize (List.range i).map (wideB x) = w at hs hl ⊢
    generalize wideB x i = b at f3 hs
    refine W_seq (W_block ?_)
    apply W_regS
    · intro K hK
      simp [f4, f5, f1, f2, f3, limit]
      repeat' (first | with_reducible exact hK | (with_reducible refine goL_split (fun _ => ?_) (fun _ => ?_) <;> simp [f4, f5, f1, f2, f3, limit]) | with_reducible refine And.intro ?_ ?_ | with_reducible exact okay_rfl rfl | with_reducible assumption | omega)
    apply W_regS
    · intro K hK
      simp
      repeat' (first | with_reducible exact hK | (with_reducible refine goL_split (fun _ => ?_) (fun _ => ?_) <;> simp) | with_reducible refine And.intro ?_ ?_ | with_reducible exact okay_rfl rfl | with_reducible assumption | omega)
    exact ⟨8 - (i + 1), by omega, i + 1, rfl, by omega, by rw [hs]; simp [gc, closeN, liveA, gcV, gcO, renA, renAs, renO, namesAs, namesA, namesO, posn]; exact wrap_id (by omega) (by omega)⟩
  · simp at h
    have hi8 : i = 8 := by omega
    subst hi8
    rw [if_pos rfl]
    refine W_seq (?_)
    apply W_regS
    · intro K hK
      simp
      repeat' (first | with_reducible exact hK | (with_reducible refine goL_split (fun _ => ?_) (fun _ => ?_) <;> simp) | with_reducible refine And.intro ?_ ?_ | with_reducible exact okay_rfl rfl | with_reducible assumption | omega)
    refine W_ret ?_
    simp [Fin, wide]
    all_goals omega

theorem i_putWide_ok (x : Int) (hk : keyB x = true) : Valid PP GG F_I_putWide [.d (.int .i64 x)] (.own 0 1 (bytesD (wide x))) [none] := by
  refine v_I_putWide [.own 0 1 (bytesD (wide x))] rfl rfl ?_
  have hx := inB_true hk
  refine W_seq (?_)
  apply W_regS
  · intro K hK
    simp
    repeat' (first | with_reducible exact hK | (with_reducible refine goL_split (fun _ => ?_) (fun _ => ?_) <;> simp) | with_reducible refine And.intro ?_ ?_ | with_reducible exact okay_rfl rfl | with_reducible assumption | omega)
  refine W_seq (?_)
  apply W_regS
  · intro K hK
    simp [mkA, limit]
    repeat' (first | with_reducible exact hK | (with_reducible refine goL_split (fun _ => ?_) (fun _ => ?_) <;> simp [mkA, limit]) | with_reducible refine And.intro ?_ ?_ | with_reducible exact okay_rfl rfl | with_reducible assumption | omega)
  refine W_seq (W_seq (?_))
  apply W_regS
  · intro K hK
    simp
    repeat' (first | with_reducible exact hK | (with_reducible refine goL_split (fun _ => ?_) (fun _ => ?_) <;> simp) | with_reducible refine And.intro ?_ ?_ | with_reducible exact okay_rfl rfl | with_reducible assumption | omega)
  refine W_block (W_loop (fun n st => ∃ (i : Nat) (R : List (List D)), n = 8 - i ∧ i ≤ 8 ∧ R.length = 8 ∧ (∀ r, r ∈ R → r.length = 1) ∧ R.take i = bytesD ((List.range i).map (wideB x)) ∧
    st = ⟨[], [(0, .d (.int .i64 x)), (3, .sl 0), (7, .d (.int .i64 8)), (8, .d (.int .i64 i))], [(0, .arr 0 0 1 R)], 1⟩) _ ⟨0, List.replicate 8 [.int .u8 0], rfl, by omega, by simp, by simp, rfl, rfl⟩ ?_)
  rintro n st ⟨i, R, rfl, hi, hl, h1, hR, rfl⟩
  refine W_seq (?_)
  apply W_regS
  · intro K hK
    simp
    repeat' (first | with_reducible exact hK | (with_reducible refine goL_split (fun _ => ?_) (fun _ => ?_) <;> simp) | with_reducible refine And.intro ?_ ?_ | with_reducible exact okay_rfl rfl | with_reducible assumption | omega)
  refine W_seq (?_)
  refine W_cond rfl (fun h => W_skip ?_) (fun h => W_exit ?_)
  · simp at h
    obtain ⟨d, hd⟩ := row_one h1 (show i < R.length by omega)
    obtain ⟨q, hq⟩ : ∃ q : Nat, x.toNat / 2 ^ (8 * i) = q := ⟨_, rfl⟩
    have f1 := wide_sh hx.1 (by omega) hq
    have f3 := wide_u8 hq
    have f4 : IntKind.i64.wrap (8 * (i : Int)) = 8 * i := wrap_id (by omega) (by omega)
    have hs := wide_succ x i
    generalize wideB x i = b at f3 hs
    refine W_seq (W_block (W_seq ?_))
    apply W_regS
    · intro K hK
      simp
      repeat' (first | with_reducible exact hK | (with_reducible refine goL_split (fun _ => ?_) (fun _ => ?_) <;> simp) | with_reducible refine And.intro ?_ ?_ | with_reducible exact okay_rfl rfl | with_reducible assumption | omega)
    apply W_regS
    · intro K hK
      simp [f4, f1, f3, hd, hl]
      repeat' (first | with_reducible exact hK | (with_reducible refine goL_split (fun _ => ?_) (fun _ => ?_) <;> simp [f4, f1, f3, hd, hl]) | with_reducible refine And.intro ?_ ?_ | with_reducible exact okay_rfl rfl | with_reducible assumption | omega)
    apply W_regS
    · intro K hK
      simp
      repeat' (first | with_reducible exact hK | (with_reducible refine goL_split (fun _ => ?_) (fun _ => ?_) <;> simp) | with_reducible refine And.intro ?_ ?_ | with_reducible exact okay_rfl rfl | with_reducible assumption | omega)
    exact ⟨8 - (i + 1), by omega, i + 1, R.set i [.int .u8 b.toNat], rfl, by omega, by simpa using hl, set_one h1, by rw [take_set_succ (by omega), hR, hs], by simp [gc, closeN, liveA, gcV, gcO, renA, renAs, renO, namesAs, namesA, namesO, posn]; exact wrap_id (by omega) (by omega)⟩
  · simp at h
    have hi8 : i = 8 := by omega
    subst hi8
    have eR : R = bytesD (wide x) := by rwa [List.take_of_length_le (by omega)] at hR
    subst eR
    rw [if_pos rfl]
    refine W_seq (?_)
    apply W_regS
    · intro K hK
      simp
      repeat' (first | with_reducible exact hK | (with_reducible refine goL_split (fun _ => ?_) (fun _ => ?_) <;> simp) | with_reducible refine And.intro ?_ ?_ | with_reducible exact okay_rfl rfl | with_reducible assumption | omega)
    refine W_ret ?_
    simp [Fin]
    all_goals omega

def sNext (k h : Int) : Int := (48271 * h + k % 65521 + 1) % 2147483629

def sIter (k h : Int) : Nat → Int
  | 0 => h
  | i + 1 => sNext k (sIter k h i)

def sByte (k h : Int) (i : Nat) : UInt8 := UInt8.ofNat ((sIter k h (i + 1) / 1024) % 256).toNat

def sInit (k n : Int) : Int := (k % 2147483629 + 2 * (n % 2147483629) + 1) % 2147483629

def strm (k n : Int) (len : Nat) : List UInt8 := (List.range len).map (sByte k (sInit k n))

theorem strm_len (k n : Int) (len : Nat) : (strm k n len).length = len := by simp [strm]

theorem sIter_range (k h : Int) (hh : 0 ≤ h ∧ h < 2147483629) (i : Nat) : 0 ≤ sIter k h i ∧ sIter k h i < 2147483629 := by
  cases i with
  | zero => exact hh
  | succ i => simp only [sIter, sNext]; omega

theorem sInit_range (k n : Int) : 0 ≤ sInit k n ∧ sInit k n < 2147483629 := by unfold sInit; omega

theorem sBytes_succ (k h : Int) (i : Nat) : bytesD ((List.range (i + 1)).map (sByte k h)) = bytesD ((List.range i).map (sByte k h)) ++ [[.int .u8 (sByte k h i).toNat]] := by
  simp [List.range_succ, bytesD]

theorem tmod_pos {a b : Int} (ha : 0 ≤ a) : a.tmod b = a % b := Int.tmod_eq_emod_of_nonneg ha

theorem tdiv_pos {a b : Int} (ha : 0 ≤ a) : a.tdiv b = a / b := Int.tdiv_eq_ediv_of_nonneg ha

/-- One step of the stream, as the machine reckons it. -/
theorem s_step {k h r h' : Int} (hk : 0 ≤ k) (hh : 0 ≤ h ∧ h < 2147483629) (hr : k % 65521 = r) (hn : sNext k h = h') :
    IntKind.i64.wrap (48271 * h) = 48271 * h ∧ k.tmod 65521 = r ∧ IntKind.i64.wrap (48271 * h + r) = 48271 * h + r ∧ IntKind.i64.wrap (48271 * h + r + 1) = 48271 * h + r + 1 ∧ (48271 * h + r + 1).tmod 2147483629 = h' := by
  have h1 : 0 ≤ r ∧ r < 65521 := by omega
  refine ⟨wrap_id (by omega) (by omega), by rw [tmod_pos hk, hr], wrap_id (by omega) (by omega), wrap_id (by omega) (by omega), ?_⟩
  rw [tmod_pos (by omega), ← hn, ← hr]; rfl

theorem s_byte {k h h' : Int} {i : Nat} (hh : 0 ≤ h' ∧ h' < 2147483629) (hi : sIter k h (i + 1) = h') {q : Int} (hq : h' / 1024 = q) :
    h'.tdiv 1024 = q ∧ IntKind.i64.wrap q = q ∧ q.tmod 256 = q % 256 ∧ IntKind.u8.wrap (q % 256) = ((sByte k h i).toNat : Int) ∧ IntKind.u8.wrap q = ((sByte k h i).toNat : Int) := by
  have h0 : 0 ≤ q ∧ q < 2147483629 := by omega
  have hb : ((sByte k h i).toNat : Int) = q % 256 := by
    unfold sByte
    rw [hi, hq, UInt8.toNat_ofNat']; omega
  refine ⟨by rw [tdiv_pos hh.1, hq], wrap_id (by omega) (by omega), tmod_pos h0.1, ?_, ?_⟩
  · rw [hb, IntKind.wrap_u8]; omega
  · rw [hb, IntKind.wrap_u8]

theorem s_init {k n a b : Int} (hk : 0 ≤ k) (hn : 0 ≤ n) (ha : k % 2147483629 = a) (hb : n % 2147483629 = b) :
    k.tmod 2147483629 = a ∧ n.tmod 2147483629 = b ∧ IntKind.i64.wrap (2 * b) = 2 * b ∧ IntKind.i64.wrap (a + 2 * b) = a + 2 * b ∧ IntKind.i64.wrap (a + 2 * b + 1) = a + 2 * b + 1 ∧ (a + 2 * b + 1).tmod 2147483629 = sInit k n := by
  refine ⟨by rw [tmod_pos hk, ha], by rw [tmod_pos hn, hb], wrap_id (by omega) (by omega), wrap_id (by omega) (by omega), wrap_id (by omega) (by omega), ?_⟩
  rw [tmod_pos (by omega), ← ha, ← hb]; rfl

theorem s_Stream_ok (k n : Int) (len : Nat) (hk : keyB k = true) (hn : keyB n = true) (hl : len ≤ 2000) : Valid PP GG F_S_Stream [.d (.int .i64 k), .d (.int .i64 n), .d (.int .i64 len)] (.own 0 1 (bytesD (strm k n len))) [none, none, none] := by
  refine v_S_Stream [.own 0 1 (bytesD (strm k n len))] rfl rfl ?_
  have ck := l04Key_ok (GG := GG) k
  have cn := l04Key_ok (GG := GG) n
  rw [hk] at ck
  rw [hn] at cn
  have cl : Valid PP GG F_S_l01In [.d (.int .i64 len), .d (.int .i64 0), .d (.int .i64 2000)] (.d (.bool true)) [none, none, none] := by
    have := l01In_ok (GG := GG) len 0 2000
    rwa [show (decide (0 ≤ (len : Int)) && decide ((len : Int) ≤ 2000)) = true by simp; omega] at this
  have kr := inB_true hk
  have nr := inB_true hn
  obtain ⟨a, ha⟩ : ∃ a, k % 2147483629 = a := ⟨_, rfl⟩
  obtain ⟨b, hb⟩ : ∃ b, n % 2147483629 = b := ⟨_, rfl⟩
  obtain ⟨i1, i2, i3, i4, i5, i6⟩ := s_init kr.1 nr.1 ha hb
  obtain ⟨r, hr⟩ : ∃ r, k % 65521 = r := ⟨_, rfl⟩
  have h0 := sInit_range k n
  have hstrm : strm k n len = (List.range len).map (sByte k (sInit k n)) := rfl
  generalize sInit k n = g at i6 h0 hstrm
  refine W_seq (?_)
  apply W_regS
  · intro K hK
    simp
    repeat' (first | with_reducible exact hK | (with_reducible refine goL_split (fun _ => ?_) (fun _ => ?_) <;> simp) | with_reducible refine And.intro ?_ ?_ | with_reducible exact okay_rfl rfl | with_reducible assumption | omega)
  refine W_seq (?_)
  apply W_regS
  · intro K hK
    simp [litA]
    repeat' (first | with_reducible exact hK | (with_reducible refine goL_split (fun _ => ?_) (fun _ => ?_) <;> simp [litA]) | with_reducible refine And.intro ?_ ?_ | with_reducible exact okay_rfl rfl | with_reducible assumption | omega)
  refine W_seq (W_seq (?_))
  refine W_regB 24 (false) (fun K hK => ?_) ?_
  · simp
    repeat' (first | exact hK _ _ (by clear hK; first | omega | (exact decide_eq_false (by omega)) | (exact decide_eq_true (by omega)) | (exact (decide_eq_true (by omega)).symm) | (exact (decide_eq_false (by omega)).symm) | (exact decide_eq_decide.2 (by omega)) | (simp [*]; done) | (simp [*]; omega) | (simp_all; done) | (simp_all; omega) | (rw [Bool.eq_iff_iff]; simp at *; omega)) | (with_reducible refine callQ (ck) ?_; simp) | (with_reducible refine callQ (cn) ?_; simp) | (with_reducible refine callQ (cl) ?_; simp) | (with_reducible refine goL_split (fun _ => ?_) (fun _ => ?_) <;> simp) | with_reducible refine And.intro ?_ ?_ | with_reducible exact okay_rfl rfl | with_reducible assumption | omega)
  refine W_cond rfl (fun h => ?_) (fun h => W_skip ?_)
  · cases h
  refine W_seq (?_)
  apply W_regS
  · intro K hK
    simp
    repeat' (first | with_reducible exact hK | (with_reducible refine goL_split (fun _ => ?_) (fun _ => ?_) <;> simp) | with_reducible refine And.intro ?_ ?_ | with_reducible exact okay_rfl rfl | with_reducible assumption | omega)
  refine W_seq (?_)
  apply W_regD
  · intro K hK
    simp [i1, i2, i3, i4, i5, i6]
    repeat' (first | with_reducible exact hK | (with_reducible refine goL_split (fun _ => ?_) (fun _ => ?_) <;> simp [i1, i2, i3, i4, i5, i6]) | with_reducible refine And.intro ?_ ?_ | with_reducible exact okay_rfl rfl | with_reducible assumption | omega)
  refine W_seq (W_seq (?_))
  apply W_regS
  · intro K hK
    simp
    repeat' (first | with_reducible exact hK | (with_reducible refine goL_split (fun _ => ?_) (fun _ => ?_) <;> simp) | with_reducible refine And.intro ?_ ?_ | with_reducible exact okay_rfl rfl | with_reducible assumption | omega)
  refine W_block (W_loop (fun n st => ∃ i : Nat, n = len - i ∧ i ≤ len ∧
    st = ⟨[], [(0, .d (.int .i64 k)), (2, .d (.int .i64 len)), (7, .sl 0), (8, .d (.int .i64 2147483629)), (9, .d (.int .i64 (sIter k g i))), (10, .d (.int .i64 i))], [(0, .arr 0 0 1 (bytesD ((List.range i).map (sByte k g))))], 1⟩) _ ⟨0, rfl, by omega, rfl⟩ ?_)
  rintro n st ⟨i, rfl, hi, rfl⟩
  refine W_seq (W_seq (?_))
  apply W_regS
  · intro K hK
    simp
    repeat' (first | with_reducible exact hK | (with_reducible refine goL_split (fun _ => ?_) (fun _ => ?_) <;> simp) | with_reducible refine And.intro ?_ ?_ | with_reducible exact okay_rfl rfl | with_reducible assumption | omega)
  refine W_cond rfl (fun h2 => W_skip ?_) (fun h2 => W_exit ?_)
  · rw [h2]
    simp at h2
    have hr1 := sIter_range k g h0 i
    have hr2 := sIter_range k g h0 (i + 1)
    have hnx : sNext k (sIter k g i) = sIter k g (i + 1) := rfl
    have hs := sBytes_succ k g i
    have hlen : ((List.range i).map (sByte k g)).length = i := by simp
    obtain ⟨q, hq⟩ : ∃ q, sIter k g (i + 1) / 1024 = q := ⟨_, rfl⟩
    obtain ⟨b1, b2, b3, b4, b5⟩ := s_byte (h := g) (i := i) hr2 rfl hq
    obtain ⟨h', hh'⟩ : ∃ h', sIter k g (i + 1) = h' := ⟨_, rfl⟩
    rw [hh'] at hr2 hnx hq b1
    generalize sIter k g i = hc at hr1 hnx ⊢
    obtain ⟨f1, f2, f3, f4, f5⟩ := s_step kr.1 hr1 hr hnx
    generalize (List.range i).map (sByte k g) = w at hs hlen ⊢
    generalize sByte k g i = bt at b4 b5 hs
    refine W_seq (W_block (W_seq ?_))
    apply W_regS
    · intro K hK
      simp [f1, f2, f3, f4, f5]
      repeat' (first | with_reducible exact hK | (with_reducible refine goL_split (fun _ => ?_) (fun _ => ?_) <;> simp [f1, f2, f3, f4, f5]) | with_reducible refine And.intro ?_ ?_ | with_reducible exact okay_rfl rfl | with_reducible assumption | omega)
    apply W_regS
    · intro K hK
      simp [b1, b2, b3, b4, limit]
      repeat' (first | with_reducible exact hK | (with_reducible refine goL_split (fun _ => ?_) (fun _ => ?_) <;> simp [b1, b2, b3, b4, limit]) | with_reducible refine And.intro ?_ ?_ | with_reducible exact okay_rfl rfl | with_reducible assumption | omega)
    apply W_regS
    · intro K hK
      simp
      repeat' (first | with_reducible exact hK | (with_reducible refine goL_split (fun _ => ?_) (fun _ => ?_) <;> simp) | with_reducible refine And.intro ?_ ?_ | with_reducible exact okay_rfl rfl | with_reducible assumption | omega)
    refine ⟨len - (i + 1), by omega, i + 1, rfl, by omega, ?_⟩
    rw [hs]
    simp [gc, closeN, liveA, gcV, gcO, renA, renAs, renO, namesAs, namesA, namesO, posn]
    exact ⟨hh'.symm, wrap_id (by omega) (by omega)⟩
  · simp at h2
    have e : i = len := by omega
    subst e
    rw [if_pos rfl, hstrm]
    refine W_seq (?_)
    apply W_regS
    · intro K hK
      simp
      repeat' (first | with_reducible exact hK | (with_reducible refine goL_split (fun _ => ?_) (fun _ => ?_) <;> simp) | with_reducible refine And.intro ?_ ?_ | with_reducible exact okay_rfl rfl | with_reducible assumption | omega)
    refine W_ret ?_
    simp [Fin]
    all_goals omega

theorem i_stream_ok (k n : Int) (len : Nat) (hk : keyB k = true) (hn : keyB n = true) (hl : len ≤ 1048576) : Valid PP GG F_I_stream [.d (.int .i64 k), .d (.int .i64 n), .d (.int .i64 len)] (.own 0 1 (bytesD (strm k n len))) [none, none, none] := by
  refine v_I_stream [.own 0 1 (bytesD (strm k n len))] rfl rfl ?_
  have kr := inB_true hk
  have nr := inB_true hn
  obtain ⟨a, ha⟩ : ∃ a, k % 2147483629 = a := ⟨_, rfl⟩
  obtain ⟨b, hb⟩ : ∃ b, n % 2147483629 = b := ⟨_, rfl⟩
  obtain ⟨i1, i2, i3, i4, i5, i6⟩ := s_init kr.1 nr.1 ha hb
  obtain ⟨r, hr⟩ : ∃ r, k % 65521 = r := ⟨_, rfl⟩
  have h0 := sInit_range k n
  have hstrm : strm k n len = (List.range len).map (sByte k (sInit k n)) := rfl
  generalize sInit k n = g at i6 h0 hstrm
  refine W_seq (?_)
  apply W_regS
  · intro K hK
    simp
    repeat' (first | with_reducible exact hK | (with_reducible refine goL_split (fun _ => ?_) (fun _ => ?_) <;> simp) | with_reducible refine And.intro ?_ ?_ | with_reducible exact okay_rfl rfl | with_reducible assumption | omega)
  refine W_seq (?_)
  apply W_regS
  · intro K hK
    simp [mkA, limit]
    repeat' (first | with_reducible exact hK | (with_reducible refine goL_split (fun _ => ?_) (fun _ => ?_) <;> simp [mkA, limit]) | with_reducible refine And.intro ?_ ?_ | with_reducible exact okay_rfl rfl | with_reducible assumption | omega)
  refine W_seq (?_)
  apply W_regS
  · intro K hK
    simp [i1, i2, i3, i4, i5, i6]
    repeat' (first | with_reducible exact hK | (with_reducible refine goL_split (fun _ => ?_) (fun _ => ?_) <;> simp [i1, i2, i3, i4, i5, i6]) | with_reducible refine And.intro ?_ ?_ | with_reducible exact okay_rfl rfl | with_reducible assumption | omega)
  refine W_seq (W_seq (?_))
  apply W_regS
  · intro K hK
    simp
    repeat' (first | with_reducible exact hK | (with_reducible refine goL_split (fun _ => ?_) (fun _ => ?_) <;> simp) | with_reducible refine And.intro ?_ ?_ | with_reducible exact okay_rfl rfl | with_reducible assumption | omega)
  refine W_block (W_loop (fun n st => ∃ (i : Nat) (R : List (List D)), n = len - i ∧ i ≤ len ∧ R.length = len ∧ (∀ r, r ∈ R → r.length = 1) ∧ R.take i = bytesD ((List.range i).map (sByte k g)) ∧
    st = ⟨[], [(0, .d (.int .i64 k)), (7, .sl 0), (8, .d (.int .i64 (sIter k g i))), (21, .d (.int .i64 len)), (22, .d (.int .i64 i))], [(0, .arr 0 0 1 R)], 1⟩) _ ⟨0, List.replicate len [.int .u8 0], rfl, by omega, by simp, by simp, rfl, by simp [gc, closeN, liveA, gcV, gcO, renA, renAs, renO, namesAs, namesA, namesO, posn, sIter]⟩ ?_)
  rintro n st ⟨i, R, rfl, hi, hRl, h1, hR, rfl⟩
  refine W_seq (?_)
  apply W_regS
  · intro K hK
    simp
    repeat' (first | with_reducible exact hK | (with_reducible refine goL_split (fun _ => ?_) (fun _ => ?_) <;> simp) | with_reducible refine And.intro ?_ ?_ | with_reducible exact okay_rfl rfl | with_reducible assumption | omega)
  refine W_seq (?_)
  refine W_cond rfl (fun h2 => W_skip ?_) (fun h2 => W_exit ?_)
  · rw [h2]
    simp at h2
    have hr1 := sIter_range k g h0 i
    have hr2 := sIter_range k g h0 (i + 1)
    have hnx : sNext k (sIter k g i) = sIter k g (i + 1) := rfl
    have hs := sBytes_succ k g i
    obtain ⟨d, hd⟩ := row_one h1 (show i < R.length by omega)
    obtain ⟨q, hq⟩ : ∃ q, sIter k g (i + 1) / 1024 = q := ⟨_, rfl⟩
    obtain ⟨b1, b2, b3, b4, b5⟩ := s_byte (h := g) (i := i) hr2 rfl hq
    obtain ⟨h', hh'⟩ : ∃ h', sIter k g (i + 1) = h' := ⟨_, rfl⟩
    rw [hh'] at hr2 hnx hq b1
    generalize sIter k g i = hc at hr1 hnx ⊢
    obtain ⟨f1, f2, f3, f4, f5⟩ := s_step kr.1 hr1 hr hnx
    generalize sByte k g i = bt at b4 b5 hs
    refine W_seq (W_block (W_seq ?_))
    apply W_regS
    · intro K hK
      simp
      repeat' (first | with_reducible exact hK | (with_reducible refine goL_split (fun _ => ?_) (fun _ => ?_) <;> simp) | with_reducible refine And.intro ?_ ?_ | with_reducible exact okay_rfl rfl | with_reducible assumption | omega)
    refine W_seq (?_)
    apply W_regS
    · intro K hK
      simp [f1, f2, f3, f4, f5]
      repeat' (first | with_reducible exact hK | (with_reducible refine goL_split (fun _ => ?_) (fun _ => ?_) <;> simp [f1, f2, f3, f4, f5]) | with_reducible refine And.intro ?_ ?_ | with_reducible exact okay_rfl rfl | with_reducible assumption | omega)
    apply W_regS
    · intro K hK
      simp [b1, b2, b5, hd, hRl]
      repeat' (first | with_reducible exact hK | (with_reducible refine goL_split (fun _ => ?_) (fun _ => ?_) <;> simp [b1, b2, b5, hd, hRl]) | with_reducible refine And.intro ?_ ?_ | with_reducible exact okay_rfl rfl | with_reducible assumption | omega)
    apply W_regS
    · intro K hK
      simp
      repeat' (first | with_reducible exact hK | (with_reducible refine goL_split (fun _ => ?_) (fun _ => ?_) <;> simp) | with_reducible refine And.intro ?_ ?_ | with_reducible exact okay_rfl rfl | with_reducible assumption | omega)
    refine ⟨len - (i + 1), by omega, i + 1, R.set i [.int .u8 bt.toNat], rfl, by omega, by simpa using hRl, set_one h1, by rw [take_set_succ (by omega), hR, hs], ?_⟩
    simp [gc, closeN, liveA, gcV, gcO, renA, renAs, renO, namesAs, namesA, namesO, posn]
    exact ⟨hh'.symm, wrap_id (by omega) (by omega)⟩
  · simp at h2
    have e : i = len := by omega
    subst e
    have eR : R = bytesD ((List.range i).map (sByte k g)) := by rwa [List.take_of_length_le (by omega)] at hR
    subst eR
    rw [if_pos rfl, hstrm]
    refine W_seq (?_)
    apply W_regS
    · intro K hK
      simp
      repeat' (first | with_reducible exact hK | (with_reducible refine goL_split (fun _ => ?_) (fun _ => ?_) <;> simp) | with_reducible refine And.intro ?_ ?_ | with_reducible exact okay_rfl rfl | with_reducible assumption | omega)
    refine W_ret ?_
    simp [Fin]
    all_goals omega

def mask (k n : Int) (a : List UInt8) : List UInt8 := List.zipWith (· ^^^ ·) a (strm k n a.length)

theorem mask_len (k n : Int) (a : List UInt8) : (mask k n a).length = a.length := by simp [mask, strm_len]

theorem mask_get {k n : Int} {a : List UInt8} {i : Nat} {x y : UInt8} (hx : a[i]? = some x) (hy : (strm k n a.length)[i]? = some y) : (mask k n a)[i]? = some (x ^^^ y) := by
  simp [mask, List.getElem?_zipWith, hx, hy]

theorem u8_xor (x y : UInt8) : intBin .xor .u8 (x.toNat : Int) (y.toNat : Int) = some (.int .u8 (((x ^^^ y).toNat : Nat) : Int)) := by
  have e : (BitVec.ofInt IntKind.u8.bits (x.toNat : Int) ^^^ BitVec.ofInt IntKind.u8.bits (y.toNat : Int)).toNat = (x ^^^ y).toNat := by
    show (BitVec.ofInt 8 (x.toNat : Int) ^^^ BitVec.ofInt 8 (y.toNat : Int)).toNat = (x ^^^ y).toNat
    rw [BitVec.toNat_xor, BitVec.ofInt_natCast, BitVec.ofInt_natCast, BitVec.toNat_ofNat, BitVec.toNat_ofNat, UInt8.toNat_xor]
    have hx := x.toNat_lt
    have hy := y.toNat_lt
    rw [Nat.mod_eq_of_lt hx, Nat.mod_eq_of_lt hy]
  show some (D.int .u8 (IntKind.u8.wrap (((BitVec.ofInt IntKind.u8.bits (x.toNat : Int) ^^^ BitVec.ofInt IntKind.u8.bits (y.toNat : Int)).toNat : Nat) : Int))) = _
  have := (x ^^^ y).toNat_lt
  rw [e, IntKind.wrap_u8]
  congr 2
  omega

theorem l04Mask_ok (k n : Int) (a : List UInt8) (hk : keyB k = true) (hn : keyB n = true) (hl : a.length ≤ 2000) : Valid PP GG F_S_l04Mask [.d (.int .i64 k), .d (.int .i64 n), .d (.slc 1 (bytesD a))] (.own 0 1 (bytesD (mask k n a))) [none, none, none] := by
  refine v_S_l04Mask [.own 0 1 (bytesD (mask k n a))] rfl rfl ?_
  have cs := s_Stream_ok (GG := GG) k n a.length hk hn hl
  have hsl := strm_len k n a.length
  have hmg : ∀ (i : Nat) x y, a[i]? = some x → (strm k n a.length)[i]? = some y → (mask k n a)[i]? = some (x ^^^ y) := fun i x y hx hy => mask_get hx hy
  have hml := mask_len k n a
  generalize strm k n a.length = s at cs hsl hmg
  generalize mask k n a = m at hmg hml ⊢
  refine W_seq (?_)
  apply W_regS
  · intro K hK
    simp
    repeat' (first | with_reducible exact hK | (with_reducible refine goL_split (fun _ => ?_) (fun _ => ?_) <;> simp) | with_reducible refine And.intro ?_ ?_ | with_reducible exact okay_rfl rfl | with_reducible assumption | omega)
  refine W_seq (?_)
  apply W_regS
  · intro K hK
    simp [litA]
    repeat' (first | with_reducible exact hK | (with_reducible refine goL_split (fun _ => ?_) (fun _ => ?_) <;> simp [litA]) | with_reducible refine And.intro ?_ ?_ | with_reducible exact okay_rfl rfl | with_reducible assumption | omega)
  refine W_seq (?_)
  apply W_regS
  · intro K hK
    simp
    repeat' (first | with_reducible exact hK | (with_reducible refine callQ (cs) ?_; simp) | (with_reducible refine goL_split (fun _ => ?_) (fun _ => ?_) <;> simp) | with_reducible refine And.intro ?_ ?_ | with_reducible exact okay_rfl rfl | with_reducible assumption | omega)
  refine W_seq (W_seq (?_))
  apply W_regS
  · intro K hK
    simp
    repeat' (first | with_reducible exact hK | (with_reducible refine goL_split (fun _ => ?_) (fun _ => ?_) <;> simp) | with_reducible refine And.intro ?_ ?_ | with_reducible exact okay_rfl rfl | with_reducible assumption | omega)
  refine W_block (W_loop (fun n st => ∃ i : Nat, n = a.length - i ∧ i ≤ a.length ∧
    st = ⟨[], [(2, .d (.slc 1 (bytesD a))), (7, .sl 0), (8, .sl 1), (9, .d (.int .i64 i))], [(0, .arr 0 0 1 (bytesD (m.take i))), (1, .arr 0 0 1 (bytesD s))], 2⟩) _ ⟨0, rfl, by omega, rfl⟩ ?_)
  rintro n st ⟨i, rfl, hi, rfl⟩
  refine W_seq (W_seq (?_))
  apply W_regS
  · intro K hK
    simp
    repeat' (first | with_reducible exact hK | (with_reducible refine goL_split (fun _ => ?_) (fun _ => ?_) <;> simp) | with_reducible refine And.intro ?_ ?_ | with_reducible exact okay_rfl rfl | with_reducible assumption | omega)
  refine W_cond rfl (fun h2 => W_skip ?_) (fun h2 => W_exit ?_)
  · simp at h2
    have ha := List.getElem?_eq_getElem h2
    have hb := List.getElem?_eq_getElem (show i < s.length by omega)
    generalize a[i] = x at ha
    generalize s[i]'_ = y at hb
    have hxy := u8_xor x y
    have hs := bytesD_succ (hmg i x y ha hb)
    have hlen : (m.take i).length ≤ 2000 := by rw [List.length_take]; omega
    have his : i < s.length := by omega
    refine W_seq (W_block ?_)
    apply W_regD
    · intro K hK
      simp [ha, hb, hxy, limit]
      repeat' (first | with_reducible exact hK | (with_reducible refine goL_split (fun _ => ?_) (fun _ => ?_) <;> simp [ha, hb, hxy, limit]) | with_reducible refine And.intro ?_ ?_ | with_reducible exact okay_rfl rfl | with_reducible assumption | omega)
    apply W_regS
    · intro K hK
      simp
      repeat' (first | with_reducible exact hK | (with_reducible refine goL_split (fun _ => ?_) (fun _ => ?_) <;> simp) | with_reducible refine And.intro ?_ ?_ | with_reducible exact okay_rfl rfl | with_reducible assumption | omega)
    refine ⟨a.length - (i + 1), by omega, i + 1, rfl, h2, ?_⟩
    rw [hs]
    simp [gc, closeN, liveA, gcV, gcO, renA, renAs, renO, namesAs, namesA, namesO, posn]
    exact wrap_id (by omega) (by omega)
  · simp at h2
    rw [if_pos rfl]
    have e : m.take i = m := List.take_of_length_le (by omega)
    rw [e]
    refine W_seq (?_)
    apply W_regS
    · intro K hK
      simp
      repeat' (first | with_reducible exact hK | (with_reducible refine goL_split (fun _ => ?_) (fun _ => ?_) <;> simp) | with_reducible refine And.intro ?_ ?_ | with_reducible exact okay_rfl rfl | with_reducible assumption | omega)
    refine W_ret ?_
    simp [Fin]
    all_goals omega

theorem crossed_ok (k n : Int) (a : List UInt8) (hk : keyB k = true) (hn : keyB n = true) (hl : a.length ≤ 1048576) : Valid PP GG F_I_crossed [.d (.int .i64 k), .d (.int .i64 n), .d (.slc 1 (bytesD a))] (.own 0 1 (bytesD (mask k n a))) [none, none, none] := by
  refine v_I_crossed [.own 0 1 (bytesD (mask k n a))] rfl rfl ?_
  have cs := i_stream_ok (GG := GG) k n a.length hk hn hl
  have hsl := strm_len k n a.length
  have hmg : ∀ (i : Nat) x y, a[i]? = some x → (strm k n a.length)[i]? = some y → (mask k n a)[i]? = some (x ^^^ y) := fun i x y hx hy => mask_get hx hy
  have hml := mask_len k n a
  generalize strm k n a.length = s at cs hsl hmg
  generalize mask k n a = m at hmg hml ⊢
  refine W_seq (?_)
  apply W_regS
  · intro K hK
    simp
    repeat' (first | with_reducible exact hK | (with_reducible refine goL_split (fun _ => ?_) (fun _ => ?_) <;> simp) | with_reducible refine And.intro ?_ ?_ | with_reducible exact okay_rfl rfl | with_reducible assumption | omega)
  refine W_seq (?_)
  apply W_regS
  · intro K hK
    simp
    repeat' (first | with_reducible exact hK | (with_reducible refine callQ (cs) ?_; simp) | (with_reducible refine goL_split (fun _ => ?_) (fun _ => ?_) <;> simp) | with_reducible refine And.intro ?_ ?_ | with_reducible exact okay_rfl rfl | with_reducible assumption | omega)
  refine W_seq (W_seq (?_))
  apply W_regS
  · intro K hK
    simp
    repeat' (first | with_reducible exact hK | (with_reducible refine goL_split (fun _ => ?_) (fun _ => ?_) <;> simp) | with_reducible refine And.intro ?_ ?_ | with_reducible exact okay_rfl rfl | with_reducible assumption | omega)
  refine W_block (W_loop (fun n st => ∃ (i : Nat) (R : List (List D)), n = a.length - i ∧ i ≤ a.length ∧ R = bytesD (m.take i ++ s.drop i) ∧
    st = ⟨[], [(7, .sl 0), (15, .d (.slc 1 (bytesD a))), (16, .d (.int .i64 a.length)), (17, .d (.int .i64 i))], [(0, .arr 0 0 1 R)], 1⟩) _ ⟨0, bytesD s, rfl, by omega, rfl, rfl⟩ ?_)
  rintro n st ⟨i, R, rfl, hi, hR, rfl⟩
  refine W_seq (?_)
  apply W_regS
  · intro K hK
    simp
    repeat' (first | with_reducible exact hK | (with_reducible refine goL_split (fun _ => ?_) (fun _ => ?_) <;> simp) | with_reducible refine And.intro ?_ ?_ | with_reducible exact okay_rfl rfl | with_reducible assumption | omega)
  refine W_seq (?_)
  refine W_cond rfl (fun h2 => W_skip ?_) (fun h2 => W_exit ?_)
  · simp at h2
    have ha := List.getElem?_eq_getElem h2
    have hb := List.getElem?_eq_getElem (show i < s.length by omega)
    generalize a[i] = x at ha
    generalize s[i]'_ = y at hb
    have hxy := u8_xor y x
    rw [UInt8.xor_comm y x] at hxy
    have hmi := hmg i x y ha hb
    have hdr := drop_get hb
    have hRl : R.length = a.length := by rw [hR]; simp; omega
    have hd : R[i]? = some [.int .u8 y.toNat] := by
      rw [hR, hdr]
      show (List.map _ (m.take i ++ y :: s.drop (i + 1)))[i]? = _
      rw [List.map_append, List.map_cons]
      exact mid_get (by simp; omega)
    have hset : R.set i [.int .u8 ((x ^^^ y).toNat : Int)] = bytesD (m.take (i + 1) ++ s.drop (i + 1)) := by
      rw [hR, hdr, List.take_add_one, hmi]
      show (List.map _ (m.take i ++ y :: s.drop (i + 1))).set i _ = List.map _ _
      rw [List.map_append, List.map_cons, set_mid (by simp; omega)]
      simp
    refine W_seq (W_block (W_seq ?_))
    apply W_regS
    · intro K hK
      simp [ha]
      repeat' (first | with_reducible exact hK | (with_reducible refine goL_split (fun _ => ?_) (fun _ => ?_) <;> simp [ha]) | with_reducible refine And.intro ?_ ?_ | with_reducible exact okay_rfl rfl | with_reducible assumption | omega)
    apply W_regS
    · intro K hK
      simp [hd, hRl, hxy]
      repeat' (first | with_reducible exact hK | (with_reducible refine goL_split (fun _ => ?_) (fun _ => ?_) <;> simp [hd, hRl, hxy]) | with_reducible refine And.intro ?_ ?_ | with_reducible exact okay_rfl rfl | with_reducible assumption | omega)
    apply W_regS
    · intro K hK
      simp
      repeat' (first | with_reducible exact hK | (with_reducible refine goL_split (fun _ => ?_) (fun _ => ?_) <;> simp) | with_reducible refine And.intro ?_ ?_ | with_reducible exact okay_rfl rfl | with_reducible assumption | omega)
    refine ⟨a.length - (i + 1), by omega, i + 1, R.set i [.int .u8 ((x ^^^ y).toNat : Int)], rfl, h2, hset, ?_⟩
    simp [gc, closeN, liveA, gcV, gcO, renA, renAs, renO, namesAs, namesA, namesO, posn]
    exact wrap_id (by omega) (by omega)
  · simp at h2
    rw [if_pos rfl]
    have e : R = bytesD m := by rw [hR, List.take_of_length_le (by omega), List.drop_eq_nil_of_le (by omega), List.append_nil]
    subst e
    refine W_seq (?_)
    apply W_regS
    · intro K hK
      simp
      repeat' (first | with_reducible exact hK | (with_reducible refine goL_split (fun _ => ?_) (fun _ => ?_) <;> simp) | with_reducible refine And.intro ?_ ?_ | with_reducible exact okay_rfl rfl | with_reducible assumption | omega)
    refine W_ret ?_
    simp [Fin]
    all_goals omega

/-- A row of one's own, as the kit's contracts say it. -/
theorem own_row {w : World} {Fz : PSet} {base : Nat} {e : TypeId} {v : Value} {n : Nat} {xs : List Value} (h : w.ownsRow base e 1 v n xs) (a : List UInt8) (hx : xs = a.map fun b => Value.int .u8 b.toNat) :
    ∃ S, Own w Fz 1 v (.slc 1 (bytesD a)) S ∧ ∀ x y, S x y → base ≤ x ∧ x < w.heap.size := by
  obtain ⟨hl, h⟩ := h
  have hn : a.length = n := by rw [hx, List.length_map] at hl; omega
  rcases h with ⟨rfl, rfl⟩ | ⟨g, cap, cur, rfl, hb, hg, hnc, _, hsz, htk⟩
  · have : a = [] := List.length_eq_zero_iff.1 hn
    subst this
    exact ⟨fun _ _ => False, .inl ⟨rfl, rfl, fun _ _ h => h⟩, fun _ _ h => h.elim⟩
  · have hlt : g < w.heap.size := by
      rcases Nat.lt_or_ge g w.heap.size with h | h
      · exact h
      · rw [Array.getElem?_eq_none h] at hg; cases hg
    have hcell : ∀ o, o < cap → w.cell? (at_ g (0 + o)) = some (cur.getD o Go.undef) := by
      intro o ho
      have ho2 : o < cur.size := by omega
      unfold World.cell?
      rw [show (at_ g (0 + o)).block = g from rfl, hg]
      simp [Array.getD_eq_getD_getElem?, ho2]
    have hfl : (bytesD a).flatten = a.map fun b => D.int .u8 b.toNat := by
      unfold bytesD
      clear hx htk hn
      induction a with
      | nil => rfl
      | cons x a ih => simp only [List.map_cons, List.flatten_cons, ih]; rfl
    refine ⟨rng g 0 (cap * 1), .inr ⟨g, 0, cap, fun _ _ _ => False, by simp [hn], by simp [bytesD]; omega, ?_, ?_, ?_, fun _ _ _ _ _ _ _ h => h.elim, fun _ _ _ _ _ h => h, fun x y => ?_⟩, ?_⟩
    · intro o ho
      refine ⟨⟨_, hcell o (by omega)⟩, ?_⟩
      unfold World.frz?
      rw [show (at_ g (0 + o)).block = g from rfl, hg]
      simp
    · intro row hr
      simp only [bytesD, List.mem_map] at hr
      obtain ⟨x, _, rfl⟩ := hr
      rfl
    · intro m d hm
      rw [hfl, List.getElem?_map] at hm
      cases hx' : a[m]? with
      | none => rw [hx'] at hm; cases hm
      | some x =>
        rw [hx'] at hm
        cases hm
        have hml := (List.getElem?_eq_some_iff.1 hx').1
        refine ⟨_, hcell m (by omega), ?_, fun _ _ h => h⟩
        have hc : cur.toList[m]? = some (.int .u8 x.toNat) := by
          have h1 : (cur.toList.take (n * 1))[m]? = some (.int .u8 x.toNat) := by rw [htk, hx, List.getElem?_map, hx']; rfl
          rw [List.getElem?_take] at h1
          split at h1
          · exact h1
          · cases h1
        rw [Array.getD_eq_getD_getElem?, ← Array.getElem?_toList, hc]
        exact Shr.int _ _
    · constructor
      · intro h; exact .inl h
      · rintro (h | ⟨_, _, h⟩)
        · exact h
        · exact h.elim
    · rintro x y ⟨rfl, _, _⟩
      exact ⟨hb, hlt⟩

theorem Clone_ok (a : List UInt8) (ha : a.length ≤ 140737488355328) : Valid PP GG 111 [.d (.slc 1 (bytesD a))] (.own 0 1 (bytesD a)) [none] := by
  refine lib_new [.slc 1 (bytesD a)] ⟨Tryd.f111, Tryd.func111, by kernel_rfl, by kernel_rfl⟩ fun w Fz args hG hFz hl hA => ?_
  have h0 := hA 0 _ rfl
  have fin : ∀ (v : Value), args = #[v] → (Calls PP 111 #[v] w fun e w' => ∃ v', e = .returned v' ∧ w'.ownsRow w.heap.size 5 1 v' a.length (a.map fun b => Value.int .u8 b.toNat) ∧ w'.os = w.os ∧ w'.output = w.output ∧ w.heap.size ≤ w'.heap.size ∧ ∀ b, b < w.heap.size → w'.heap[b]? = w.heap[b]?) →
      Calls PP 111 args w fun e w' => ∃ v Fz' S, e = .returned v ∧ (w'.os = w.os ∧ w'.output = w.output) ∧ w.heap.size ≤ w'.heap.size ∧ (∀ b, b < w.heap.size → w'.heap[b]? = w.heap[b]?) ∧
        (∀ b o, Fz b o → Fz' b o) ∧ (∀ b o, Fz' b o → (Fz b o ∨ w.heap.size ≤ b) ∧ b < w'.heap.size) ∧ RC w' Fz' (.own 0 1 (bytesD a)) v S ∧ ∀ x y, S x y → w.heap.size ≤ x ∧ ¬ Fz' x y ∧ x < w'.heap.size := by
    intro v hv hc
    subst hv
    refine hc.mono ?_
    rintro e w' ⟨v', rfl, hrow, h1, h2, h3, h4⟩
    obtain ⟨S, hS, hSb⟩ := own_row (Fz := Fz) hrow a rfl
    exact ⟨v', Fz, S, rfl, ⟨h1, h2⟩, h3, h4, fun _ _ h => h, fun b o h => ⟨.inl h, Nat.lt_of_lt_of_le (hFz b o h) h3⟩, .own 0 1 _ _ _ hS, fun x y h => ⟨(hSb x y h).1, fun hf => by have := hFz x y hf; have := (hSb x y h).1; omega, (hSb x y h).2⟩⟩
  have harg : ∀ v, args.getD 0 Go.undef = v → args = #[v] := fun v hv => args_eq (l := [v]) hl fun i u hu => by
    match i, hu with
    | 0, hu => cases hu; exact hv
  rcases shr_slc_inv h0 with ⟨ad, cap, hv, hrows⟩ | ⟨b, off, cap, vs, hv, hcap, hc⟩
  · have hnil : a = [] := by
      have := congrArg List.length hrows
      simp [bytesD] at this
      exact this
    subst hnil
    refine fin _ (harg _ hv) ?_
    cases ad with
    | none =>
      refine (Go.Proofs.YtpboimnecoakiaaDoor.Tryd.bytes_Clone_nil 0 cap w).mono ?_
      rintro e w' ⟨rfl, rfl⟩
      exact ⟨_, rfl, ⟨rfl, .inl ⟨rfl, rfl⟩⟩, rfl, rfl, Nat.le_refl _, fun _ _ => rfl⟩
    | some ad =>
      refine (Go.Proofs.YtpboimnecoakiaaDoor.Tryd.bytes_Clone_at ad 0 cap [] w rfl (by omega) (fun i hi => by omega)).mono ?_
      rintro e w' ⟨v', rfl, hrow, _, hb⟩
      exact ⟨v', rfl, hrow, hb.os, hb.output, hb.size, fun b h => hb.block b h⟩
  · refine fin _ (harg _ hv) ?_
    have hlen : (bytesD a).length = a.length := by simp [bytesD]
    rw [hlen]
    have hfl : (bytesD a).flatten = a.map fun b => D.int .u8 b.toNat := by
      unfold bytesD
      generalize a = l
      induction l with
      | nil => rfl
      | cons x a ih => simp only [List.map_cons, List.flatten_cons, ih]; rfl
    refine (Go.Proofs.YtpboimnecoakiaaDoor.Tryd.bytes_Clone_at (at_ b off) a.length cap (a.map fun b => (b.toNat : Int)) w (by simp) ha (fun i hi => ?_)).mono ?_
    · have hx := List.getElem?_eq_getElem hi
      obtain ⟨h1, h2⟩ := hc i (.int .u8 (a[i]).toNat) (by rw [hfl, List.getElem?_map, hx]; rfl)
      have h3 := shr_int h2
      rw [h3] at h1
      show w.cell? ((at_ b off).add i) = _
      rw [show (at_ b off).add i = at_ b (off + i) by simp [Addr.add], h1]
      simp [List.getD, hx]
    · rintro e w' ⟨v', rfl, hrow, _, hb⟩
      refine ⟨v', rfl, ?_, hb.os, hb.output, hb.size, fun b h => hb.block b h⟩
      rw [List.map_map] at hrow
      exact hrow

theorem Grow_ok (n : Nat) (hn : n ≤ 1099511627776) : Valid PP GG 175 [.nil 0 1, .d (.int .i64 n)] (.own 0 1 []) [none, none] := by
  refine ⟨⟨Tryd.f175, Tryd.func175, by kernel_rfl, by kernel_rfl⟩, fun w args Fz U hG hFz hRC hap => ?_⟩
  obtain ⟨hl, hRC, hdis⟩ := hRC
  have h0 := hRC 0 _ rfl
  have h1 := hRC 1 _ rfl
  have h2 : args.getD 1 Go.undef = .int .i64 n := by
    generalize args.getD 1 Go.undef = v1 at h1
    cases h1 with | d _ _ _ h _ => exact shr_int h
  obtain ⟨v, hv⟩ : ∃ v, args.getD 0 Go.undef = v := ⟨_, rfl⟩
  rw [hv] at h0
  have hargs : args = #[v, .int .i64 n] := args_eq (l := [v, .int .i64 n]) hl fun i u hu => by
    match i, hu with
    | 0, hu => cases hu; exact hv
    | 1, hu => cases hu; exact h2
  have hvn : v = .slice none 0 0 := by cases h0; rfl
  have grow : ∀ (base : Option Addr) (c : Nat) (cs : List Value), v = .slice base 0 c → c < n → cs.length = c → (base = none → c = 0) → (∀ a, base = some a → ∀ (j : Nat) u, cs[j]? = some u → w.cell? (a.add j) = some u) →
      Calls PP 175 args w fun e w' => ∃ v' Fz' U', e = .returned v' ∧ Post w w' Fz Fz' (fun x y => ∃ i, i < 2 ∧ U i x y) args v' (.own 0 1 []) [none, none] U' := by
    intro base c cs hb hc hcl hnil hcs
    subst hb
    obtain ⟨i0, hi0⟩ : ∃ i0, PP.info? 5 = some i0 := Option.isSome_iff_exists.1 (by kernel_rfl)
    have hz0 : i0.zero = some (.int .u8 0) := by
      have h : (PP.info? 5).bind (·.zero) = some (.int .u8 0) := by kernel_rfl
      rw [hi0] at h; exact h
    have hs0 : i0.size = 1 := by
      have h : (PP.info? 5).map (·.size) = some 1 := by kernel_rfl
      rw [hi0] at h; exact Option.some.inj h
    have hb0 : i0.bytes = 1 := by
      have h : (PP.info? 5).map (·.bytes) = some 1 := by kernel_rfl
      rw [hi0] at h; exact Option.some.inj h
    have hg := Any8.slices_Grow_grow Go.Proofs.YtpboimnecoakiaaDoor.Tryd.growB i0 (.int .u8 0) hi0 hz0 (by omega) base 0 c n cs w (by omega) (by omega) (by rw [hb0]; omega) (by omega) (by rw [hs0]; omega) hnil hcs
    rw [hargs]
    refine hg.mono ?_
    rintro e w' ⟨rfl, rfl⟩
    have hge : 0 + n ≤ grownCap w (0 + n) c (Go.Proofs.YtpboimnecoakiaaDoor.Tryd.grow_ren.t 25) := grownCap_ge w _ _ _
    generalize hG : grownCap w (0 + n) c (Go.Proofs.YtpboimnecoakiaaDoor.Tryd.grow_ren.t 25) = G
    have hge : n ≤ G := by rw [← hG]; have := hge; simpa using this
    obtain ⟨zs, hzs⟩ : ∃ zs, cs.toArray ++ Builtin.zeroCells (Value.int .u8 0).cells (0 + n - c) ++ Builtin.zeroCells (Value.int .u8 0).cells (G - (0 + n)) = zs := ⟨_, rfl⟩
    have hzl : zs.size = G := by
      rw [← hzs]
      simp only [Array.size_append, size_zeroCells]
      show cs.toArray.size + (0 + n - c) * 1 + (G - (0 + n)) * 1 = G
      simp
      omega
    rw [hzs]
    have hblk : ∀ b, b < w.heap.size → (w.drew.alloc (.cells zs (Go.Proofs.YtpboimnecoakiaaDoor.Tryd.grow_ren.t 25))).heap[b]? = w.heap[b]? := fun b hb => by
      show (w.heap.push _)[b]? = _
      rw [Array.getElem?_push_lt hb, Array.getElem?_eq_getElem hb]
    have hnew : (w.drew.alloc (.cells zs (Go.Proofs.YtpboimnecoakiaaDoor.Tryd.grow_ren.t 25))).heap[w.heap.size]? = some (.cells zs (Go.Proofs.YtpboimnecoakiaaDoor.Tryd.grow_ren.t 25)) := by
      show (w.heap.push _)[w.heap.size]? = _
      simp
    have hsz : (w.drew.alloc (.cells zs (Go.Proofs.YtpboimnecoakiaaDoor.Tryd.grow_ren.t 25))).heap.size = w.heap.size + 1 := by
      show (w.heap.push _).size = _
      simp
    have hside : (w.drew.alloc (.cells zs (Go.Proofs.YtpboimnecoakiaaDoor.Tryd.grow_ren.t 25))).os = w.os ∧ (w.drew.alloc (.cells zs (Go.Proofs.YtpboimnecoakiaaDoor.Tryd.grow_ren.t 25))).output = w.output := ⟨rfl, rfl⟩
    generalize w.drew.alloc (.cells zs (Go.Proofs.YtpboimnecoakiaaDoor.Tryd.grow_ren.t 25)) = w' at hblk hnew hsz hside ⊢
    have hcell : ∀ o, o < G → w'.cell? (at_ w.heap.size (0 + o)) = some (zs.getD o Go.undef) := by
      intro o ho
      have ho2 : o < zs.size := by omega
      unfold World.cell?
      rw [show (at_ w.heap.size (0 + o)).block = w.heap.size from rfl, hnew]
      simp [Array.getD_eq_getD_getElem?, ho2]
    have hres : Own w' Fz 1 (.slice (some ⟨w.heap.size, 0, none⟩) 0 G) (.slc 1 []) (rng w.heap.size 0 (G * 1)) := by
      refine .inr ⟨w.heap.size, 0, G, fun _ _ _ => False, rfl, by simp, fun o ho => ⟨⟨_, hcell o (by omega)⟩, ?_⟩, by simp, fun m d hm => by simp at hm, fun _ _ _ _ _ _ _ h => h.elim, fun _ _ _ _ _ h => h, fun x y => ⟨fun h => .inl h, fun h => h.elim id fun ⟨_, _, h⟩ => h.elim⟩⟩
      unfold World.frz?
      rw [show (at_ w.heap.size (0 + o)).block = w.heap.size from rfl, hnew]
      simp
    refine ⟨_, Fz, fun i => if i = 0 then rng w.heap.size 0 (G * 1) else fun _ _ => False, rfl, hside, by omega, fun b hb _ => hblk b hb, fun b o hb _ => keep_of_heap (hblk b hb) o, fun _ _ h => h, fun b o h => by have := hFz b o h; omega, fun b o h => .inl h, .own 0 1 _ _ _ hres, ?_, ?_, ?_⟩
    · intro m c' hm
      match m, hm with
      | 0, hm => cases hm
      | 1, hm => cases hm
    · intro i j hij x y hx hy
      by_cases hi : i = 0
      · subst hi
        rw [if_neg (by omega)] at hy
        exact hy
      · simp only [hi, if_false] at hx
    · intro i x y hx
      by_cases hi : i = 0
      · subst hi
        simp only [if_true] at hx
        obtain ⟨rfl, _, _⟩ := hx
        exact ⟨.inr (Nat.le_refl _), fun hf => by have := hFz _ _ hf; omega, by omega⟩
      · simp only [hi, if_false] at hx
  subst hvn
  by_cases hn0 : n = 0
  · subst hn0
    have hg := Any8.slices_Grow_room Go.Proofs.YtpboimnecoakiaaDoor.Tryd.growB none 0 0 0 w (by omega) (by omega) (by omega) (by omega)
    rw [hargs]
    refine hg.mono ?_
    rintro e w' ⟨rfl, rfl⟩
    refine ⟨_, Fz, fun _ _ _ => False, rfl, ⟨rfl, rfl⟩, Nat.le_refl _, fun _ _ _ => rfl, fun _ _ _ _ => ⟨rfl, rfl⟩, fun _ _ h => h, hFz, fun _ _ h => .inl h, .own 0 1 _ _ _ (.inl ⟨rfl, rfl, fun _ _ h => h⟩), ?_, fun _ _ _ _ _ h => h.elim, fun _ _ _ h => h.elim⟩
    intro m c' hm
    match m, hm with
    | 0, hm => cases hm
    | 1, hm => cases hm
  · exact grow none 0 [] rfl (by omega) rfl (fun _ => rfl) (fun a h => by cases h)

def bytesL (ls : List (List UInt8)) : List (List D) := ls.map fun a => [.slc 1 (bytesD a)]

@[simp] theorem bytesL_len (ls : List (List UInt8)) : (bytesL ls).length = ls.length := by simp [bytesL]

@[simp] theorem bytesL_get (ls : List (List UInt8)) (i : Nat) : (bytesL ls)[i]? = (ls[i]?).map fun a => [.slc 1 (bytesD a)] := by simp [bytesL]

theorem flatten_succ {α : Type} {ls : List (List α)} {i : Nat} {a : List α} (h : ls[i]? = some a) : (ls.take (i + 1)).flatten = (ls.take i).flatten ++ a := by
  rw [List.take_add_one, h]; simp

theorem flatten_take_le {α : Type} (ls : List (List α)) (i : Nat) : (ls.take i).flatten.length ≤ ls.flatten.length := by
  conv => rhs; rw [← List.take_append_drop i ls, List.flatten_append, List.length_append]
  omega

theorem bytesD_app (x y : List UInt8) : bytesD (x ++ y) = bytesD x ++ bytesD y := by simp [bytesD]

theorem Concat_ok (ls : List (List UInt8)) (h1 : ls.length ≤ 1000000) (h2 : ls.flatten.length ≤ 1099511627776) : Valid PP GG F_slices_Concat___byte_byte_ [.d (.slc 1 (bytesL ls))] (.own 0 1 (bytesD ls.flatten)) [none] := by
  refine v_slices_Concat___byte_byte_ [.own 0 1 (bytesD ls.flatten)] rfl rfl ?_
  refine W_seq (?_)
  apply W_regS
  · intro K hK
    simp
    repeat' (first | with_reducible exact hK | (with_reducible refine goL_split (fun _ => ?_) (fun _ => ?_) <;> simp) | with_reducible refine And.intro ?_ ?_ | with_reducible exact okay_rfl rfl | with_reducible assumption | omega)
  refine W_seq (?_)
  apply W_regS
  · intro K hK
    simp
    repeat' (first | with_reducible exact hK | (with_reducible refine goL_split (fun _ => ?_) (fun _ => ?_) <;> simp) | with_reducible refine And.intro ?_ ?_ | with_reducible exact okay_rfl rfl | with_reducible assumption | omega)
  refine W_seq (W_seq (?_))
  apply W_regS
  · intro K hK
    simp
    repeat' (first | with_reducible exact hK | (with_reducible refine goL_split (fun _ => ?_) (fun _ => ?_) <;> simp) | with_reducible refine And.intro ?_ ?_ | with_reducible exact okay_rfl rfl | with_reducible assumption | omega)
  refine W_block (W_loop (fun n st => ∃ (i t : Nat), n = ls.length - i ∧ i ≤ ls.length ∧ t = (ls.take i).flatten.length ∧
    st = ⟨[], [(0, .d (.slc 1 (bytesL ls))), (3, .d (.int .i64 t)), (9, .d (.slc 1 (bytesL ls))), (10, .d (.int .i64 ls.length)), (11, .d (.int .i64 i))], [], 0⟩) _ ⟨0, 0, rfl, by omega, rfl, by simp [gc, closeN, liveA, gcV, gcO, renA, renAs, renO, namesAs, namesA, namesO, posn]⟩ ?_)
  rintro n st ⟨i, t, rfl, hi, ht, rfl⟩
  refine W_seq (?_)
  apply W_regS
  · intro K hK
    simp
    repeat' (first | with_reducible exact hK | (with_reducible refine goL_split (fun _ => ?_) (fun _ => ?_) <;> simp) | with_reducible refine And.intro ?_ ?_ | with_reducible exact okay_rfl rfl | with_reducible assumption | omega)
  refine W_seq (?_)
  refine W_cond rfl (fun h => W_skip ?_) (fun h => W_exit ?_)
  · simp at h
    have ha := List.getElem?_eq_getElem h
    generalize ls[i] = a at ha
    have hf := congrArg List.length (flatten_succ ha)
    rw [List.length_append] at hf
    have hle := flatten_take_le ls (i + 1)
    rw [← ht] at hf
    have hw : IntKind.i64.wrap ((t : Int) + a.length) = ((t + a.length : Nat) : Int) := by rw [wrap_id (by omega) (by omega)]; omega
    refine W_seq (W_block (W_seq ?_))
    apply W_regS
    · intro K hK
      simp [ha]
      repeat' (first | with_reducible exact hK | (with_reducible refine goL_split (fun _ => ?_) (fun _ => ?_) <;> simp [ha]) | with_reducible refine And.intro ?_ ?_ | with_reducible exact okay_rfl rfl | with_reducible assumption | omega)
    refine W_seq (?_)
    apply W_regS
    · intro K hK
      simp [hw]
      repeat' (first | with_reducible exact hK | (with_reducible refine goL_split (fun _ => ?_) (fun _ => ?_) <;> simp [hw]) | with_reducible refine And.intro ?_ ?_ | with_reducible exact okay_rfl rfl | with_reducible assumption | omega)
    refine W_seq (?_)
    refine W_regB 20 (false) (fun K hK => ?_) ?_
    · simp
      repeat' (first | exact hK _ _ (by clear hK; first | omega | (exact decide_eq_false (by omega)) | (exact decide_eq_true (by omega)) | (exact (decide_eq_true (by omega)).symm) | (exact (decide_eq_false (by omega)).symm) | (exact decide_eq_decide.2 (by omega)) | (simp [*]; done) | (simp [*]; omega) | (simp_all; done) | (simp_all; omega) | (rw [Bool.eq_iff_iff]; simp at *; omega)) | (with_reducible refine goL_split (fun _ => ?_) (fun _ => ?_) <;> simp) | with_reducible refine And.intro ?_ ?_ | with_reducible exact okay_rfl rfl | with_reducible assumption | omega)
    refine W_cond rfl (fun h3 => ?_) (fun h3 => W_skip ?_)
    · cases h3
    apply W_regS
    · intro K hK
      simp
      repeat' (first | with_reducible exact hK | (with_reducible refine goL_split (fun _ => ?_) (fun _ => ?_) <;> simp) | with_reducible refine And.intro ?_ ?_ | with_reducible exact okay_rfl rfl | with_reducible assumption | omega)
    refine ⟨ls.length - (i + 1), by omega, i + 1, t + a.length, rfl, h, hf.symm, ?_⟩
    simp [gc, closeN, liveA, gcV, gcO, renA, renAs, renO, namesAs, namesA, namesO, posn]
    exact wrap_id (by omega) (by omega)
  · simp at h
    rw [List.take_of_length_le h] at ht
    rw [if_pos rfl]
    refine W_seq (?_)
    apply W_regS
    · intro K hK
      simp
      repeat' (first | with_reducible exact hK | (with_reducible refine callQ (Grow_ok t (by omega)) ?_; simp) | (with_reducible refine goL_split (fun _ => ?_) (fun _ => ?_) <;> simp) | with_reducible refine And.intro ?_ ?_ | with_reducible exact okay_rfl rfl | with_reducible assumption | omega)
    refine W_seq (W_seq (?_))
    apply W_regS
    · intro K hK
      simp
      repeat' (first | with_reducible exact hK | (with_reducible refine goL_split (fun _ => ?_) (fun _ => ?_) <;> simp) | with_reducible refine And.intro ?_ ?_ | with_reducible exact okay_rfl rfl | with_reducible assumption | omega)
    refine W_block (W_loop (fun n st => ∃ (i : Nat) (w : List UInt8), n = ls.length - i ∧ i ≤ ls.length ∧ w = (ls.take i).flatten ∧
      st = ⟨[], [(6, .sl 0), (25, .d (.slc 1 (bytesL ls))), (26, .d (.int .i64 ls.length)), (27, .d (.int .i64 i))], [(0, .arr 0 0 1 (bytesD w))], 1⟩) _ ⟨0, [], rfl, by omega, rfl, by simp [gc, closeN, liveA, gcV, gcO, renA, renAs, renO, namesAs, namesA, namesO, posn, bytesD]⟩ ?_)
    rintro n st ⟨i, w, rfl, hi, hwt, rfl⟩
    refine W_seq (?_)
    apply W_regS
    · intro K hK
      simp
      repeat' (first | with_reducible exact hK | (with_reducible refine goL_split (fun _ => ?_) (fun _ => ?_) <;> simp) | with_reducible refine And.intro ?_ ?_ | with_reducible exact okay_rfl rfl | with_reducible assumption | omega)
    refine W_seq (?_)
    refine W_cond rfl (fun h => W_skip ?_) (fun h => W_exit ?_)
    · simp at h
      have ha := List.getElem?_eq_getElem h
      generalize ls[i] = a at ha
      have hs := flatten_succ ha
      have hf := congrArg List.length hs
      rw [List.length_append] at hf
      have hle := flatten_take_le ls (i + 1)
      rw [← hwt] at hf hs
      refine W_seq (W_block (W_seq ?_))
      apply W_regS
      · intro K hK
        simp [ha]
        repeat' (first | with_reducible exact hK | (with_reducible refine goL_split (fun _ => ?_) (fun _ => ?_) <;> simp [ha]) | with_reducible refine And.intro ?_ ?_ | with_reducible exact okay_rfl rfl | with_reducible assumption | omega)
      apply W_regS
      · intro K hK
        simp [limit]
        repeat' (first | with_reducible exact hK | (with_reducible refine goL_split (fun _ => ?_) (fun _ => ?_) <;> simp [limit]) | with_reducible refine And.intro ?_ ?_ | with_reducible exact okay_rfl rfl | with_reducible assumption | omega)
      apply W_regS
      · intro K hK
        simp
        repeat' (first | with_reducible exact hK | (with_reducible refine goL_split (fun _ => ?_) (fun _ => ?_) <;> simp) | with_reducible refine And.intro ?_ ?_ | with_reducible exact okay_rfl rfl | with_reducible assumption | omega)
      refine ⟨ls.length - (i + 1), by omega, i + 1, w ++ a, rfl, h, hs.symm, ?_⟩
      rw [bytesD_app]
      simp [gc, closeN, liveA, gcV, gcO, renA, renAs, renO, namesAs, namesA, namesO, posn]
      exact wrap_id (by omega) (by omega)
    · simp at h
      rw [List.take_of_length_le h] at hwt
      rw [if_pos rfl]
      subst hwt
      refine W_seq (?_)
      apply W_regS
      · intro K hK
        simp
        repeat' (first | with_reducible exact hK | (with_reducible refine goL_split (fun _ => ?_) (fun _ => ?_) <;> simp) | with_reducible refine And.intro ?_ ?_ | with_reducible exact okay_rfl rfl | with_reducible assumption | omega)
      refine W_ret ?_
      simp [Fin]
      all_goals omega

def tagV (k n : Int) (a : List UInt8) : Int := digN (wide k ++ wide n ++ a)

theorem s_TagOf_ok (k n : Int) (a : List UInt8) (hk : keyB k = true) (hn : keyB n = true) (hl : a.length ≤ 2000) : Valid PP GG F_S_TagOf [.d (.int .i64 k), .d (.int .i64 n), .d (.slc 1 (bytesD a))] (.d (.int .i64 (tagV k n a))) [none, none, none] := by
  refine v_S_TagOf [.d (.int .i64 (tagV k n a))] rfl rfl ?_
  have ck := l04Key_ok (GG := GG) k
  have cn := l04Key_ok (GG := GG) n
  rw [hk] at ck
  rw [hn] at cn
  have cp := s_PutWide_ok (GG := GG) k hk
  have cq := s_PutWide_ok (GG := GG) n hn
  have hw1 := wide_len k
  have hw2 := wide_len n
  have i1 := ind_bytes (wide k)
  have i2 := ind_bytes (wide n)
  have i3 := ind_bytes (wide k ++ wide n)
  have i4 := ind_bytes (wide k ++ wide n ++ a)
  have cj := l01Join_ok (GG := GG) (wide k) (wide n) (by omega)
  have cj2 := l01Join_ok (GG := GG) (wide k ++ wide n) a (by simp; omega)
  have cd : Valid PP GG F_S_Digest [.d (.slc 1 (bytesD (wide k ++ wide n ++ a)))] (.d (.int .i64 (tagV k n a))) [none] := Digest_ok (wide k ++ wide n ++ a) (by simp; omega)
  generalize tagV k n a = t at cd ⊢
  generalize wide k ++ wide n ++ a = z3 at cj2 cd i4
  generalize wide k ++ wide n = z2 at cj cj2 i3
  generalize wide k = z0 at cp cj i1
  generalize wide n = z1 at cq cj i2
  have hlen : decide (2000 < (a.length : Int)) = false := decide_eq_false (by omega)
  refine W_seq (?_)
  apply W_regS
  · intro K hK
    simp
    repeat' (first | with_reducible exact hK | (with_reducible refine goL_split (fun _ => ?_) (fun _ => ?_) <;> simp) | with_reducible refine And.intro ?_ ?_ | with_reducible exact okay_rfl rfl | with_reducible assumption | omega)
  refine W_seq (W_seq (?_))
  refine W_regB 19 (false) (fun K hK => ?_) ?_
  · simp [hlen]
    repeat' (first | exact hK _ _ (by clear hK; first | omega | (exact decide_eq_false (by omega)) | (exact decide_eq_true (by omega)) | (exact (decide_eq_true (by omega)).symm) | (exact (decide_eq_false (by omega)).symm) | (exact decide_eq_decide.2 (by omega)) | (simp [*]; done) | (simp [*]; omega) | (simp_all; done) | (simp_all; omega) | (rw [Bool.eq_iff_iff]; simp at *; omega)) | (with_reducible refine callQ (ck) ?_; simp [hlen]) | (with_reducible refine callQ (cn) ?_; simp [hlen]) | (with_reducible refine goL_split (fun _ => ?_) (fun _ => ?_) <;> simp [hlen]) | with_reducible refine And.intro ?_ ?_ | with_reducible exact okay_rfl rfl | with_reducible assumption | omega)
  refine W_cond rfl (fun h => ?_) (fun h => W_skip ?_)
  · cases h
  refine W_seq (?_)
  apply W_regS
  · intro K hK
    simp
    repeat' (first | with_reducible exact hK | (with_reducible refine callQ (cp) ?_; simp) | (with_reducible refine callQ (cq) ?_; simp) | (with_reducible refine callQ (cj) ?_; simp) | (with_reducible refine callQ (cj2) ?_; simp) | (with_reducible refine callQ (cd) ?_; simp) | (with_reducible refine goL_split (fun _ => ?_) (fun _ => ?_) <;> simp) | with_reducible refine And.intro ?_ ?_ | with_reducible exact okay_rfl rfl | with_reducible assumption | omega)
  refine W_ret ?_
  simp [Fin]
  all_goals omega

theorem tagOf_ok (k n : Int) (a : List UInt8) (hk : keyB k = true) (hn : keyB n = true) (hl : a.length ≤ 1048576) : Valid PP GG F_I_tagOf [.d (.int .i64 k), .d (.int .i64 n), .d (.slc 1 (bytesD a))] (.d (.int .i64 (tagV k n a))) [none, none, none] := by
  refine v_I_tagOf [.d (.int .i64 (tagV k n a))] rfl rfl ?_
  have cp := i_putWide_ok (GG := GG) k hk
  have cq := i_putWide_ok (GG := GG) n hn
  have hw1 := wide_len k
  have hw2 := wide_len n
  have i1 := ind_bytes (wide k)
  have i2 := ind_bytes (wide n)
  have i4 := ind_bytes (wide k ++ wide n ++ a)
  have cc := Concat_ok (GG := GG) [wide k, wide n, a] (by simp) (by simp; omega)
  have e : [wide k, wide n, a].flatten = wide k ++ wide n ++ a := by simp
  rw [e] at cc
  have cd : Valid PP GG F_I_digest [.d (.slc 1 (bytesD (wide k ++ wide n ++ a)))] (.d (.int .i64 (tagV k n a))) [none] := digest_ok (wide k ++ wide n ++ a) (by simp; omega)
  simp only [bytesL, List.map_cons, List.map_nil] at cc
  generalize tagV k n a = t at cd ⊢
  generalize wide k ++ wide n ++ a = z3 at cc cd i4
  generalize wide k = z0 at cp cc i1
  generalize wide n = z1 at cq cc i2
  refine W_seq (?_)
  apply W_regS
  · intro K hK
    simp
    repeat' (first | with_reducible exact hK | (with_reducible refine goL_split (fun _ => ?_) (fun _ => ?_) <;> simp) | with_reducible refine And.intro ?_ ?_ | with_reducible exact okay_rfl rfl | with_reducible assumption | omega)
  refine W_seq (?_)
  apply W_regS
  · intro K hK
    simp
    repeat' (first | with_reducible exact hK | (with_reducible refine callQ (cp) ?_; simp) | (with_reducible refine callQ (cq) ?_; simp) | (with_reducible refine callQ (cc) ?_; simp) | (with_reducible refine callQ (cd) ?_; simp) | (with_reducible refine goL_split (fun _ => ?_) (fun _ => ?_) <;> simp) | with_reducible refine And.intro ?_ ?_ | with_reducible exact okay_rfl rfl | with_reducible assumption | omega)
  refine W_ret ?_
  simp [Fin]
  all_goals omega

def sealV (k n : Int) (a : List UInt8) : GBox := { fNonce := n, fData := mask k n a, fTag := tagV k n (mask k n a) }

theorem s_SealBox_ok (k n : Int) (a : List UInt8) (hk : keyB k = true) (hn : keyB n = true) (ha : a.length ≤ 2000) : Valid PP GG F_S_SealBox [.d (.int .i64 k), .d (.int .i64 n), .d (.slc 1 (bytesD a))] (.tup [.agg (sealV k n a).o, .d (.bool true)]) [none, none, none] := by
  refine v_S_SealBox [.agg (sealV k n a).o, .d (.bool true)] rfl rfl ?_
  have ck := l04Key_ok (GG := GG) k
  have cn := l04Key_ok (GG := GG) n
  rw [hk] at ck
  rw [hn] at cn
  have hv2 : decide (2000 < (a.length : Int)) = false := decide_eq_false (by omega)
  have cm := l04Mask_ok (GG := GG) k n a hk hn ha
  have ct := s_TagOf_ok (GG := GG) k n (mask k n a) hk hn (by rw [mask_len]; exact ha)
  have hind := ind_bytes (mask k n a)
  simp only [sealV]
  generalize tagV k n (mask k n a) = z at ct ⊢
  generalize mask k n a = m at cm ct hind ⊢
  refine W_seq (?_)
  apply W_regS
  · intro K hK
    simp
    repeat' (first | with_reducible exact hK | (with_reducible refine goL_split (fun _ => ?_) (fun _ => ?_) <;> simp) | with_reducible refine And.intro ?_ ?_ | with_reducible exact okay_rfl rfl | with_reducible assumption | omega)
  refine W_seq (W_seq (?_))
  refine W_regB 21 (false) (fun K hK => ?_) ?_
  · simp [hv2]
    repeat' (first | exact hK _ _ (by clear hK; first | omega | (exact decide_eq_false (by omega)) | (exact decide_eq_true (by omega)) | (exact (decide_eq_true (by omega)).symm) | (exact (decide_eq_false (by omega)).symm) | (exact decide_eq_decide.2 (by omega)) | (simp [*]; done) | (simp [*]; omega) | (simp_all; done) | (simp_all; omega) | (rw [Bool.eq_iff_iff]; simp at *; omega)) | (with_reducible refine callQ (ck) ?_; simp [hv2]) | (with_reducible refine callQ (cn) ?_; simp [hv2]) | (with_reducible refine goL_split (fun _ => ?_) (fun _ => ?_) <;> simp [hv2]) | with_reducible refine And.intro ?_ ?_ | with_reducible exact okay_rfl rfl | with_reducible assumption | omega)
  refine W_cond rfl (fun h => ?_) (fun h => W_skip ?_)
  · cases h
  refine W_seq (?_)
  apply W_regS
  · intro K hK
    simp
    repeat' (first | with_reducible exact hK | (with_reducible refine callQ (cm) ?_; simp) | (with_reducible refine goL_split (fun _ => ?_) (fun _ => ?_) <;> simp) | with_reducible refine And.intro ?_ ?_ | with_reducible exact okay_rfl rfl | with_reducible assumption | omega)
  refine W_seq (?_)
  apply W_regS
  · intro K hK
    simp
    repeat' (first | with_reducible exact hK | (with_reducible refine callQ (ct) ?_; simp) | (with_reducible refine goL_split (fun _ => ?_) (fun _ => ?_) <;> simp) | with_reducible refine And.intro ?_ ?_ | with_reducible exact okay_rfl rfl | with_reducible assumption | omega)
  refine W_ret ?_
  simp [Fin]
  all_goals omega

theorem sealBox_ok (k n : Int) (a : List UInt8) (hk : keyB k = true) (hn : keyB n = true) (ha : a.length ≤ 1048576) : Valid PP GG F_I_sealBox [.d (.int .i64 k), .d (.int .i64 n), .d (.slc 1 (bytesD a))] (.agg (sealV k n a).o) [none, none, none] := by
  refine v_I_sealBox [.agg (sealV k n a).o] rfl rfl ?_
  have cm := crossed_ok (GG := GG) k n a hk hn ha
  have ct := tagOf_ok (GG := GG) k n (mask k n a) hk hn (by rw [mask_len]; exact ha)
  have hind := ind_bytes (mask k n a)
  simp only [sealV]
  generalize tagV k n (mask k n a) = z at ct ⊢
  generalize mask k n a = m at cm ct hind ⊢
  refine W_seq (?_)
  apply W_regS
  · intro K hK
    simp
    repeat' (first | with_reducible exact hK | (with_reducible refine goL_split (fun _ => ?_) (fun _ => ?_) <;> simp) | with_reducible refine And.intro ?_ ?_ | with_reducible exact okay_rfl rfl | with_reducible assumption | omega)
  refine W_seq (?_)
  apply W_regS
  · intro K hK
    simp
    repeat' (first | with_reducible exact hK | (with_reducible refine callQ (cm) ?_; simp) | (with_reducible refine goL_split (fun _ => ?_) (fun _ => ?_) <;> simp) | with_reducible refine And.intro ?_ ?_ | with_reducible exact okay_rfl rfl | with_reducible assumption | omega)
  refine W_seq (?_)
  apply W_regS
  · intro K hK
    simp
    repeat' (first | with_reducible exact hK | (with_reducible refine callQ (ct) ?_; simp) | (with_reducible refine goL_split (fun _ => ?_) (fun _ => ?_) <;> simp) | with_reducible refine And.intro ?_ ?_ | with_reducible exact okay_rfl rfl | with_reducible assumption | omega)
  refine W_ret ?_
  simp [Fin]
  all_goals omega

theorem l14CopyWrap_ok (w : GWrap) (hw : w.cost ≤ 1048576) : Valid PP GG F_S_l14CopyWrap [.agg w.c] (.agg w.o) [none] := by
  refine v_S_l14CopyWrap [.agg w.o] rfl rfl ?_
  have h1 : w.cost = w.fKind.length + w.fBox.cost := rfl
  have h2 : w.fBox.cost = w.fBox.fData.length := rfl
  have cb := l01Bytes_ok (GG := GG) w.fBox.fData (by omega)
  have hind := ind_bytes w.fBox.fData
  refine W_seq (?_)
  apply W_regS
  · intro K hK
    simp
    repeat' (first | with_reducible exact hK | (with_reducible refine goL_split (fun _ => ?_) (fun _ => ?_) <;> simp) | with_reducible refine And.intro ?_ ?_ | with_reducible exact okay_rfl rfl | with_reducible assumption | omega)
  refine W_seq (?_)
  apply W_regS
  · intro K hK
    simp
    repeat' (first | with_reducible exact hK | (with_reducible refine callQ (cb) ?_; simp) | (with_reducible refine goL_split (fun _ => ?_) (fun _ => ?_) <;> simp) | with_reducible refine And.intro ?_ ?_ | with_reducible exact okay_rfl rfl | with_reducible assumption | omega)
  refine W_seq (?_)
  apply W_regS
  · intro K hK
    simp
    repeat' (first | with_reducible exact hK | (with_reducible refine goL_split (fun _ => ?_) (fun _ => ?_) <;> simp) | with_reducible refine And.intro ?_ ?_ | with_reducible exact okay_rfl rfl | with_reducible assumption | omega)
  refine W_ret ?_
  simp [Fin]
  all_goals omega

theorem rWrap_snoc (l : List GWrap) (x : GWrap) : rWrap (l ++ [x]) = rWrap l ++ [x.row] := by simp [rWrap]

theorem l14Copy_ok (r : GRack) (hc : r.cost ≤ 1048576) : Valid PP GG F_S_l14Copy [.agg r.c] (.agg r.o) [none] := by
  refine v_S_l14Copy [.agg r.o] rfl rfl ?_
  obtain ⟨f, k, l⟩ := r
  have hco : (GRack.mk f k l).cost = l.length + sumBy GWrap.cost l := rfl
  refine W_seq (?_)
  apply W_regS
  · intro K hK
    simp
    repeat' (first | with_reducible exact hK | (with_reducible refine goL_split (fun _ => ?_) (fun _ => ?_) <;> simp) | with_reducible refine And.intro ?_ ?_ | with_reducible exact okay_rfl rfl | with_reducible assumption | omega)
  refine W_seq (?_)
  apply W_regS
  · intro K hK
    simp
    repeat' (first | with_reducible exact hK | (with_reducible refine goL_split (fun _ => ?_) (fun _ => ?_) <;> simp) | with_reducible refine And.intro ?_ ?_ | with_reducible exact okay_rfl rfl | with_reducible assumption | omega)
  refine W_seq (W_seq (?_))
  apply W_regS
  · intro K hK
    simp
    repeat' (first | with_reducible exact hK | (with_reducible refine goL_split (fun _ => ?_) (fun _ => ?_) <;> simp) | with_reducible refine And.intro ?_ ?_ | with_reducible exact okay_rfl rfl | with_reducible assumption | omega)
  refine W_block (W_loop (fun n st => ∃ (i : Nat) (w : List GWrap), n = l.length - i ∧ i ≤ l.length ∧ w = l.take i ∧
    ((i = 0 ∧ st = ⟨[], [(1, .ptr 0 0), (2, .ptr 1 0), (3, .ptr 2 0), (4, .d (.int .i64 0))], [(0, .box [.d (.int .i64 f), .d (.int .i64 k), .d (.slc 6 (rWrap l))]), (1, .box [.d (.int .i64 0), .d (.int .i64 0), .nil 1 6]), (2, .box [.d (.int .i64 f), .d (.int .i64 k), .nil 1 6])], 3⟩) ∨
     st = ⟨[], [(1, .ptr 0 0), (2, .ptr 1 0), (3, .ptr 2 0), (4, .d (.int .i64 i))], [(0, .box [.d (.int .i64 f), .d (.int .i64 k), .d (.slc 6 (rWrap l))]), (1, .box [.d (.int .i64 0), .d (.int .i64 0), .nil 1 6]), (2, .box [.d (.int .i64 f), .d (.int .i64 k), .sl 3]), (3, .arr 0 1 6 (rWrap w))], 4⟩)) _ ⟨0, [], rfl, by omega, rfl, .inl ⟨rfl, rfl⟩⟩ ?_)
  rintro n st ⟨i, w, rfl, hi, hw, ⟨rfl, rfl⟩ | rfl⟩
  · refine W_seq (W_seq (?_))
    apply W_regS
    · intro K hK
      simp
      repeat' (first | with_reducible exact hK | (with_reducible refine goL_split (fun _ => ?_) (fun _ => ?_) <;> simp) | with_reducible refine And.intro ?_ ?_ | with_reducible exact okay_rfl rfl | with_reducible assumption | omega)
    refine W_cond rfl (fun h => W_skip ?_) (fun h => W_exit ?_)
    · simp at h
      have ha := List.getElem?_eq_getElem h
      generalize l[0] = x at ha
      have hg := sumBy_get (f := GWrap.cost) ha
      have cw := l14CopyWrap_ok (GG := GG) x (by omega)
      refine W_seq (W_block ?_)
      apply W_regD
      · intro K hK
        simp [ha, limit]
        repeat' (first | with_reducible exact hK | (with_reducible refine callQ (cw) ?_; simp [ha, limit]) | (with_reducible refine goL_split (fun _ => ?_) (fun _ => ?_) <;> simp [ha, limit]) | with_reducible refine And.intro ?_ ?_ | with_reducible exact okay_rfl rfl | with_reducible assumption | omega)
      apply W_regS
      · intro K hK
        simp
        repeat' (first | with_reducible exact hK | (with_reducible refine goL_split (fun _ => ?_) (fun _ => ?_) <;> simp) | with_reducible refine And.intro ?_ ?_ | with_reducible exact okay_rfl rfl | with_reducible assumption | omega)
      refine ⟨l.length - (0 + 1), by omega, 0 + 1, [x], rfl, h, by rw [List.take_add_one, ha]; rfl, .inr ?_⟩
      simp [gc, closeN, liveA, gcV, gcO, renA, renAs, renO, namesAs, namesA, namesO, posn, rWrap]
      exact wrap_id (by omega) (by omega)
    · simp at h
      have hnil : l = [] := by first | exact h | exact List.length_eq_zero_iff.1 (by omega)
      rw [if_pos rfl]
      refine W_seq (?_)
      apply W_regS
      · intro K hK
        simp
        repeat' (first | with_reducible exact hK | (with_reducible refine goL_split (fun _ => ?_) (fun _ => ?_) <;> simp) | with_reducible refine And.intro ?_ ?_ | with_reducible exact okay_rfl rfl | with_reducible assumption | omega)
      refine W_ret ?_
      simp [Fin, hnil, rWrap]
      all_goals omega
  · refine W_seq (W_seq (?_))
    apply W_regS
    · intro K hK
      simp
      repeat' (first | with_reducible exact hK | (with_reducible refine goL_split (fun _ => ?_) (fun _ => ?_) <;> simp) | with_reducible refine And.intro ?_ ?_ | with_reducible exact okay_rfl rfl | with_reducible assumption | omega)
    refine W_cond rfl (fun h => W_skip ?_) (fun h => W_exit ?_)
    · simp at h
      have ha := List.getElem?_eq_getElem h
      generalize l[i] = x at ha
      have hg := sumBy_get (f := GWrap.cost) ha
      have cw := l14CopyWrap_ok (GG := GG) x (by omega)
      have hwl : w.length ≤ l.length := by rw [hw, List.length_take]; omega
      have hs : w ++ [x] = l.take (i + 1) := by rw [hw, List.take_add_one, ha]; rfl
      refine W_seq (W_block ?_)
      apply W_regD
      · intro K hK
        simp [ha, limit]
        repeat' (first | with_reducible exact hK | (with_reducible refine callQ (cw) ?_; simp [ha, limit]) | (with_reducible refine goL_split (fun _ => ?_) (fun _ => ?_) <;> simp [ha, limit]) | with_reducible refine And.intro ?_ ?_ | with_reducible exact okay_rfl rfl | with_reducible assumption | omega)
      apply W_regS
      · intro K hK
        simp
        repeat' (first | with_reducible exact hK | (with_reducible refine goL_split (fun _ => ?_) (fun _ => ?_) <;> simp) | with_reducible refine And.intro ?_ ?_ | with_reducible exact okay_rfl rfl | with_reducible assumption | omega)
      refine ⟨l.length - (i + 1), by omega, i + 1, w ++ [x], rfl, h, hs, .inr ?_⟩
      rw [rWrap_snoc]
      simp [gc, closeN, liveA, gcV, gcO, renA, renAs, renO, namesAs, namesA, namesO, posn]
      exact wrap_id (by omega) (by omega)
    · simp at h
      rw [List.take_of_length_le h] at hw
      subst hw
      rw [if_pos rfl]
      refine W_seq (?_)
      apply W_regS
      · intro K hK
        simp
        repeat' (first | with_reducible exact hK | (with_reducible refine goL_split (fun _ => ?_) (fun _ => ?_) <;> simp) | with_reducible refine And.intro ?_ ?_ | with_reducible exact okay_rfl rfl | with_reducible assumption | omega)
      refine W_ret ?_
      simp [Fin]
      all_goals omega

theorem cloneRack_ok (r : GRack) (hc : r.cost ≤ 1048576) : Valid PP GG F_I_cloneRack [.agg r.c] (.agg r.o) [none] := by
  refine v_I_cloneRack [.agg r.o] rfl rfl ?_
  obtain ⟨f, k, l⟩ := r
  have hco : (GRack.mk f k l).cost = l.length + sumBy GWrap.cost l := rfl
  refine W_seq (?_)
  apply W_regS
  · intro K hK
    simp
    repeat' (first | with_reducible exact hK | (with_reducible refine goL_split (fun _ => ?_) (fun _ => ?_) <;> simp) | with_reducible refine And.intro ?_ ?_ | with_reducible exact okay_rfl rfl | with_reducible assumption | omega)
  refine W_seq (?_)
  apply W_regS
  · intro K hK
    simp
    repeat' (first | with_reducible exact hK | (with_reducible refine goL_split (fun _ => ?_) (fun _ => ?_) <;> simp) | with_reducible refine And.intro ?_ ?_ | with_reducible exact okay_rfl rfl | with_reducible assumption | omega)
  refine W_seq (W_seq (?_))
  apply W_regS
  · intro K hK
    simp
    repeat' (first | with_reducible exact hK | (with_reducible refine goL_split (fun _ => ?_) (fun _ => ?_) <;> simp) | with_reducible refine And.intro ?_ ?_ | with_reducible exact okay_rfl rfl | with_reducible assumption | omega)
  refine W_block (W_loop (fun n st => ∃ (i : Nat) (w : List GWrap), n = l.length - i ∧ i ≤ l.length ∧ w = l.take i ∧
    ((i = 0 ∧ st = ⟨[], [(2, .ptr 0 0), (3, .ptr 1 0), (12, .d (.slc 6 (rWrap l))), (13, .d (.int .i64 l.length)), (14, .d (.int .i64 0))], [(0, .box [.d (.int .i64 0), .d (.int .i64 0), .nil 1 6]), (1, .box [.d (.int .i64 f), .d (.int .i64 k), .nil 1 6])], 2⟩) ∨
     st = ⟨[], [(2, .ptr 0 0), (3, .ptr 1 0), (12, .d (.slc 6 (rWrap l))), (13, .d (.int .i64 l.length)), (14, .d (.int .i64 i))], [(0, .box [.d (.int .i64 0), .d (.int .i64 0), .nil 1 6]), (1, .box [.d (.int .i64 f), .d (.int .i64 k), .sl 2]), (2, .arr 0 1 6 (rWrap w))], 3⟩)) _ ⟨0, [], rfl, by omega, rfl, .inl ⟨rfl, rfl⟩⟩ ?_)
  rintro n st ⟨i, w, rfl, hi, hw, ⟨rfl, rfl⟩ | rfl⟩
  · refine W_seq (?_)
    apply W_regS
    · intro K hK
      simp
      repeat' (first | with_reducible exact hK | (with_reducible refine goL_split (fun _ => ?_) (fun _ => ?_) <;> simp) | with_reducible refine And.intro ?_ ?_ | with_reducible exact okay_rfl rfl | with_reducible assumption | omega)
    refine W_seq (?_)
    refine W_cond rfl (fun h => W_skip ?_) (fun h => W_exit ?_)
    · simp at h
      have ha := List.getElem?_eq_getElem h
      generalize l[0] = x at ha
      have hg := sumBy_get (f := GWrap.cost) ha
      have h1 : x.cost = x.fKind.length + x.fBox.cost := rfl
      have h2 : x.fBox.cost = x.fBox.fData.length := rfl
      have cw := Clone_ok (GG := GG) x.fBox.fData (by omega)
      have hind := ind_bytes x.fBox.fData
      refine W_seq (W_block (W_seq ?_))
      apply W_regS
      · intro K hK
        simp [ha]
        repeat' (first | with_reducible exact hK | (with_reducible refine goL_split (fun _ => ?_) (fun _ => ?_) <;> simp [ha]) | with_reducible refine And.intro ?_ ?_ | with_reducible exact okay_rfl rfl | with_reducible assumption | omega)
      refine W_seq (?_)
      apply W_regS
      · intro K hK
        simp
        repeat' (first | with_reducible exact hK | (with_reducible refine callQ (cw) ?_; simp) | (with_reducible refine goL_split (fun _ => ?_) (fun _ => ?_) <;> simp) | with_reducible refine And.intro ?_ ?_ | with_reducible exact okay_rfl rfl | with_reducible assumption | omega)
      apply W_regS
      · intro K hK
        simp [limit]
        repeat' (first | with_reducible exact hK | (with_reducible refine goL_split (fun _ => ?_) (fun _ => ?_) <;> simp [limit]) | with_reducible refine And.intro ?_ ?_ | with_reducible exact okay_rfl rfl | with_reducible assumption | omega)
      apply W_regS
      · intro K hK
        simp
        repeat' (first | with_reducible exact hK | (with_reducible refine goL_split (fun _ => ?_) (fun _ => ?_) <;> simp) | with_reducible refine And.intro ?_ ?_ | with_reducible exact okay_rfl rfl | with_reducible assumption | omega)
      refine ⟨l.length - (0 + 1), by omega, 0 + 1, [x], rfl, h, by rw [List.take_add_one, ha]; rfl, .inr ?_⟩
      simp [gc, closeN, liveA, gcV, gcO, renA, renAs, renO, namesAs, namesA, namesO, posn, rWrap]
      exact wrap_id (by omega) (by omega)
    · simp at h
      have hnil : l = [] := by first | exact h | exact List.length_eq_zero_iff.1 (by omega)
      rw [if_pos rfl]
      refine W_seq (?_)
      apply W_regS
      · intro K hK
        simp
        repeat' (first | with_reducible exact hK | (with_reducible refine goL_split (fun _ => ?_) (fun _ => ?_) <;> simp) | with_reducible refine And.intro ?_ ?_ | with_reducible exact okay_rfl rfl | with_reducible assumption | omega)
      refine W_ret ?_
      simp [Fin, hnil, rWrap]
      all_goals omega
  · refine W_seq (?_)
    apply W_regS
    · intro K hK
      simp
      repeat' (first | with_reducible exact hK | (with_reducible refine goL_split (fun _ => ?_) (fun _ => ?_) <;> simp) | with_reducible refine And.intro ?_ ?_ | with_reducible exact okay_rfl rfl | with_reducible assumption | omega)
    refine W_seq (?_)
    refine W_cond rfl (fun h => W_skip ?_) (fun h => W_exit ?_)
    · simp at h
      have ha := List.getElem?_eq_getElem h
      generalize l[i] = x at ha
      have hg := sumBy_get (f := GWrap.cost) ha
      have h1 : x.cost = x.fKind.length + x.fBox.cost := rfl
      have h2 : x.fBox.cost = x.fBox.fData.length := rfl
      have cw := Clone_ok (GG := GG) x.fBox.fData (by omega)
      have hind := ind_bytes x.fBox.fData
      have hwl : w.length ≤ l.length := by rw [hw, List.length_take]; omega
      have hs : w ++ [x] = l.take (i + 1) := by rw [hw, List.take_add_one, ha]; rfl
      refine W_seq (W_block (W_seq ?_))
      apply W_regS
      · intro K hK
        simp [ha]
        repeat' (first | with_reducible exact hK | (with_reducible refine goL_split (fun _ => ?_) (fun _ => ?_) <;> simp [ha]) | with_reducible refine And.intro ?_ ?_ | with_reducible exact okay_rfl rfl | with_reducible assumption | omega)
      refine W_seq (?_)
      apply W_regS
      · intro K hK
        simp
        repeat' (first | with_reducible exact hK | (with_reducible refine callQ (cw) ?_; simp) | (with_reducible refine goL_split (fun _ => ?_) (fun _ => ?_) <;> simp) | with_reducible refine And.intro ?_ ?_ | with_reducible exact okay_rfl rfl | with_reducible assumption | omega)
      apply W_regS
      · intro K hK
        simp [limit]
        repeat' (first | with_reducible exact hK | (with_reducible refine goL_split (fun _ => ?_) (fun _ => ?_) <;> simp [limit]) | with_reducible refine And.intro ?_ ?_ | with_reducible exact okay_rfl rfl | with_reducible assumption | omega)
      apply W_regS
      · intro K hK
        simp
        repeat' (first | with_reducible exact hK | (with_reducible refine goL_split (fun _ => ?_) (fun _ => ?_) <;> simp) | with_reducible refine And.intro ?_ ?_ | with_reducible exact okay_rfl rfl | with_reducible assumption | omega)
      refine ⟨l.length - (i + 1), by omega, i + 1, w ++ [x], rfl, h, hs, .inr ?_⟩
      rw [rWrap_snoc]
      simp [gc, closeN, liveA, gcV, gcO, renA, renAs, renO, namesAs, namesA, namesO, posn]
      exact wrap_id (by omega) (by omega)
    · simp at h
      rw [List.take_of_length_le h] at hw
      subst hw
      rw [if_pos rfl]
      refine W_seq (?_)
      apply W_regS
      · intro K hK
        simp
        repeat' (first | with_reducible exact hK | (with_reducible refine goL_split (fun _ => ?_) (fun _ => ?_) <;> simp) | with_reducible refine And.intro ?_ ?_ | with_reducible exact okay_rfl rfl | with_reducible assumption | omega)
      refine W_ret ?_
      simp [Fin]
      all_goals omega

theorem rack_key {r : GRack} (h : rackOk r = true) : keyB r.fKey = true ∧ inB r.fNext 1 1000000000 = true := by
  simp only [rackOk, Bool.and_eq_true] at h; exact ⟨h.1.1.1, h.1.1.2⟩

def putOk (r : GRack) (kind plain : List UInt8) (now ttl : Int) : Bool := rackOk r && pathOk kind && decide (plain.length ≤ 2000) && inB now 0 1000000000 && inB ttl 1 1000000000 && decide (now + ttl ≤ 1000000000) && !(r.fNext == 1000000000)

def putDone (r : GRack) (kind plain : List UInt8) (now ttl : Int) : GRack := { fKey := r.fKey, fNext := r.fNext + 1, fWraps := r.fWraps ++ [{ fId := r.fNext, fEnds := now + ttl, fKind := kind, fBox := sealV r.fKey r.fNext plain }] }

def putR (r : GRack) (kind plain : List UInt8) (now ttl : Int) : GRack := if putOk r kind plain now ttl = true ∧ r.fWraps.length ≠ 60 then putDone r kind plain now ttl else r

def putI (r : GRack) (kind plain : List UInt8) (now ttl : Int) : Int := if putOk r kind plain now ttl = true ∧ r.fWraps.length ≠ 60 then r.fNext else 0

def putC (r : GRack) (kind plain : List UInt8) (now ttl : Int) : Int := if putOk r kind plain now ttl = true then (if r.fWraps.length = 60 then 5 else 0) else 1

theorem put_cases (r : GRack) (kind plain : List UInt8) (now ttl : Int) :
    (putOk r kind plain now ttl = false → putR r kind plain now ttl = r ∧ putI r kind plain now ttl = 0 ∧ putC r kind plain now ttl = 1) ∧
    (putOk r kind plain now ttl = true → r.fWraps.length = 60 → putR r kind plain now ttl = r ∧ putI r kind plain now ttl = 0 ∧ putC r kind plain now ttl = 5) ∧
    (putOk r kind plain now ttl = true → r.fWraps.length ≠ 60 → putR r kind plain now ttl = putDone r kind plain now ttl ∧ putI r kind plain now ttl = r.fNext ∧ putC r kind plain now ttl = 0) := by
  unfold putR putI putC
  refine ⟨fun h => ?_, fun h h2 => ?_, fun h h2 => ?_⟩
  · simp [h]
  · simp [h, h2]
  · simp [h, h2]

theorem put_ok {r : GRack} {kind plain : List UInt8} {now ttl s : Int} {p1 p2 p3 p4 p5 p6 p7 : Bool} (h1 : rackOk r = p1) (h2 : pathOk kind = p2) (h3 : decide (plain.length ≤ 2000) = p3) (h4 : inB now 0 1000000000 = p4) (h5 : inB ttl 1 1000000000 = p5)
    (hs : IntKind.i64.wrap (now + ttl) = s) (h6 : decide (s ≤ 1000000000) = p6) (h7 : (r.fNext == 1000000000) = !p7) : putOk r kind plain now ttl = (p1 && p2 && p3 && p4 && p5 && p6 && p7) ∧ (p4 = true → p5 = true → s = now + ttl) := by
  have hsv : p4 = true → p5 = true → s = now + ttl := by
    intro e4 e5
    have a := inB_true (h4.trans e4)
    have b := inB_true (h5.trans e5)
    rw [← hs, wrap_id (by omega) (by omega)]
  refine ⟨?_, hsv⟩
  unfold putOk
  rw [h1, h2, h3, h4, h5, h7]
  cases p4 with
  | false => simp
  | true =>
    cases p5 with
    | false => simp
    | true => rw [← h6, hsv rfl rfl]; simp

theorem next_key {x : Int} (h : inB x 1 1000000000 = true) : keyB x = true := by
  have := inB_true h
  unfold keyB inB
  simp
  omega

theorem s_PutWrap_ok (r : GRack) (kind plain : List UInt8) (now ttl : Int) (hc : r.cost ≤ 1048576) (hkl : kind.length ≤ 1048576) (hpl : plain.length ≤ 1048576) : Valid PP GG F_S_PutWrap [.agg r.c, .d (.str kind), .d (.slc 1 (bytesD plain)), .d (.int .i64 now), .d (.int .i64 ttl)] (.tup [.agg (putR r kind plain now ttl).o, .d (.int .i64 (putI r kind plain now ttl)), .d (.int .i64 (putC r kind plain now ttl))]) [none, none, none, none, none] := by
  refine v_S_PutWrap [.agg (putR r kind plain now ttl).o, .d (.int .i64 (putI r kind plain now ttl)), .d (.int .i64 (putC r kind plain now ttl))] rfl rfl ?_
  have cr := s_RackOk_ok (GG := GG) r hc
  have hpc := put_cases r kind plain now ttl
  have cp := s_PathOk_ok (GG := GG) kind (by omega)
  have c4 : Valid PP GG F_S_l01In [.d (.int .i64 now), .d (.int .i64 0), .d (.int .i64 1000000000)] (.d (.bool (inB now 0 1000000000))) [none, none, none] := l01In_ok _ _ _
  have c5 : Valid PP GG F_S_l01In [.d (.int .i64 ttl), .d (.int .i64 1), .d (.int .i64 1000000000)] (.d (.bool (inB ttl 1 1000000000))) [none, none, none] := l01In_ok _ _ _
  have cc := l14Copy_ok (GG := GG) r hc
  have hrk := rack_key (r := r)
  obtain ⟨s, hs⟩ : ∃ s, IntKind.i64.wrap (now + ttl) = s := ⟨_, rfl⟩
  obtain ⟨p1, e1⟩ : ∃ p, rackOk r = p := ⟨_, rfl⟩
  obtain ⟨p2, e2⟩ : ∃ p, pathOk kind = p := ⟨_, rfl⟩
  obtain ⟨p3, e3⟩ : ∃ p, decide (plain.length ≤ 2000) = p := ⟨_, rfl⟩
  obtain ⟨p4, e4⟩ : ∃ p, inB now 0 1000000000 = p := ⟨_, rfl⟩
  obtain ⟨p5, e5⟩ : ∃ p, inB ttl 1 1000000000 = p := ⟨_, rfl⟩
  obtain ⟨p6, e6⟩ : ∃ p, decide (s ≤ 1000000000) = p := ⟨_, rfl⟩
  obtain ⟨p7, e7⟩ : ∃ p, (r.fNext == 1000000000) = !p := ⟨!(r.fNext == 1000000000), by simp⟩
  have e3' : decide (2000 < (plain.length : Int)) = !p3 := by rw [← e3, ← decide_not]; exact decide_eq_decide.2 (by omega)
  have e6' : decide (1000000000 < s) = !p6 := by rw [← e6, ← decide_not]; exact decide_eq_decide.2 (by omega)
  obtain ⟨hok, hsv⟩ := put_ok (r := r) (kind := kind) (plain := plain) e1 e2 e3 e4 e5 hs e6 e7
  have hco : r.cost = r.fWraps.length + sumBy GWrap.cost r.fWraps := rfl
  rw [e2] at cp
  rw [e4] at c4
  rw [e5] at c5
  generalize putR r kind plain now ttl = g at hpc ⊢
  generalize putI r kind plain now ttl = vi at hpc ⊢
  generalize putC r kind plain now ttl = vc at hpc ⊢
  rw [e1] at cr
  refine W_seq (?_)
  apply W_regS
  · intro K hK
    simp
    repeat' (first | with_reducible exact hK | (with_reducible refine goL_split (fun _ => ?_) (fun _ => ?_) <;> simp) | with_reducible refine And.intro ?_ ?_ | with_reducible exact okay_rfl rfl | with_reducible assumption | omega)
  refine W_seq (W_seq (?_))
  refine W_regB 49 (!(p1 && p2 && p3 && p4 && p5 && p6 && p7)) (fun K hK => ?_) ?_
  · simp [e3', hs, e6', e7]
    repeat' (first | exact hK _ _ (by clear hK; first | omega | (exact decide_eq_false (by omega)) | (exact decide_eq_true (by omega)) | (exact (decide_eq_true (by omega)).symm) | (exact (decide_eq_false (by omega)).symm) | (exact decide_eq_decide.2 (by omega)) | (simp [*]; done) | (simp [*]; omega) | (simp_all; done) | (simp_all; omega) | (rw [Bool.eq_iff_iff]; simp at *; omega)) | (with_reducible refine callQ (cr) ?_; simp [e3', hs, e6', e7]) | (with_reducible refine callQ (cp) ?_; simp [e3', hs, e6', e7]) | (with_reducible refine callQ (c4) ?_; simp [e3', hs, e6', e7]) | (with_reducible refine callQ (c5) ?_; simp [e3', hs, e6', e7]) | (with_reducible refine goL_split (fun _ => ?_) (fun _ => ?_) <;> simp [e3', hs, e6', e7]) | with_reducible refine And.intro ?_ ?_ | with_reducible exact okay_rfl rfl | with_reducible assumption | omega)
  refine W_cond rfl (fun h => W_seq ?_) (fun h => W_skip ?_)
  · obtain ⟨rfl, rfl, rfl⟩ := hpc.1 (by rw [hok]; revert h; generalize (p1 && p2 && p3 && p4 && p5 && p6 && p7) = q; cases q <;> simp)
    apply W_regS
    · intro K hK
      simp
      repeat' (first | with_reducible exact hK | (with_reducible refine callQ (cc) ?_; simp) | (with_reducible refine goL_split (fun _ => ?_) (fun _ => ?_) <;> simp) | with_reducible refine And.intro ?_ ?_ | with_reducible exact okay_rfl rfl | with_reducible assumption | omega)
    refine W_ret ?_
    simp [Fin]
    all_goals omega
  rw [h]
  have hall : (p1 && p2 && p3 && p4 && p5 && p6 && p7) = true := by revert h; generalize (p1 && p2 && p3 && p4 && p5 && p6 && p7) = q; cases q <;> simp
  have hparts : p1 = true ∧ p3 = true ∧ p4 = true ∧ p5 = true := by revert hall; cases p1 <;> cases p3 <;> cases p4 <;> cases p5 <;> simp
  have hse := hsv hparts.2.2.1 hparts.2.2.2
  subst hse
  obtain ⟨kk, kn⟩ := hrk (by rw [e1]; exact hparts.1)
  have hpl2 : plain.length ≤ 2000 := of_decide_eq_true (e3.trans hparts.2.1)
  have hnr := inB_true kn
  have csl := s_SealBox_ok (GG := GG) r.fKey r.fNext plain kk (next_key kn) hpl2
  have hwn : IntKind.i64.wrap (r.fNext + 1) = r.fNext + 1 := wrap_id (by omega) (by omega)
  have hindp := ind_bytes (sealV r.fKey r.fNext plain).fData
  refine W_seq (W_seq (?_))
  obtain ⟨z, hz⟩ : ∃ z, ((r.fWraps.length : Int) == 60) = z := ⟨_, rfl⟩
  refine W_regB 55 (z) (fun K hK => ?_) ?_
  · simp [hz]
    repeat' (first | exact hK _ _ (by clear hK; first | omega | (exact decide_eq_false (by omega)) | (exact decide_eq_true (by omega)) | (exact (decide_eq_true (by omega)).symm) | (exact (decide_eq_false (by omega)).symm) | (exact decide_eq_decide.2 (by omega)) | (simp [*]; done) | (simp [*]; omega) | (simp_all; done) | (simp_all; omega) | (rw [Bool.eq_iff_iff]; simp at *; omega)) | (with_reducible refine goL_split (fun _ => ?_) (fun _ => ?_) <;> simp [hz]) | with_reducible refine And.intro ?_ ?_ | with_reducible exact okay_rfl rfl | with_reducible assumption | omega)
  refine W_cond rfl (fun h3 => W_seq ?_) (fun h3 => W_skip ?_)
  · obtain ⟨rfl, rfl, rfl⟩ := hpc.2.1 (by rw [hok]; exact hall) (by rw [h3] at hz; simp at hz; omega)
    apply W_regS
    · intro K hK
      simp
      repeat' (first | with_reducible exact hK | (with_reducible refine callQ (cc) ?_; simp) | (with_reducible refine goL_split (fun _ => ?_) (fun _ => ?_) <;> simp) | with_reducible refine And.intro ?_ ?_ | with_reducible exact okay_rfl rfl | with_reducible assumption | omega)
    refine W_ret ?_
    simp [Fin]
    all_goals omega
  obtain ⟨rfl, rfl, rfl⟩ := hpc.2.2 (by rw [hok]; exact hall) (by rw [h3] at hz; simp at hz; omega)
  simp only [putDone]
  generalize sealV r.fKey r.fNext plain = sb at csl hindp ⊢
  refine W_seq (?_)
  apply W_regS
  · intro K hK
    simp
    repeat' (first | with_reducible exact hK | (with_reducible refine callQ (cc) ?_; simp) | (with_reducible refine goL_split (fun _ => ?_) (fun _ => ?_) <;> simp) | with_reducible refine And.intro ?_ ?_ | with_reducible exact okay_rfl rfl | with_reducible assumption | omega)
  refine W_seq (?_)
  apply W_regS
  · intro K hK
    simp
    repeat' (first | with_reducible exact hK | (with_reducible refine callQ (csl) ?_; simp) | (with_reducible refine goL_split (fun _ => ?_) (fun _ => ?_) <;> simp) | with_reducible refine And.intro ?_ ?_ | with_reducible exact okay_rfl rfl | with_reducible assumption | omega)
  refine W_seq (?_)
  apply W_regS
  · intro K hK
    simp [hs, limit]
    repeat' (first | with_reducible exact hK | (with_reducible refine goL_split (fun _ => ?_) (fun _ => ?_) <;> simp [hs, limit]) | with_reducible refine And.intro ?_ ?_ | with_reducible exact okay_rfl rfl | with_reducible assumption | omega)
  refine W_seq (?_)
  apply W_regS
  · intro K hK
    simp [hwn]
    repeat' (first | with_reducible exact hK | (with_reducible refine goL_split (fun _ => ?_) (fun _ => ?_) <;> simp [hwn]) | with_reducible refine And.intro ?_ ?_ | with_reducible exact okay_rfl rfl | with_reducible assumption | omega)
  refine W_seq (?_)
  apply W_regD
  · intro K hK
    simp
    repeat' (first | with_reducible exact hK | (with_reducible refine goL_split (fun _ => ?_) (fun _ => ?_) <;> simp) | with_reducible refine And.intro ?_ ?_ | with_reducible exact okay_rfl rfl | with_reducible assumption | omega)
  refine W_ret ?_
  simp [Fin, rWrap_snoc]
  all_goals omega

theorem putWrap_ok [MaxL GG] (r : GRack) (kind plain : List UInt8) (now ttl : Int) (hc : r.cost ≤ 1048576) (hkl : kind.length ≤ 1048576) (hpl : plain.length ≤ 1048576) (hrok : rackOk r = true) : Valid PP GG F_I_putWrap [.agg r.c, .d (.str kind), .d (.slc 1 (bytesD plain)), .d (.int .i64 now), .d (.int .i64 ttl)] (.tup [.agg (putR r kind plain now ttl).o, .d (.int .i64 (putI r kind plain now ttl)), .d (.int .i64 (putC r kind plain now ttl))]) [none, none, none, none, none] := by
  refine v_I_putWrap [.agg (putR r kind plain now ttl).o, .d (.int .i64 (putI r kind plain now ttl)), .d (.int .i64 (putC r kind plain now ttl))] rfl rfl ?_
  have hpc := put_cases r kind plain now ttl
  have cp := isPath_ok (GG := GG) kind (by omega)
  have c4 : Valid PP GG F_I_within [.d (.int .i64 now), .d (.int .i64 0), .d (.int .i64 1000000000)] (.d (.bool (inB now 0 1000000000))) [none, none, none] := within_ok _ _ _
  have c5 : Valid PP GG F_I_within [.d (.int .i64 ttl), .d (.int .i64 1), .d (.int .i64 1000000000)] (.d (.bool (inB ttl 1 1000000000))) [none, none, none] := within_ok _ _ _
  have cc := cloneRack_ok (GG := GG) r hc
  have hrk := rack_key (r := r)
  obtain ⟨s, hs⟩ : ∃ s, IntKind.i64.wrap (now + ttl) = s := ⟨_, rfl⟩
  obtain ⟨p1, e1⟩ : ∃ p, rackOk r = p := ⟨_, rfl⟩
  obtain ⟨p2, e2⟩ : ∃ p, pathOk kind = p := ⟨_, rfl⟩
  obtain ⟨p3, e3⟩ : ∃ p, decide (plain.length ≤ 2000) = p := ⟨_, rfl⟩
  obtain ⟨p4, e4⟩ : ∃ p, inB now 0 1000000000 = p := ⟨_, rfl⟩
  obtain ⟨p5, e5⟩ : ∃ p, inB ttl 1 1000000000 = p := ⟨_, rfl⟩
  obtain ⟨p6, e6⟩ : ∃ p, decide (s ≤ 1000000000) = p := ⟨_, rfl⟩
  obtain ⟨p7, e7⟩ : ∃ p, (r.fNext == 1000000000) = !p := ⟨!(r.fNext == 1000000000), by simp⟩
  have e3' : decide (2000 < (plain.length : Int)) = !p3 := by rw [← e3, ← decide_not]; exact decide_eq_decide.2 (by omega)
  have e6' : decide (1000000000 < s) = !p6 := by rw [← e6, ← decide_not]; exact decide_eq_decide.2 (by omega)
  obtain ⟨hok, hsv⟩ := put_ok (r := r) (kind := kind) (plain := plain) e1 e2 e3 e4 e5 hs e6 e7
  have hco : r.cost = r.fWraps.length + sumBy GWrap.cost r.fWraps := rfl
  rw [e2] at cp
  rw [e4] at c4
  rw [e5] at c5
  generalize putR r kind plain now ttl = g at hpc ⊢
  generalize putI r kind plain now ttl = vi at hpc ⊢
  generalize putC r kind plain now ttl = vc at hpc ⊢
  have hp1 : p1 = true := e1.symm.trans hrok
  refine W_seq (?_)
  apply W_regS
  · intro K hK
    simp
    repeat' (first | with_reducible exact hK | (with_reducible refine goL_split (fun _ => ?_) (fun _ => ?_) <;> simp) | with_reducible refine And.intro ?_ ?_ | with_reducible exact okay_rfl rfl | with_reducible assumption | omega)
  refine W_seq (?_)
  apply W_regS
  · intro K hK
    simp
    repeat' (first | with_reducible exact hK | (with_reducible refine callQ (cc) ?_; simp) | (with_reducible refine goL_split (fun _ => ?_) (fun _ => ?_) <;> simp) | with_reducible refine And.intro ?_ ?_ | with_reducible exact okay_rfl rfl | with_reducible assumption | omega)
  refine W_seq (W_seq (?_))
  refine W_regB 44 (!(p2 && p3 && p4 && p5 && p6 && p7)) (fun K hK => ?_) ?_
  · simp [e3', hs, e6', e7]
    repeat' (first | exact hK _ _ (by clear hK; first | omega | (exact decide_eq_false (by omega)) | (exact decide_eq_true (by omega)) | (exact (decide_eq_true (by omega)).symm) | (exact (decide_eq_false (by omega)).symm) | (exact decide_eq_decide.2 (by omega)) | (simp [*]; done) | (simp [*]; omega) | (simp_all; done) | (simp_all; omega) | (rw [Bool.eq_iff_iff]; simp at *; omega)) | (with_reducible refine callQ (cp) ?_; simp [e3', hs, e6', e7]) | (with_reducible refine callQ (c4) ?_; simp [e3', hs, e6', e7]) | (with_reducible refine callQ (c5) ?_; simp [e3', hs, e6', e7]) | (with_reducible refine goL_split (fun _ => ?_) (fun _ => ?_) <;> simp [e3', hs, e6', e7]) | with_reducible refine And.intro ?_ ?_ | with_reducible exact okay_rfl rfl | with_reducible assumption | omega)
  have hq : (p1 && p2 && p3 && p4 && p5 && p6 && p7) = (p2 && p3 && p4 && p5 && p6 && p7) := by rw [hp1]; simp
  rw [← hq]
  refine W_cond rfl (fun h => W_seq ?_) (fun h => W_skip ?_)
  · obtain ⟨rfl, rfl, rfl⟩ := hpc.1 (by rw [hok]; revert h; generalize (p1 && p2 && p3 && p4 && p5 && p6 && p7) = q; cases q <;> simp)
    apply W_regS
    · intro K hK
      simp
      repeat' (first | with_reducible exact hK | (with_reducible refine goL_split (fun _ => ?_) (fun _ => ?_) <;> simp) | with_reducible refine And.intro ?_ ?_ | with_reducible exact okay_rfl rfl | with_reducible assumption | omega)
    refine W_ret ?_
    simp [Fin]
    all_goals omega
  rw [h]
  have hall : (p1 && p2 && p3 && p4 && p5 && p6 && p7) = true := by revert h; generalize (p1 && p2 && p3 && p4 && p5 && p6 && p7) = q; cases q <;> simp
  have hparts : p1 = true ∧ p3 = true ∧ p4 = true ∧ p5 = true := by revert hall; cases p1 <;> cases p3 <;> cases p4 <;> cases p5 <;> simp
  have hse := hsv hparts.2.2.1 hparts.2.2.2
  subst hse
  obtain ⟨kk, kn⟩ := hrk (by rw [e1]; exact hparts.1)
  have hpl2 : plain.length ≤ 2000 := of_decide_eq_true (e3.trans hparts.2.1)
  have hnr := inB_true kn
  have csl := sealBox_ok (GG := GG) r.fKey r.fNext plain kk (next_key kn) (by omega)
  have hwn : IntKind.i64.wrap (r.fNext + 1) = r.fNext + 1 := wrap_id (by omega) (by omega)
  have hindp := ind_bytes (sealV r.fKey r.fNext plain).fData
  refine W_seq (W_seq (?_))
  obtain ⟨z, hz⟩ : ∃ z, ((r.fWraps.length : Int) == 60) = z := ⟨_, rfl⟩
  refine W_regB 49 (z) (fun K hK => ?_) ?_
  · simp [hz]
    repeat' (first | exact hK _ _ (by clear hK; first | omega | (exact decide_eq_false (by omega)) | (exact decide_eq_true (by omega)) | (exact (decide_eq_true (by omega)).symm) | (exact (decide_eq_false (by omega)).symm) | (exact decide_eq_decide.2 (by omega)) | (simp [*]; done) | (simp [*]; omega) | (simp_all; done) | (simp_all; omega) | (rw [Bool.eq_iff_iff]; simp at *; omega)) | (with_reducible refine goL_split (fun _ => ?_) (fun _ => ?_) <;> simp [hz]) | with_reducible refine And.intro ?_ ?_ | with_reducible exact okay_rfl rfl | with_reducible assumption | omega)
  refine W_cond rfl (fun h3 => W_seq ?_) (fun h3 => W_skip ?_)
  · obtain ⟨rfl, rfl, rfl⟩ := hpc.2.1 (by rw [hok]; exact hall) (by rw [h3] at hz; simp at hz; omega)
    apply W_regS
    · intro K hK
      simp
      repeat' (first | with_reducible exact hK | (with_reducible refine goL_split (fun _ => ?_) (fun _ => ?_) <;> simp) | with_reducible refine And.intro ?_ ?_ | with_reducible exact okay_rfl rfl | with_reducible assumption | omega)
    refine W_ret ?_
    simp [Fin]
    all_goals omega
  obtain ⟨rfl, rfl, rfl⟩ := hpc.2.2 (by rw [hok]; exact hall) (by rw [h3] at hz; simp at hz; omega)
  simp only [putDone]
  generalize sealV r.fKey r.fNext plain = sb at csl hindp ⊢
  refine W_seq (?_)
  apply W_regD
  · intro K hK
    simp [hs, limit]
    repeat' (first | with_reducible exact hK | (with_reducible refine callQ (csl) ?_; simp [hs, limit]) | (with_reducible refine goL_split (fun _ => ?_) (fun _ => ?_) <;> simp [hs, limit]) | with_reducible refine And.intro ?_ ?_ | with_reducible exact okay_rfl rfl | with_reducible assumption | omega)
  refine W_seq (?_)
  apply W_regS
  · intro K hK
    simp [hwn]
    repeat' (first | with_reducible exact hK | (with_reducible refine goL_split (fun _ => ?_) (fun _ => ?_) <;> simp [hwn]) | with_reducible refine And.intro ?_ ?_ | with_reducible exact okay_rfl rfl | with_reducible assumption | omega)
  refine W_seq (?_)
  apply W_regD
  · intro K hK
    simp
    repeat' (first | with_reducible exact hK | (with_reducible refine goL_split (fun _ => ?_) (fun _ => ?_) <;> simp) | with_reducible refine And.intro ?_ ?_ | with_reducible exact okay_rfl rfl | with_reducible assumption | omega)
  refine W_ret ?_
  simp [Fin, rWrap_snoc]
  all_goals omega

end Go.Proofs.YtpboimnecoakiaaDoor.Ab

