/-
  A part of a proof about the given program; what is proved is said where each theorem stands.
-/
import Derived.Test.YtpbofdbleajagaaDoorFrameA
import Derived.Test.YtpbofdbleajagaaDoorFrameB
import Derived.Test.YtpbofdbleajagaaDoorFrameC
import Derived.Test.YtpbofdbleajagaaDoorFrameD
import Derived.Test.YtpbofdbleajagaaDoorFrameE
import Derived.Test.YtpbofdbleajagaaDoorShelf
import Derived.Test.YtpbofdbleajagaaDoorShelfB
import Derived.Test.YtpbofdbleajagaaDoorCodesM
namespace Go.Proofs
end Go.Proofs
set_option linter.unusedSimpArgs false
set_option linter.unusedVariables false
set_option maxRecDepth 100000
set_option maxHeartbeats 2000000
namespace Go.Proofs.YtpbofdbleajagaaDoor.Ab
open Go.Proofs
variable {GG : GV}

theorem wrap_id {n : Int} (h1 : -9223372036854775808 ≤ n) (h2 : n ≤ 9223372036854775807) : IntKind.i64.wrap n = n := by
  rw [IntKind.wrap_i64]; omega

theorem take_succ_eq {α : Type} {a b : List α} {i : Nat} {x : α} (h : a.take i = b.take i) (ha : a[i]? = some x) (hb : b[i]? = some x) : a.take (i + 1) = b.take (i + 1) := by
  rw [List.take_add_one, List.take_add_one, h, ha, hb]

theorem eqByteS_ok (a b : List UInt8) (hsz : a.length ≤ 281474976710656) : Valid PP GG F_L_eqByteS [.d (.slc 1 (bytesD a)), .d (.slc 1 (bytesD b))] (.d (.bool (a == b))) [none, none] := by
  refine v_L_eqByteS [.d (.bool (a == b))] rfl rfl ?_
  refine W_seq (?_)
  apply W_regS
  · intro K hK
    simp
    repeat' (first | with_reducible exact hK | (with_reducible refine goL_split (fun _ => ?_) (fun _ => ?_) <;> simp) | with_reducible refine And.intro ?_ ?_ | with_reducible exact okay_rfl rfl | with_reducible assumption | omega)
  refine W_seq (W_seq (?_))
  apply W_regS
  · intro K hK
    simp
    repeat' (first | with_reducible exact hK | (with_reducible refine goL_split (fun _ => ?_) (fun _ => ?_) <;> simp) | with_reducible refine And.intro ?_ ?_ | with_reducible exact okay_rfl rfl | with_reducible assumption | omega)
  refine W_cond rfl (fun h => W_seq ?_) (fun hlen => W_skip ?_)
  · apply W_regS
    · intro K hK
      simp
      repeat' (first | with_reducible exact hK | (with_reducible refine goL_split (fun _ => ?_) (fun _ => ?_) <;> simp) | with_reducible refine And.intro ?_ ?_ | with_reducible exact okay_rfl rfl | with_reducible assumption | omega)
    have : (a == b) = false := by simp at h ⊢; intro e; subst e; exact h rfl
    refine W_ret ?_
    simp [Fin, this]
    all_goals omega
  refine W_seq (W_seq (?_))
  simp at hlen
  apply W_regS
  · intro K hK
    simp
    repeat' (first | with_reducible exact hK | (with_reducible refine goL_split (fun _ => ?_) (fun _ => ?_) <;> simp) | with_reducible refine And.intro ?_ ?_ | with_reducible exact okay_rfl rfl | with_reducible assumption | omega)
  refine W_block (W_loop (fun n st => ∃ i : Nat, n = a.length - i ∧ i ≤ a.length ∧ a.take i = b.take i ∧ st = ⟨[], [(0, .d (.slc 1 (bytesD a))), (1, .d (.slc 1 (bytesD b))), (5, .d (.int .i64 i))], [], 0⟩) _ ⟨0, rfl, by omega, rfl, rfl⟩ ?_)
  rintro n st ⟨i, rfl, hi, he, rfl⟩
  refine W_seq (W_seq (?_))
  apply W_regS
  · intro K hK
    simp
    repeat' (first | with_reducible exact hK | (with_reducible refine goL_split (fun _ => ?_) (fun _ => ?_) <;> simp) | with_reducible refine And.intro ?_ ?_ | with_reducible exact okay_rfl rfl | with_reducible assumption | omega)
  refine W_cond rfl (fun h => W_skip ?_) (fun h => W_exit ?_)
  · simp at h
    have ha := List.getElem?_eq_getElem h
    have hb := List.getElem?_eq_getElem (show i < b.length by omega)
    generalize a[i] = x at ha
    generalize b[i]'_ = y at hb
    refine W_seq (W_block (W_seq ?_))
    apply W_regD
    · intro K hK
      simp [ha, hb]
      repeat' (first | with_reducible exact hK | (with_reducible refine goL_split (fun _ => ?_) (fun _ => ?_) <;> simp [ha, hb]) | with_reducible refine And.intro ?_ ?_ | with_reducible exact okay_rfl rfl | with_reducible assumption | omega)
    refine W_cond rfl (fun h2 => W_seq ?_) (fun h2 => W_skip ?_)
    · apply W_regS
      · intro K hK
        simp
        repeat' (first | with_reducible exact hK | (with_reducible refine goL_split (fun _ => ?_) (fun _ => ?_) <;> simp) | with_reducible refine And.intro ?_ ?_ | with_reducible exact okay_rfl rfl | with_reducible assumption | omega)
      have : (a == b) = false := by simp; intro e; subst e; simp [ha] at hb; subst hb; simp at h2
      refine W_ret ?_
      simp [Fin, this]
      all_goals omega
    apply W_regS
    · intro K hK
      simp
      repeat' (first | with_reducible exact hK | (with_reducible refine goL_split (fun _ => ?_) (fun _ => ?_) <;> simp) | with_reducible refine And.intro ?_ ?_ | with_reducible exact okay_rfl rfl | with_reducible assumption | omega)
    have hxy : x = y := by simp at h2; exact UInt8.toNat_inj.1 (by omega)
    subst hxy
    exact ⟨a.length - (i + 1), by omega, i + 1, rfl, h, take_succ_eq he ha hb, by simp [gc, closeN, liveA, gcV, gcO, renA, namesAs, namesA]; rw [wrap_id (by omega) (by omega)]⟩
  · simp at h
    rw [if_pos rfl]
    refine W_seq (?_)
    apply W_regS
    · intro K hK
      simp
      repeat' (first | with_reducible exact hK | (with_reducible refine goL_split (fun _ => ?_) (fun _ => ?_) <;> simp) | with_reducible refine And.intro ?_ ?_ | with_reducible exact okay_rfl rfl | with_reducible assumption | omega)
    have : (a == b) = true := by
      simp
      rwa [List.take_of_length_le h, List.take_of_length_le (by omega)] at he
    refine W_ret ?_
    simp [Fin, this]
    all_goals omega

theorem row_one {R : List (List D)} {i : Nat} (h : ∀ r, r ∈ R → r.length = 1) (hi : i < R.length) : ∃ d, R[i]? = some [d] := by
  have := h _ (List.getElem_mem hi)
  rw [List.length_eq_one_iff] at this
  obtain ⟨d, hd⟩ := this
  exact ⟨d, by rw [List.getElem?_eq_getElem hi, hd]⟩

theorem set_one {R : List (List D)} {i : Nat} {d : D} (h : ∀ r, r ∈ R → r.length = 1) : ∀ r, r ∈ R.set i [d] → r.length = 1 := by
  intro r hr
  rcases List.mem_or_eq_of_mem_set hr with h1 | h1
  · exact h r h1
  · subst h1; rfl

theorem take_set_succ {R : List (List D)} {i : Nat} {r : List D} (hi : i < R.length) : (R.set i r).take (i + 1) = R.take i ++ [r] := by
  rw [List.take_add_one, List.take_set_of_le (Nat.le_refl _)]
  simp [hi]

theorem bytesD_succ {a : List UInt8} {i : Nat} {x : UInt8} (ha : a[i]? = some x) : bytesD (a.take (i + 1)) = bytesD (a.take i) ++ [[.int .u8 x.toNat]] := by
  rw [List.take_add_one, ha]; simp [bytesD]

theorem toByteS_ok (a : List UInt8) (hsz : a.length ≤ 140737488355328) : Valid PP GG F_L_toByteS [.d (.slc 1 (bytesD a))] (.own 0 1 (bytesD a)) [none] := by
  refine v_L_toByteS [.own 0 1 (bytesD a)] rfl rfl ?_
  refine W_seq (?_)
  apply W_regS
  · intro K hK
    simp
    repeat' (first | with_reducible exact hK | (with_reducible refine goL_split (fun _ => ?_) (fun _ => ?_) <;> simp) | with_reducible refine And.intro ?_ ?_ | with_reducible exact okay_rfl rfl | with_reducible assumption | omega)
  refine W_seq (?_)
  apply W_regS
  · intro K hK
    simp [mkA, limit]
    repeat' (first | with_reducible exact hK | (with_reducible refine goL_split (fun _ => ?_) (fun _ => ?_) <;> simp [mkA, limit]) | with_reducible refine And.intro ?_ ?_ | with_reducible exact okay_rfl rfl | with_reducible assumption | omega)
  refine W_seq (W_seq (?_))
  apply W_regS
  · intro K hK
    simp
    repeat' (first | with_reducible exact hK | (with_reducible refine goL_split (fun _ => ?_) (fun _ => ?_) <;> simp) | with_reducible refine And.intro ?_ ?_ | with_reducible exact okay_rfl rfl | with_reducible assumption | omega)
  refine W_block (W_loop (fun n st => ∃ (i : Nat) (R : List (List D)), n = a.length - i ∧ i ≤ a.length ∧ R.length = a.length ∧ (∀ r, r ∈ R → r.length = 1) ∧ R.take i = bytesD (a.take i) ∧
    st = ⟨[], [(0, .d (.slc 1 (bytesD a))), (3, .sl 0), (4, .d (.int .i64 i))], [(0, .arr 0 0 1 R)], 1⟩) _ ⟨0, List.replicate a.length [.int .u8 0], rfl, by omega, by simp, by simp, rfl, rfl⟩ ?_)
  rintro n st ⟨i, R, rfl, hi, hl, h1, hR, rfl⟩
  refine W_seq (W_seq (?_))
  apply W_regS
  · intro K hK
    simp
    repeat' (first | with_reducible exact hK | (with_reducible refine goL_split (fun _ => ?_) (fun _ => ?_) <;> simp) | with_reducible refine And.intro ?_ ?_ | with_reducible exact okay_rfl rfl | with_reducible assumption | omega)
  refine W_cond rfl (fun h => W_skip ?_) (fun h => W_exit ?_)
  · simp at h
    have ha := List.getElem?_eq_getElem h
    generalize a[i] = x at ha
    obtain ⟨d, hd⟩ := row_one h1 (show i < R.length by omega)
    refine W_seq (W_block ?_)
    apply W_regS
    · intro K hK
      simp [ha, hd, hl]
      repeat' (first | with_reducible exact hK | (with_reducible refine goL_split (fun _ => ?_) (fun _ => ?_) <;> simp [ha, hd, hl]) | with_reducible refine And.intro ?_ ?_ | with_reducible exact okay_rfl rfl | with_reducible assumption | omega)
    apply W_regS
    · intro K hK
      simp
      repeat' (first | with_reducible exact hK | (with_reducible refine goL_split (fun _ => ?_) (fun _ => ?_) <;> simp) | with_reducible refine And.intro ?_ ?_ | with_reducible exact okay_rfl rfl | with_reducible assumption | omega)
    exact ⟨a.length - (i + 1), by omega, i + 1, R.set i [.int .u8 x.toNat], rfl, h, by simpa using hl, set_one h1, by rw [take_set_succ (by omega), hR, bytesD_succ ha],
      by simp [gc, closeN, liveA, gcV, gcO, renA, renO, namesAs, namesA, namesO, posn]; rw [wrap_id (by omega) (by omega)]⟩
  · simp at h
    have e : R = bytesD a := by rwa [List.take_of_length_le (by omega), List.take_of_length_le (by omega)] at hR
    subst e
    rw [if_pos rfl]
    refine W_seq (?_)
    apply W_regS
    · intro K hK
      simp
      repeat' (first | with_reducible exact hK | (with_reducible refine goL_split (fun _ => ?_) (fun _ => ?_) <;> simp) | with_reducible refine And.intro ?_ ?_ | with_reducible exact okay_rfl rfl | with_reducible assumption | omega)
    refine W_ret ?_
    simp [Fin]
    all_goals omega

/-- The digits of a number. -/
def digs (n : Nat) : List UInt8 := if h : n = 0 then [] else digs (n / 10) ++ [UInt8.ofNat (48 + n % 10)]
termination_by n
decreasing_by omega

def markT (k : Int) : List UInt8 := if k ≤ 0 then [109, 48] else 109 :: digs k.toNat

def marksByte (k : Int) (n : Nat) : List UInt8 := (List.range n).map fun (i : Nat) => UInt8.ofNat ((k + i) % 256).toNat

def sumBy {α : Type} (f : α → Nat) : List α → Nat
  | [] => 0
  | x :: r => f x + sumBy f r

theorem sumBy_append {α : Type} (f : α → Nat) (a b : List α) : sumBy f (a ++ b) = sumBy f a + sumBy f b := by
  induction a with
  | nil => simp [sumBy]
  | cons x a ih => simp [sumBy, ih]; omega

theorem sumBy_succ {α : Type} {f : α → Nat} {a : List α} {i : Nat} {x : α} (h : a[i]? = some x) : sumBy f (a.take (i + 1)) = sumBy f (a.take i) + f x := by
  rw [List.take_add_one, h, sumBy_append]; simp [sumBy]

theorem sumBy_take {α : Type} (f : α → Nat) (a : List α) (i : Nat) : sumBy f (a.take i) ≤ sumBy f a := by
  conv => rhs; rw [← List.take_append_drop i a, sumBy_append]
  omega

theorem sumBy_le {α : Type} {f g : α → Nat} {c : Nat} (h : ∀ x, f x ≤ c * (1 + g x)) (a : List α) : sumBy f a ≤ c * (a.length + sumBy g a) := by
  induction a with
  | nil => simp [sumBy]
  | cons x a ih =>
    have := h x
    simp only [sumBy, List.length_cons]
    rw [show a.length + 1 + (g x + sumBy g a) = (1 + g x) + (a.length + sumBy g a) by omega, Nat.mul_add]
    omega

theorem sumBy_mem {α : Type} {f : α → Nat} {a : List α} {x : α} (h : x ∈ a) : f x ≤ sumBy f a := by
  induction a with
  | nil => simp at h
  | cons y a ih =>
    rcases List.mem_cons.1 h with rfl | h
    · simp [sumBy]
    · have := ih h; simp [sumBy]; omega

theorem sumBy_get {α : Type} {f : α → Nat} {a : List α} {i : Nat} {x : α} (h : a[i]? = some x) : f x ≤ sumBy f a := sumBy_mem (List.mem_of_getElem? h)

/-- What is left of an allowance. -/
def leftR (c : Nat) (l : Int) : Int := if (c : Int) ≤ l then l - c else -1

theorem leftR_neg {c : Nat} {l : Int} (h0 : 0 ≤ l) (h : leftR c l < 0) : l < c := by unfold leftR at h; split at h <;> omega

theorem leftR_pos {c : Nat} {l : Int} (h : ¬ leftR c l < 0) : (c : Int) ≤ l ∧ leftR c l = l - c := by unfold leftR at h ⊢; split at h <;> simp_all

theorem leftR_yes {c : Nat} {l : Int} (h : (c : Int) ≤ l) : leftR c l = l - c := if_pos h

theorem leftR_no {c : Nat} {l : Int} (h : l < c) : leftR c l = -1 := if_neg (by omega)

/-- Marks upon a row: f marks one, g is how many marks it takes. -/
def markL {α : Type} (f : α → Int → α) (g : α → Nat) : List α → Int → List α
  | [], _ => []
  | x :: r, k => f x k :: markL f g r (k + (g x : Nat))

theorem markL_len {α : Type} (f : α → Int → α) (g : α → Nat) (a : List α) (k : Int) : (markL f g a k).length = a.length := by
  induction a generalizing k with
  | nil => rfl
  | cons x a ih => simp [markL, ih]

theorem markL_append {α : Type} (f : α → Int → α) (g : α → Nat) (a b : List α) (k : Int) : markL f g (a ++ b) k = markL f g a k ++ markL f g b (k + (sumBy g a : Nat)) := by
  induction a generalizing k with
  | nil => simp [markL, sumBy]
  | cons x a ih =>
    simp only [List.cons_append, markL, ih, sumBy]
    rw [show k + (g x : Int) + (sumBy g a : Nat) = k + ((g x + sumBy g a : Nat) : Int) by push_cast; omega]

theorem markL_succ {α : Type} {f : α → Int → α} {g : α → Nat} {a : List α} {i : Nat} {x : α} (k : Int) (h : a[i]? = some x) : markL f g (a.take (i + 1)) k = markL f g (a.take i) k ++ [f x (k + (sumBy g (a.take i) : Nat))] := by
  rw [List.take_add_one, h]
  show markL f g (a.take i ++ [x]) k = _
  rw [markL_append]; rfl

theorem markL_get {α : Type} {f : α → Int → α} {g : α → Nat} {a : List α} {i : Nat} {x : α} (k : Int) (h : a[i]? = some x) : (markL f g a k)[i]? = some (f x (k + (sumBy g (a.take i) : Nat))) := by
  induction a generalizing i k with
  | nil => simp at h
  | cons y a ih =>
    cases i with
    | zero => simp at h; subst h; simp [markL, sumBy]
    | succ i =>
      simp at h
      have := ih (k + (g y : Nat)) h
      simp only [markL, List.getElem?_cons_succ, this, List.take_succ_cons, sumBy]
      rw [show k + (g y : Int) + (sumBy g (a.take i) : Nat) = k + ((g y + sumBy g (a.take i) : Nat) : Int) by push_cast; omega]

theorem set_get {α : Type} {R : List α} {i : Nat} {d : α} (h : R[i]? = some d) (x : α) : (R.set i x)[i]? = some x := by
  rw [List.getElem?_set_self (List.getElem?_eq_some_iff.1 h).1]

theorem set_mid {α : Type} {P Q : List α} {x y : α} {i : Nat} (h : P.length = i) : (P ++ x :: Q).set i y = (P ++ [y]) ++ Q := by
  subst h; simp

theorem mid_get {α : Type} {P Q : List α} {x : α} {i : Nat} (h : P.length = i) : (P ++ x :: Q)[i]? = some x := by
  subst h; simp

theorem drop_get {α : Type} {a : List α} {i : Nat} {x : α} (h : a[i]? = some x) : a.drop i = x :: a.drop (i + 1) := by
  obtain ⟨h1, rfl⟩ := List.getElem?_eq_some_iff.1 h
  exact List.drop_eq_getElem_cons h1

theorem sumBy_markL {α : Type} {f : α → Int → α} {g h : α → Nat} (e : ∀ x k, h (f x k) = h x) (a : List α) (k : Int) : sumBy h (markL f g a k) = sumBy h a := by
  induction a generalizing k with
  | nil => rfl
  | cons x a ih => simp [markL, sumBy, e, ih]

structure GBox where
  fNonce : Int
  fData : List UInt8
  fTag : Int
  deriving DecidableEq

@[simp] abbrev GBox.row (x : GBox) : List D := [.int .i64 x.fNonce, .slc 1 (bytesD x.fData), .int .i64 x.fTag]

@[simp] abbrev GBox.c (x : GBox) : List C := [.d (.int .i64 x.fNonce), .d (.slc 1 (bytesD x.fData)), .d (.int .i64 x.fTag)]

@[simp] abbrev GBox.o (x : GBox) : List C := [.d (.int .i64 x.fNonce), .own 0 1 (bytesD x.fData), .d (.int .i64 x.fTag)]

def rBox (l : List GBox) : List (List D) := l.map GBox.row

@[simp] theorem rBox_len (l : List GBox) : (rBox l).length = l.length := by simp [rBox]

@[simp] theorem rBox_get (l : List GBox) (i : Nat) : (rBox l)[i]? = (l[i]?).map GBox.row := by simp [rBox]

theorem rBox_app (a b : List GBox) : rBox (a ++ b) = rBox a ++ rBox b := by simp [rBox]

theorem rBox_row (l : List GBox) : ∀ r, r ∈ rBox l → r.length = 3 := by intro r h; simp only [rBox, List.mem_map] at h; obtain ⟨x, _, rfl⟩ := h; rfl

def GBox.cost (x : GBox) : Nat := x.fData.length

def GBox.ok (x : GBox) : Prop := int64 x.fNonce ∧ x.fData.length ≤ maxLen ∧ int64 x.fTag

def GBox.mark (x : GBox) (k : Int) : GBox := { fNonce := k, fData := marksByte (k + 1) x.fData.length, fTag := k + 1 + ((x.fData.length : Nat) : Int) }

def GBox.marks (x : GBox) : Nat := 1 + x.fData.length + 1

def GBox.markIn (x : GBox) (k : Int) : GBox := { fNonce := x.fNonce, fData := marksByte (k) x.fData.length, fTag := x.fTag }

def GBox.marksIn (x : GBox) : Nat := x.fData.length

theorem GBox.marks_fix (x : GBox) : x.marks ≤ 2 + 32 * x.cost := by
  unfold GBox.marks GBox.cost
  omega

theorem GBox.marks_le (x : GBox) : x.marks ≤ 32 * (1 + x.cost) := by
  have := x.marks_fix
  omega

structure GWrap where
  fId : Int
  fEnds : Int
  fKind : List UInt8
  fBox : GBox
  deriving DecidableEq

@[simp] abbrev GWrap.row (x : GWrap) : List D := [.int .i64 x.fId, .int .i64 x.fEnds, .str x.fKind, .int .i64 x.fBox.fNonce, .slc 1 (bytesD x.fBox.fData), .int .i64 x.fBox.fTag]

@[simp] abbrev GWrap.c (x : GWrap) : List C := [.d (.int .i64 x.fId), .d (.int .i64 x.fEnds), .d (.str x.fKind), .d (.int .i64 x.fBox.fNonce), .d (.slc 1 (bytesD x.fBox.fData)), .d (.int .i64 x.fBox.fTag)]

@[simp] abbrev GWrap.o (x : GWrap) : List C := [.d (.int .i64 x.fId), .d (.int .i64 x.fEnds), .d (.str x.fKind), .d (.int .i64 x.fBox.fNonce), .own 0 1 (bytesD x.fBox.fData), .d (.int .i64 x.fBox.fTag)]

def rWrap (l : List GWrap) : List (List D) := l.map GWrap.row

@[simp] theorem rWrap_len (l : List GWrap) : (rWrap l).length = l.length := by simp [rWrap]

@[simp] theorem rWrap_get (l : List GWrap) (i : Nat) : (rWrap l)[i]? = (l[i]?).map GWrap.row := by simp [rWrap]

theorem rWrap_app (a b : List GWrap) : rWrap (a ++ b) = rWrap a ++ rWrap b := by simp [rWrap]

theorem rWrap_row (l : List GWrap) : ∀ r, r ∈ rWrap l → r.length = 6 := by intro r h; simp only [rWrap, List.mem_map] at h; obtain ⟨x, _, rfl⟩ := h; rfl

def GWrap.cost (x : GWrap) : Nat := x.fKind.length + x.fBox.cost

def GWrap.ok (x : GWrap) : Prop := int64 x.fId ∧ int64 x.fEnds ∧ x.fKind.length ≤ maxLen ∧ x.fBox.ok

def GWrap.mark (x : GWrap) (k : Int) : GWrap := { fId := k, fEnds := k + 1, fKind := markT (k + 1 + 1), fBox := x.fBox.mark (k + 1 + 1 + 1) }

def GWrap.marks (x : GWrap) : Nat := 1 + 1 + 1 + x.fBox.marks

def GWrap.markIn (x : GWrap) (k : Int) : GWrap := { fId := x.fId, fEnds := x.fEnds, fKind := x.fKind, fBox := x.fBox.markIn (k) }

def GWrap.marksIn (x : GWrap) : Nat := x.fBox.marksIn

theorem GWrap.marks_fix (x : GWrap) : x.marks ≤ 5 + 32 * x.cost := by
  have := GBox.marks_fix x.fBox
  unfold GWrap.marks GWrap.cost
  omega

theorem GWrap.marks_le (x : GWrap) : x.marks ≤ 32 * (1 + x.cost) := by
  have := x.marks_fix
  omega

structure GRack where
  fKey : Int
  fNext : Int
  fWraps : List GWrap
  deriving DecidableEq

@[simp] abbrev GRack.row (x : GRack) : List D := [.int .i64 x.fKey, .int .i64 x.fNext, .slc 6 (rWrap x.fWraps)]

@[simp] abbrev GRack.c (x : GRack) : List C := [.d (.int .i64 x.fKey), .d (.int .i64 x.fNext), .d (.slc 6 (rWrap x.fWraps))]

@[simp] abbrev GRack.o (x : GRack) : List C := [.d (.int .i64 x.fKey), .d (.int .i64 x.fNext), .own 1 6 (rWrap x.fWraps)]

def rRack (l : List GRack) : List (List D) := l.map GRack.row

@[simp] theorem rRack_len (l : List GRack) : (rRack l).length = l.length := by simp [rRack]

@[simp] theorem rRack_get (l : List GRack) (i : Nat) : (rRack l)[i]? = (l[i]?).map GRack.row := by simp [rRack]

theorem rRack_app (a b : List GRack) : rRack (a ++ b) = rRack a ++ rRack b := by simp [rRack]

theorem rRack_row (l : List GRack) : ∀ r, r ∈ rRack l → r.length = 3 := by intro r h; simp only [rRack, List.mem_map] at h; obtain ⟨x, _, rfl⟩ := h; rfl

def GRack.cost (x : GRack) : Nat := (x.fWraps.length + sumBy GWrap.cost x.fWraps)

def GRack.ok (x : GRack) : Prop := int64 x.fKey ∧ int64 x.fNext ∧ x.fWraps.length ≤ maxLen ∧ (∀ y, y ∈ x.fWraps → y.ok)

def GRack.mark (x : GRack) (k : Int) : GRack := { fKey := k, fNext := k + 1, fWraps := markL GWrap.mark GWrap.marks x.fWraps (k + 1 + 1) }

def GRack.marks (x : GRack) : Nat := 1 + 1 + sumBy GWrap.marks x.fWraps

def GRack.markIn (x : GRack) (k : Int) : GRack := { fKey := x.fKey, fNext := x.fNext, fWraps := markL GWrap.mark GWrap.marks x.fWraps (k) }

def GRack.marksIn (x : GRack) : Nat := sumBy GWrap.marks x.fWraps

theorem GRack.marks_fix (x : GRack) : x.marks ≤ 2 + 32 * x.cost := by
  have := sumBy_le GWrap.marks_le x.fWraps
  unfold GRack.marks GRack.cost
  omega

theorem GRack.marks_le (x : GRack) : x.marks ≤ 32 * (1 + x.cost) := by
  have := x.marks_fix
  omega

theorem sumBy_zero {α : Type} {f : α → Nat} (h : ∀ x, f x = 0) (a : List α) : sumBy f a = 0 := by
  induction a with
  | nil => rfl
  | cons x a ih => simp [sumBy, h, ih]

theorem szByteS_g (a : List UInt8) (l : Int) (h1 : a.length ≤ maxLen) (h2 : 0 ≤ l ∧ l ≤ 1048576) : Valid PP GG F_L_szByteS [.d (.slc 1 (bytesD a)), .d (.int .i64 l)] (.d (.int .i64 (leftR a.length l))) [none, none] := by
  refine v_L_szByteS [.d (.int .i64 (leftR a.length l))] rfl rfl ?_
  unfold maxLen at h1
  obtain ⟨m, hm⟩ : ∃ z : Int, l - a.length = z := ⟨_, rfl⟩
  have hw : IntKind.i64.wrap (l - a.length) = m := by rw [wrap_id (by omega) (by omega)]; exact hm
  refine W_seq (?_)
  apply W_regS
  · intro K hK
    simp
    repeat' (first | with_reducible exact hK | (with_reducible refine goL_split (fun _ => ?_) (fun _ => ?_) <;> simp) | with_reducible refine And.intro ?_ ?_ | with_reducible exact okay_rfl rfl | with_reducible assumption | omega)
  refine W_seq (?_)
  apply W_regS
  · intro K hK
    simp [hw]
    repeat' (first | with_reducible exact hK | (with_reducible refine goL_split (fun _ => ?_) (fun _ => ?_) <;> simp [hw]) | with_reducible refine And.intro ?_ ?_ | with_reducible exact okay_rfl rfl | with_reducible assumption | omega)
  refine W_seq (W_seq (?_))
  apply W_regS
  · intro K hK
    simp
    repeat' (first | with_reducible exact hK | (with_reducible refine goL_split (fun _ => ?_) (fun _ => ?_) <;> simp) | with_reducible refine And.intro ?_ ?_ | with_reducible exact okay_rfl rfl | with_reducible assumption | omega)
  refine W_cond rfl (fun h => W_seq ?_) (fun h => W_skip ?_)
  · apply W_regS
    · intro K hK
      simp
      repeat' (first | with_reducible exact hK | (with_reducible refine goL_split (fun _ => ?_) (fun _ => ?_) <;> simp) | with_reducible refine And.intro ?_ ?_ | with_reducible exact okay_rfl rfl | with_reducible assumption | omega)
    simp at h
    have : leftR a.length l = -1 := leftR_no (by omega)
    refine W_ret ?_
    simp [Fin, this]
    all_goals omega
  simp at h
  refine W_seq (?_)
  apply W_regS
  · intro K hK
    simp
    repeat' (first | with_reducible exact hK | (with_reducible refine goL_split (fun _ => ?_) (fun _ => ?_) <;> simp) | with_reducible refine And.intro ?_ ?_ | with_reducible exact okay_rfl rfl | with_reducible assumption | omega)
  have : leftR a.length l = m := by rw [leftR_yes (by omega)]; omega
  refine W_ret ?_
  simp [Fin, this]
  all_goals omega

theorem szBox_g (x : GBox) (l : Int) (hx : x.ok) (h0 : 0 ≤ l ∧ l ≤ 1048576) : Valid PP GG F_L_szBox [.agg x.c, .d (.int .i64 l)] (.d (.int .i64 (leftR x.cost l))) [none, none] := by
  refine v_L_szBox [.d (.int .i64 (leftR x.cost l))] rfl rfl ?_
  have hco : x.cost = x.fData.length := rfl
  unfold GBox.ok maxLen at hx
  obtain ⟨okNonce0, okData0, okTag0⟩ := hx
  generalize x.cost = co at hco
  refine W_seq (?_)
  apply W_regS
  · intro K hK
    simp
    repeat' (first | with_reducible exact hK | (with_reducible refine goL_split (fun _ => ?_) (fun _ => ?_) <;> simp) | with_reducible refine And.intro ?_ ?_ | with_reducible exact okay_rfl rfl | with_reducible assumption | omega)
  have ct := szByteS_g (GG := GG) x.fData l (by unfold maxLen; omega) ⟨by omega, by omega⟩
  obtain ⟨l1, el1⟩ : ∃ z : Int, leftR x.fData.length l = z := ⟨_, rfl⟩
  rw [el1] at ct
  refine W_seq (?_)
  apply W_regS
  · intro K hK
    simp
    repeat' (first | with_reducible exact hK | (with_reducible refine callQ (ct) ?_; simp) | (with_reducible refine goL_split (fun _ => ?_) (fun _ => ?_) <;> simp) | with_reducible refine And.intro ?_ ?_ | with_reducible exact okay_rfl rfl | with_reducible assumption | omega)
  clear ct
  refine W_seq (W_seq (?_))
  apply W_regS
  · intro K hK
    simp
    repeat' (first | with_reducible exact hK | (with_reducible refine goL_split (fun _ => ?_) (fun _ => ?_) <;> simp) | with_reducible refine And.intro ?_ ?_ | with_reducible exact okay_rfl rfl | with_reducible assumption | omega)
  refine W_cond rfl (fun hh0 => W_seq ?_) (fun hh0 => W_skip ?_)
  · apply W_regS
    · intro K hK
      simp
      repeat' (first | with_reducible exact hK | (with_reducible refine goL_split (fun _ => ?_) (fun _ => ?_) <;> simp) | with_reducible refine And.intro ?_ ?_ | with_reducible exact okay_rfl rfl | with_reducible assumption | omega)
    simp at hh0
    rw [← el1] at hh0
    have hn := leftR_neg (by omega) hh0
    have : leftR co l = -1 := leftR_no (by omega)
    refine W_ret ?_
    simp [Fin, this]
    all_goals omega
  simp at hh0
  rw [← el1] at hh0
  obtain ⟨gl1, jl1⟩ := leftR_pos (Int.not_lt.2 hh0)
  rw [el1] at jl1 hh0
  refine W_seq (?_)
  apply W_regS
  · intro K hK
    simp
    repeat' (first | with_reducible exact hK | (with_reducible refine goL_split (fun _ => ?_) (fun _ => ?_) <;> simp) | with_reducible refine And.intro ?_ ?_ | with_reducible exact okay_rfl rfl | with_reducible assumption | omega)
  have : leftR co l = l1 := by rw [leftR_yes (by omega)]; omega
  refine W_ret ?_
  simp [Fin, this]
  all_goals omega

theorem toBox_g (x : GBox) (hx : x.cost ≤ 1099511627776) : Valid PP GG F_L_toBox [.agg x.c] (.agg x.o) [none] := by
  refine v_L_toBox [.agg x.o] rfl rfl ?_
  have hco : x.cost = x.fData.length := rfl
  refine W_seq (?_)
  apply W_regS
  · intro K hK
    simp
    repeat' (first | with_reducible exact hK | (with_reducible refine goL_split (fun _ => ?_) (fun _ => ?_) <;> simp) | with_reducible refine And.intro ?_ ?_ | with_reducible exact okay_rfl rfl | with_reducible assumption | omega)
  refine W_seq (?_)
  apply W_regS
  · intro K hK
    simp
    repeat' (first | with_reducible exact hK | (with_reducible refine goL_split (fun _ => ?_) (fun _ => ?_) <;> simp) | with_reducible refine And.intro ?_ ?_ | with_reducible exact okay_rfl rfl | with_reducible assumption | omega)
  refine W_seq (?_)
  apply W_regS
  · intro K hK
    simp
    repeat' (first | with_reducible exact hK | (with_reducible refine goL_split (fun _ => ?_) (fun _ => ?_) <;> simp) | with_reducible refine And.intro ?_ ?_ | with_reducible exact okay_rfl rfl | with_reducible assumption | omega)
  refine W_seq (?_)
  apply W_regS
  · intro K hK
    simp
    repeat' (first | with_reducible exact hK | (with_reducible refine callQ (toByteS_ok x.fData (by omega)) ?_; simp) | (with_reducible refine goL_split (fun _ => ?_) (fun _ => ?_) <;> simp) | with_reducible refine And.intro ?_ ?_ | with_reducible exact okay_rfl rfl | with_reducible assumption | omega)
  refine W_seq (?_)
  apply W_regS
  · intro K hK
    simp
    repeat' (first | with_reducible exact hK | (with_reducible refine goL_split (fun _ => ?_) (fun _ => ?_) <;> simp) | with_reducible refine And.intro ?_ ?_ | with_reducible exact okay_rfl rfl | with_reducible assumption | omega)
  refine W_seq (?_)
  apply W_regS
  · intro K hK
    simp
    repeat' (first | with_reducible exact hK | (with_reducible refine goL_split (fun _ => ?_) (fun _ => ?_) <;> simp) | with_reducible refine And.intro ?_ ?_ | with_reducible exact okay_rfl rfl | with_reducible assumption | omega)
  refine W_ret ?_
  simp [Fin]
  all_goals omega

theorem eqBox_g (x y : GBox) (hx : x.cost ≤ 1099511627776) (hy : y.cost ≤ 1099511627776) : Valid PP GG F_L_eqBox [.agg x.c, .agg y.c] (.d (.bool (decide (x = y)))) [none, none] := by
  refine v_L_eqBox [.d (.bool (decide (x = y)))] rfl rfl ?_
  have hcx : x.cost = x.fData.length := rfl
  have hcy : y.cost = y.fData.length := rfl
  refine W_seq (?_)
  apply W_regS
  · intro K hK
    simp
    repeat' (first | with_reducible exact hK | (with_reducible refine goL_split (fun _ => ?_) (fun _ => ?_) <;> simp) | with_reducible refine And.intro ?_ ?_ | with_reducible exact okay_rfl rfl | with_reducible assumption | omega)
  refine W_seq (W_seq (?_))
  apply W_regS
  · intro K hK
    simp
    repeat' (first | with_reducible exact hK | (with_reducible refine goL_split (fun _ => ?_) (fun _ => ?_) <;> simp) | with_reducible refine And.intro ?_ ?_ | with_reducible exact okay_rfl rfl | with_reducible assumption | omega)
  refine W_cond rfl (fun h => W_seq ?_) (fun h0 => W_skip ?_)
  · apply W_regS
    · intro K hK
      simp
      repeat' (first | with_reducible exact hK | (with_reducible refine goL_split (fun _ => ?_) (fun _ => ?_) <;> simp) | with_reducible refine And.intro ?_ ?_ | with_reducible exact okay_rfl rfl | with_reducible assumption | omega)
    have : decide (x = y) = false := by rw [decide_eq_false_iff_not]; intro e; rw [e] at h; simp at h
    refine W_ret ?_
    simp [Fin, this]
    all_goals omega
  refine W_seq (W_seq (?_))
  apply W_regS
  · intro K hK
    simp
    repeat' (first | with_reducible exact hK | (with_reducible refine callQ (eqByteS_ok x.fData y.fData (by omega)) ?_; simp) | (with_reducible refine goL_split (fun _ => ?_) (fun _ => ?_) <;> simp) | with_reducible refine And.intro ?_ ?_ | with_reducible exact okay_rfl rfl | with_reducible assumption | omega)
  refine W_cond rfl (fun h => W_seq ?_) (fun h1 => W_skip ?_)
  · apply W_regS
    · intro K hK
      simp
      repeat' (first | with_reducible exact hK | (with_reducible refine goL_split (fun _ => ?_) (fun _ => ?_) <;> simp) | with_reducible refine And.intro ?_ ?_ | with_reducible exact okay_rfl rfl | with_reducible assumption | omega)
    have : decide (x = y) = false := by rw [decide_eq_false_iff_not]; intro e; rw [e] at h; simp at h
    refine W_ret ?_
    simp [Fin, this]
    all_goals omega
  refine W_seq (W_seq (?_))
  apply W_regS
  · intro K hK
    simp
    repeat' (first | with_reducible exact hK | (with_reducible refine goL_split (fun _ => ?_) (fun _ => ?_) <;> simp) | with_reducible refine And.intro ?_ ?_ | with_reducible exact okay_rfl rfl | with_reducible assumption | omega)
  refine W_cond rfl (fun h => W_seq ?_) (fun h2 => W_skip ?_)
  · apply W_regS
    · intro K hK
      simp
      repeat' (first | with_reducible exact hK | (with_reducible refine goL_split (fun _ => ?_) (fun _ => ?_) <;> simp) | with_reducible refine And.intro ?_ ?_ | with_reducible exact okay_rfl rfl | with_reducible assumption | omega)
    have : decide (x = y) = false := by rw [decide_eq_false_iff_not]; intro e; rw [e] at h; simp at h
    refine W_ret ?_
    simp [Fin, this]
    all_goals omega
  refine W_seq (?_)
  apply W_regS
  · intro K hK
    simp
    repeat' (first | with_reducible exact hK | (with_reducible refine goL_split (fun _ => ?_) (fun _ => ?_) <;> simp) | with_reducible refine And.intro ?_ ?_ | with_reducible exact okay_rfl rfl | with_reducible assumption | omega)
  have : decide (x = y) = true := by
    rw [decide_eq_true_iff]
    cases x; cases y
    simp at h0 h1 h2
    simp_all
  refine W_ret ?_
  simp [Fin, this]
  all_goals omega

theorem szWrap_g (x : GWrap) (l : Int) (hx : x.ok) (h0 : 0 ≤ l ∧ l ≤ 1048576) : Valid PP GG F_L_szWrap [.agg x.c, .d (.int .i64 l)] (.d (.int .i64 (leftR x.cost l))) [none, none] := by
  refine v_L_szWrap [.d (.int .i64 (leftR x.cost l))] rfl rfl ?_
  have hco : x.cost = x.fKind.length + x.fBox.cost := rfl
  unfold GWrap.ok maxLen at hx
  obtain ⟨okId0, okEnds0, okKind0, okBox0⟩ := hx
  generalize x.cost = co at hco
  refine W_seq (?_)
  apply W_regS
  · intro K hK
    simp
    repeat' (first | with_reducible exact hK | (with_reducible refine goL_split (fun _ => ?_) (fun _ => ?_) <;> simp) | with_reducible refine And.intro ?_ ?_ | with_reducible exact okay_rfl rfl | with_reducible assumption | omega)
  obtain ⟨l1, el1⟩ : ∃ z : Int, l - x.fKind.length = z := ⟨_, rfl⟩
  have wl1 : IntKind.i64.wrap (l - x.fKind.length) = l1 := by rw [wrap_id (by omega) (by omega)]; exact el1
  refine W_seq (?_)
  apply W_regS
  · intro K hK
    simp [wl1]
    repeat' (first | with_reducible exact hK | (with_reducible refine goL_split (fun _ => ?_) (fun _ => ?_) <;> simp [wl1]) | with_reducible refine And.intro ?_ ?_ | with_reducible exact okay_rfl rfl | with_reducible assumption | omega)
  refine W_seq (W_seq (?_))
  apply W_regS
  · intro K hK
    simp
    repeat' (first | with_reducible exact hK | (with_reducible refine goL_split (fun _ => ?_) (fun _ => ?_) <;> simp) | with_reducible refine And.intro ?_ ?_ | with_reducible exact okay_rfl rfl | with_reducible assumption | omega)
  refine W_cond rfl (fun hh0 => W_seq ?_) (fun hh0 => W_skip ?_)
  · apply W_regS
    · intro K hK
      simp
      repeat' (first | with_reducible exact hK | (with_reducible refine goL_split (fun _ => ?_) (fun _ => ?_) <;> simp) | with_reducible refine And.intro ?_ ?_ | with_reducible exact okay_rfl rfl | with_reducible assumption | omega)
    simp at hh0
    have : leftR co l = -1 := leftR_no (by omega)
    refine W_ret ?_
    simp [Fin, this]
    all_goals omega
  simp at hh0
  have ct := szBox_g (GG := GG) x.fBox l1 okBox0 ⟨by omega, by omega⟩
  obtain ⟨l2, el2⟩ : ∃ z : Int, leftR x.fBox.cost l1 = z := ⟨_, rfl⟩
  rw [el2] at ct
  refine W_seq (?_)
  apply W_regS
  · intro K hK
    simp
    repeat' (first | with_reducible exact hK | (with_reducible refine callQ (ct) ?_; simp) | (with_reducible refine goL_split (fun _ => ?_) (fun _ => ?_) <;> simp) | with_reducible refine And.intro ?_ ?_ | with_reducible exact okay_rfl rfl | with_reducible assumption | omega)
  clear ct
  refine W_seq (W_seq (?_))
  apply W_regS
  · intro K hK
    simp
    repeat' (first | with_reducible exact hK | (with_reducible refine goL_split (fun _ => ?_) (fun _ => ?_) <;> simp) | with_reducible refine And.intro ?_ ?_ | with_reducible exact okay_rfl rfl | with_reducible assumption | omega)
  refine W_cond rfl (fun hh1 => W_seq ?_) (fun hh1 => W_skip ?_)
  · apply W_regS
    · intro K hK
      simp
      repeat' (first | with_reducible exact hK | (with_reducible refine goL_split (fun _ => ?_) (fun _ => ?_) <;> simp) | with_reducible refine And.intro ?_ ?_ | with_reducible exact okay_rfl rfl | with_reducible assumption | omega)
    simp at hh1
    rw [← el2] at hh1
    have hn := leftR_neg (by omega) hh1
    have : leftR co l = -1 := leftR_no (by omega)
    refine W_ret ?_
    simp [Fin, this]
    all_goals omega
  simp at hh1
  rw [← el2] at hh1
  obtain ⟨gl2, jl2⟩ := leftR_pos (Int.not_lt.2 hh1)
  rw [el2] at jl2 hh1
  refine W_seq (?_)
  apply W_regS
  · intro K hK
    simp
    repeat' (first | with_reducible exact hK | (with_reducible refine goL_split (fun _ => ?_) (fun _ => ?_) <;> simp) | with_reducible refine And.intro ?_ ?_ | with_reducible exact okay_rfl rfl | with_reducible assumption | omega)
  have : leftR co l = l2 := by rw [leftR_yes (by omega)]; omega
  refine W_ret ?_
  simp [Fin, this]
  all_goals omega

theorem szWrapS_g (a : List GWrap) (l : Int) (hlen : a.length ≤ maxLen) (hx : ∀ x, x ∈ a → x.ok) (h0 : 0 ≤ l ∧ l ≤ 1048576) :
    Valid PP GG F_L_szWrapS [.d (.slc 6 (rWrap a)), .d (.int .i64 l)] (.d (.int .i64 (leftR (a.length + sumBy GWrap.cost a) l))) [none, none] := by
  refine v_L_szWrapS [.d (.int .i64 (leftR (a.length + sumBy GWrap.cost a) l))] rfl rfl ?_
  unfold maxLen at hlen
  obtain ⟨m, hm⟩ : ∃ z : Int, l - a.length = z := ⟨_, rfl⟩
  have hw : IntKind.i64.wrap (l - a.length) = m := by rw [wrap_id (by omega) (by omega)]; exact hm
  refine W_seq (?_)
  apply W_regS
  · intro K hK
    simp
    repeat' (first | with_reducible exact hK | (with_reducible refine goL_split (fun _ => ?_) (fun _ => ?_) <;> simp) | with_reducible refine And.intro ?_ ?_ | with_reducible exact okay_rfl rfl | with_reducible assumption | omega)
  refine W_seq (?_)
  apply W_regS
  · intro K hK
    simp [hw]
    repeat' (first | with_reducible exact hK | (with_reducible refine goL_split (fun _ => ?_) (fun _ => ?_) <;> simp [hw]) | with_reducible refine And.intro ?_ ?_ | with_reducible exact okay_rfl rfl | with_reducible assumption | omega)
  refine W_seq (W_seq (?_))
  apply W_regS
  · intro K hK
    simp
    repeat' (first | with_reducible exact hK | (with_reducible refine goL_split (fun _ => ?_) (fun _ => ?_) <;> simp) | with_reducible refine And.intro ?_ ?_ | with_reducible exact okay_rfl rfl | with_reducible assumption | omega)
  refine W_cond rfl (fun h => W_seq ?_) (fun h => W_skip ?_)
  · apply W_regS
    · intro K hK
      simp
      repeat' (first | with_reducible exact hK | (with_reducible refine goL_split (fun _ => ?_) (fun _ => ?_) <;> simp) | with_reducible refine And.intro ?_ ?_ | with_reducible exact okay_rfl rfl | with_reducible assumption | omega)
    simp at h
    have : leftR (a.length + sumBy GWrap.cost a) l = -1 := leftR_no (by omega)
    refine W_ret ?_
    simp [Fin, this]
    all_goals omega
  simp at h
  refine W_seq (W_seq (?_))
  apply W_regS
  · intro K hK
    simp
    repeat' (first | with_reducible exact hK | (with_reducible refine goL_split (fun _ => ?_) (fun _ => ?_) <;> simp) | with_reducible refine And.intro ?_ ?_ | with_reducible exact okay_rfl rfl | with_reducible assumption | omega)
  refine W_block (W_loop (fun n st => ∃ (i : Nat) (v : Int), n = a.length - i ∧ i ≤ a.length ∧ 0 ≤ v ∧ v = m - (sumBy GWrap.cost (a.take i) : Nat) ∧
    st = ⟨[], [(0, .d (.slc 6 (rWrap a))), (1, .d (.int .i64 v)), (5, .d (.int .i64 i))], [], 0⟩) _ ⟨0, m, rfl, by omega, h, by simp [sumBy], rfl⟩ ?_)
  rintro n st ⟨i, v, rfl, hi, hv, he, rfl⟩
  refine W_seq (W_seq (?_))
  apply W_regS
  · intro K hK
    simp
    repeat' (first | with_reducible exact hK | (with_reducible refine goL_split (fun _ => ?_) (fun _ => ?_) <;> simp) | with_reducible refine And.intro ?_ ?_ | with_reducible exact okay_rfl rfl | with_reducible assumption | omega)
  refine W_cond rfl (fun h2 => W_skip ?_) (fun h2 => W_exit ?_)
  · simp at h2
    have ha := List.getElem?_eq_getElem h2
    generalize a[i] = x at ha
    have hs := sumBy_succ (f := GWrap.cost) ha
    have ht := sumBy_take GWrap.cost a (i + 1)
    have ct := szWrap_g (GG := GG) x v (hx x (List.mem_of_getElem? ha)) ⟨hv, by omega⟩
    obtain ⟨v2, hv2⟩ : ∃ z : Int, leftR x.cost v = z := ⟨_, rfl⟩
    rw [hv2] at ct
    refine W_seq (W_block (W_seq ?_))
    apply W_regS
    · intro K hK
      simp [ha]
      repeat' (first | with_reducible exact hK | (with_reducible refine callQ (ct) ?_; simp [ha]) | (with_reducible refine goL_split (fun _ => ?_) (fun _ => ?_) <;> simp [ha]) | with_reducible refine And.intro ?_ ?_ | with_reducible exact okay_rfl rfl | with_reducible assumption | omega)
    refine W_seq (?_)
    apply W_regS
    · intro K hK
      simp
      repeat' (first | with_reducible exact hK | (with_reducible refine goL_split (fun _ => ?_) (fun _ => ?_) <;> simp) | with_reducible refine And.intro ?_ ?_ | with_reducible exact okay_rfl rfl | with_reducible assumption | omega)
    refine W_cond rfl (fun h3 => W_seq ?_) (fun h3 => W_skip ?_)
    · apply W_regS
      · intro K hK
        simp
        repeat' (first | with_reducible exact hK | (with_reducible refine goL_split (fun _ => ?_) (fun _ => ?_) <;> simp) | with_reducible refine And.intro ?_ ?_ | with_reducible exact okay_rfl rfl | with_reducible assumption | omega)
      simp at h3
      rw [← hv2] at h3
      have hn := leftR_neg (by omega) h3
      have : leftR (a.length + sumBy GWrap.cost a) l = -1 := leftR_no (by omega)
      refine W_ret ?_
      simp [Fin, this]
      all_goals omega
    simp at h3
    rw [← hv2] at h3
    obtain ⟨g1, g2⟩ := leftR_pos (Int.not_lt.2 h3)
    rw [hv2] at g2
    apply W_regS
    · intro K hK
      simp
      repeat' (first | with_reducible exact hK | (with_reducible refine goL_split (fun _ => ?_) (fun _ => ?_) <;> simp) | with_reducible refine And.intro ?_ ?_ | with_reducible exact okay_rfl rfl | with_reducible assumption | omega)
    exact ⟨a.length - (i + 1), by omega, i + 1, v2, rfl, h2, by omega, by omega, by simp [gc, closeN, liveA, gcV, gcO, renA, namesAs, namesA]; rw [wrap_id (by omega) (by omega)]⟩
  · simp at h2
    rw [if_pos rfl]
    rw [List.take_of_length_le h2] at he
    refine W_seq (?_)
    apply W_regS
    · intro K hK
      simp
      repeat' (first | with_reducible exact hK | (with_reducible refine goL_split (fun _ => ?_) (fun _ => ?_) <;> simp) | with_reducible refine And.intro ?_ ?_ | with_reducible exact okay_rfl rfl | with_reducible assumption | omega)
    have : leftR (a.length + sumBy GWrap.cost a) l = v := by rw [leftR_yes (by omega)]; omega
    refine W_ret ?_
    simp [Fin, this]
    all_goals omega

theorem toWrap_g (x : GWrap) (hx : x.cost ≤ 1099511627776) : Valid PP GG F_L_toWrap [.agg x.c] (.agg x.o) [none] := by
  refine v_L_toWrap [.agg x.o] rfl rfl ?_
  have hco : x.cost = x.fKind.length + x.fBox.cost := rfl
  refine W_seq (?_)
  apply W_regS
  · intro K hK
    simp
    repeat' (first | with_reducible exact hK | (with_reducible refine goL_split (fun _ => ?_) (fun _ => ?_) <;> simp) | with_reducible refine And.intro ?_ ?_ | with_reducible exact okay_rfl rfl | with_reducible assumption | omega)
  refine W_seq (?_)
  apply W_regS
  · intro K hK
    simp
    repeat' (first | with_reducible exact hK | (with_reducible refine goL_split (fun _ => ?_) (fun _ => ?_) <;> simp) | with_reducible refine And.intro ?_ ?_ | with_reducible exact okay_rfl rfl | with_reducible assumption | omega)
  refine W_seq (?_)
  apply W_regS
  · intro K hK
    simp
    repeat' (first | with_reducible exact hK | (with_reducible refine goL_split (fun _ => ?_) (fun _ => ?_) <;> simp) | with_reducible refine And.intro ?_ ?_ | with_reducible exact okay_rfl rfl | with_reducible assumption | omega)
  refine W_seq (?_)
  apply W_regS
  · intro K hK
    simp
    repeat' (first | with_reducible exact hK | (with_reducible refine goL_split (fun _ => ?_) (fun _ => ?_) <;> simp) | with_reducible refine And.intro ?_ ?_ | with_reducible exact okay_rfl rfl | with_reducible assumption | omega)
  refine W_seq (?_)
  apply W_regS
  · intro K hK
    simp
    repeat' (first | with_reducible exact hK | (with_reducible refine goL_split (fun _ => ?_) (fun _ => ?_) <;> simp) | with_reducible refine And.intro ?_ ?_ | with_reducible exact okay_rfl rfl | with_reducible assumption | omega)
  refine W_seq (?_)
  apply W_regS
  · intro K hK
    simp
    repeat' (first | with_reducible exact hK | (with_reducible refine callQ (toBox_g x.fBox (by omega)) ?_; simp) | (with_reducible refine goL_split (fun _ => ?_) (fun _ => ?_) <;> simp) | with_reducible refine And.intro ?_ ?_ | with_reducible exact okay_rfl rfl | with_reducible assumption | omega)
  refine W_seq (?_)
  apply W_regS
  · intro K hK
    simp
    repeat' (first | with_reducible exact hK | (with_reducible refine goL_split (fun _ => ?_) (fun _ => ?_) <;> simp) | with_reducible refine And.intro ?_ ?_ | with_reducible exact okay_rfl rfl | with_reducible assumption | omega)
  refine W_ret ?_
  simp [Fin]
  all_goals omega

theorem rows6 {R : List (List D)} {i : Nat} (h : ∀ r, r ∈ R → r.length = 6) (hi : i < R.length) : ∃ y0 y1 y2 y3 y4 y5, R[i]? = some [y0, y1, y2, y3, y4, y5] := by
  have h1 := h _ (List.getElem_mem hi)
  have h2 := List.getElem?_eq_getElem hi
  generalize R[i] = r at h1 h2
  match r, h1 with
  | [y0, y1, y2, y3, y4, y5], _ => exact ⟨y0, y1, y2, y3, y4, y5, h2⟩

theorem set6 {R : List (List D)} {i : Nat} {row : List D} (h : ∀ r, r ∈ R → r.length = 6) (hr : row.length = 6) : ∀ r, r ∈ R.set i row → r.length = 6 := by
  intro r hm
  rcases List.mem_or_eq_of_mem_set hm with hm | rfl
  · exact h r hm
  · exact hr

theorem toWrapS_g (a : List GWrap) (hx : a.length + sumBy GWrap.cost a ≤ 1099511627776) : Valid PP GG F_L_toWrapS [.d (.slc 6 (rWrap a))] (.own 1 6 (rWrap a)) [none] := by
  refine v_L_toWrapS [.own 1 6 (rWrap a)] rfl rfl ?_
  refine W_seq (?_)
  apply W_regS
  · intro K hK
    simp
    repeat' (first | with_reducible exact hK | (with_reducible refine goL_split (fun _ => ?_) (fun _ => ?_) <;> simp) | with_reducible refine And.intro ?_ ?_ | with_reducible exact okay_rfl rfl | with_reducible assumption | omega)
  refine W_seq (?_)
  apply W_regS
  · intro K hK
    simp [mkA, limit]
    repeat' (first | with_reducible exact hK | (with_reducible refine goL_split (fun _ => ?_) (fun _ => ?_) <;> simp [mkA, limit]) | with_reducible refine And.intro ?_ ?_ | with_reducible exact okay_rfl rfl | with_reducible assumption | omega)
  refine W_seq (W_seq (?_))
  apply W_regS
  · intro K hK
    simp
    repeat' (first | with_reducible exact hK | (with_reducible refine goL_split (fun _ => ?_) (fun _ => ?_) <;> simp) | with_reducible refine And.intro ?_ ?_ | with_reducible exact okay_rfl rfl | with_reducible assumption | omega)
  refine W_block (W_loop (fun n st => ∃ (i : Nat) (R : List (List D)), n = a.length - i ∧ i ≤ a.length ∧ R.length = a.length ∧ (∀ r, r ∈ R → r.length = 6) ∧ R.take i = rWrap (a.take i) ∧
    st = ⟨[], [(0, .d (.slc 6 (rWrap a))), (3, .sl 0), (4, .d (.int .i64 i))], [(0, .arr 0 1 6 R)], 1⟩) _ ⟨0, List.replicate a.length [.int .i64 0, .int .i64 0, .str [], .int .i64 0, .slc 1 [], .int .i64 0], rfl, by omega, by simp, by intro r hr; rw [List.eq_of_mem_replicate hr]; rfl, rfl, rfl⟩ ?_)
  rintro n st ⟨i, R, rfl, hi, hl, h1, hR, rfl⟩
  refine W_seq (W_seq (?_))
  apply W_regS
  · intro K hK
    simp
    repeat' (first | with_reducible exact hK | (with_reducible refine goL_split (fun _ => ?_) (fun _ => ?_) <;> simp) | with_reducible refine And.intro ?_ ?_ | with_reducible exact okay_rfl rfl | with_reducible assumption | omega)
  refine W_cond rfl (fun h => W_skip ?_) (fun h => W_exit ?_)
  · simp at h
    have ha := List.getElem?_eq_getElem h
    generalize a[i] = x at ha
    have hg := sumBy_get (f := GWrap.cost) ha
    obtain ⟨y0, y1, y2, y3, y4, y5, hd⟩ := rows6 h1 (show i < R.length by omega)
    refine W_seq (W_block ?_)
    apply W_regS
    · intro K hK
      simp [ha, hd, hl]
      repeat' (first | with_reducible exact hK | (with_reducible refine callQ (toWrap_g x (by omega)) ?_; simp [ha, hd, hl]) | (with_reducible refine goL_split (fun _ => ?_) (fun _ => ?_) <;> simp [ha, hd, hl]) | with_reducible refine And.intro ?_ ?_ | with_reducible exact okay_rfl rfl | with_reducible assumption | omega)
    apply W_regS
    · intro K hK
      simp
      repeat' (first | with_reducible exact hK | (with_reducible refine goL_split (fun _ => ?_) (fun _ => ?_) <;> simp) | with_reducible refine And.intro ?_ ?_ | with_reducible exact okay_rfl rfl | with_reducible assumption | omega)
    exact ⟨a.length - (i + 1), by omega, i + 1, R.set i x.row, rfl, h, by simpa using hl, set6 h1 rfl, by rw [take_set_succ (by omega), hR, List.take_add_one, ha, rWrap_app]; rfl,
      by simp [gc, closeN, liveA, gcV, gcO, renA, renO, namesAs, namesA, namesO, posn]; rw [wrap_id (by omega) (by omega)]⟩
  · simp at h
    have e : R = rWrap a := by rwa [List.take_of_length_le (by omega), List.take_of_length_le (by omega)] at hR
    subst e
    rw [if_pos rfl]
    refine W_seq (?_)
    apply W_regS
    · intro K hK
      simp
      repeat' (first | with_reducible exact hK | (with_reducible refine goL_split (fun _ => ?_) (fun _ => ?_) <;> simp) | with_reducible refine And.intro ?_ ?_ | with_reducible exact okay_rfl rfl | with_reducible assumption | omega)
    refine W_ret ?_
    simp [Fin]
    all_goals omega

theorem eqWrap_g (x y : GWrap) (hx : x.cost ≤ 1099511627776) (hy : y.cost ≤ 1099511627776) : Valid PP GG F_L_eqWrap [.agg x.c, .agg y.c] (.d (.bool (decide (x = y)))) [none, none] := by
  refine v_L_eqWrap [.d (.bool (decide (x = y)))] rfl rfl ?_
  have hcx : x.cost = x.fKind.length + x.fBox.cost := rfl
  have hcy : y.cost = y.fKind.length + y.fBox.cost := rfl
  refine W_seq (?_)
  apply W_regS
  · intro K hK
    simp
    repeat' (first | with_reducible exact hK | (with_reducible refine goL_split (fun _ => ?_) (fun _ => ?_) <;> simp) | with_reducible refine And.intro ?_ ?_ | with_reducible exact okay_rfl rfl | with_reducible assumption | omega)
  refine W_seq (W_seq (?_))
  apply W_regS
  · intro K hK
    simp
    repeat' (first | with_reducible exact hK | (with_reducible refine goL_split (fun _ => ?_) (fun _ => ?_) <;> simp) | with_reducible refine And.intro ?_ ?_ | with_reducible exact okay_rfl rfl | with_reducible assumption | omega)
  refine W_cond rfl (fun h => W_seq ?_) (fun h0 => W_skip ?_)
  · apply W_regS
    · intro K hK
      simp
      repeat' (first | with_reducible exact hK | (with_reducible refine goL_split (fun _ => ?_) (fun _ => ?_) <;> simp) | with_reducible refine And.intro ?_ ?_ | with_reducible exact okay_rfl rfl | with_reducible assumption | omega)
    have : decide (x = y) = false := by rw [decide_eq_false_iff_not]; intro e; rw [e] at h; simp at h
    refine W_ret ?_
    simp [Fin, this]
    all_goals omega
  refine W_seq (W_seq (?_))
  apply W_regS
  · intro K hK
    simp
    repeat' (first | with_reducible exact hK | (with_reducible refine goL_split (fun _ => ?_) (fun _ => ?_) <;> simp) | with_reducible refine And.intro ?_ ?_ | with_reducible exact okay_rfl rfl | with_reducible assumption | omega)
  refine W_cond rfl (fun h => W_seq ?_) (fun h1 => W_skip ?_)
  · apply W_regS
    · intro K hK
      simp
      repeat' (first | with_reducible exact hK | (with_reducible refine goL_split (fun _ => ?_) (fun _ => ?_) <;> simp) | with_reducible refine And.intro ?_ ?_ | with_reducible exact okay_rfl rfl | with_reducible assumption | omega)
    have : decide (x = y) = false := by rw [decide_eq_false_iff_not]; intro e; rw [e] at h; simp at h
    refine W_ret ?_
    simp [Fin, this]
    all_goals omega
  refine W_seq (W_seq (?_))
  apply W_regS
  · intro K hK
    simp
    repeat' (first | with_reducible exact hK | (with_reducible refine goL_split (fun _ => ?_) (fun _ => ?_) <;> simp) | with_reducible refine And.intro ?_ ?_ | with_reducible exact okay_rfl rfl | with_reducible assumption | omega)
  refine W_cond rfl (fun h => W_seq ?_) (fun h2 => W_skip ?_)
  · apply W_regS
    · intro K hK
      simp
      repeat' (first | with_reducible exact hK | (with_reducible refine goL_split (fun _ => ?_) (fun _ => ?_) <;> simp) | with_reducible refine And.intro ?_ ?_ | with_reducible exact okay_rfl rfl | with_reducible assumption | omega)
    have : decide (x = y) = false := by rw [decide_eq_false_iff_not]; intro e; rw [e] at h; simp at h
    refine W_ret ?_
    simp [Fin, this]
    all_goals omega
  refine W_seq (W_seq (?_))
  apply W_regS
  · intro K hK
    simp
    repeat' (first | with_reducible exact hK | (with_reducible refine callQ (eqBox_g x.fBox y.fBox (by omega) (by omega)) ?_; simp) | (with_reducible refine goL_split (fun _ => ?_) (fun _ => ?_) <;> simp) | with_reducible refine And.intro ?_ ?_ | with_reducible exact okay_rfl rfl | with_reducible assumption | omega)
  refine W_cond rfl (fun h => W_seq ?_) (fun h3 => W_skip ?_)
  · apply W_regS
    · intro K hK
      simp
      repeat' (first | with_reducible exact hK | (with_reducible refine goL_split (fun _ => ?_) (fun _ => ?_) <;> simp) | with_reducible refine And.intro ?_ ?_ | with_reducible exact okay_rfl rfl | with_reducible assumption | omega)
    have : decide (x = y) = false := by rw [decide_eq_false_iff_not]; intro e; rw [e] at h; simp at h
    refine W_ret ?_
    simp [Fin, this]
    all_goals omega
  refine W_seq (?_)
  apply W_regS
  · intro K hK
    simp
    repeat' (first | with_reducible exact hK | (with_reducible refine goL_split (fun _ => ?_) (fun _ => ?_) <;> simp) | with_reducible refine And.intro ?_ ?_ | with_reducible exact okay_rfl rfl | with_reducible assumption | omega)
  have : decide (x = y) = true := by
    rw [decide_eq_true_iff]
    cases x; cases y
    simp at h0 h1 h2 h3
    simp_all
  refine W_ret ?_
  simp [Fin, this]
  all_goals omega

theorem eqWrapS_g (a b : List GWrap) (hx : a.length + sumBy GWrap.cost a ≤ 1099511627776) (hy : b.length + sumBy GWrap.cost b ≤ 1099511627776) : Valid PP GG F_L_eqWrapS [.d (.slc 6 (rWrap a)), .d (.slc 6 (rWrap b))] (.d (.bool (decide (a = b)))) [none, none] := by
  refine v_L_eqWrapS [.d (.bool (decide (a = b)))] rfl rfl ?_
  refine W_seq (?_)
  apply W_regS
  · intro K hK
    simp
    repeat' (first | with_reducible exact hK | (with_reducible refine goL_split (fun _ => ?_) (fun _ => ?_) <;> simp) | with_reducible refine And.intro ?_ ?_ | with_reducible exact okay_rfl rfl | with_reducible assumption | omega)
  refine W_seq (W_seq (?_))
  apply W_regS
  · intro K hK
    simp
    repeat' (first | with_reducible exact hK | (with_reducible refine goL_split (fun _ => ?_) (fun _ => ?_) <;> simp) | with_reducible refine And.intro ?_ ?_ | with_reducible exact okay_rfl rfl | with_reducible assumption | omega)
  refine W_cond rfl (fun h => W_seq ?_) (fun hlen => W_skip ?_)
  · apply W_regS
    · intro K hK
      simp
      repeat' (first | with_reducible exact hK | (with_reducible refine goL_split (fun _ => ?_) (fun _ => ?_) <;> simp) | with_reducible refine And.intro ?_ ?_ | with_reducible exact okay_rfl rfl | with_reducible assumption | omega)
    have : decide (a = b) = false := by rw [decide_eq_false_iff_not]; intro e; subst e; simp at h
    refine W_ret ?_
    simp [Fin, this]
    all_goals omega
  refine W_seq (W_seq (?_))
  simp at hlen
  apply W_regS
  · intro K hK
    simp
    repeat' (first | with_reducible exact hK | (with_reducible refine goL_split (fun _ => ?_) (fun _ => ?_) <;> simp) | with_reducible refine And.intro ?_ ?_ | with_reducible exact okay_rfl rfl | with_reducible assumption | omega)
  refine W_block (W_loop (fun n st => ∃ i : Nat, n = a.length - i ∧ i ≤ a.length ∧ a.take i = b.take i ∧ st = ⟨[], [(0, .d (.slc 6 (rWrap a))), (1, .d (.slc 6 (rWrap b))), (5, .d (.int .i64 i))], [], 0⟩) _ ⟨0, rfl, by omega, rfl, rfl⟩ ?_)
  rintro n st ⟨i, rfl, hi, he, rfl⟩
  refine W_seq (W_seq (?_))
  apply W_regS
  · intro K hK
    simp
    repeat' (first | with_reducible exact hK | (with_reducible refine goL_split (fun _ => ?_) (fun _ => ?_) <;> simp) | with_reducible refine And.intro ?_ ?_ | with_reducible exact okay_rfl rfl | with_reducible assumption | omega)
  refine W_cond rfl (fun h => W_skip ?_) (fun h => W_exit ?_)
  · simp at h
    have ha := List.getElem?_eq_getElem h
    have hb := List.getElem?_eq_getElem (show i < b.length by omega)
    generalize a[i] = x at ha
    generalize b[i]'_ = y at hb
    have ga := sumBy_get (f := GWrap.cost) ha
    have gb := sumBy_get (f := GWrap.cost) hb
    refine W_seq (W_block (W_seq ?_))
    apply W_regD
    · intro K hK
      simp [ha, hb]
      repeat' (first | with_reducible exact hK | (with_reducible refine callQ (eqWrap_g x y (by omega) (by omega)) ?_; simp [ha, hb]) | (with_reducible refine goL_split (fun _ => ?_) (fun _ => ?_) <;> simp [ha, hb]) | with_reducible refine And.intro ?_ ?_ | with_reducible exact okay_rfl rfl | with_reducible assumption | omega)
    refine W_cond rfl (fun h2 => W_seq ?_) (fun h2 => W_skip ?_)
    · apply W_regS
      · intro K hK
        simp
        repeat' (first | with_reducible exact hK | (with_reducible refine goL_split (fun _ => ?_) (fun _ => ?_) <;> simp) | with_reducible refine And.intro ?_ ?_ | with_reducible exact okay_rfl rfl | with_reducible assumption | omega)
      have : decide (a = b) = false := by rw [decide_eq_false_iff_not]; intro e; subst e; rw [ha] at hb; cases hb; simp at h2
      refine W_ret ?_
      simp [Fin, this]
      all_goals omega
    apply W_regS
    · intro K hK
      simp
      repeat' (first | with_reducible exact hK | (with_reducible refine goL_split (fun _ => ?_) (fun _ => ?_) <;> simp) | with_reducible refine And.intro ?_ ?_ | with_reducible exact okay_rfl rfl | with_reducible assumption | omega)
    have hxy : x = y := by simpa using h2
    subst hxy
    exact ⟨a.length - (i + 1), by omega, i + 1, rfl, h, take_succ_eq he ha hb, by simp [gc, closeN, liveA, gcV, gcO, renA, namesAs, namesA]; rw [wrap_id (by omega) (by omega)]⟩
  · simp at h
    rw [if_pos rfl]
    refine W_seq (?_)
    apply W_regS
    · intro K hK
      simp
      repeat' (first | with_reducible exact hK | (with_reducible refine goL_split (fun _ => ?_) (fun _ => ?_) <;> simp) | with_reducible refine And.intro ?_ ?_ | with_reducible exact okay_rfl rfl | with_reducible assumption | omega)
    have : decide (a = b) = true := by
      rw [decide_eq_true_iff]
      rwa [List.take_of_length_le h, List.take_of_length_le (by omega)] at he
    refine W_ret ?_
    simp [Fin, this]
    all_goals omega

theorem szRack_g (x : GRack) (l : Int) (hx : x.ok) (h0 : 0 ≤ l ∧ l ≤ 1048576) : Valid PP GG F_L_szRack [.agg x.c, .d (.int .i64 l)] (.d (.int .i64 (leftR x.cost l))) [none, none] := by
  refine v_L_szRack [.d (.int .i64 (leftR x.cost l))] rfl rfl ?_
  have hco : x.cost = (x.fWraps.length + sumBy GWrap.cost x.fWraps) := rfl
  unfold GRack.ok maxLen at hx
  obtain ⟨okKey0, okNext0, okWraps0, okWraps1⟩ := hx
  generalize x.cost = co at hco
  refine W_seq (?_)
  apply W_regS
  · intro K hK
    simp
    repeat' (first | with_reducible exact hK | (with_reducible refine goL_split (fun _ => ?_) (fun _ => ?_) <;> simp) | with_reducible refine And.intro ?_ ?_ | with_reducible exact okay_rfl rfl | with_reducible assumption | omega)
  have ct := szWrapS_g (GG := GG) x.fWraps l (by unfold maxLen; omega) okWraps1 ⟨by omega, by omega⟩
  obtain ⟨l1, el1⟩ : ∃ z : Int, leftR (x.fWraps.length + sumBy GWrap.cost x.fWraps) l = z := ⟨_, rfl⟩
  rw [el1] at ct
  refine W_seq (?_)
  apply W_regS
  · intro K hK
    simp
    repeat' (first | with_reducible exact hK | (with_reducible refine callQ (ct) ?_; simp) | (with_reducible refine goL_split (fun _ => ?_) (fun _ => ?_) <;> simp) | with_reducible refine And.intro ?_ ?_ | with_reducible exact okay_rfl rfl | with_reducible assumption | omega)
  clear ct
  refine W_seq (W_seq (?_))
  apply W_regS
  · intro K hK
    simp
    repeat' (first | with_reducible exact hK | (with_reducible refine goL_split (fun _ => ?_) (fun _ => ?_) <;> simp) | with_reducible refine And.intro ?_ ?_ | with_reducible exact okay_rfl rfl | with_reducible assumption | omega)
  refine W_cond rfl (fun hh0 => W_seq ?_) (fun hh0 => W_skip ?_)
  · apply W_regS
    · intro K hK
      simp
      repeat' (first | with_reducible exact hK | (with_reducible refine goL_split (fun _ => ?_) (fun _ => ?_) <;> simp) | with_reducible refine And.intro ?_ ?_ | with_reducible exact okay_rfl rfl | with_reducible assumption | omega)
    simp at hh0
    rw [← el1] at hh0
    have hn := leftR_neg (by omega) hh0
    have : leftR co l = -1 := leftR_no (by omega)
    refine W_ret ?_
    simp [Fin, this]
    all_goals omega
  simp at hh0
  rw [← el1] at hh0
  obtain ⟨gl1, jl1⟩ := leftR_pos (Int.not_lt.2 hh0)
  rw [el1] at jl1 hh0
  refine W_seq (?_)
  apply W_regS
  · intro K hK
    simp
    repeat' (first | with_reducible exact hK | (with_reducible refine goL_split (fun _ => ?_) (fun _ => ?_) <;> simp) | with_reducible refine And.intro ?_ ?_ | with_reducible exact okay_rfl rfl | with_reducible assumption | omega)
  have : leftR co l = l1 := by rw [leftR_yes (by omega)]; omega
  refine W_ret ?_
  simp [Fin, this]
  all_goals omega

theorem toRack_g (x : GRack) (hx : x.cost ≤ 1099511627776) : Valid PP GG F_L_toRack [.agg x.c] (.agg x.o) [none] := by
  refine v_L_toRack [.agg x.o] rfl rfl ?_
  have hco : x.cost = (x.fWraps.length + sumBy GWrap.cost x.fWraps) := rfl
  refine W_seq (?_)
  apply W_regS
  · intro K hK
    simp
    repeat' (first | with_reducible exact hK | (with_reducible refine goL_split (fun _ => ?_) (fun _ => ?_) <;> simp) | with_reducible refine And.intro ?_ ?_ | with_reducible exact okay_rfl rfl | with_reducible assumption | omega)
  refine W_seq (?_)
  apply W_regS
  · intro K hK
    simp
    repeat' (first | with_reducible exact hK | (with_reducible refine goL_split (fun _ => ?_) (fun _ => ?_) <;> simp) | with_reducible refine And.intro ?_ ?_ | with_reducible exact okay_rfl rfl | with_reducible assumption | omega)
  refine W_seq (?_)
  apply W_regS
  · intro K hK
    simp
    repeat' (first | with_reducible exact hK | (with_reducible refine goL_split (fun _ => ?_) (fun _ => ?_) <;> simp) | with_reducible refine And.intro ?_ ?_ | with_reducible exact okay_rfl rfl | with_reducible assumption | omega)
  refine W_seq (?_)
  apply W_regS
  · intro K hK
    simp
    repeat' (first | with_reducible exact hK | (with_reducible refine goL_split (fun _ => ?_) (fun _ => ?_) <;> simp) | with_reducible refine And.intro ?_ ?_ | with_reducible exact okay_rfl rfl | with_reducible assumption | omega)
  refine W_seq (?_)
  apply W_regS
  · intro K hK
    simp
    repeat' (first | with_reducible exact hK | (with_reducible refine callQ (toWrapS_g x.fWraps (by omega)) ?_; simp) | (with_reducible refine goL_split (fun _ => ?_) (fun _ => ?_) <;> simp) | with_reducible refine And.intro ?_ ?_ | with_reducible exact okay_rfl rfl | with_reducible assumption | omega)
  refine W_seq (?_)
  apply W_regS
  · intro K hK
    simp
    repeat' (first | with_reducible exact hK | (with_reducible refine goL_split (fun _ => ?_) (fun _ => ?_) <;> simp) | with_reducible refine And.intro ?_ ?_ | with_reducible exact okay_rfl rfl | with_reducible assumption | omega)
  refine W_ret ?_
  simp [Fin]
  all_goals omega

theorem eqRack_g (x y : GRack) (hx : x.cost ≤ 1099511627776) (hy : y.cost ≤ 1099511627776) : Valid PP GG F_L_eqRack [.agg x.c, .agg y.c] (.d (.bool (decide (x = y)))) [none, none] := by
  refine v_L_eqRack [.d (.bool (decide (x = y)))] rfl rfl ?_
  have hcx : x.cost = (x.fWraps.length + sumBy GWrap.cost x.fWraps) := rfl
  have hcy : y.cost = (y.fWraps.length + sumBy GWrap.cost y.fWraps) := rfl
  refine W_seq (?_)
  apply W_regS
  · intro K hK
    simp
    repeat' (first | with_reducible exact hK | (with_reducible refine goL_split (fun _ => ?_) (fun _ => ?_) <;> simp) | with_reducible refine And.intro ?_ ?_ | with_reducible exact okay_rfl rfl | with_reducible assumption | omega)
  refine W_seq (W_seq (?_))
  apply W_regS
  · intro K hK
    simp
    repeat' (first | with_reducible exact hK | (with_reducible refine goL_split (fun _ => ?_) (fun _ => ?_) <;> simp) | with_reducible refine And.intro ?_ ?_ | with_reducible exact okay_rfl rfl | with_reducible assumption | omega)
  refine W_cond rfl (fun h => W_seq ?_) (fun h0 => W_skip ?_)
  · apply W_regS
    · intro K hK
      simp
      repeat' (first | with_reducible exact hK | (with_reducible refine goL_split (fun _ => ?_) (fun _ => ?_) <;> simp) | with_reducible refine And.intro ?_ ?_ | with_reducible exact okay_rfl rfl | with_reducible assumption | omega)
    have : decide (x = y) = false := by rw [decide_eq_false_iff_not]; intro e; rw [e] at h; simp at h
    refine W_ret ?_
    simp [Fin, this]
    all_goals omega
  refine W_seq (W_seq (?_))
  apply W_regS
  · intro K hK
    simp
    repeat' (first | with_reducible exact hK | (with_reducible refine goL_split (fun _ => ?_) (fun _ => ?_) <;> simp) | with_reducible refine And.intro ?_ ?_ | with_reducible exact okay_rfl rfl | with_reducible assumption | omega)
  refine W_cond rfl (fun h => W_seq ?_) (fun h1 => W_skip ?_)
  · apply W_regS
    · intro K hK
      simp
      repeat' (first | with_reducible exact hK | (with_reducible refine goL_split (fun _ => ?_) (fun _ => ?_) <;> simp) | with_reducible refine And.intro ?_ ?_ | with_reducible exact okay_rfl rfl | with_reducible assumption | omega)
    have : decide (x = y) = false := by rw [decide_eq_false_iff_not]; intro e; rw [e] at h; simp at h
    refine W_ret ?_
    simp [Fin, this]
    all_goals omega
  refine W_seq (W_seq (?_))
  apply W_regS
  · intro K hK
    simp
    repeat' (first | with_reducible exact hK | (with_reducible refine callQ (eqWrapS_g x.fWraps y.fWraps (by omega) (by omega)) ?_; simp) | (with_reducible refine goL_split (fun _ => ?_) (fun _ => ?_) <;> simp) | with_reducible refine And.intro ?_ ?_ | with_reducible exact okay_rfl rfl | with_reducible assumption | omega)
  refine W_cond rfl (fun h => W_seq ?_) (fun h2 => W_skip ?_)
  · apply W_regS
    · intro K hK
      simp
      repeat' (first | with_reducible exact hK | (with_reducible refine goL_split (fun _ => ?_) (fun _ => ?_) <;> simp) | with_reducible refine And.intro ?_ ?_ | with_reducible exact okay_rfl rfl | with_reducible assumption | omega)
    have : decide (x = y) = false := by rw [decide_eq_false_iff_not]; intro e; rw [e] at h; simp at h
    refine W_ret ?_
    simp [Fin, this]
    all_goals omega
  refine W_seq (?_)
  apply W_regS
  · intro K hK
    simp
    repeat' (first | with_reducible exact hK | (with_reducible refine goL_split (fun _ => ?_) (fun _ => ?_) <;> simp) | with_reducible refine And.intro ?_ ?_ | with_reducible exact okay_rfl rfl | with_reducible assumption | omega)
  have : decide (x = y) = true := by
    rw [decide_eq_true_iff]
    cases x; cases y
    simp at h0 h1 h2
    simp_all
  refine W_ret ?_
  simp [Fin, this]
  all_goals omega

def bytesL (ls : List (List UInt8)) : List (List D) := ls.map fun a => [.slc 1 (bytesD a)]

@[simp] theorem bytesL_len (ls : List (List UInt8)) : (bytesL ls).length = ls.length := by simp [bytesL]

@[simp] theorem bytesL_get (ls : List (List UInt8)) (i : Nat) : (bytesL ls)[i]? = (ls[i]?).map fun a => [.slc 1 (bytesD a)] := by simp [bytesL]

end Go.Proofs.YtpbofdbleajagaaDoor.Ab

