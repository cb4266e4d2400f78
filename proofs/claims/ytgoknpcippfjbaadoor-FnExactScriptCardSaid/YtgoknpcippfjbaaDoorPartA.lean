/-
  A part of a proof about the given program; what is proved is said where each theorem stands.
-/
import Derived.BigCall
import Derived.Test.YtgoknpcippfjbaaDoorFrameA
import Derived.Test.YtgoknpcippfjbaaDoorFrameB
import Derived.Test.YtgoknpcippfjbaaDoorFrameC
import Derived.Test.YtgoknpcippfjbaaDoorFrameD
import Derived.Test.YtgoknpcippfjbaaDoorFrameE
import Derived.Test.YtgoknpcippfjbaaDoorShelf
import Derived.Test.YtgoknpcippfjbaaDoorCodesA
import Derived.Test.YtgoknpcippfjbaaDoorCodesB
namespace Go.Proofs
end Go.Proofs
set_option linter.unusedSimpArgs false
set_option linter.unusedVariables false
set_option maxRecDepth 100000
set_option maxHeartbeats 2000000
namespace Go.Proofs.YtgoknpcippfjbaaDoor.Ab
open Go.Proofs
variable {GG : GV}
structure Hide (q : Prop) : Prop where
  out : q
theorem bq {a b : Bool} (h : a = b := by first | omega | (exact decide_eq_false (by omega)) | (exact decide_eq_true (by omega)) | (exact (decide_eq_true (by omega)).symm) | (exact (decide_eq_false (by omega)).symm) | (exact decide_eq_decide.2 (by omega)) | (simp only [← decide_not]; exact decide_eq_decide.2 (by omega)) | (simp [*]; done) | (simp [*]; omega) | (simp_all; done) | (simp_all; omega) | (rw [Bool.eq_iff_iff]; simp at *; omega)) : a = b := h
abbrev RS (V : FuncId → List C → C → List (Option C) → Prop) (ops : List AOper) (st st' : St) : Prop := ∀ K : St → Prop, K st' → regS V st.nx 0 ops st K
abbrev RD (V : FuncId → List C → C → List (Option C) → Prop) (ops : List AOper) (st st' : St) : Prop := ∀ K : St → Prop, K st' → regD V st.nx 0 ops [] true st K
abbrev RB (V : FuncId → List C → C → List (Option C) → Prop) (ops : List AOper) (st : St) (r : Nat) (b : Bool) : Prop := ∀ K : St → Prop, (∀ t tm, t = b → K ⟨tm, put st.vars r (.d (.bool t)), st.objs, st.nx⟩) → regS V st.nx 0 ops st K
abbrev RE (V : FuncId → List C → C → List (Option C) → Prop) (ops : List AOper) (st : St) (r : Nat) (b : Bool) : Prop := ∀ K : St → Prop, (∀ t tm, t = b → K ⟨tm, put st.vars r (.d (.bool t)), st.objs, st.nx⟩) → regD V st.nx 0 ops [] true st K
section
variable {P : Program} {vl : List Nat} {nt : Nat × List Nat} {V : FuncId → List C → C → List (Option C) → Prop} {ops : List AOper} {st st' : St} {Kn : St → Prop} {Ke : Nat → St → Prop} {Kr : St → Prop} {p_e1 p_e2 p_e3 p_e4 p_e5 p_k1 p_k2 p_k3 p_k4 p_k5 p q : Prop}

end

theorem wrap_id {n : Int} (h1 : -9223372036854775808 ≤ n) (h2 : n ≤ 9223372036854775807) : IntKind.i64.wrap n = n := by
  rw [IntKind.wrap_i64]; omega

theorem take_succ_eq {α : Type} {a b : List α} {i : Nat} {x : α} (h : a.take i = b.take i) (ha : a[i]? = some x) (hb : b[i]? = some x) : a.take (i + 1) = b.take (i + 1) := by
  rw [List.take_add_one, List.take_add_one, h, ha, hb]

theorem take_set_succ {R : List (List D)} {i : Nat} {r : List D} (hi : i < R.length) : (R.set i r).take (i + 1) = R.take i ++ [r] := by
  rw [List.take_add_one, List.take_set_of_le (Nat.le_refl _)]
  simp [hi]

theorem ofBytes_bytesD (s : List UInt8) : ofBytes (bytesD s) = some s := by
  induction s with
  | nil => rfl
  | cons x s ih => simp [bytesD, ofBytes] at ih ⊢; exact ih

theorem strOf_bytesD (s : List UInt8) : strOf (.slc 1 (bytesD s)) = out (.d (.str s)) := by
  cases s with
  | nil => rfl
  | cons x s => simp only [strOf, ofBytes_bytesD]; simp [bytesD]

theorem l01In_ok (x lo hi : Int) : Valid PP GG F_S_l01In [.d (.int .i64 x), .d (.int .i64 lo), .d (.int .i64 hi)] (.d (.bool (decide (lo ≤ x) && decide (x ≤ hi)))) [none, none, none] := by
  refine v_S_l01In [.d (.bool (decide (lo ≤ x) && decide (x ≤ hi)))] rfl rfl ?_
  refine W_seq (?_)
  apply W_regS
  · intro K hK
    simp
    repeat' (first | with_reducible exact hK | (with_reducible refine goL_split (fun _ => ?_) (fun _ => ?_) <;> simp) | with_reducible refine And.intro ?_ ?_ | with_reducible exact okay_rfl rfl | with_reducible assumption | omega)
  refine W_seq (?_)
  refine W_regB 6 (decide (lo ≤ x) && decide (x ≤ hi)) (fun K hK => ?_) ?_
  · simp
    repeat' (first | exact hK _ _ (by clear hK; first | omega | (exact decide_eq_false (by omega)) | (exact decide_eq_true (by omega)) | (exact (decide_eq_true (by omega)).symm) | (exact (decide_eq_false (by omega)).symm) | (exact decide_eq_decide.2 (by omega)) | (simp only [← decide_not]; exact decide_eq_decide.2 (by omega)) | (simp [*]; done) | (simp [*]; omega) | (simp_all; done) | (simp_all; omega) | (rw [Bool.eq_iff_iff]; simp at *; omega)) | (with_reducible refine goL_split (fun _ => ?_) (fun _ => ?_) <;> simp) | with_reducible refine And.intro ?_ ?_ | with_reducible exact okay_rfl rfl | with_reducible assumption | omega)
  refine W_ret ?_
  simp [Fin]
  all_goals omega

theorem within_ok (x lo hi : Int) : Valid PP GG F_I_within [.d (.int .i64 x), .d (.int .i64 lo), .d (.int .i64 hi)] (.d (.bool (decide (lo ≤ x) && decide (x ≤ hi)))) [none, none, none] := by
  refine v_I_within [.d (.bool (decide (lo ≤ x) && decide (x ≤ hi)))] rfl rfl ?_
  refine W_seq (?_)
  apply W_regS
  · intro K hK
    simp
    repeat' (first | with_reducible exact hK | (with_reducible refine goL_split (fun _ => ?_) (fun _ => ?_) <;> simp) | with_reducible refine And.intro ?_ ?_ | with_reducible exact okay_rfl rfl | with_reducible assumption | omega)
  refine W_seq (?_)
  refine W_regB 6 (decide (lo ≤ x) && decide (x ≤ hi)) (fun K hK => ?_) ?_
  · simp
    repeat' (first | exact hK _ _ (by clear hK; first | omega | (exact decide_eq_false (by omega)) | (exact decide_eq_true (by omega)) | (exact (decide_eq_true (by omega)).symm) | (exact (decide_eq_false (by omega)).symm) | (exact decide_eq_decide.2 (by omega)) | (simp only [← decide_not]; exact decide_eq_decide.2 (by omega)) | (simp [*]; done) | (simp [*]; omega) | (simp_all; done) | (simp_all; omega) | (rw [Bool.eq_iff_iff]; simp at *; omega)) | (with_reducible refine goL_split (fun _ => ?_) (fun _ => ?_) <;> simp) | with_reducible refine And.intro ?_ ?_ | with_reducible exact okay_rfl rfl | with_reducible assumption | omega)
  refine W_ret ?_
  simp [Fin]
  all_goals omega

/-- The digits of a number. -/
def digs (n : Nat) : List UInt8 := if h : n = 0 then [] else digs (n / 10) ++ [UInt8.ofNat (48 + n % 10)]
termination_by n
decreasing_by omega

theorem u8_digit (n : Nat) : IntKind.u8.wrap (IntKind.i64.wrap (48 + ((n % 10 : Nat) : Int))) = ((UInt8.ofNat (48 + n % 10)).toNat : Int) := by
  rw [wrap_id (by omega) (by omega), IntKind.wrap_u8, UInt8.toNat_ofNat']
  have : (48 + n % 10) % 2 ^ 8 = 48 + n % 10 := by omega
  rw [this]; omega

theorem bytes_one (v : UInt8) : [[D.int .u8 v.toNat]] = bytesD [v] := rfl

theorem Itoa_ok [P10 GG] (n : Int) (h : int64 n) : Valid PP GG 33 [.d (.int .i64 n)] (.d (.str (Lib.itoa n))) [none] := by
  refine lib_int (rv := .string ⟨(Lib.itoa n).toArray⟩) ⟨Tryd.f33, Tryd.func33, by kernel_rfl, by kernel_rfl⟩ (fun w Fz => .str _) fun w hG => ?_
  refine Go.Proofs.YtgoknpcippfjbaaDoor.Tryd.strconv_Itoa n h.1 h.2 w ?_
  obtain ⟨ob, h1, h2⟩ := hG 0 _ P10.h
  unfold Lib.TabIs World.var?
  rw [show Tryd.prog.globalNamed "internal/strconv.uint64pow10" = some 0 by kernel_rfl]
  simp only [Option.bind_some, h1]
  cases ob with
  | cells cs t fr => simp only [pow10Cells] at h2; rw [h2]
  | _ => exact h2.elim

theorem digs_dec : ∀ n, 0 < n → digs n = Lib.decDigits n := by
  intro n
  induction n using Nat.strongRecOn with
  | _ n ih =>
    intro h
    rw [digs, dif_neg (by omega), Lib.decDigits]
    by_cases hn : n < 10
    · rw [dif_pos hn]
      have e : n / 10 = 0 := by omega
      rw [e, digs, dif_pos rfl, Nat.mod_eq_of_lt hn]; rfl
    · rw [dif_neg hn, ih (n / 10) (by omega) (by omega)]

theorem digs_len2 {n : Nat} (h : n ≤ 9223372036854775808) : (digs n).length ≤ 21 := by
  by_cases h0 : n = 0
  · subst h0; rw [digs]; simp
  · rw [digs_dec n (by omega)]
    by_cases h1 : n ≤ 9223372036854775807
    · have := Lib.itoa_length_le n (by omega) (by omega)
      rw [Lib.itoa_nonneg] at this
      exact this
    · have := Lib.itoa_length_le (-(n : Int)) (by omega) (by omega)
      rw [Lib.itoa_neg n (by omega)] at this
      simp at this; omega

theorem l01Num_ok (x : Int) (hx : int64 x) : Valid PP GG F_S_l01Num [.d (.int .i64 x)] (.d (.str (Lib.itoa x))) [none] := by
  refine v_S_l01Num [.d (.str (Lib.itoa x))] rfl rfl ?_
  unfold int64 at hx
  refine W_seq (?_)
  apply W_regS
  · intro K hK
    simp
    repeat' (first | with_reducible exact hK | (with_reducible refine goL_split (fun _ => ?_) (fun _ => ?_) <;> simp) | with_reducible refine And.intro ?_ ?_ | with_reducible exact okay_rfl rfl | with_reducible assumption | omega)
  refine W_seq (W_seq (?_))
  apply W_regS
  · intro K hK
    simp
    repeat' (first | with_reducible exact hK | (with_reducible refine goL_split (fun _ => ?_) (fun _ => ?_) <;> simp) | with_reducible refine And.intro ?_ ?_ | with_reducible exact okay_rfl rfl | with_reducible assumption | omega)
  refine W_cond rfl (fun h => W_seq ?_) (fun h => W_skip ?_)
  · simp at h
    subst h
    apply W_regS
    · intro K hK
      simp
      repeat' (first | with_reducible exact hK | (with_reducible refine goL_split (fun _ => ?_) (fun _ => ?_) <;> simp) | with_reducible refine And.intro ?_ ?_ | with_reducible exact okay_rfl rfl | with_reducible assumption | omega)
    have : Lib.itoa 0 = [48] := by rw [show (0 : Int) = ((0 : Nat) : Int) from rfl, Lib.itoa_nonneg, Lib.decDigits]; rfl
    refine W_ret ?_
    simp [Fin, this]
    all_goals omega
  simp at h
  obtain ⟨ng, hng⟩ : ∃ ng, ng = decide (x < 0) := ⟨_, rfl⟩
  refine W_seq (?_)
  apply W_regS
  · intro K hK
    simp
    repeat' (first | with_reducible exact hK | (with_reducible refine goL_split (fun _ => ?_) (fun _ => ?_) <;> simp) | with_reducible refine And.intro ?_ ?_ | with_reducible exact okay_rfl rfl | with_reducible assumption | omega)
  refine W_seq (?_)
  apply W_regS
  · intro K hK
    simp [← hng]
    repeat' (first | with_reducible exact hK | (with_reducible refine goL_split (fun _ => ?_) (fun _ => ?_) <;> simp [← hng]) | with_reducible refine And.intro ?_ ?_ | with_reducible exact okay_rfl rfl | with_reducible assumption | omega)
  refine W_seq (?_)
  refine W_block (W_loop (fun n st => ∃ (m : Nat) (out : List UInt8), n = m ∧ digs m ++ out = digs x.natAbs ∧ m ≤ x.natAbs ∧
    st = ⟨[], [(0, .d (.int .i64 (if ng then -(m : Int) else m))), (3, .d (.str out)), (4, .d (.bool ng))], [], 0⟩) _ ⟨x.natAbs, [], rfl, by simp, by omega, by
      simp [gc, closeN, liveA, gcV, gcO, renA, namesAs, namesA, ← hng]; cases ng <;> simp at hng ⊢ <;> omega⟩ ?_)
  rintro m st ⟨m', out, rfl, he, hm, rfl⟩
  have hl : out.length ≤ 21 := by
    have h1 := digs_len2 (n := x.natAbs) (by omega)
    rw [← he] at h1
    simp at h1
    omega
  refine W_seq (W_seq (?_))
  apply W_regS
  · intro K hK
    simp
    repeat' (first | with_reducible exact hK | (with_reducible refine goL_split (fun _ => ?_) (fun _ => ?_) <;> simp) | with_reducible refine And.intro ?_ ?_ | with_reducible exact okay_rfl rfl | with_reducible assumption | omega)
  refine W_cond rfl (fun h2 => W_skip ?_) (fun h2 => W_exit ?_)
  · have hm0 : m ≠ 0 := by rintro rfl; cases ng <;> simp at h2
    have hd := u8_digit m
    obtain ⟨r, hr⟩ : ∃ r : Nat, r = m % 10 := ⟨_, rfl⟩
    obtain ⟨q, hqq⟩ : ∃ q : Nat, q = m / 10 := ⟨_, rfl⟩
    rw [← hr] at hd
    obtain ⟨v, hv⟩ : ∃ v, v = UInt8.ofNat (48 + r) := ⟨_, rfl⟩
    rw [← hv] at hd
    have fin : digs q ++ (v :: out) = digs x.natAbs := by
      rw [← he, digs.eq_1 m, dif_neg hm0, ← hqq, ← hr, ← hv]
      simp
    cases ng with
    | false =>
      have ht : ((m : Int).tmod 10) = (r : Int) := by rw [hr]; rfl
      have hq : IntKind.i64.wrap ((m : Int).tdiv 10) = (q : Int) := by
        have : (m : Int).tdiv 10 = ((m / 10 : Nat) : Int) := rfl
        rw [this, ← hqq]; exact wrap_id (by omega) (by omega)
      simp at hq
      refine W_block (W_seq ?_)
      apply W_regS
      · intro K hK
        simp [ht]
        repeat' (first | with_reducible exact hK | (with_reducible refine goL_split (fun _ => ?_) (fun _ => ?_) <;> simp [ht]) | with_reducible refine And.intro ?_ ?_ | with_reducible exact okay_rfl rfl | with_reducible assumption | omega)
      refine W_seq (W_seq (?_))
      apply W_regS
      · intro K hK
        simp
        repeat' (first | with_reducible exact hK | (with_reducible refine goL_split (fun _ => ?_) (fun _ => ?_) <;> simp) | with_reducible refine And.intro ?_ ?_ | with_reducible exact okay_rfl rfl | with_reducible assumption | omega)
      refine W_cond rfl (fun h3 => ?_) (fun h3 => W_skip ?_)
      · simp at h3; omega
      refine W_seq (?_)
      apply W_regS
      · intro K hK
        simp [hd, litA, bytes_one, strOf_bytesD, maxStr]
        repeat' (first | with_reducible exact hK | (with_reducible refine goL_split (fun _ => ?_) (fun _ => ?_) <;> simp [hd, litA, bytes_one, strOf_bytesD, maxStr]) | with_reducible refine And.intro ?_ ?_ | with_reducible exact okay_rfl rfl | with_reducible assumption | omega)
      apply W_regS
      · intro K hK
        simp [hq]
        repeat' (first | with_reducible exact hK | (with_reducible refine goL_split (fun _ => ?_) (fun _ => ?_) <;> simp [hq]) | with_reducible refine And.intro ?_ ?_ | with_reducible exact okay_rfl rfl | with_reducible assumption | omega)
      exact ⟨q, by omega, q, v :: out, rfl, fin, by omega, by simp [gc, closeN, liveA, gcV, gcO, renA, namesAs, namesA]⟩
    | true =>
      have ht : ((-(m : Int)).tmod 10) = -(r : Int) := by rw [Int.neg_tmod, hr]; rfl
      have hn : IntKind.i64.wrap (0 - -(r : Int)) = (r : Int) := by rw [wrap_id (by omega) (by omega)]; omega
      have hq : IntKind.i64.wrap ((-(m : Int)).tdiv 10) = -(q : Int) := by
        have : (-(m : Int)).tdiv 10 = -((m / 10 : Nat) : Int) := by rw [Int.neg_tdiv]; rfl
        rw [this, ← hqq]; exact wrap_id (by omega) (by omega)
      simp at hn hq
      refine W_block (W_seq ?_)
      apply W_regS
      · intro K hK
        simp [ht]
        repeat' (first | with_reducible exact hK | (with_reducible refine goL_split (fun _ => ?_) (fun _ => ?_) <;> simp [ht]) | with_reducible refine And.intro ?_ ?_ | with_reducible exact okay_rfl rfl | with_reducible assumption | omega)
      refine W_seq (W_seq (?_))
      apply W_regS
      · intro K hK
        simp
        repeat' (first | with_reducible exact hK | (with_reducible refine goL_split (fun _ => ?_) (fun _ => ?_) <;> simp) | with_reducible refine And.intro ?_ ?_ | with_reducible exact okay_rfl rfl | with_reducible assumption | omega)
      refine W_cond rfl (fun h3 => ?_) (fun h3 => W_skip ?_)
      · apply W_regS
        · intro K hK
          simp [hn]
          repeat' (first | with_reducible exact hK | (with_reducible refine goL_split (fun _ => ?_) (fun _ => ?_) <;> simp [hn]) | with_reducible refine And.intro ?_ ?_ | with_reducible exact okay_rfl rfl | with_reducible assumption | omega)
        refine W_seq (?_)
        apply W_regS
        · intro K hK
          simp [hd, litA, bytes_one, strOf_bytesD, maxStr]
          repeat' (first | with_reducible exact hK | (with_reducible refine goL_split (fun _ => ?_) (fun _ => ?_) <;> simp [hd, litA, bytes_one, strOf_bytesD, maxStr]) | with_reducible refine And.intro ?_ ?_ | with_reducible exact okay_rfl rfl | with_reducible assumption | omega)
        apply W_regS
        · intro K hK
          simp [hq]
          repeat' (first | with_reducible exact hK | (with_reducible refine goL_split (fun _ => ?_) (fun _ => ?_) <;> simp [hq]) | with_reducible refine And.intro ?_ ?_ | with_reducible exact okay_rfl rfl | with_reducible assumption | omega)
        exact ⟨q, by omega, q, v :: out, rfl, fin, by omega, by simp [gc, closeN, liveA, gcV, gcO, renA, namesAs, namesA]⟩
      have hn2 : -(r : Int) = (r : Int) := by simp at h3; omega
      refine W_seq (?_)
      apply W_regS
      · intro K hK
        simp [hn2, hd, litA, bytes_one, strOf_bytesD, maxStr]
        repeat' (first | with_reducible exact hK | (with_reducible refine goL_split (fun _ => ?_) (fun _ => ?_) <;> simp [hn2, hd, litA, bytes_one, strOf_bytesD, maxStr]) | with_reducible refine And.intro ?_ ?_ | with_reducible exact okay_rfl rfl | with_reducible assumption | omega)
      apply W_regS
      · intro K hK
        simp [hq]
        repeat' (first | with_reducible exact hK | (with_reducible refine goL_split (fun _ => ?_) (fun _ => ?_) <;> simp [hq]) | with_reducible refine And.intro ?_ ?_ | with_reducible exact okay_rfl rfl | with_reducible assumption | omega)
      exact ⟨q, by omega, q, v :: out, rfl, fin, by omega, by simp [gc, closeN, liveA, gcV, gcO, renA, namesAs, namesA]⟩
  · have hm0 : m = 0 := by cases ng <;> simp at h2 <;> omega
    subst hm0
    rw [if_pos rfl]
    have hz : digs 0 = [] := by rw [digs]; simp
    rw [hz, List.nil_append] at he
    refine W_seq (W_seq (?_))
    apply W_regS
    · intro K hK
      simp
      repeat' (first | with_reducible exact hK | (with_reducible refine goL_split (fun _ => ?_) (fun _ => ?_) <;> simp) | with_reducible refine And.intro ?_ ?_ | with_reducible exact okay_rfl rfl | with_reducible assumption | omega)
    refine W_cond rfl (fun h3 => W_seq ?_) (fun h3 => W_skip ?_)
    · subst h3
      apply W_regS
      · intro K hK
        simp [maxStr]
        repeat' (first | with_reducible exact hK | (with_reducible refine goL_split (fun _ => ?_) (fun _ => ?_) <;> simp [maxStr]) | with_reducible refine And.intro ?_ ?_ | with_reducible exact okay_rfl rfl | with_reducible assumption | omega)
      have : Lib.itoa x = 45 :: out := by
        simp at hng
        unfold Lib.itoa
        rw [if_pos (by omega), he, digs_dec _ (by omega)]
      refine W_ret ?_
      simp [Fin, this]
      all_goals omega
    subst h3
    refine W_seq (?_)
    apply W_regS
    · intro K hK
      simp
      repeat' (first | with_reducible exact hK | (with_reducible refine goL_split (fun _ => ?_) (fun _ => ?_) <;> simp) | with_reducible refine And.intro ?_ ?_ | with_reducible exact okay_rfl rfl | with_reducible assumption | omega)
    have : Lib.itoa x = out := by
      simp at hng
      unfold Lib.itoa
      rw [if_neg (by omega), he, digs_dec _ (by omega)]
      congr 1
      omega
    refine W_ret ?_
    simp [Fin, this]
    all_goals omega

def sumBy {α : Type} (f : α → Nat) : List α → Nat
  | [] => 0
  | x :: r => f x + sumBy f r

theorem sumBy_append {α : Type} (f : α → Nat) (a b : List α) : sumBy f (a ++ b) = sumBy f a + sumBy f b := by
  induction a with
  | nil => simp [sumBy]
  | cons x a ih => simp [sumBy, ih]; omega

theorem sumBy_succ {α : Type} {f : α → Nat} {a : List α} {i : Nat} {x : α} (h : a[i]? = some x) : sumBy f (a.take (i + 1)) = sumBy f (a.take i) + f x := by
  rw [List.take_add_one, h, sumBy_append]; simp [sumBy]

theorem sumBy_take {α : Type} (f : α → Nat) (a : List α) (i : Nat) : sumBy f (a.take i) ≤ sumBy f a := by
  conv => rhs; rw [← List.take_append_drop i a, sumBy_append]
  omega

theorem sumBy_mem {α : Type} {f : α → Nat} {a : List α} {x : α} (h : x ∈ a) : f x ≤ sumBy f a := by
  induction a with
  | nil => simp at h
  | cons y a ih =>
    rcases List.mem_cons.1 h with rfl | h
    · simp [sumBy]
    · have := ih h; simp [sumBy]; omega

theorem sumBy_get {α : Type} {f : α → Nat} {a : List α} {i : Nat} {x : α} (h : a[i]? = some x) : f x ≤ sumBy f a := sumBy_mem (List.mem_of_getElem? h)

/-- What is left of an allowance. -/
def leftR (c : Nat) (l : Int) : Int := if (c : Int) ≤ l then l - c else -1

theorem leftR_neg {c : Nat} {l : Int} (h0 : 0 ≤ l) (h : leftR c l < 0) : l < c := by unfold leftR at h; split at h <;> omega

theorem leftR_pos {c : Nat} {l : Int} (h : ¬ leftR c l < 0) : (c : Int) ≤ l ∧ leftR c l = l - c := by unfold leftR at h ⊢; split at h <;> simp_all

theorem leftR_yes {c : Nat} {l : Int} (h : (c : Int) ≤ l) : leftR c l = l - c := if_pos h

theorem leftR_no {c : Nat} {l : Int} (h : l < c) : leftR c l = -1 := if_neg (by omega)

theorem drop_get {α : Type} {a : List α} {i : Nat} {x : α} (h : a[i]? = some x) : a.drop i = x :: a.drop (i + 1) := by
  obtain ⟨h1, rfl⟩ := List.getElem?_eq_some_iff.1 h
  exact List.drop_eq_getElem_cons h1

theorem rows6 {R : List (List D)} {i : Nat} (h : ∀ r, r ∈ R → r.length = 6) (hi : i < R.length) : ∃ y0 y1 y2 y3 y4 y5, R[i]? = some [y0, y1, y2, y3, y4, y5] := by
  have h1 := h _ (List.getElem_mem hi)
  have h2 := List.getElem?_eq_getElem hi
  generalize R[i] = r at h1 h2
  match r, h1 with
  | [y0, y1, y2, y3, y4, y5], _ => exact ⟨y0, y1, y2, y3, y4, y5, h2⟩

theorem set6 {R : List (List D)} {i : Nat} {row : List D} (h : ∀ r, r ∈ R → r.length = 6) (hr : row.length = 6) : ∀ r, r ∈ R.set i row → r.length = 6 := by
  intro r hm
  rcases List.mem_or_eq_of_mem_set hm with hm | rfl
  · exact h r hm
  · exact hr

structure GReq where
  fKind : Int
  fToken : Int
  fName : List UInt8
  fPath : List UInt8
  fData : List UInt8
  fNum : Int
  deriving DecidableEq

@[simp] abbrev GReq.row (x : GReq) : List D := [.int .i64 x.fKind, .int .i64 x.fToken, .str x.fName, .str x.fPath, .str x.fData, .int .i64 x.fNum]

@[simp] abbrev GReq.c (x : GReq) : List C := [.d (.int .i64 x.fKind), .d (.int .i64 x.fToken), .d (.str x.fName), .d (.str x.fPath), .d (.str x.fData), .d (.int .i64 x.fNum)]

@[simp] abbrev GReq.o (x : GReq) : List C := [.d (.int .i64 x.fKind), .d (.int .i64 x.fToken), .d (.str x.fName), .d (.str x.fPath), .d (.str x.fData), .d (.int .i64 x.fNum)]

def rReq (l : List GReq) : List (List D) := l.map GReq.row

@[simp] theorem rReq_len (l : List GReq) : (rReq l).length = l.length := by simp [rReq]

@[simp] theorem rReq_get (l : List GReq) (i : Nat) : (rReq l)[i]? = (l[i]?).map GReq.row := by simp [rReq]

theorem rReq_app (a b : List GReq) : rReq (a ++ b) = rReq a ++ rReq b := by simp [rReq]

def GReq.cost (x : GReq) : Nat := x.fName.length + x.fPath.length + x.fData.length

def GReq.ok (x : GReq) : Prop := int64 x.fKind ∧ int64 x.fToken ∧ x.fName.length ≤ maxLen ∧ x.fPath.length ≤ maxLen ∧ x.fData.length ≤ maxLen ∧ int64 x.fNum

theorem szReq_g (x : GReq) (l : Int) (hx : x.ok) (h0 : 0 ≤ l ∧ l ≤ 1048576) : Valid PP GG F_L_szReq [.agg x.c, .d (.int .i64 l)] (.d (.int .i64 (leftR x.cost l))) [none, none] := by
  refine v_L_szReq [.d (.int .i64 (leftR x.cost l))] rfl rfl ?_
  have hco : x.cost = x.fName.length + x.fPath.length + x.fData.length := rfl
  unfold GReq.ok maxLen at hx
  obtain ⟨okKind0, okToken0, okName0, okPath0, okData0, okNum0⟩ := hx
  generalize x.cost = co at hco
  refine W_seq (?_)
  apply W_regS
  · intro K hK
    simp
    repeat' (first | with_reducible exact hK | (with_reducible refine goL_split (fun _ => ?_) (fun _ => ?_) <;> simp) | with_reducible refine And.intro ?_ ?_ | with_reducible exact okay_rfl rfl | with_reducible assumption | omega)
  obtain ⟨l1, el1⟩ : ∃ z : Int, l - x.fName.length = z := ⟨_, rfl⟩
  have wl1 : IntKind.i64.wrap (l - x.fName.length) = l1 := by rw [wrap_id (by omega) (by omega)]; exact el1
  refine W_seq (?_)
  apply W_regS
  · intro K hK
    simp [wl1]
    repeat' (first | with_reducible exact hK | (with_reducible refine goL_split (fun _ => ?_) (fun _ => ?_) <;> simp [wl1]) | with_reducible refine And.intro ?_ ?_ | with_reducible exact okay_rfl rfl | with_reducible assumption | omega)
  refine W_seq (W_seq (?_))
  apply W_regS
  · intro K hK
    simp
    repeat' (first | with_reducible exact hK | (with_reducible refine goL_split (fun _ => ?_) (fun _ => ?_) <;> simp) | with_reducible refine And.intro ?_ ?_ | with_reducible exact okay_rfl rfl | with_reducible assumption | omega)
  refine W_cond rfl (fun hh0 => W_seq ?_) (fun hh0 => W_skip ?_)
  · apply W_regS
    · intro K hK
      simp
      repeat' (first | with_reducible exact hK | (with_reducible refine goL_split (fun _ => ?_) (fun _ => ?_) <;> simp) | with_reducible refine And.intro ?_ ?_ | with_reducible exact okay_rfl rfl | with_reducible assumption | omega)
    simp at hh0
    have : leftR co l = -1 := leftR_no (by omega)
    refine W_ret ?_
    simp [Fin, this]
    all_goals omega
  simp at hh0
  obtain ⟨l2, el2⟩ : ∃ z : Int, l1 - x.fPath.length = z := ⟨_, rfl⟩
  have wl2 : IntKind.i64.wrap (l1 - x.fPath.length) = l2 := by rw [wrap_id (by omega) (by omega)]; exact el2
  refine W_seq (?_)
  apply W_regS
  · intro K hK
    simp [wl2]
    repeat' (first | with_reducible exact hK | (with_reducible refine goL_split (fun _ => ?_) (fun _ => ?_) <;> simp [wl2]) | with_reducible refine And.intro ?_ ?_ | with_reducible exact okay_rfl rfl | with_reducible assumption | omega)
  refine W_seq (W_seq (?_))
  apply W_regS
  · intro K hK
    simp
    repeat' (first | with_reducible exact hK | (with_reducible refine goL_split (fun _ => ?_) (fun _ => ?_) <;> simp) | with_reducible refine And.intro ?_ ?_ | with_reducible exact okay_rfl rfl | with_reducible assumption | omega)
  refine W_cond rfl (fun hh1 => W_seq ?_) (fun hh1 => W_skip ?_)
  · apply W_regS
    · intro K hK
      simp
      repeat' (first | with_reducible exact hK | (with_reducible refine goL_split (fun _ => ?_) (fun _ => ?_) <;> simp) | with_reducible refine And.intro ?_ ?_ | with_reducible exact okay_rfl rfl | with_reducible assumption | omega)
    simp at hh1
    have : leftR co l = -1 := leftR_no (by omega)
    refine W_ret ?_
    simp [Fin, this]
    all_goals omega
  simp at hh1
  obtain ⟨l3, el3⟩ : ∃ z : Int, l2 - x.fData.length = z := ⟨_, rfl⟩
  have wl3 : IntKind.i64.wrap (l2 - x.fData.length) = l3 := by rw [wrap_id (by omega) (by omega)]; exact el3
  refine W_seq (?_)
  apply W_regS
  · intro K hK
    simp [wl3]
    repeat' (first | with_reducible exact hK | (with_reducible refine goL_split (fun _ => ?_) (fun _ => ?_) <;> simp [wl3]) | with_reducible refine And.intro ?_ ?_ | with_reducible exact okay_rfl rfl | with_reducible assumption | omega)
  refine W_seq (W_seq (?_))
  apply W_regS
  · intro K hK
    simp
    repeat' (first | with_reducible exact hK | (with_reducible refine goL_split (fun _ => ?_) (fun _ => ?_) <;> simp) | with_reducible refine And.intro ?_ ?_ | with_reducible exact okay_rfl rfl | with_reducible assumption | omega)
  refine W_cond rfl (fun hh2 => W_seq ?_) (fun hh2 => W_skip ?_)
  · apply W_regS
    · intro K hK
      simp
      repeat' (first | with_reducible exact hK | (with_reducible refine goL_split (fun _ => ?_) (fun _ => ?_) <;> simp) | with_reducible refine And.intro ?_ ?_ | with_reducible exact okay_rfl rfl | with_reducible assumption | omega)
    simp at hh2
    have : leftR co l = -1 := leftR_no (by omega)
    refine W_ret ?_
    simp [Fin, this]
    all_goals omega
  simp at hh2
  refine W_seq (?_)
  apply W_regS
  · intro K hK
    simp
    repeat' (first | with_reducible exact hK | (with_reducible refine goL_split (fun _ => ?_) (fun _ => ?_) <;> simp) | with_reducible refine And.intro ?_ ?_ | with_reducible exact okay_rfl rfl | with_reducible assumption | omega)
  have : leftR co l = l3 := by rw [leftR_yes (by omega)]; omega
  refine W_ret ?_
  simp [Fin, this]
  all_goals omega

theorem szReqS_g (a : List GReq) (l : Int) (hlen : a.length ≤ maxLen) (hx : ∀ x, x ∈ a → x.ok) (h0 : 0 ≤ l ∧ l ≤ 1048576) :
    Valid PP GG F_L_szReqS [.d (.slc 6 (rReq a)), .d (.int .i64 l)] (.d (.int .i64 (leftR (a.length + sumBy GReq.cost a) l))) [none, none] := by
  refine v_L_szReqS [.d (.int .i64 (leftR (a.length + sumBy GReq.cost a) l))] rfl rfl ?_
  unfold maxLen at hlen
  obtain ⟨m, hm⟩ : ∃ z : Int, l - a.length = z := ⟨_, rfl⟩
  have hw : IntKind.i64.wrap (l - a.length) = m := by rw [wrap_id (by omega) (by omega)]; exact hm
  refine W_seq (?_)
  apply W_regS
  · intro K hK
    simp
    repeat' (first | with_reducible exact hK | (with_reducible refine goL_split (fun _ => ?_) (fun _ => ?_) <;> simp) | with_reducible refine And.intro ?_ ?_ | with_reducible exact okay_rfl rfl | with_reducible assumption | omega)
  refine W_seq (?_)
  apply W_regS
  · intro K hK
    simp [hw]
    repeat' (first | with_reducible exact hK | (with_reducible refine goL_split (fun _ => ?_) (fun _ => ?_) <;> simp [hw]) | with_reducible refine And.intro ?_ ?_ | with_reducible exact okay_rfl rfl | with_reducible assumption | omega)
  refine W_seq (W_seq (?_))
  apply W_regS
  · intro K hK
    simp
    repeat' (first | with_reducible exact hK | (with_reducible refine goL_split (fun _ => ?_) (fun _ => ?_) <;> simp) | with_reducible refine And.intro ?_ ?_ | with_reducible exact okay_rfl rfl | with_reducible assumption | omega)
  refine W_cond rfl (fun h => W_seq ?_) (fun h => W_skip ?_)
  · apply W_regS
    · intro K hK
      simp
      repeat' (first | with_reducible exact hK | (with_reducible refine goL_split (fun _ => ?_) (fun _ => ?_) <;> simp) | with_reducible refine And.intro ?_ ?_ | with_reducible exact okay_rfl rfl | with_reducible assumption | omega)
    simp at h
    have : leftR (a.length + sumBy GReq.cost a) l = -1 := leftR_no (by omega)
    refine W_ret ?_
    simp [Fin, this]
    all_goals omega
  simp at h
  refine W_seq (W_seq (?_))
  apply W_regS
  · intro K hK
    simp
    repeat' (first | with_reducible exact hK | (with_reducible refine goL_split (fun _ => ?_) (fun _ => ?_) <;> simp) | with_reducible refine And.intro ?_ ?_ | with_reducible exact okay_rfl rfl | with_reducible assumption | omega)
  refine W_block (W_loop (fun n st => ∃ (i : Nat) (v : Int), n = a.length - i ∧ i ≤ a.length ∧ 0 ≤ v ∧ v = m - (sumBy GReq.cost (a.take i) : Nat) ∧
    st = ⟨[], [(0, .d (.slc 6 (rReq a))), (1, .d (.int .i64 v)), (5, .d (.int .i64 i))], [], 0⟩) _ ⟨0, m, rfl, by omega, h, by simp [sumBy], rfl⟩ ?_)
  rintro n st ⟨i, v, rfl, hi, hv, he, rfl⟩
  refine W_seq (W_seq (?_))
  apply W_regS
  · intro K hK
    simp
    repeat' (first | with_reducible exact hK | (with_reducible refine goL_split (fun _ => ?_) (fun _ => ?_) <;> simp) | with_reducible refine And.intro ?_ ?_ | with_reducible exact okay_rfl rfl | with_reducible assumption | omega)
  refine W_cond rfl (fun h2 => W_skip ?_) (fun h2 => W_exit ?_)
  · simp at h2
    have ha := List.getElem?_eq_getElem h2
    generalize a[i] = x at ha
    have hs := sumBy_succ (f := GReq.cost) ha
    have ht := sumBy_take GReq.cost a (i + 1)
    have ct := szReq_g (GG := GG) x v (hx x (List.mem_of_getElem? ha)) ⟨hv, by omega⟩
    obtain ⟨v2, hv2⟩ : ∃ z : Int, leftR x.cost v = z := ⟨_, rfl⟩
    rw [hv2] at ct
    refine W_seq (W_block (W_seq ?_))
    apply W_regS
    · intro K hK
      simp [ha]
      repeat' (first | with_reducible exact hK | (with_reducible refine callQ (ct) ?_; simp [ha]) | (with_reducible refine goL_split (fun _ => ?_) (fun _ => ?_) <;> simp [ha]) | with_reducible refine And.intro ?_ ?_ | with_reducible exact okay_rfl rfl | with_reducible assumption | omega)
    refine W_seq (?_)
    apply W_regS
    · intro K hK
      simp
      repeat' (first | with_reducible exact hK | (with_reducible refine goL_split (fun _ => ?_) (fun _ => ?_) <;> simp) | with_reducible refine And.intro ?_ ?_ | with_reducible exact okay_rfl rfl | with_reducible assumption | omega)
    refine W_cond rfl (fun h3 => W_seq ?_) (fun h3 => W_skip ?_)
    · apply W_regS
      · intro K hK
        simp
        repeat' (first | with_reducible exact hK | (with_reducible refine goL_split (fun _ => ?_) (fun _ => ?_) <;> simp) | with_reducible refine And.intro ?_ ?_ | with_reducible exact okay_rfl rfl | with_reducible assumption | omega)
      simp at h3
      rw [← hv2] at h3
      have hn := leftR_neg (by omega) h3
      have : leftR (a.length + sumBy GReq.cost a) l = -1 := leftR_no (by omega)
      refine W_ret ?_
      simp [Fin, this]
      all_goals omega
    simp at h3
    rw [← hv2] at h3
    obtain ⟨g1, g2⟩ := leftR_pos (Int.not_lt.2 h3)
    rw [hv2] at g2
    apply W_regS
    · intro K hK
      simp
      repeat' (first | with_reducible exact hK | (with_reducible refine goL_split (fun _ => ?_) (fun _ => ?_) <;> simp) | with_reducible refine And.intro ?_ ?_ | with_reducible exact okay_rfl rfl | with_reducible assumption | omega)
    exact ⟨a.length - (i + 1), by omega, i + 1, v2, rfl, h2, by omega, by omega, by simp [gc, closeN, liveA, gcV, gcO, renA, namesAs, namesA]; rw [wrap_id (by omega) (by omega)]⟩
  · simp at h2
    rw [if_pos rfl]
    rw [List.take_of_length_le h2] at he
    refine W_seq (?_)
    apply W_regS
    · intro K hK
      simp
      repeat' (first | with_reducible exact hK | (with_reducible refine goL_split (fun _ => ?_) (fun _ => ?_) <;> simp) | with_reducible refine And.intro ?_ ?_ | with_reducible exact okay_rfl rfl | with_reducible assumption | omega)
    have : leftR (a.length + sumBy GReq.cost a) l = v := by rw [leftR_yes (by omega)]; omega
    refine W_ret ?_
    simp [Fin, this]
    all_goals omega

theorem toReq_g (x : GReq) (hx : x.cost ≤ 1099511627776) : Valid PP GG F_L_toReq [.agg x.c] (.agg x.o) [none] := by
  refine v_L_toReq [.agg x.o] rfl rfl ?_
  have hco : x.cost = x.fName.length + x.fPath.length + x.fData.length := rfl
  refine W_seq (?_)
  apply W_regS
  · intro K hK
    simp
    repeat' (first | with_reducible exact hK | (with_reducible refine goL_split (fun _ => ?_) (fun _ => ?_) <;> simp) | with_reducible refine And.intro ?_ ?_ | with_reducible exact okay_rfl rfl | with_reducible assumption | omega)
  refine W_seq (?_)
  apply W_regS
  · intro K hK
    simp
    repeat' (first | with_reducible exact hK | (with_reducible refine goL_split (fun _ => ?_) (fun _ => ?_) <;> simp) | with_reducible refine And.intro ?_ ?_ | with_reducible exact okay_rfl rfl | with_reducible assumption | omega)
  refine W_seq (?_)
  apply W_regS
  · intro K hK
    simp
    repeat' (first | with_reducible exact hK | (with_reducible refine goL_split (fun _ => ?_) (fun _ => ?_) <;> simp) | with_reducible refine And.intro ?_ ?_ | with_reducible exact okay_rfl rfl | with_reducible assumption | omega)
  refine W_seq (?_)
  apply W_regS
  · intro K hK
    simp
    repeat' (first | with_reducible exact hK | (with_reducible refine goL_split (fun _ => ?_) (fun _ => ?_) <;> simp) | with_reducible refine And.intro ?_ ?_ | with_reducible exact okay_rfl rfl | with_reducible assumption | omega)
  refine W_seq (?_)
  apply W_regS
  · intro K hK
    simp
    repeat' (first | with_reducible exact hK | (with_reducible refine goL_split (fun _ => ?_) (fun _ => ?_) <;> simp) | with_reducible refine And.intro ?_ ?_ | with_reducible exact okay_rfl rfl | with_reducible assumption | omega)
  refine W_seq (?_)
  apply W_regS
  · intro K hK
    simp
    repeat' (first | with_reducible exact hK | (with_reducible refine goL_split (fun _ => ?_) (fun _ => ?_) <;> simp) | with_reducible refine And.intro ?_ ?_ | with_reducible exact okay_rfl rfl | with_reducible assumption | omega)
  refine W_seq (?_)
  apply W_regS
  · intro K hK
    simp
    repeat' (first | with_reducible exact hK | (with_reducible refine goL_split (fun _ => ?_) (fun _ => ?_) <;> simp) | with_reducible refine And.intro ?_ ?_ | with_reducible exact okay_rfl rfl | with_reducible assumption | omega)
  refine W_seq (?_)
  apply W_regS
  · intro K hK
    simp
    repeat' (first | with_reducible exact hK | (with_reducible refine goL_split (fun _ => ?_) (fun _ => ?_) <;> simp) | with_reducible refine And.intro ?_ ?_ | with_reducible exact okay_rfl rfl | with_reducible assumption | omega)
  refine W_seq (?_)
  apply W_regS
  · intro K hK
    simp
    repeat' (first | with_reducible exact hK | (with_reducible refine goL_split (fun _ => ?_) (fun _ => ?_) <;> simp) | with_reducible refine And.intro ?_ ?_ | with_reducible exact okay_rfl rfl | with_reducible assumption | omega)
  refine W_ret ?_
  simp [Fin]
  all_goals omega

theorem toReqS_g (a : List GReq) (hx : a.length + sumBy GReq.cost a ≤ 1099511627776) : Valid PP GG F_L_toReqS [.d (.slc 6 (rReq a))] (.own 0 6 (rReq a)) [none] := by
  refine v_L_toReqS [.own 0 6 (rReq a)] rfl rfl ?_
  refine W_seq (?_)
  apply W_regS
  · intro K hK
    simp
    repeat' (first | with_reducible exact hK | (with_reducible refine goL_split (fun _ => ?_) (fun _ => ?_) <;> simp) | with_reducible refine And.intro ?_ ?_ | with_reducible exact okay_rfl rfl | with_reducible assumption | omega)
  refine W_seq (?_)
  apply W_regS
  · intro K hK
    simp [mkA, limit]
    repeat' (first | with_reducible exact hK | (with_reducible refine goL_split (fun _ => ?_) (fun _ => ?_) <;> simp [mkA, limit]) | with_reducible refine And.intro ?_ ?_ | with_reducible exact okay_rfl rfl | with_reducible assumption | omega)
  refine W_seq (W_seq (?_))
  apply W_regS
  · intro K hK
    simp
    repeat' (first | with_reducible exact hK | (with_reducible refine goL_split (fun _ => ?_) (fun _ => ?_) <;> simp) | with_reducible refine And.intro ?_ ?_ | with_reducible exact okay_rfl rfl | with_reducible assumption | omega)
  refine W_block (W_loop (fun n st => ∃ (i : Nat) (R : List (List D)), n = a.length - i ∧ i ≤ a.length ∧ R.length = a.length ∧ (∀ r, r ∈ R → r.length = 6) ∧ R.take i = rReq (a.take i) ∧
    st = ⟨[], [(0, .d (.slc 6 (rReq a))), (3, .sl 0), (4, .d (.int .i64 i))], [(0, .arr 0 0 6 R)], 1⟩) _ ⟨0, List.replicate a.length [.int .i64 0, .int .i64 0, .str [], .str [], .str [], .int .i64 0], rfl, by omega, by simp, by intro r hr; rw [List.eq_of_mem_replicate hr]; rfl, rfl, rfl⟩ ?_)
  rintro n st ⟨i, R, rfl, hi, hl, h1, hR, rfl⟩
  refine W_seq (W_seq (?_))
  apply W_regS
  · intro K hK
    simp
    repeat' (first | with_reducible exact hK | (with_reducible refine goL_split (fun _ => ?_) (fun _ => ?_) <;> simp) | with_reducible refine And.intro ?_ ?_ | with_reducible exact okay_rfl rfl | with_reducible assumption | omega)
  refine W_cond rfl (fun h => W_skip ?_) (fun h => W_exit ?_)
  · simp at h
    have ha := List.getElem?_eq_getElem h
    generalize a[i] = x at ha
    have hg := sumBy_get (f := GReq.cost) ha
    obtain ⟨y0, y1, y2, y3, y4, y5, hd⟩ := rows6 h1 (show i < R.length by omega)
    refine W_seq (W_block ?_)
    apply W_regS
    · intro K hK
      simp [ha, hd, hl]
      repeat' (first | with_reducible exact hK | (with_reducible refine callQ (toReq_g x (by omega)) ?_; simp [ha, hd, hl]) | (with_reducible refine goL_split (fun _ => ?_) (fun _ => ?_) <;> simp [ha, hd, hl]) | with_reducible refine And.intro ?_ ?_ | with_reducible exact okay_rfl rfl | with_reducible assumption | omega)
    apply W_regS
    · intro K hK
      simp
      repeat' (first | with_reducible exact hK | (with_reducible refine goL_split (fun _ => ?_) (fun _ => ?_) <;> simp) | with_reducible refine And.intro ?_ ?_ | with_reducible exact okay_rfl rfl | with_reducible assumption | omega)
    exact ⟨a.length - (i + 1), by omega, i + 1, R.set i x.row, rfl, h, by simpa using hl, set6 h1 rfl, by rw [take_set_succ (by omega), hR, List.take_add_one, ha, rReq_app]; rfl,
      by simp [gc, closeN, liveA, gcV, gcO, renA, renO, namesAs, namesA, namesO, posn]; rw [wrap_id (by omega) (by omega)]⟩
  · simp at h
    have e : R = rReq a := by rwa [List.take_of_length_le (by omega), List.take_of_length_le (by omega)] at hR
    subst e
    rw [if_pos rfl]
    refine W_seq (?_)
    apply W_regS
    · intro K hK
      simp
      repeat' (first | with_reducible exact hK | (with_reducible refine goL_split (fun _ => ?_) (fun _ => ?_) <;> simp) | with_reducible refine And.intro ?_ ?_ | with_reducible exact okay_rfl rfl | with_reducible assumption | omega)
    refine W_ret ?_
    simp [Fin]
    all_goals omega

theorem eqReq_g (x y : GReq) (hx : x.cost ≤ 1099511627776) (hy : y.cost ≤ 1099511627776) : Valid PP GG F_L_eqReq [.agg x.c, .agg y.c] (.d (.bool (decide (x = y)))) [none, none] := by
  refine v_L_eqReq [.d (.bool (decide (x = y)))] rfl rfl ?_
  have hcx : x.cost = x.fName.length + x.fPath.length + x.fData.length := rfl
  have hcy : y.cost = y.fName.length + y.fPath.length + y.fData.length := rfl
  refine W_seq (?_)
  apply W_regS
  · intro K hK
    simp
    repeat' (first | with_reducible exact hK | (with_reducible refine goL_split (fun _ => ?_) (fun _ => ?_) <;> simp) | with_reducible refine And.intro ?_ ?_ | with_reducible exact okay_rfl rfl | with_reducible assumption | omega)
  refine W_seq (W_seq (?_))
  apply W_regS
  · intro K hK
    simp
    repeat' (first | with_reducible exact hK | (with_reducible refine goL_split (fun _ => ?_) (fun _ => ?_) <;> simp) | with_reducible refine And.intro ?_ ?_ | with_reducible exact okay_rfl rfl | with_reducible assumption | omega)
  refine W_cond rfl (fun h => W_seq ?_) (fun h0 => W_skip ?_)
  · apply W_regS
    · intro K hK
      simp
      repeat' (first | with_reducible exact hK | (with_reducible refine goL_split (fun _ => ?_) (fun _ => ?_) <;> simp) | with_reducible refine And.intro ?_ ?_ | with_reducible exact okay_rfl rfl | with_reducible assumption | omega)
    have : decide (x = y) = false := by rw [decide_eq_false_iff_not]; intro e; rw [e] at h; simp at h
    refine W_ret ?_
    simp [Fin, this]
    all_goals omega
  refine W_seq (W_seq (?_))
  apply W_regS
  · intro K hK
    simp
    repeat' (first | with_reducible exact hK | (with_reducible refine goL_split (fun _ => ?_) (fun _ => ?_) <;> simp) | with_reducible refine And.intro ?_ ?_ | with_reducible exact okay_rfl rfl | with_reducible assumption | omega)
  refine W_cond rfl (fun h => W_seq ?_) (fun h1 => W_skip ?_)
  · apply W_regS
    · intro K hK
      simp
      repeat' (first | with_reducible exact hK | (with_reducible refine goL_split (fun _ => ?_) (fun _ => ?_) <;> simp) | with_reducible refine And.intro ?_ ?_ | with_reducible exact okay_rfl rfl | with_reducible assumption | omega)
    have : decide (x = y) = false := by rw [decide_eq_false_iff_not]; intro e; rw [e] at h; simp at h
    refine W_ret ?_
    simp [Fin, this]
    all_goals omega
  refine W_seq (W_seq (?_))
  apply W_regS
  · intro K hK
    simp
    repeat' (first | with_reducible exact hK | (with_reducible refine goL_split (fun _ => ?_) (fun _ => ?_) <;> simp) | with_reducible refine And.intro ?_ ?_ | with_reducible exact okay_rfl rfl | with_reducible assumption | omega)
  refine W_cond rfl (fun h => W_seq ?_) (fun h2 => W_skip ?_)
  · apply W_regS
    · intro K hK
      simp
      repeat' (first | with_reducible exact hK | (with_reducible refine goL_split (fun _ => ?_) (fun _ => ?_) <;> simp) | with_reducible refine And.intro ?_ ?_ | with_reducible exact okay_rfl rfl | with_reducible assumption | omega)
    have : decide (x = y) = false := by rw [decide_eq_false_iff_not]; intro e; rw [e] at h; simp at h
    refine W_ret ?_
    simp [Fin, this]
    all_goals omega
  refine W_seq (W_seq (?_))
  apply W_regS
  · intro K hK
    simp
    repeat' (first | with_reducible exact hK | (with_reducible refine goL_split (fun _ => ?_) (fun _ => ?_) <;> simp) | with_reducible refine And.intro ?_ ?_ | with_reducible exact okay_rfl rfl | with_reducible assumption | omega)
  refine W_cond rfl (fun h => W_seq ?_) (fun h3 => W_skip ?_)
  · apply W_regS
    · intro K hK
      simp
      repeat' (first | with_reducible exact hK | (with_reducible refine goL_split (fun _ => ?_) (fun _ => ?_) <;> simp) | with_reducible refine And.intro ?_ ?_ | with_reducible exact okay_rfl rfl | with_reducible assumption | omega)
    have : decide (x = y) = false := by rw [decide_eq_false_iff_not]; intro e; rw [e] at h; simp at h
    refine W_ret ?_
    simp [Fin, this]
    all_goals omega
  refine W_seq (W_seq (?_))
  apply W_regS
  · intro K hK
    simp
    repeat' (first | with_reducible exact hK | (with_reducible refine goL_split (fun _ => ?_) (fun _ => ?_) <;> simp) | with_reducible refine And.intro ?_ ?_ | with_reducible exact okay_rfl rfl | with_reducible assumption | omega)
  refine W_cond rfl (fun h => W_seq ?_) (fun h4 => W_skip ?_)
  · apply W_regS
    · intro K hK
      simp
      repeat' (first | with_reducible exact hK | (with_reducible refine goL_split (fun _ => ?_) (fun _ => ?_) <;> simp) | with_reducible refine And.intro ?_ ?_ | with_reducible exact okay_rfl rfl | with_reducible assumption | omega)
    have : decide (x = y) = false := by rw [decide_eq_false_iff_not]; intro e; rw [e] at h; simp at h
    refine W_ret ?_
    simp [Fin, this]
    all_goals omega
  refine W_seq (W_seq (?_))
  apply W_regS
  · intro K hK
    simp
    repeat' (first | with_reducible exact hK | (with_reducible refine goL_split (fun _ => ?_) (fun _ => ?_) <;> simp) | with_reducible refine And.intro ?_ ?_ | with_reducible exact okay_rfl rfl | with_reducible assumption | omega)
  refine W_cond rfl (fun h => W_seq ?_) (fun h5 => W_skip ?_)
  · apply W_regS
    · intro K hK
      simp
      repeat' (first | with_reducible exact hK | (with_reducible refine goL_split (fun _ => ?_) (fun _ => ?_) <;> simp) | with_reducible refine And.intro ?_ ?_ | with_reducible exact okay_rfl rfl | with_reducible assumption | omega)
    have : decide (x = y) = false := by rw [decide_eq_false_iff_not]; intro e; rw [e] at h; simp at h
    refine W_ret ?_
    simp [Fin, this]
    all_goals omega
  refine W_seq (?_)
  apply W_regS
  · intro K hK
    simp
    repeat' (first | with_reducible exact hK | (with_reducible refine goL_split (fun _ => ?_) (fun _ => ?_) <;> simp) | with_reducible refine And.intro ?_ ?_ | with_reducible exact okay_rfl rfl | with_reducible assumption | omega)
  have : decide (x = y) = true := by
    rw [decide_eq_true_iff]
    cases x; cases y
    simp at h0 h1 h2 h3 h4 h5
    simp_all
  refine W_ret ?_
  simp [Fin, this]
  all_goals omega

theorem eqReqS_g (a b : List GReq) (hx : a.length + sumBy GReq.cost a ≤ 1099511627776) (hy : b.length + sumBy GReq.cost b ≤ 1099511627776) : Valid PP GG F_L_eqReqS [.d (.slc 6 (rReq a)), .d (.slc 6 (rReq b))] (.d (.bool (decide (a = b)))) [none, none] := by
  refine v_L_eqReqS [.d (.bool (decide (a = b)))] rfl rfl ?_
  refine W_seq (?_)
  apply W_regS
  · intro K hK
    simp
    repeat' (first | with_reducible exact hK | (with_reducible refine goL_split (fun _ => ?_) (fun _ => ?_) <;> simp) | with_reducible refine And.intro ?_ ?_ | with_reducible exact okay_rfl rfl | with_reducible assumption | omega)
  refine W_seq (W_seq (?_))
  apply W_regS
  · intro K hK
    simp
    repeat' (first | with_reducible exact hK | (with_reducible refine goL_split (fun _ => ?_) (fun _ => ?_) <;> simp) | with_reducible refine And.intro ?_ ?_ | with_reducible exact okay_rfl rfl | with_reducible assumption | omega)
  refine W_cond rfl (fun h => W_seq ?_) (fun hlen => W_skip ?_)
  · apply W_regS
    · intro K hK
      simp
      repeat' (first | with_reducible exact hK | (with_reducible refine goL_split (fun _ => ?_) (fun _ => ?_) <;> simp) | with_reducible refine And.intro ?_ ?_ | with_reducible exact okay_rfl rfl | with_reducible assumption | omega)
    have : decide (a = b) = false := by rw [decide_eq_false_iff_not]; intro e; subst e; simp at h
    refine W_ret ?_
    simp [Fin, this]
    all_goals omega
  refine W_seq (W_seq (?_))
  simp at hlen
  apply W_regS
  · intro K hK
    simp
    repeat' (first | with_reducible exact hK | (with_reducible refine goL_split (fun _ => ?_) (fun _ => ?_) <;> simp) | with_reducible refine And.intro ?_ ?_ | with_reducible exact okay_rfl rfl | with_reducible assumption | omega)
  refine W_block (W_loop (fun n st => ∃ i : Nat, n = a.length - i ∧ i ≤ a.length ∧ a.take i = b.take i ∧ st = ⟨[], [(0, .d (.slc 6 (rReq a))), (1, .d (.slc 6 (rReq b))), (5, .d (.int .i64 i))], [], 0⟩) _ ⟨0, rfl, by omega, rfl, rfl⟩ ?_)
  rintro n st ⟨i, rfl, hi, he, rfl⟩
  refine W_seq (W_seq (?_))
  apply W_regS
  · intro K hK
    simp
    repeat' (first | with_reducible exact hK | (with_reducible refine goL_split (fun _ => ?_) (fun _ => ?_) <;> simp) | with_reducible refine And.intro ?_ ?_ | with_reducible exact okay_rfl rfl | with_reducible assumption | omega)
  refine W_cond rfl (fun h => W_skip ?_) (fun h => W_exit ?_)
  · simp at h
    have ha := List.getElem?_eq_getElem h
    have hb := List.getElem?_eq_getElem (show i < b.length by omega)
    generalize a[i] = x at ha
    generalize b[i]'_ = y at hb
    have ga := sumBy_get (f := GReq.cost) ha
    have gb := sumBy_get (f := GReq.cost) hb
    refine W_seq (W_block (W_seq ?_))
    apply W_regD
    · intro K hK
      simp [ha, hb]
      repeat' (first | with_reducible exact hK | (with_reducible refine callQ (eqReq_g x y (by omega) (by omega)) ?_; simp [ha, hb]) | (with_reducible refine goL_split (fun _ => ?_) (fun _ => ?_) <;> simp [ha, hb]) | with_reducible refine And.intro ?_ ?_ | with_reducible exact okay_rfl rfl | with_reducible assumption | omega)
    refine W_cond rfl (fun h2 => W_seq ?_) (fun h2 => W_skip ?_)
    · apply W_regS
      · intro K hK
        simp
        repeat' (first | with_reducible exact hK | (with_reducible refine goL_split (fun _ => ?_) (fun _ => ?_) <;> simp) | with_reducible refine And.intro ?_ ?_ | with_reducible exact okay_rfl rfl | with_reducible assumption | omega)
      have : decide (a = b) = false := by rw [decide_eq_false_iff_not]; intro e; subst e; rw [ha] at hb; cases hb; simp at h2
      refine W_ret ?_
      simp [Fin, this]
      all_goals omega
    apply W_regS
    · intro K hK
      simp
      repeat' (first | with_reducible exact hK | (with_reducible refine goL_split (fun _ => ?_) (fun _ => ?_) <;> simp) | with_reducible refine And.intro ?_ ?_ | with_reducible exact okay_rfl rfl | with_reducible assumption | omega)
    have hxy : x = y := by simpa using h2
    subst hxy
    exact ⟨a.length - (i + 1), by omega, i + 1, rfl, h, take_succ_eq he ha hb, by simp [gc, closeN, liveA, gcV, gcO, renA, namesAs, namesA]; rw [wrap_id (by omega) (by omega)]⟩
  · simp at h
    rw [if_pos rfl]
    refine W_seq (?_)
    apply W_regS
    · intro K hK
      simp
      repeat' (first | with_reducible exact hK | (with_reducible refine goL_split (fun _ => ?_) (fun _ => ?_) <;> simp) | with_reducible refine And.intro ?_ ?_ | with_reducible exact okay_rfl rfl | with_reducible assumption | omega)
    have : decide (a = b) = true := by
      rw [decide_eq_true_iff]
      rwa [List.take_of_length_le h, List.take_of_length_le (by omega)] at he
    refine W_ret ?_
    simp [Fin, this]
    all_goals omega

def headCons (b : UInt8) : List (List UInt8) → List (List UInt8)
  | [] => []
  | p :: ps => (b :: p) :: ps

def headApp (c : List UInt8) : List (List UInt8) → List (List UInt8)
  | [] => []
  | p :: ps => (c ++ p) :: ps

/-- A text cut at each byte c. -/
def cutAt (c : UInt8) : List UInt8 → List (List UInt8)
  | [] => [[]]
  | b :: r => if b = c then [] :: cutAt c r else headCons b (cutAt c r)

theorem cutAt_ne (c : UInt8) (s : List UInt8) : ∃ p ps, cutAt c s = p :: ps := by
  induction s with
  | nil => exact ⟨_, _, rfl⟩
  | cons b r ih =>
    obtain ⟨p, ps, h⟩ := ih
    unfold cutAt
    split
    · exact ⟨_, _, rfl⟩
    · rw [h]; exact ⟨_, _, rfl⟩

theorem headApp_nil (c : UInt8) (s : List UInt8) : headApp [] (cutAt c s) = cutAt c s := by
  obtain ⟨p, ps, h⟩ := cutAt_ne c s
  rw [h]; rfl

theorem headApp_hit (c : UInt8) (cur r : List UInt8) : headApp cur (cutAt c (c :: r)) = cur :: headApp [] (cutAt c r) := by
  rw [headApp_nil, cutAt, if_pos rfl]; simp [headApp]

theorem headApp_miss {c b : UInt8} (h : b ≠ c) (cur r : List UInt8) : headApp cur (cutAt c (b :: r)) = headApp (cur ++ [b]) (cutAt c r) := by
  obtain ⟨p, ps, e⟩ := cutAt_ne c r
  rw [cutAt, if_neg h, e]; simp [headCons, headApp]

theorem cutAt_len (c : UInt8) (s : List UInt8) : (cutAt c s).length ≤ s.length + 1 := by
  induction s with
  | nil => simp [cutAt]
  | cons b r ih =>
    unfold cutAt
    split
    · simp; exact ih
    · obtain ⟨p, ps, e⟩ := cutAt_ne c r
      rw [e] at ih ⊢
      simp [headCons] at ih ⊢; omega

theorem cutAt_mem {c : UInt8} : ∀ (s : List UInt8) {p : List UInt8}, p ∈ cutAt c s → p.length ≤ s.length := by
  intro s
  induction s with
  | nil => intro p h; simp [cutAt] at h; subst h; simp
  | cons b r ih =>
    intro p h
    unfold cutAt at h
    split at h
    · rcases List.mem_cons.1 h with rfl | h
      · simp
      · have := ih h; simp; omega
    · obtain ⟨q, qs, e⟩ := cutAt_ne c r
      rw [e] at h ih
      simp only [headCons] at h
      rcases List.mem_cons.1 h with rfl | h
      · have := ih (List.mem_cons_self ..); simp; omega
      · have := ih (List.mem_cons_of_mem _ h); simp; omega

theorem take_all {α : Type} {p : α → Prop} {l : List α} {i : Nat} {x : α} (ha : l[i]? = some x) (hn : ∀ y, y ∈ l.take i → p y) (hx : p x) : ∀ y, y ∈ l.take (i + 1) → p y := by
  intro y hy
  rw [List.take_add_one, ha] at hy
  rcases List.mem_append.1 hy with hy | hy
  · exact hn y hy
  · simp at hy; subst hy; exact hx

theorem getD_of {s : List UInt8} {i : Nat} {x : UInt8} (h : s[i]? = some x) : s[i]?.getD 0 = x := by rw [h]; rfl

theorem take_drop_snoc {s : List UInt8} {a i : Nat} {x : UInt8} (h : s[i]? = some x) (ha : a ≤ i) : (s.take (i + 1)).drop a = (s.take i).drop a ++ [x] := by
  have hl := (List.getElem?_eq_some_iff.1 h).1
  rw [List.take_add_one, h, List.drop_append_of_le_length (by rw [List.length_take]; omega)]; rfl

theorem l01Parts_ok (s : List UInt8) (c : UInt8) (hs : s.length ≤ 4194304) : Valid PP GG F_S_l01Parts [.d (.str s), .d (.int .u8 c.toNat)] (.own 0 1 (strsD (cutAt c s))) [none, none] := by
  refine v_S_l01Parts [.own 0 1 (strsD (cutAt c s))] rfl rfl ?_
  refine W_seq (?_)
  apply W_regS
  · intro K hK
    simp
    repeat' (first | with_reducible exact hK | (with_reducible refine goL_split (fun _ => ?_) (fun _ => ?_) <;> simp) | with_reducible refine And.intro ?_ ?_ | with_reducible exact okay_rfl rfl | with_reducible assumption | omega)
  refine W_seq (?_)
  apply W_regS
  · intro K hK
    simp [litA]
    repeat' (first | with_reducible exact hK | (with_reducible refine goL_split (fun _ => ?_) (fun _ => ?_) <;> simp [litA]) | with_reducible refine And.intro ?_ ?_ | with_reducible exact okay_rfl rfl | with_reducible assumption | omega)
  refine W_seq (?_)
  apply W_regS
  · intro K hK
    simp
    repeat' (first | with_reducible exact hK | (with_reducible refine goL_split (fun _ => ?_) (fun _ => ?_) <;> simp) | with_reducible refine And.intro ?_ ?_ | with_reducible exact okay_rfl rfl | with_reducible assumption | omega)
  refine W_seq (W_seq (?_))
  apply W_regS
  · intro K hK
    simp
    repeat' (first | with_reducible exact hK | (with_reducible refine goL_split (fun _ => ?_) (fun _ => ?_) <;> simp) | with_reducible refine And.intro ?_ ?_ | with_reducible exact okay_rfl rfl | with_reducible assumption | omega)
  refine W_block (W_loop (fun n st => ∃ (i a : Nat) (o : List (List UInt8)), n = s.length + 1 - i ∧ o.length ≤ i ∧ a ≤ i ∧ (i ≤ s.length ∧ cutAt c s = o ++ headApp ((s.take i).drop a) (cutAt c (s.drop i)) ∨ i = s.length + 1 ∧ cutAt c s = o) ∧
    st = ⟨[], [(0, .d (.str s)), (1, .d (.int .u8 c.toNat)), (5, .sl 0), (6, .d (.int .i64 a)), (7, .d (.int .i64 i))], [(0, .arr 0 0 1 (strsD o))], 1⟩) _ ⟨0, 0, [], rfl, by simp, by omega, .inl ⟨by omega, by simp [headApp_nil]⟩, rfl⟩ ?_)
  rintro n st ⟨i, a, o, rfl, hol, hai, hinv, rfl⟩
  refine W_seq (W_seq (?_))
  apply W_regS
  · intro K hK
    simp
    repeat' (first | with_reducible exact hK | (with_reducible refine goL_split (fun _ => ?_) (fun _ => ?_) <;> simp) | with_reducible refine And.intro ?_ ?_ | with_reducible exact okay_rfl rfl | with_reducible assumption | omega)
  refine W_cond rfl (fun h => W_skip ?_) (fun h => W_exit ?_)
  · rw [h]
    simp at h
    obtain ⟨_, hcut⟩ := hinv.resolve_right (by omega)
    clear hinv
    have hw : IntKind.i64.wrap ((i : Int) + 1) = ((i + 1 : Nat) : Int) := by rw [wrap_id (by omega) (by omega)]; omega
    have t1 : ((a : Int)).toNat = a := by omega
    have t2 : ((i : Int)).toNat = i := by omega
    refine W_seq (W_block (W_seq ?_))
    by_cases hend : i = s.length
    · subst hend
      refine W_regB 25 (true) (fun K hK => ?_) ?_
      · simp
        repeat' (first | exact hK _ _ (by clear hK; first | omega | (exact decide_eq_false (by omega)) | (exact decide_eq_true (by omega)) | (exact (decide_eq_true (by omega)).symm) | (exact (decide_eq_false (by omega)).symm) | (exact decide_eq_decide.2 (by omega)) | (simp only [← decide_not]; exact decide_eq_decide.2 (by omega)) | (simp [*]; done) | (simp [*]; omega) | (simp_all; done) | (simp_all; omega) | (rw [Bool.eq_iff_iff]; simp at *; omega)) | (with_reducible refine goL_split (fun _ => ?_) (fun _ => ?_) <;> simp) | with_reducible refine And.intro ?_ ?_ | with_reducible exact okay_rfl rfl | with_reducible assumption | omega)
      refine W_cond rfl (fun h2 => W_seq ?_) (fun h2 => ?_)
      rotate_left
      · cases h2
      apply W_regS
      · intro K hK
        simp [t1, t2, limit]
        repeat' (first | with_reducible exact hK | (with_reducible refine goL_split (fun _ => ?_) (fun _ => ?_) <;> simp [t1, t2, limit]) | with_reducible refine And.intro ?_ ?_ | with_reducible exact okay_rfl rfl | with_reducible assumption | omega)
      apply W_regS
      · intro K hK
        simp [hw]
        repeat' (first | with_reducible exact hK | (with_reducible refine goL_split (fun _ => ?_) (fun _ => ?_) <;> simp [hw]) | with_reducible refine And.intro ?_ ?_ | with_reducible exact okay_rfl rfl | with_reducible assumption | omega)
      apply W_regS
      · intro K hK
        simp [hw]
        repeat' (first | with_reducible exact hK | (with_reducible refine goL_split (fun _ => ?_) (fun _ => ?_) <;> simp [hw]) | with_reducible refine And.intro ?_ ?_ | with_reducible exact okay_rfl rfl | with_reducible assumption | omega)
      refine ⟨s.length + 1 - (s.length + 1), by omega, s.length + 1, s.length + 1, o ++ [(s.take s.length).drop a], rfl, by simp; omega, by omega, .inr ⟨by omega, ?_⟩, by simp [gc, closeN, liveA, gcV, gcO, renA, renO, namesAs, namesA, namesO, posn, strsD]⟩
      rw [hcut, List.drop_length]
      simp [cutAt, headApp]
    · have ha := List.getElem?_eq_getElem (show i < s.length by omega)
      generalize s[i]'_ = x at ha
      have hd := getD_of ha
      have hdr := drop_get ha
      by_cases hx : x = c
      · subst hx
        refine W_regB 25 (true) (fun K hK => ?_) ?_
        · simp [hd]
          repeat' (first | exact hK _ _ (by clear hK; first | omega | (exact decide_eq_false (by omega)) | (exact decide_eq_true (by omega)) | (exact (decide_eq_true (by omega)).symm) | (exact (decide_eq_false (by omega)).symm) | (exact decide_eq_decide.2 (by omega)) | (simp only [← decide_not]; exact decide_eq_decide.2 (by omega)) | (simp [*]; done) | (simp [*]; omega) | (simp_all; done) | (simp_all; omega) | (rw [Bool.eq_iff_iff]; simp at *; omega)) | (with_reducible refine goL_split (fun _ => ?_) (fun _ => ?_) <;> simp [hd]) | with_reducible refine And.intro ?_ ?_ | with_reducible exact okay_rfl rfl | with_reducible assumption | omega)
        refine W_cond rfl (fun h2 => W_seq ?_) (fun h2 => ?_)
        rotate_left
        · cases h2
        apply W_regS
        · intro K hK
          simp [t1, t2, limit]
          repeat' (first | with_reducible exact hK | (with_reducible refine goL_split (fun _ => ?_) (fun _ => ?_) <;> simp [t1, t2, limit]) | with_reducible refine And.intro ?_ ?_ | with_reducible exact okay_rfl rfl | with_reducible assumption | omega)
        apply W_regS
        · intro K hK
          simp [hw]
          repeat' (first | with_reducible exact hK | (with_reducible refine goL_split (fun _ => ?_) (fun _ => ?_) <;> simp [hw]) | with_reducible refine And.intro ?_ ?_ | with_reducible exact okay_rfl rfl | with_reducible assumption | omega)
        apply W_regS
        · intro K hK
          simp [hw]
          repeat' (first | with_reducible exact hK | (with_reducible refine goL_split (fun _ => ?_) (fun _ => ?_) <;> simp [hw]) | with_reducible refine And.intro ?_ ?_ | with_reducible exact okay_rfl rfl | with_reducible assumption | omega)
        refine ⟨s.length + 1 - (i + 1), by omega, i + 1, i + 1, o ++ [(s.take i).drop a], rfl, by simp; omega, by omega, .inl ⟨by omega, ?_⟩, by simp [gc, closeN, liveA, gcV, gcO, renA, renO, namesAs, namesA, namesO, posn, strsD]⟩
        have hnil : (s.take (i + 1)).drop (i + 1) = [] := List.drop_eq_nil_of_le (by rw [List.length_take]; omega)
        rw [hcut, hdr, headApp_hit, hnil]
        simp
      · have hx2 : x.toNat ≠ c.toNat := fun e => hx (UInt8.toNat_inj.1 e)
        refine W_regB 25 (false) (fun K hK => ?_) ?_
        · simp [hd]
          repeat' (first | exact hK _ _ (by clear hK; first | omega | (exact decide_eq_false (by omega)) | (exact decide_eq_true (by omega)) | (exact (decide_eq_true (by omega)).symm) | (exact (decide_eq_false (by omega)).symm) | (exact decide_eq_decide.2 (by omega)) | (simp only [← decide_not]; exact decide_eq_decide.2 (by omega)) | (simp [*]; done) | (simp [*]; omega) | (simp_all; done) | (simp_all; omega) | (rw [Bool.eq_iff_iff]; simp at *; omega)) | (with_reducible refine goL_split (fun _ => ?_) (fun _ => ?_) <;> simp [hd]) | with_reducible refine And.intro ?_ ?_ | with_reducible exact okay_rfl rfl | with_reducible assumption | omega)
        refine W_cond rfl (fun h2 => ?_) (fun h2 => W_skip ?_)
        · cases h2
        apply W_regS
        · intro K hK
          simp [hw]
          repeat' (first | with_reducible exact hK | (with_reducible refine goL_split (fun _ => ?_) (fun _ => ?_) <;> simp [hw]) | with_reducible refine And.intro ?_ ?_ | with_reducible exact okay_rfl rfl | with_reducible assumption | omega)
        refine ⟨s.length + 1 - (i + 1), by omega, i + 1, a, o, rfl, by omega, by omega, .inl ⟨by omega, ?_⟩, by simp [gc, closeN, liveA, gcV, gcO, renA, renO, namesAs, namesA, namesO, posn, strsD]⟩
        rw [hcut, hdr, headApp_miss hx, take_drop_snoc ha hai]
  · simp at h
    obtain ⟨_, hcut⟩ := hinv.resolve_left (by omega)
    rw [if_pos rfl]
    subst hcut
    refine W_seq (?_)
    apply W_regS
    · intro K hK
      simp
      repeat' (first | with_reducible exact hK | (with_reducible refine goL_split (fun _ => ?_) (fun _ => ?_) <;> simp) | with_reducible refine And.intro ?_ ?_ | with_reducible exact okay_rfl rfl | with_reducible assumption | omega)
    refine W_ret ?_
    simp [Fin]
    all_goals omega

theorem splitK_cons {b c : UInt8} (h : b ≠ c) : ∀ (k : Nat) (l : List UInt8), Lib.splitK [c] 0 k (b :: l) = headCons b (Lib.splitK [c] 0 k l) := by
  intro k l
  cases k with
  | zero => rfl
  | succ k =>
    have hp : ([c] : List UInt8).isPrefixOf (b :: l) = false := by simp [List.isPrefixOf, Ne.symm h]
    have hix : Lib.index (b :: l) [c] = if Lib.index l [c] == -1 then -1 else Lib.index l [c] + 1 := by rw [Lib.index, hp]; simp
    unfold Lib.splitK
    rw [hix]
    have hge := Lib.index_ge l [c]
    by_cases hm : Lib.index l [c] = -1
    · rw [hm]; simp [headCons]
    · obtain ⟨j, hj⟩ : ∃ j : Nat, Lib.index l [c] = j := ⟨(Lib.index l [c]).toNat, by omega⟩
      have h1 : ¬ ((j : Int) == -1) = true := fun e => by have := beq_iff_eq.1 e; omega
      have h2 : ¬ ((j : Int) + 1 == -1) = true := fun e => by have := beq_iff_eq.1 e; omega
      rw [hj, if_neg h1, if_neg h1, if_neg h2]
      have e1 : ((j : Int) + 1).toNat = j + 1 := by omega
      simp [headCons, e1]

theorem split_cut (c : UInt8) : ∀ s : List UInt8, Lib.splitK [c] 0 (Lib.count s [c]) s = cutAt c s := by
  intro s
  induction s with
  | nil => rw [Lib.count_one]; rfl
  | cons b r ih =>
    by_cases h : b = c
    · subst h
      have hix : Lib.index (b :: r) [b] = 0 := by rw [Lib.index]; simp [List.isPrefixOf]
      rw [Lib.count_cons_eq, show 1 + Lib.count r [b] = Lib.count r [b] + 1 by omega, Lib.splitK, hix, cutAt, if_pos rfl]
      simp [ih]
    · rw [Lib.count_cons_ne b c r h, splitK_cons h, ih, cutAt, if_neg h]

theorem Split_ok (s : List UInt8) (c : UInt8) [MaxL GG] (hs : s.length < 4294967281) : Valid PP GG 37 [.d (.str s), .d (.str [c])] (.d (.slc 1 (strsD (cutAt c s)))) [none, none] := by
  refine lib_new [.str s, .str [c]] ⟨Tryd.f37, Tryd.func37, by kernel_rfl, by kernel_rfl⟩ fun w Fz args hG hFz hl hA => ?_
  have e : args = #[.string ⟨s.toArray⟩, .string ⟨#[c]⟩] := by
    refine args_eq (l := [.string ⟨s.toArray⟩, .string ⟨#[c]⟩]) hl fun i v hv => ?_
    match i, hv with
    | 0, hv => cases hv; exact shr_str (hA 0 _ rfl)
    | 1, hv => cases hv; exact shr_str (hA 1 _ rfl)
  subst e
  obtain ⟨ob, h1, h2⟩ := hG 1 _ MaxL.h
  cases ob with
  | cells cs t fr =>
    obtain ⟨m, h3⟩ := h2
    refine (Go.Proofs.YtgoknpcippfjbaaDoor.Tryd.strings_Split ⟨s.toArray⟩ ⟨#[c]⟩ m w hs (by unfold World.cell?; simp [h1, h3]) (Nat.le_refl 1)).mono ?_
    rintro e w' ⟨rfl, rfl⟩
    have hcount : Lib.countB ⟨s.toArray⟩ ⟨#[c]⟩ = Lib.count s [c] := rfl
    have hsplit : (Lib.splitB ⟨#[c]⟩ 0 (Lib.countB ⟨s.toArray⟩ ⟨#[c]⟩) ⟨s.toArray⟩).map (·.data.toList) = cutAt c s := by
      rw [Lib.splitB_data, hcount]; exact split_cut c s
    have hlen : (cutAt c s).length = Lib.countB ⟨s.toArray⟩ ⟨#[c]⟩ + 1 := by
      rw [← hsplit, List.length_map, Lib.splitB_all ⟨#[c]⟩ (Nat.le_refl 1) 0 _ _ rfl]
    generalize Lib.countB ⟨s.toArray⟩ ⟨#[c]⟩ = k at hsplit hlen ⊢
    generalize hL : Lib.splitB ⟨#[c]⟩ 0 k ⟨s.toArray⟩ = L at hsplit ⊢
    have hLl : L.length = k + 1 := by rw [← hlen, ← hsplit, List.length_map]
    have hblk : ∀ b, b < w.heap.size → (w.alloc (.cells (L.map Value.string).toArray 9)).heap[b]? = w.heap[b]? := fun b hb => by
      show (w.heap.push _)[b]? = _
      rw [Array.getElem?_push_lt hb, Array.getElem?_eq_getElem hb]
    have hnew : (w.alloc (.cells (L.map Value.string).toArray 9)).heap[w.heap.size]? = some (.cells (L.map Value.string).toArray 9) := by
      show (w.heap.push _)[w.heap.size]? = _
      simp
    have hsz : (w.alloc (.cells (L.map Value.string).toArray 9)).heap.size = w.heap.size + 1 := by
      show (w.heap.push _).size = _
      simp
    refine ⟨_, fun b o => Fz b o ∨ b = w.heap.size, fun _ _ => False, rfl, ⟨rfl, rfl⟩, by omega, hblk, fun _ _ h => .inl h, fun b o h => ?_, .d _ _ _ ?_ fun _ _ h => h, fun _ _ h => h.elim⟩
    · rcases h with h | h
      · exact ⟨.inl h, by have := hFz b o h; omega⟩
      · exact ⟨.inr (by omega), by omega⟩
    · have hrows : (strsD (cutAt c s)).length = k + 1 := by simp [hlen]
      have hget : ∀ (m : Nat) (d : D), (strsD (cutAt c s)).flatten[m]? = some d → ∃ t : ByteArray, L[m]? = some t ∧ d = D.str t.data.toList := by
        intro m d hm
        rw [← hsplit] at hm
        have hf : (strsD (L.map (·.data.toList))).flatten = L.map fun t => D.str t.data.toList := by
          unfold strsD
          generalize L = M
          induction M with
          | nil => rfl
          | cons x M ih => simp only [List.map_cons, List.flatten_cons] at ih ⊢; rw [ih]; rfl
        rw [hf, List.getElem?_map] at hm
        cases ht : L[m]? with
        | none => rw [ht] at hm; cases hm
        | some t => rw [ht] at hm; cases hm; exact ⟨t, rfl, rfl⟩
      have hcell : ∀ (m : Nat) (t : ByteArray), L[m]? = some t → (w.alloc (.cells (L.map Value.string).toArray 9)).cell? (at_ w.heap.size (0 + m)) = some (.string t) := by
        intro m t ht
        unfold World.cell?
        rw [show (at_ w.heap.size (0 + m)).block = w.heap.size from rfl, hnew]
        simp [ht]
      have := Shr.slc (w := w.alloc (.cells (L.map Value.string).toArray 9)) (Fz := fun b o => Fz b o ∨ b = w.heap.size) w.heap.size 0 (k + 1) 1 (strsD (cutAt c s)) (fun m => match L[m]? with | some t => .string t | none => Go.undef)
        (fun r hr => by unfold strsD at hr; obtain ⟨x, _, rfl⟩ := List.mem_map.1 hr; rfl) (by omega)
        (fun m d hm => by
          obtain ⟨t, ht, _⟩ := hget m d hm
          exact ⟨by rw [hcell m t ht, ht], .inr rfl⟩)
        (fun m d hm => by
          obtain ⟨t, ht, rfl⟩ := hget m d hm
          rw [ht]
          exact Shr.str t.data.toList)
      rw [hrows] at this
      exact this
  | _ => exact h2.elim

def inB (x lo hi : Int) : Bool := decide (lo ≤ x) && decide (x ≤ hi)

theorem inB_true {x lo hi : Int} (h : inB x lo hi = true) : lo ≤ x ∧ x ≤ hi := by
  simp only [inB, Bool.and_eq_true, decide_eq_true_eq] at h; exact h

theorem findIdx_hit {α : Type} {p : α → Bool} {l : List α} {i : Nat} {x : α} (ha : l[i]? = some x) (hn : ∀ y, y ∈ l.take i → p y = false) (hx : p x = true) : l.findIdx? p = some i := by
  obtain ⟨h, e⟩ := List.getElem?_eq_some_iff.1 ha
  rw [List.findIdx?_eq_some_iff_getElem]
  refine ⟨h, by rw [e]; exact hx, fun j hj => ?_⟩
  have := hn l[j] (List.mem_take_iff_getElem.2 ⟨j, by omega, rfl⟩)
  simp [this]

theorem findIdx_miss {α : Type} {p : α → Bool} {l : List α} (hn : ∀ y, y ∈ l → p y = false) : l.findIdx? p = none := List.findIdx?_eq_none_iff.2 hn

theorem typ_GReq {k : Nat} {ds : List D} (h : Typ Tryd.prog (k + 2) 32 ds) : ∃ x : GReq, ds = x.row ∧ x.ok := by
  obtain ⟨hl, hf⟩ := typ_struct Tryd.underlying32 h
  rw [show Tryd.prog.cellsOf 32 = 6 by kernel_rfl] at hl
  match ds, hl, hf with
  | [a0, a1, a2, a3, a4, a5], _, hf =>
    obtain ⟨x0, e0, i0⟩ := typ_int (ds := [a0]) Tryd.underlying3 (typ_field hf 0 rfl (n := 1) (by kernel_rfl))
    obtain ⟨x1, e1, i1⟩ := typ_int (ds := [a1]) Tryd.underlying3 (typ_field hf 1 rfl (n := 1) (by kernel_rfl))
    obtain ⟨x2, e2, i2⟩ := typ_str (ds := [a2]) Tryd.underlying9 (typ_field hf 2 rfl (n := 1) (by kernel_rfl))
    obtain ⟨x3, e3, i3⟩ := typ_str (ds := [a3]) Tryd.underlying9 (typ_field hf 3 rfl (n := 1) (by kernel_rfl))
    obtain ⟨x4, e4, i4⟩ := typ_str (ds := [a4]) Tryd.underlying9 (typ_field hf 4 rfl (n := 1) (by kernel_rfl))
    obtain ⟨x5, e5, i5⟩ := typ_int (ds := [a5]) Tryd.underlying3 (typ_field hf 5 rfl (n := 1) (by kernel_rfl))
    cases e0; cases e1; cases e2; cases e3; cases e4; cases e5
    exact ⟨{ fKind := x0, fToken := x1, fName := x2, fPath := x3, fData := x4, fNum := x5 }, rfl, ⟨i0, i1, i2, i3, i4, i5⟩⟩

theorem bytesD_app (x y : List UInt8) : bytesD (x ++ y) = bytesD x ++ bytesD y := by simp [bytesD]

def visB (b : UInt8) : Bool := decide (33 ≤ b.toNat) && decide (b.toNat ≤ 126)

def wordB (w : List UInt8) : Bool := w.all visB && inB w.length 1 100

theorem s_l19Word_ok (w : List UInt8) (hw : w.length ≤ 1048576) : Valid PP GG F_S_l19Word [.d (.str w)] (.d (.bool (wordB w))) [none] := by
  refine v_S_l19Word [.d (.bool (wordB w))] rfl rfl ?_
  have ci : Valid PP GG F_S_l01In [.d (.int .i64 w.length), .d (.int .i64 1), .d (.int .i64 100)] (.d (.bool (inB w.length 1 100))) [none, none, none] := l01In_ok _ _ _
  repeat' (first | refine W_seq ?_ | refine W_skip ?_ | refine W_block ?_ | refine W_exit ?_ | refine pick_pos rfl ?_ | refine pick_neg rfl ?_ | ((first | refine W_regP fun K hK => ?_ | refine W_regPD fun K hK => ?_ | refine W_ret ?_); simp [Fin]) | (with_reducible refine hK _ ?_; clear hK K) | (with_reducible refine goL_split (fun h => ?_) (fun h => ?_) <;> first | (exfalso; simp at h; first | done | omega | contradiction) | ((try simp at h); simp)) | with_reducible refine And.intro ?_ ?_ | with_reducible exact okay_rfl rfl | with_reducible assumption | (refine W_cond rfl (fun h => ?_) (fun h => ?_) <;> first | (exfalso; simp at h; first | done | omega | contradiction) | (exfalso; simp_all; done) | (try simp at h)) | omega)
  refine W_loop (fun n st => ∃ i : Nat, n = w.length - i ∧ i ≤ w.length ∧ (∀ b, b ∈ w.take i → visB b = true) ∧ st = ⟨[], [(0, .d (.str w)), (3, .d (.int .i64 i))], [], 0⟩) _ ⟨0, rfl, by omega, fun b h => by simp at h, rfl⟩ ?_
  rintro n st ⟨i, rfl, hi, hn, rfl⟩
  by_cases hlt : i < w.length
  · have ha := List.getElem?_eq_getElem hlt
    generalize w[i] = x at ha
    have hx : w.getD i 0 = x := by rw [List.getD_eq_getElem?_getD, ha]; rfl
    have hxm := List.mem_of_getElem? ha
    repeat' (first | refine W_seq ?_ | refine W_skip ?_ | refine W_block ?_ | refine W_exit ?_ | refine pick_pos rfl ?_ | refine pick_neg rfl ?_ | ((first | refine W_regP fun K hK => ?_ | refine W_regPD fun K hK => ?_ | refine W_ret ?_); simp [Fin, ha]) | (with_reducible refine hK _ ?_; clear hK K) | (with_reducible refine goL_split (fun h => ?_) (fun h => ?_) <;> first | (exfalso; simp at h; first | done | omega | contradiction) | ((try simp at h); simp [ha])) | with_reducible refine And.intro ?_ ?_ | with_reducible exact okay_rfl rfl | with_reducible assumption | (refine W_cond rfl (fun h => ?_) (fun h => ?_) <;> first | (exfalso; simp at h; first | done | omega | contradiction) | (exfalso; simp_all; done) | (try simp at h)) | omega)
    · have : wordB w = false := by unfold wordB; rw [List.all_eq_false.2 ⟨x, hxm, by unfold visB; simp; omega⟩]; rfl
      rw [this]
    · have : wordB w = false := by unfold wordB; rw [List.all_eq_false.2 ⟨x, hxm, by unfold visB; simp; omega⟩]; rfl
      rw [this]
    · refine ⟨w.length - (i + 1), by omega, i + 1, rfl, hlt, take_all ha hn (by unfold visB; simp; omega), ?_⟩
      simp [gc, closeN, liveA, gcV, gcO, renA, renAs, renO, namesAs, namesA, namesO, posn]
      exact wrap_id (by omega) (by omega)
  · rw [List.take_of_length_le (by omega)] at hn
    have hw2 : wordB w = inB w.length 1 100 := by unfold wordB; rw [List.all_eq_true.2 hn]; simp
    repeat' (first | refine W_seq ?_ | refine W_skip ?_ | refine W_block ?_ | refine W_exit ?_ | refine pick_pos rfl ?_ | refine pick_neg rfl ?_ | ((first | refine W_regP fun K hK => ?_ | refine W_regPD fun K hK => ?_ | refine W_ret ?_ | with_reducible refine callQ (ci) ?_); simp [Fin, hw2]) | (with_reducible refine hK _ ?_; clear hK K) | (with_reducible refine goL_split (fun h => ?_) (fun h => ?_) <;> first | (exfalso; simp at h; first | done | omega | contradiction) | ((try simp at h); simp [hw2])) | with_reducible refine And.intro ?_ ?_ | with_reducible exact okay_rfl rfl | with_reducible assumption | (refine W_cond rfl (fun h => ?_) (fun h => ?_) <;> first | (exfalso; simp at h; first | done | omega | contradiction) | (exfalso; simp_all; done) | (try simp at h)) | omega)

theorem decFrom_app (a b : List UInt8) : ∀ acc, Lib.decFrom acc (a ++ b) = (Lib.decFrom acc a).bind fun n => Lib.decFrom n b := by
  induction a with
  | nil => intro acc; rfl
  | cons x a ih =>
    intro acc
    simp only [List.cons_append, Lib.decFrom]
    cases Lib.digitVal x with
    | none => rfl
    | some d => exact ih _

theorem digitVal_dec {d : Nat} (h : d < 10) : Lib.digitVal (UInt8.ofNat (48 + d)) = some d := by
  unfold Lib.digitVal
  rw [UInt8.toNat_ofNat', Nat.mod_eq_of_lt (by omega), if_pos (by omega)]
  congr 1; omega

theorem decFrom_dec (u : Nat) : Lib.decFrom 0 (Lib.decDigits u) = some u := by
  induction u using Nat.strongRecOn with
  | _ u ih =>
    rw [Lib.decDigits]
    split
    · rename_i h
      simp only [Lib.decFrom, digitVal_dec h]
      simp
    · rename_i h
      rw [decFrom_app, ih (u / 10) (by omega)]
      simp only [Option.bind_some, Lib.decFrom, digitVal_dec (show u % 10 < 10 by omega)]
      congr 1; omega

theorem dec_head (u : Nat) : ∃ c r, Lib.decDigits u = c :: r ∧ 48 ≤ c.toNat ∧ c.toNat ≤ 57 := by
  induction u using Nat.strongRecOn with
  | _ u ih =>
    rw [Lib.decDigits]
    split
    · rename_i h
      refine ⟨_, [], rfl, ?_, ?_⟩ <;> rw [UInt8.toNat_ofNat', Nat.mod_eq_of_lt (by omega)] <;> omega
    · rename_i h
      obtain ⟨c, r, e, h1, h2⟩ := ih (u / 10) (by omega)
      exact ⟨c, r ++ [UInt8.ofNat (48 + u % 10)], by rw [e]; rfl, h1, h2⟩

theorem nDigits_le : ∀ (k u : Nat), 0 < k → u < 10 ^ k → Lib.nDigits u ≤ k := by
  intro k
  induction k with
  | zero => intro u h; omega
  | succ k ih =>
    intro u _ h
    by_cases hu : u < 10
    · rw [Lib.nDigits_small hu]; omega
    · rw [Lib.nDigits_big hu]
      have hk : 0 < k := by
        rcases Nat.eq_zero_or_pos k with rfl | h'
        · simp at h; omega
        · exact h'
      have := ih (u / 10) hk (by rw [Nat.pow_succ] at h; omega)
      omega

def dsOf (w : List UInt8) : List UInt8 := match w with
  | [] => []
  | b :: r => if b.toNat = 45 then r else w

theorem itoa_ds (n : Int) : dsOf (Lib.itoa n) = Lib.decDigits n.natAbs ∧ (n < 0 → Lib.itoa n = 45 :: Lib.decDigits n.natAbs) ∧ (0 ≤ n → Lib.itoa n = Lib.decDigits n.natAbs) := by
  by_cases h : n < 0
  · have e : Lib.itoa n = 45 :: Lib.decDigits n.natAbs := by unfold Lib.itoa; rw [if_pos h]
    exact ⟨by rw [e]; simp [dsOf], fun _ => e, fun h' => by omega⟩
  · have e : Lib.itoa n = Lib.decDigits n.natAbs := by unfold Lib.itoa; rw [if_neg h]; congr 1; omega
    obtain ⟨c, r, e2, h1, h2⟩ := dec_head n.natAbs
    refine ⟨?_, fun h' => absurd h' h, fun _ => e⟩
    rw [e, e2]
    simp only [dsOf]
    rw [if_neg (by omega)]

theorem atoi_itoa (n : Int) : Lib.atoi (Lib.itoa n) = some n := by
  obtain ⟨_, h1, h2⟩ := itoa_ds n
  have hd : ∀ u, Lib.decNat (Lib.decDigits u) = some u := by
    intro u
    obtain ⟨c, r, e2, _⟩ := dec_head u
    unfold Lib.decNat
    rw [if_neg (by rw [e2]; simp), decFrom_dec]
  by_cases h : n < 0
  · rw [h1 h]
    simp only [Lib.atoi, beq_self_eq_true, if_true, hd, Option.map_some]
    congr 1; omega
  · rw [h2 (by omega)]
    obtain ⟨c, r, e2, h3, h4⟩ := dec_head n.natAbs
    have := hd n.natAbs
    rw [e2] at this ⊢
    have c1 : (c == 45) = false := by simp; intro e; subst e; simp at h3
    have c2 : (c == 43) = false := by simp; intro e; subst e; simp at h3
    simp only [Lib.atoi, c1, c2, Bool.false_eq_true, if_false, this, Option.map_some]
    congr 1; omega

def numW (w : List UInt8) : Option Int := match Lib.atoi w with
  | some n => if Lib.itoa n = w ∧ inB n (-9999999999999) 9999999999999 = true then some n else none
  | none => none

theorem numW_some {w : List UInt8} {n : Int} : numW w = some n ↔ w = Lib.itoa n ∧ inB n (-9999999999999) 9999999999999 = true := by
  unfold numW
  constructor
  · intro h
    split at h
    · split at h
      · rename_i m _ hc
        cases h
        exact ⟨hc.1.symm, hc.2⟩
      · cases h
    · cases h
  · rintro ⟨rfl, h⟩
    rw [atoi_itoa]
    simp only [h, and_self, if_true]

def numX (w : List UInt8) : Int := if inB (dsOf w).length 1 13 = true then (match Lib.decFrom 0 (dsOf w) with | some x => if (dsOf w).length < w.length then -(x : Int) else x | none => 0) else 0

theorem num_of {w : List UInt8} {n : Int} (h : numW w = some n) : 1 ≤ (dsOf w).length ∧ (dsOf w).length ≤ 13 ∧ Lib.decFrom 0 (dsOf w) = some n.natAbs ∧ ((dsOf w).length < w.length ↔ n < 0) := by
  obtain ⟨rfl, hr⟩ := numW_some.1 h
  have hr := inB_true hr
  obtain ⟨e, h1, h2⟩ := itoa_ds n
  rw [e, Lib.decDigits_length]
  refine ⟨Lib.nDigits_pos _, nDigits_le 13 _ (by omega) (by omega), decFrom_dec _, ?_⟩
  by_cases hn : n < 0
  · rw [h1 hn, List.length_cons, Lib.decDigits_length]; omega
  · rw [h2 (by omega), Lib.decDigits_length]; omega

theorem num_len {w : List UInt8} (h : inB ((dsOf w).length : Int) 1 13 = false) : numW w = none ∧ numX w = 0 := by
  refine ⟨?_, by unfold numX; rw [h]; rfl⟩
  cases hn : numW w with
  | none => rfl
  | some n =>
    obtain ⟨h1, h2, _⟩ := num_of hn
    unfold inB at h
    simp at h
    omega

theorem num_bad {w : List UInt8} (h : Lib.decFrom 0 (dsOf w) = none) : numW w = none ∧ numX w = 0 := by
  refine ⟨?_, by unfold numX; rw [h]; split <;> rfl⟩
  cases hn : numW w with
  | none => rfl
  | some n =>
    obtain ⟨_, _, h3, _⟩ := num_of hn
    rw [h] at h3; cases h3

theorem num_good {w : List UInt8} {x : Nat} (hl : inB ((dsOf w).length : Int) 1 13 = true) (h : Lib.decFrom 0 (dsOf w) = some x) :
    x < 10000000000000 ∧ numX w = (if (dsOf w).length < w.length then -(x : Int) else x) ∧ (numW w).isSome = (Lib.itoa (numX w) == w) := by
  have hl' := inB_true hl
  have hx : x < 10000000000000 := by
    have h1 := Lib.decFrom_lt _ _ _ h
    have h2 : 10 ^ (dsOf w).length ≤ 10 ^ 13 := Nat.pow_le_pow_right (by omega) (by omega)
    simp at h1; omega
  have e : numX w = (if (dsOf w).length < w.length then -(x : Int) else x) := by unfold numX; rw [if_pos hl, h]
  refine ⟨hx, e, ?_⟩
  have hin : inB (numX w) (-9999999999999) 9999999999999 = true := by
    rw [e]; unfold inB; simp only [Bool.and_eq_true, decide_eq_true_eq]; split <;> omega
  by_cases hi : Lib.itoa (numX w) = w
  · have : numW w = some (numX w) := numW_some.2 ⟨hi.symm, hin⟩
    rw [this, hi]; simp
  · have : (Lib.itoa (numX w) == w) = false := by simpa using hi
    rw [this]
    cases hn : numW w with
    | none => rfl
    | some n =>
      exfalso
      obtain ⟨_, _, h3, h4⟩ := num_of hn
      rw [h] at h3
      cases h3
      have : numX w = n := by
        rw [e]
        by_cases hlt : (dsOf w).length < w.length
        · rw [if_pos hlt]; have := h4.1 hlt; omega
        · rw [if_neg hlt]; have := mt h4.2 hlt; omega
      rw [this] at hi
      exact hi (numW_some.1 hn).1.symm

theorem s_l19Number_ok (w : List UInt8) (hw : w.length ≤ 1048576) : Valid PP GG F_S_l19Number [.d (.str w)] (.tup [.d (.int .i64 (numX w)), .d (.bool (numW w).isSome)]) [none] := by
  refine v_S_l19Number [.d (.int .i64 (numX w)), .d (.bool (numW w).isSome)] rfl rfl ?_
  have hdl : (dsOf w).length ≤ w.length := by cases w with | nil => simp [dsOf] | cons b r => simp only [dsOf]; split <;> simp
  refine W_seq (?_)
  apply W_regS
  · intro K hK
    simp
    repeat' (first | with_reducible exact hK | (with_reducible refine goL_split (fun _ => ?_) (fun _ => ?_) <;> simp) | with_reducible refine And.intro ?_ ?_ | with_reducible exact okay_rfl rfl | with_reducible assumption | omega)
  refine W_seq (?_)
  apply W_regS
  · intro K hK
    simp
    repeat' (first | with_reducible exact hK | (with_reducible refine goL_split (fun _ => ?_) (fun _ => ?_) <;> simp) | with_reducible refine And.intro ?_ ?_ | with_reducible exact okay_rfl rfl | with_reducible assumption | omega)
  refine W_cut [0, 4] (fun st => st = ⟨[], [(0, .d (.str w)), (4, .d (.str (dsOf w)))], [], 0⟩) ?_ ?_
  · cases w with
    | nil =>
      repeat' (first | refine W_seq ?_ | refine W_skip ?_ | refine W_block ?_ | refine W_exit ?_ | refine pick_pos rfl ?_ | refine pick_neg rfl ?_ | ((first | refine W_regP fun K hK => ?_ | refine W_regPD fun K hK => ?_ | refine W_ret ?_); simp [Fin]) | (with_reducible refine hK _ ?_; clear hK K) | (with_reducible refine goL_split (fun h => ?_) (fun h => ?_) <;> first | (exfalso; simp at h; first | done | omega | contradiction) | ((try simp at h); simp)) | with_reducible refine And.intro ?_ ?_ | with_reducible exact okay_rfl rfl | with_reducible assumption | (refine W_cond rfl (fun h => ?_) (fun h => ?_) <;> first | (exfalso; simp at h; first | done | omega | contradiction) | (exfalso; simp_all; done) | (try simp at h)) | omega)
      simp [gc, closeN, liveA, gcV, gcO, renA, renAs, renO, namesAs, namesA, namesO, posn, dsOf]
    | cons b r =>
      by_cases hb : b.toNat = 45
      · have hd : dsOf (b :: r) = r := by simp only [dsOf]; rw [if_pos hb]
        have hb2 : b = 45 := by rw [← UInt8.toNat_inj, hb]; rfl
        subst hb2
        repeat' (first | refine W_seq ?_ | refine W_skip ?_ | refine W_block ?_ | refine W_exit ?_ | refine pick_pos rfl ?_ | refine pick_neg rfl ?_ | ((first | refine W_regP fun K hK => ?_ | refine W_regPD fun K hK => ?_ | refine W_ret ?_); simp [Fin]) | (with_reducible refine hK _ ?_; clear hK K) | (with_reducible refine goL_split (fun h => ?_) (fun h => ?_) <;> first | (exfalso; simp at h; first | done | omega | contradiction) | ((try simp at h); simp)) | with_reducible refine And.intro ?_ ?_ | with_reducible exact okay_rfl rfl | with_reducible assumption | (refine W_cond rfl (fun h => ?_) (fun h => ?_) <;> first | (exfalso; simp at h; first | done | omega | contradiction) | (exfalso; simp_all; done) | (try simp at h)) | omega)
        simp [gc, closeN, liveA, gcV, gcO, renA, renAs, renO, namesAs, namesA, namesO, posn, hd]
      · have hd : dsOf (b :: r) = b :: r := by simp only [dsOf]; rw [if_neg hb]
        have hb2 : ¬ ((b.toNat : Int) = 45) := by omega
        repeat' (first | refine W_seq ?_ | refine W_skip ?_ | refine W_block ?_ | refine W_exit ?_ | refine pick_pos rfl ?_ | refine pick_neg rfl ?_ | ((first | refine W_regP fun K hK => ?_ | refine W_regPD fun K hK => ?_ | refine W_ret ?_); simp [Fin, hb, hb2]) | (with_reducible refine hK _ ?_; clear hK K) | (with_reducible refine goL_split (fun h => ?_) (fun h => ?_) <;> first | (exfalso; simp at h; first | done | omega | contradiction) | ((try simp at h); simp [hb, hb2])) | with_reducible refine And.intro ?_ ?_ | with_reducible exact okay_rfl rfl | with_reducible assumption | (refine W_cond rfl (fun h => ?_) (fun h => ?_) <;> first | (exfalso; simp at h; first | done | omega | contradiction) | (exfalso; simp_all; done) | (try simp at h)) | omega)
        simp [gc, closeN, liveA, gcV, gcO, renA, renAs, renO, namesAs, namesA, namesO, posn, hd]
  rintro st rfl
  have hnl := @num_len w
  have hnb := @num_bad w
  have hng := @num_good w
  generalize dsOf w = ds at *
  have ci : Valid PP GG F_S_l01In [.d (.int .i64 ds.length), .d (.int .i64 1), .d (.int .i64 13)] (.d (.bool (inB ds.length 1 13))) [none, none, none] := l01In_ok _ _ _
  cases hin : inB ds.length 1 13 with
  | false =>
    obtain ⟨e1, e2⟩ := hnl hin
    rw [e1, e2]
    rw [hin] at ci
    repeat' (first | refine W_seq ?_ | refine W_skip ?_ | refine W_block ?_ | refine W_exit ?_ | refine pick_pos rfl ?_ | refine pick_neg rfl ?_ | ((first | refine W_regP fun K hK => ?_ | refine W_regPD fun K hK => ?_ | refine W_ret ?_ | with_reducible refine callQ (ci) ?_); simp [Fin]) | (with_reducible refine hK _ ?_; clear hK K) | (with_reducible refine goL_split (fun h => ?_) (fun h => ?_) <;> first | (exfalso; simp at h; first | done | omega | contradiction) | ((try simp at h); simp)) | with_reducible refine And.intro ?_ ?_ | with_reducible exact okay_rfl rfl | with_reducible assumption | (refine W_cond rfl (fun h => ?_) (fun h => ?_) <;> first | (exfalso; simp at h; first | done | omega | contradiction) | (exfalso; simp_all; done) | (try simp at h)) | omega)
  | true =>
  rw [hin] at ci
  have hr := inB_true hin
  repeat' (first | refine W_seq ?_ | refine W_skip ?_ | refine W_block ?_ | refine W_exit ?_ | refine pick_pos rfl ?_ | refine pick_neg rfl ?_ | ((first | refine W_regP fun K hK => ?_ | refine W_regPD fun K hK => ?_ | refine W_ret ?_ | with_reducible refine callQ (ci) ?_); simp [Fin]) | (with_reducible refine hK _ ?_; clear hK K) | (with_reducible refine goL_split (fun h => ?_) (fun h => ?_) <;> first | (exfalso; simp at h; first | done | omega | contradiction) | ((try simp at h); simp)) | with_reducible refine And.intro ?_ ?_ | with_reducible exact okay_rfl rfl | with_reducible assumption | (refine W_cond rfl (fun h => ?_) (fun h => ?_) <;> first | (exfalso; simp at h; first | done | omega | contradiction) | (exfalso; simp_all; done) | (try simp at h)) | omega)
  refine W_loop (fun n st => ∃ i x : Nat, n = ds.length - i ∧ i ≤ ds.length ∧ Lib.decFrom 0 (ds.take i) = some x ∧ st = ⟨[], [(0, .d (.str w)), (4, .d (.str ds)), (5, .d (.int .i64 x)), (6, .d (.int .i64 i))], [], 0⟩) _ ⟨0, 0, rfl, by omega, rfl, rfl⟩ ?_
  rintro n st ⟨i, x, rfl, hi, hx, rfl⟩
  have hxb : x < 10000000000000 := by
    have h1 := Lib.decFrom_lt _ _ _ hx
    rw [List.length_take] at h1
    have h2 : 10 ^ (min i ds.length) ≤ 10 ^ 13 := Nat.pow_le_pow_right (by omega) (by omega)
    simp at h1; omega
  by_cases hlt : i < ds.length
  · have ha := List.getElem?_eq_getElem hlt
    generalize ds[i] = c at ha
    cases hc : Lib.digitVal c with
    | none =>
      have hbad : Lib.decFrom 0 ds = none := by
        cases hd : Lib.decFrom 0 ds with
        | none => rfl
        | some m => obtain ⟨d, hd⟩ := Lib.digit_of_decFrom _ _ _ hd i c ha; rw [hc] at hd; cases hd
      obtain ⟨e1, e2⟩ := hnb hbad
      rw [e1, e2]
      have := Lib.digitVal_none hc
      repeat' (first | refine W_seq ?_ | refine W_skip ?_ | refine W_block ?_ | refine W_exit ?_ | refine pick_pos rfl ?_ | refine pick_neg rfl ?_ | ((first | refine W_regP fun K hK => ?_ | refine W_regPD fun K hK => ?_ | refine W_ret ?_); simp [Fin, ha]) | (with_reducible refine hK _ ?_; clear hK K) | (with_reducible refine goL_split (fun h => ?_) (fun h => ?_) <;> first | (exfalso; simp at h; first | done | omega | contradiction) | ((try simp at h); simp [ha])) | with_reducible refine And.intro ?_ ?_ | with_reducible exact okay_rfl rfl | with_reducible assumption | (refine W_cond rfl (fun h => ?_) (fun h => ?_) <;> first | (exfalso; simp at h; first | done | omega | contradiction) | (exfalso; simp_all; done) | (try simp at h)) | omega)
    | some d =>
      obtain ⟨h1, h2, h3⟩ := Lib.digitVal_eq hc
      have hs := Lib.decFrom_take ds i 0 x c d hx ha hc
      have hw1 : IntKind.i64.wrap (10 * (x : Int)) = 10 * x := wrap_id (by omega) (by omega)
      have hw2 : IntKind.i64.wrap (c.toNat : Int) = c.toNat := wrap_id (by omega) (by omega)
      have hw3 : IntKind.i64.wrap (10 * (x : Int) + c.toNat) = 10 * x + c.toNat := wrap_id (by omega) (by omega)
      have hw4 : IntKind.i64.wrap (10 * (x : Int) + c.toNat - 48) = ((x * 10 + d : Nat) : Int) := by rw [wrap_id (by omega) (by omega)]; omega
      repeat' (first | refine W_seq ?_ | refine W_skip ?_ | refine W_block ?_ | refine W_exit ?_ | refine pick_pos rfl ?_ | refine pick_neg rfl ?_ | ((first | refine W_regP fun K hK => ?_ | refine W_regPD fun K hK => ?_ | refine W_ret ?_); simp [Fin, ha, hw1, hw2, hw3, hw4]) | (with_reducible refine hK _ ?_; clear hK K) | (with_reducible refine goL_split (fun h => ?_) (fun h => ?_) <;> first | (exfalso; simp at h; first | done | omega | contradiction) | ((try simp at h); simp [ha, hw1, hw2, hw3, hw4])) | with_reducible refine And.intro ?_ ?_ | with_reducible exact okay_rfl rfl | with_reducible assumption | (refine W_cond rfl (fun h => ?_) (fun h => ?_) <;> first | (exfalso; simp at h; first | done | omega | contradiction) | (exfalso; simp_all; done) | (try simp at h)) | omega)
      refine ⟨ds.length - (i + 1), by omega, i + 1, x * 10 + d, rfl, hlt, hs, ?_⟩
      simp [gc, closeN, liveA, gcV, gcO, renA, renAs, renO, namesAs, namesA, namesO, posn]
      exact wrap_id (by omega) (by omega)
  · rw [List.take_of_length_le (by omega)] at hx
    obtain ⟨_, e2, e3⟩ := hng hin hx
    have h64 : int64 (numX w) := by rw [e2]; split <;> exact ⟨by omega, by omega⟩
    have cn := l01Num_ok (GG := GG) (numX w) h64
    have hwn : IntKind.i64.wrap (-(x : Int)) = -(x : Int) := wrap_id (by omega) (by omega)
    by_cases hll : ds.length < w.length
    · rw [if_pos hll] at e2
      rw [e3]
      rw [e2] at cn ⊢
      repeat' (first | refine W_seq ?_ | refine W_skip ?_ | refine W_block ?_ | refine W_exit ?_ | refine pick_pos rfl ?_ | refine pick_neg rfl ?_ | ((first | refine W_regP fun K hK => ?_ | refine W_regPD fun K hK => ?_ | refine W_ret ?_ | with_reducible refine callQ (cn) ?_); simp [Fin, hwn]) | (with_reducible refine hK _ ?_; clear hK K) | (with_reducible refine goL_split (fun h => ?_) (fun h => ?_) <;> first | (exfalso; simp at h; first | done | omega | contradiction) | ((try simp at h); simp [hwn])) | with_reducible refine And.intro ?_ ?_ | with_reducible exact okay_rfl rfl | with_reducible assumption | (refine W_cond rfl (fun h => ?_) (fun h => ?_) <;> first | (exfalso; simp at h; first | done | omega | contradiction) | (exfalso; simp_all; done) | (try simp at h)) | omega)
    · rw [if_neg hll] at e2
      rw [e3]
      rw [e2] at cn ⊢
      repeat' (first | refine W_seq ?_ | refine W_skip ?_ | refine W_block ?_ | refine W_exit ?_ | refine pick_pos rfl ?_ | refine pick_neg rfl ?_ | ((first | refine W_regP fun K hK => ?_ | refine W_regPD fun K hK => ?_ | refine W_ret ?_ | with_reducible refine callQ (cn) ?_); simp [Fin, hwn]) | (with_reducible refine hK _ ?_; clear hK K) | (with_reducible refine goL_split (fun h => ?_) (fun h => ?_) <;> first | (exfalso; simp at h; first | done | omega | contradiction) | ((try simp at h); simp [hwn])) | with_reducible refine And.intro ?_ ?_ | with_reducible exact okay_rfl rfl | with_reducible assumption | (refine W_cond rfl (fun h => ?_) (fun h => ?_) <;> first | (exfalso; simp at h; first | done | omega | contradiction) | (exfalso; simp_all; done) | (try simp at h)) | omega)

def atoiV (s : List UInt8) : Int := match Lib.atoiAll s with | .ok v => v | .range => Lib.atoiSat s | _ => 0

def atoiE (s : List UInt8) : Bool := match Lib.atoiAll s with | .ok _ => true | _ => false

/-- A library function of one text that only makes new blocks, with a row of plain results. -/
theorem lib_str {G : GV} {f : FuncId} (s : List UInt8) {r : C} (hgo : Goes PP f)
    (h : ∀ (w : World), (∀ b p, G b = some p → ∃ ob, w.heap[b]? = some ob ∧ p ob) → Calls PP f #[.string ⟨s.toArray⟩] w fun e w' => ∃ v, e = .returned v ∧ Go.RowKit.Below w.heap.size w w' ∧ ∀ Fz, RC w' Fz r v (fun _ _ => False)) : Valid PP G f [.d (.str s)] r [none] := by
  refine lib_new [.str s] hgo fun w Fz args hG hFz hl hA => ?_
  have e : args = #[.string ⟨s.toArray⟩] := by
    refine args_eq (l := [.string ⟨s.toArray⟩]) hl fun i v hv => ?_
    match i, hv with
    | 0, hv => cases hv; exact shr_str (hA 0 _ rfl)
  subst e
  refine (h w hG).mono ?_
  rintro e w' ⟨v, rfl, hb, hr⟩
  exact ⟨_, Fz, fun _ _ => False, rfl, ⟨hb.os, hb.output⟩, hb.size, fun b h => hb.block b h, fun _ _ h => h, fun b o h => ⟨.inl h, Nat.lt_of_lt_of_le (hFz b o h) hb.size⟩, hr _, fun _ _ h => h.elim⟩

theorem rc_two {w : World} {Fz : PSet} {a b : D} {u v : Value} (ha : Shr w Fz u a) (hb : Shr w Fz v b) : RC w Fz (.tup [.d a, .d b]) (.tuple #[u, v]) (fun _ _ => False) := by
  refine .tup _ _ (fun _ _ _ => False) _ rfl (fun m c hm => ?_) (fun _ _ _ _ _ _ _ h => h.elim) (fun x y => ⟨fun h => h.elim, fun ⟨_, _, h⟩ => h⟩)
  match m, hm with
  | 0, hm => cases hm; exact .d _ _ _ ha fun _ _ h => h
  | 1, hm => cases hm; exact .d _ _ _ hb fun _ _ h => h

theorem Atoi_ok [ESyn GG] [ERng GG] (s : List UInt8) (hs : s.length ≤ 281474976710656) : Valid PP GG 45 [.d (.str s)] (.tup [.d (.int .i64 (atoiV s)), .d (.err (atoiE s))]) [none] := by
  refine lib_str s ⟨Tryd.f45, Tryd.func45, by kernel_rfl, by kernel_rfl⟩ fun w hG => ?_
  have cellOf : ∀ b p, GG b = some p → p = errCell → ∃ ev, w.cell? ⟨b, 0, none⟩ = some ev ∧ (ev = .nilIface ∨ ∃ te pe, ev = .iface te pe) := by
    intro b p hb hp
    obtain ⟨ob, h1, h2⟩ := hG b p hb
    subst hp
    cases ob with
    | cells cs t fr =>
      obtain ⟨ev, h3, h4⟩ := h2
      exact ⟨ev, by unfold World.cell?; simp [h1, h3], h4⟩
    | _ => exact h2.elim
  unfold atoiV atoiE
  cases h : Lib.atoiAll s with
  | ok v =>
    refine (Go.Proofs.YtgoknpcippfjbaaDoor.Tryd.strconv_Atoi_ok ⟨s.toArray⟩ (by show s.length ≤ _; omega) v h w).mono ?_
    rintro e w' ⟨rfl, hw⟩
    refine ⟨_, rfl, ?_, fun Fz => rc_two (.int _ _) .nilIface⟩
    rcases hw with rfl | ⟨t, rfl⟩
    · exact Go.RowKit.Below.refl _ _
    · exact Lib.bytesWorld_below w 5 t
  | range =>
    obtain ⟨ev, h1, h2⟩ := cellOf _ _ (ERng.h (GG := GG)) rfl
    refine (Go.Proofs.YtgoknpcippfjbaaDoor.Tryd.strconv_Atoi_range ⟨s.toArray⟩ hs h ev w h1 h2).mono ?_
    rintro e w' ⟨N, rfl, _, _, hb⟩
    exact ⟨_, rfl, hb, fun Fz => rc_two (.int _ _) (.iface _ _)⟩
  | _ =>
    obtain ⟨ev, h1, h2⟩ := cellOf _ _ (ESyn.h (GG := GG)) rfl
    refine (Go.Proofs.YtgoknpcippfjbaaDoor.Tryd.strconv_Atoi_bad ⟨s.toArray⟩ hs (fun v e => by cases h.symm.trans e) (fun e => by cases h.symm.trans e) ev w h1 h2).mono ?_
    rintro e w' ⟨N, rfl, _, _, hb⟩
    exact ⟨_, rfl, hb, fun Fz => rc_two (.int _ _) (.iface _ _)⟩

theorem atoi_num (s : List UInt8) : (atoiE s = true → int64 (atoiV s)) ∧ numW s = (if atoiE s = true ∧ Lib.itoa (atoiV s) = s ∧ inB (atoiV s) (-9999999999999) 9999999999999 = true then some (atoiV s) else none) := by
  have key : ∀ n, numW s = some n → Lib.atoiAll s = .ok n := by
    intro n hn
    obtain ⟨h1, h2, h3, h4⟩ := num_of hn
    have hl : s.length ≤ 18 := by
      have : s.length ≤ (dsOf s).length + 1 := by
        cases s with
        | nil => simp
        | cons b r => simp only [dsOf]; split <;> simp
      omega
    rw [Lib.atoiAll_short s hl, (numW_some.1 hn).1, atoi_itoa]
    rfl
  unfold atoiV atoiE
  cases h : Lib.atoiAll s with
  | ok v =>
    refine ⟨fun _ => Lib.atoiAll_bounds h, ?_⟩
    simp only [true_and]
    split
    · rename_i hc; exact numW_some.2 ⟨hc.1.symm, hc.2⟩
    · rename_i hc
      cases hn : numW s with
      | none => rfl
      | some n =>
        have := key n hn
        rw [h] at this
        cases this
        obtain ⟨e1, e2⟩ := numW_some.1 hn
        exact absurd ⟨e1.symm, e2⟩ hc
  | range =>
    refine ⟨fun h => by simp at h, ?_⟩
    simp
    cases hn : numW s with
    | none => rfl
    | some n => have := key n hn; rw [h] at this; cases this
  | _ =>
    refine ⟨fun h => by simp at h, ?_⟩
    simp
    cases hn : numW s with
    | none => rfl
    | some n => have := key n hn; rw [h] at this; cases this

theorem deskNumber_ok [P10 GG] [ESyn GG] [ERng GG] (s : List UInt8) (hs : s.length ≤ 1048576) : Valid PP GG F_I_deskNumber [.d (.str s)] (.tup [.d (.int .i64 ((numW s).getD 0)), .d (.bool (numW s).isSome)]) [none] := by
  refine v_I_deskNumber [.d (.int .i64 ((numW s).getD 0)), .d (.bool (numW s).isSome)] rfl rfl ?_
  have ca := Atoi_ok (GG := GG) s (by omega)
  obtain ⟨h1, h2⟩ := atoi_num s
  rw [h2]
  clear h2
  generalize atoiV s = v at *
  cases he : atoiE s with
  | false =>
    rw [he] at ca
    simp only [Bool.false_eq_true, false_and, if_false]
    repeat' (first | refine W_seq ?_ | refine W_skip ?_ | refine W_block ?_ | refine W_exit ?_ | refine pick_pos rfl ?_ | refine pick_neg rfl ?_ | ((first | refine W_regP fun K hK => ?_ | refine W_regPD fun K hK => ?_ | refine W_ret ?_ | with_reducible refine callQ (ca) ?_); simp [Fin]) | (with_reducible refine hK _ ?_; clear hK K) | (with_reducible refine goL_split (fun h => ?_) (fun h => ?_) <;> first | (exfalso; simp at h; first | done | omega | contradiction) | ((try simp at h); simp)) | with_reducible refine And.intro ?_ ?_ | with_reducible exact okay_rfl rfl | with_reducible assumption | (refine W_cond rfl (fun h => ?_) (fun h => ?_) <;> first | (exfalso; simp at h; first | done | omega | contradiction) | (exfalso; simp_all; done) | (try simp at h)) | omega)
  | true =>
    rw [he] at ca
    have ci := Itoa_ok (GG := GG) v (h1 he)
    have cw : Valid PP GG F_I_within [.d (.int .i64 v), .d (.int .i64 (-9999999999999)), .d (.int .i64 9999999999999)] (.d (.bool (inB v (-9999999999999) 9999999999999))) [none, none, none] := within_ok _ _ _
    simp only [true_and]
    by_cases hi : Lib.itoa v = s
    · rw [hi] at ci
      simp only [hi, true_and]
      generalize inB v (-9999999999999) 9999999999999 = b at cw ⊢
      cases b <;> simp only [if_true, if_false, Bool.false_eq_true]
      · repeat' (first | refine W_seq ?_ | refine W_skip ?_ | refine W_block ?_ | refine W_exit ?_ | refine pick_pos rfl ?_ | refine pick_neg rfl ?_ | ((first | refine W_regP fun K hK => ?_ | refine W_regPD fun K hK => ?_ | refine W_ret ?_ | with_reducible refine callQ (ca) ?_ | with_reducible refine callQ (ci) ?_ | with_reducible refine callQ (cw) ?_); simp [Fin]) | (with_reducible refine hK _ ?_; clear hK K) | (with_reducible refine goL_split (fun h => ?_) (fun h => ?_) <;> first | (exfalso; simp at h; first | done | omega | contradiction) | ((try simp at h); simp)) | with_reducible refine And.intro ?_ ?_ | with_reducible exact okay_rfl rfl | with_reducible assumption | (refine W_cond rfl (fun h => ?_) (fun h => ?_) <;> first | (exfalso; simp at h; first | done | omega | contradiction) | (exfalso; simp_all; done) | (try simp at h)) | omega)
      · repeat' (first | refine W_seq ?_ | refine W_skip ?_ | refine W_block ?_ | refine W_exit ?_ | refine pick_pos rfl ?_ | refine pick_neg rfl ?_ | ((first | refine W_regP fun K hK => ?_ | refine W_regPD fun K hK => ?_ | refine W_ret ?_ | with_reducible refine callQ (ca) ?_ | with_reducible refine callQ (ci) ?_ | with_reducible refine callQ (cw) ?_); simp [Fin]) | (with_reducible refine hK _ ?_; clear hK K) | (with_reducible refine goL_split (fun h => ?_) (fun h => ?_) <;> first | (exfalso; simp at h; first | done | omega | contradiction) | ((try simp at h); simp)) | with_reducible refine And.intro ?_ ?_ | with_reducible exact okay_rfl rfl | with_reducible assumption | (refine W_cond rfl (fun h => ?_) (fun h => ?_) <;> first | (exfalso; simp at h; first | done | omega | contradiction) | (exfalso; simp_all; done) | (try simp at h)) | omega)
    · simp only [hi, false_and, if_false]
      have hne : (Lib.itoa v == s) = false := by simpa using hi
      repeat' (first | refine W_seq ?_ | refine W_skip ?_ | refine W_block ?_ | refine W_exit ?_ | refine pick_pos rfl ?_ | refine pick_neg rfl ?_ | ((first | refine W_regP fun K hK => ?_ | refine W_regPD fun K hK => ?_ | refine W_ret ?_ | with_reducible refine callQ (ca) ?_ | with_reducible refine callQ (ci) ?_ | with_reducible refine callQ (cw) ?_); simp [Fin, hne]) | (with_reducible refine hK _ ?_; clear hK K) | (with_reducible refine goL_split (fun h => ?_) (fun h => ?_) <;> first | (exfalso; simp at h; first | done | omega | contradiction) | ((try simp at h); simp [hne])) | with_reducible refine And.intro ?_ ?_ | with_reducible exact okay_rfl rfl | with_reducible assumption | (refine W_cond rfl (fun h => ?_) (fun h => ?_) <;> first | (exfalso; simp at h; first | done | omega | contradiction) | (exfalso; simp_all; done) | (try simp at h)) | omega)

theorem isDeskWord_ok (w : List UInt8) (hw : w.length ≤ 1048576) : Valid PP GG F_I_isDeskWord [.d (.str w)] (.d (.bool (wordB w))) [none] := by
  refine v_I_isDeskWord [.d (.bool (wordB w))] rfl rfl ?_
  have ci : Valid PP GG F_I_within [.d (.int .i64 w.length), .d (.int .i64 1), .d (.int .i64 100)] (.d (.bool (inB w.length 1 100))) [none, none, none] := within_ok _ _ _
  repeat' (first | refine W_seq ?_ | refine W_skip ?_ | refine W_block ?_ | refine W_exit ?_ | refine pick_pos rfl ?_ | refine pick_neg rfl ?_ | ((first | refine W_regP fun K hK => ?_ | refine W_regPD fun K hK => ?_ | refine W_ret ?_); simp [Fin]) | (with_reducible refine hK _ ?_; clear hK K) | (with_reducible refine goL_split (fun h => ?_) (fun h => ?_) <;> first | (exfalso; simp at h; first | done | omega | contradiction) | ((try simp at h); simp)) | with_reducible refine And.intro ?_ ?_ | with_reducible exact okay_rfl rfl | with_reducible assumption | (refine W_cond rfl (fun h => ?_) (fun h => ?_) <;> first | (exfalso; simp at h; first | done | omega | contradiction) | (exfalso; simp_all; done) | (try simp at h)) | omega)
  refine W_loop (fun n st => ∃ i : Nat, n = w.length - i ∧ i ≤ w.length ∧ (∀ b, b ∈ w.take i → visB b = true) ∧ st = ⟨[], [(0, .d (.str w)), (5, .d (.int .i64 w.length)), (6, .d (.int .i64 i))], [], 0⟩) _ ⟨0, rfl, by omega, fun b h => by simp at h, rfl⟩ ?_
  rintro n st ⟨i, rfl, hi, hn, rfl⟩
  by_cases hlt : i < w.length
  · have ha := List.getElem?_eq_getElem hlt
    generalize w[i] = x at ha
    have hxm := List.mem_of_getElem? ha
    repeat' (first | refine W_seq ?_ | refine W_skip ?_ | refine W_block ?_ | refine W_exit ?_ | refine pick_pos rfl ?_ | refine pick_neg rfl ?_ | ((first | refine W_regP fun K hK => ?_ | refine W_regPD fun K hK => ?_ | refine W_ret ?_); simp [Fin, ha]) | (with_reducible refine hK _ ?_; clear hK K) | (with_reducible refine goL_split (fun h => ?_) (fun h => ?_) <;> first | (exfalso; simp at h; first | done | omega | contradiction) | ((try simp at h); simp [ha])) | with_reducible refine And.intro ?_ ?_ | with_reducible exact okay_rfl rfl | with_reducible assumption | (refine W_cond rfl (fun h => ?_) (fun h => ?_) <;> first | (exfalso; simp at h; first | done | omega | contradiction) | (exfalso; simp_all; done) | (try simp at h)) | omega)
    · have : wordB w = false := by unfold wordB; rw [List.all_eq_false.2 ⟨x, hxm, by unfold visB; simp; omega⟩]; rfl
      rw [this]
    · have : wordB w = false := by unfold wordB; rw [List.all_eq_false.2 ⟨x, hxm, by unfold visB; simp; omega⟩]; rfl
      rw [this]
    · refine ⟨w.length - (i + 1), by omega, i + 1, rfl, hlt, take_all ha hn (by unfold visB; simp; omega), ?_⟩
      simp [gc, closeN, liveA, gcV, gcO, renA, renAs, renO, namesAs, namesA, namesO, posn]
      exact wrap_id (by omega) (by omega)
  · rw [List.take_of_length_le (by omega)] at hn
    have hw2 : wordB w = inB w.length 1 100 := by unfold wordB; rw [List.all_eq_true.2 hn]; simp
    repeat' (first | refine W_seq ?_ | refine W_skip ?_ | refine W_block ?_ | refine W_exit ?_ | refine pick_pos rfl ?_ | refine pick_neg rfl ?_ | ((first | refine W_regP fun K hK => ?_ | refine W_regPD fun K hK => ?_ | refine W_ret ?_ | with_reducible refine callQ (ci) ?_); simp [Fin, hw2]) | (with_reducible refine hK _ ?_; clear hK K) | (with_reducible refine goL_split (fun h => ?_) (fun h => ?_) <;> first | (exfalso; simp at h; first | done | omega | contradiction) | ((try simp at h); simp [hw2])) | with_reducible refine And.intro ?_ ?_ | with_reducible exact okay_rfl rfl | with_reducible assumption | (refine W_cond rfl (fun h => ?_) (fun h => ?_) <;> first | (exfalso; simp at h; first | done | omega | contradiction) | (exfalso; simp_all; done) | (try simp at h)) | omega)

def lastP (p : List UInt8) : Nat → Int
  | 0 => -1
  | k + 1 => if ((p.getD k 0).toNat : Int) = 61 then (k : Int) else lastP p k

theorem lastP_lib (p : List UInt8) : Lib.lastIndexByte ⟨p.toArray⟩ 61 = lastP p p.length := by
  have h : ∀ k, Lib.lastIdx ⟨p.toArray⟩ 61 k = lastP p k := by
    intro k
    induction k with
    | zero => rfl
    | succ k ih =>
      simp only [Lib.lastIdx, lastP, ih]
      have : ((⟨p.toArray⟩ : ByteArray).data[k]!) = p.getD k 0 := by
        show p.toArray[k]! = _
        simp [List.getD_eq_getElem?_getD, getElem!_def]
        cases p[k]? <;> rfl
      rw [this]
  exact h _

theorem lastP_range (p : List UInt8) : ∀ k, k ≤ p.length → lastP p k = -1 ∨ ∃ j : Nat, lastP p k = j ∧ j < k ∧ p[j]? = some 61 := by
  intro k
  induction k with
  | zero => intro _; exact .inl rfl
  | succ k ih =>
    intro hk
    simp only [lastP]
    split
    · rename_i h
      refine .inr ⟨k, rfl, by omega, ?_⟩
      rw [List.getD_eq_getElem?_getD, List.getElem?_eq_getElem (by omega)] at h
      rw [List.getElem?_eq_getElem (by omega)]
      simp only [Option.getD_some] at h
      congr 1
      rw [← UInt8.toNat_inj]
      show _ = 61
      omega
    · rcases ih (by omega) with h | ⟨j, h1, h2, h3⟩
      · exact .inl h
      · exact .inr ⟨j, h1, by omega, h3⟩

def fixP (p : List UInt8) : List UInt8 := p.take (lastP p p.length).toNat ++ [32] ++ p.drop ((lastP p p.length).toNat + 1) ++ [10]

def polP : List (List UInt8) → Option (List UInt8)
  | [] => some []
  | p :: r => if lastP p p.length < 0 then none else (polP r).map fun d => fixP p ++ d

theorem polP_app (a b : List (List UInt8)) : polP (a ++ b) = (polP a).bind fun d => (polP b).map fun e => d ++ e := by
  induction a with
  | nil => simp [polP]
  | cons p a ih =>
    simp only [List.cons_append, polP]
    split
    · rfl
    · rw [ih]
      cases polP a <;> cases polP b <;> simp

theorem polP_snoc {a : List (List UInt8)} {d : List UInt8} (h : polP a = some d) (p : List UInt8) : polP (a ++ [p]) = if lastP p p.length < 0 then none else some (d ++ fixP p) := by
  rw [polP_app, h]
  simp only [polP, Option.bind_some]
  split <;> simp

theorem polP_none {l : List (List UInt8)} {i : Nat} (h : polP (l.take i) = none) : polP l = none := by
  rw [← List.take_append_drop i l, polP_app, h]; rfl

theorem polP_len {m : Nat} : ∀ {a : List (List UInt8)} {d : List UInt8}, polP a = some d → (∀ p, p ∈ a → p.length ≤ m) → d.length ≤ a.length * (m + 2) := by
  intro a
  induction a with
  | nil => intro d h _; simp [polP] at h; subst h; simp
  | cons p a ih =>
    intro d h hm
    simp only [polP] at h
    split at h
    · cases h
    · cases hp : polP a with
      | none => rw [hp] at h; cases h
      | some e =>
        rw [hp] at h
        simp only [Option.map_some, Option.some.injEq] at h
        subst h
        have h1 := ih hp fun q hq => hm q (by simp [hq])
        have h2 := hm p (by simp)
        have h3 : (fixP p).length ≤ p.length + 2 := by unfold fixP; simp only [List.length_append, List.length_take, List.length_drop, List.length_cons, List.length_nil]; omega
        rw [List.length_append, List.length_cons, Nat.add_mul]
        omega

theorem LastIndexByte_ok (p : List UInt8) (hp : p.length ≤ 1099511627776) : Valid PP GG 57 [.d (.str p), .d (.int .u8 61)] (.d (.int .i64 (lastP p p.length))) [none, none] := by
  refine lib_new [.str p, .int .u8 61] ⟨Tryd.f57, Tryd.func57, by kernel_rfl, by kernel_rfl⟩ fun w Fz args hG hFz hl hA => ?_
  have e : args = #[.string ⟨p.toArray⟩, .int .u8 61] := by
    refine args_eq (l := [.string ⟨p.toArray⟩, .int .u8 61]) hl fun i v hv => ?_
    match i, hv with
    | 0, hv => cases hv; exact shr_str (hA 0 _ rfl)
    | 1, hv => cases hv; exact shr_int (hA 1 _ rfl)
  subst e
  refine (Go.Proofs.YtgoknpcippfjbaaDoor.Tryd.strings_LastIndexByte ⟨p.toArray⟩ 61 (by show p.length < _; omega) w).mono ?_
  rintro e w' ⟨rfl, rfl⟩
  rw [lastP_lib]
  exact ⟨_, Fz, fun _ _ => False, rfl, ⟨rfl, rfl⟩, Nat.le_refl _, fun _ _ => rfl, fun _ _ h => h, fun b o h => ⟨.inl h, hFz b o h⟩, .d _ _ _ (.int _ _) fun _ _ h => h, fun _ _ h => h.elim⟩

theorem policyData_ok [MaxL GG] (s : List UInt8) (hs : s.length ≤ 1048576) : Valid PP GG F_I_policyData [.d (.str s)] (.tup [.d (.str ((polP (cutAt 59 s)).getD [])), .d (.bool (polP (cutAt 59 s)).isSome)]) [none] := by
  refine v_I_policyData [.d (.str ((polP (cutAt 59 s)).getD [])), .d (.bool (polP (cutAt 59 s)).isSome)] rfl rfl ?_
  have cs := Split_ok (GG := GG) s 59 (by omega)
  have hcl := cutAt_len 59 s
  have hcm : ∀ p, p ∈ cutAt 59 s → p.length ≤ s.length := fun p => cutAt_mem s
  generalize cutAt 59 s = l at *
  repeat' (first | refine W_seq ?_ | refine W_skip ?_ | refine W_block ?_ | refine W_exit ?_ | refine pick_pos rfl ?_ | refine pick_neg rfl ?_ | ((first | refine W_regP fun K hK => ?_ | refine W_regPD fun K hK => ?_ | refine W_ret ?_ | with_reducible refine callQ (cs) ?_); simp [Fin]) | (with_reducible refine hK _ ?_; clear hK K) | (with_reducible refine goL_split (fun h => ?_) (fun h => ?_) <;> first | (exfalso; simp at h; first | done | omega | contradiction) | ((try simp at h); simp)) | with_reducible refine And.intro ?_ ?_ | with_reducible exact okay_rfl rfl | with_reducible assumption | (refine W_cond rfl (fun h => ?_) (fun h => ?_) <;> first | (exfalso; simp at h; first | done | omega | contradiction) | (exfalso; simp_all; done) | (try simp at h)) | omega)
  refine W_loop (fun n st => ∃ (i : Nat) (d : List UInt8), n = l.length - i ∧ i ≤ l.length ∧ polP (l.take i) = some d ∧ st = ⟨[], [(4, .d (.str d)), (9, .d (.slc 1 (strsD l))), (10, .d (.int .i64 l.length)), (11, .d (.int .i64 i))], [], 0⟩) _ ⟨0, [], rfl, by omega, rfl, rfl⟩ ?_
  rintro n st ⟨i, d, rfl, hi, hd, rfl⟩
  by_cases hlt : i < l.length
  · have ha := List.getElem?_eq_getElem hlt
    generalize l[i] = p at ha
    have hpl := hcm p (List.mem_of_getElem? ha)
    have cl := LastIndexByte_ok (GG := GG) p (by omega)
    have hsn := polP_snoc hd p
    have htk : l.take i ++ [p] = l.take (i + 1) := by rw [List.take_add_one, ha]; rfl
    rw [htk] at hsn
    have hdl := polP_len (m := s.length) hd fun q hq => hcm q (List.mem_of_mem_take hq)
    have hdl2 : (l.take i).length * (s.length + 2) ≤ 1048577 * 1048578 := Nat.mul_le_mul (by rw [List.length_take]; omega) (by omega)
    rcases lastP_range p p.length (Nat.le_refl _) with hr | ⟨j, hr, hj, _⟩
    · rw [hr] at cl hsn
      rw [if_pos (by omega)] at hsn
      rw [polP_none hsn]
      repeat' (first | refine W_seq ?_ | refine W_skip ?_ | refine W_block ?_ | refine W_exit ?_ | refine pick_pos rfl ?_ | refine pick_neg rfl ?_ | ((first | refine W_regP fun K hK => ?_ | refine W_regPD fun K hK => ?_ | refine W_ret ?_ | with_reducible refine callQ (cl) ?_); simp [Fin, ha]) | (with_reducible refine hK _ ?_; clear hK K) | (with_reducible refine goL_split (fun h => ?_) (fun h => ?_) <;> first | (exfalso; simp at h; first | done | omega | contradiction) | ((try simp at h); simp [ha])) | with_reducible refine And.intro ?_ ?_ | with_reducible exact okay_rfl rfl | with_reducible assumption | (refine W_cond rfl (fun h => ?_) (fun h => ?_) <;> first | (exfalso; simp at h; first | done | omega | contradiction) | (exfalso; simp_all; done) | (try simp at h)) | omega)
    · have hfx : fixP p = p.take j ++ [32] ++ p.drop (j + 1) ++ [10] := by unfold fixP; rw [hr, Int.toNat_natCast]
      rw [hr] at cl hsn
      rw [if_neg (by omega)] at hsn
      have hw1 : IntKind.i64.wrap ((j : Int) + 1) = (j : Int) + 1 := wrap_id (by omega) (by omega)
      have htn : ((j : Int) + 1).toNat = j + 1 := by omega
      repeat' (first | refine W_seq ?_ | refine W_skip ?_ | refine W_block ?_ | refine W_exit ?_ | refine pick_pos rfl ?_ | refine pick_neg rfl ?_ | ((first | refine W_regP fun K hK => ?_ | refine W_regPD fun K hK => ?_ | refine W_ret ?_ | with_reducible refine callQ (cl) ?_); simp [Fin, ha, hw1, htn, maxStr]) | (with_reducible refine hK _ ?_; clear hK K) | (with_reducible refine goL_split (fun h => ?_) (fun h => ?_) <;> first | (exfalso; simp at h; first | done | omega | contradiction) | ((try simp at h); simp [ha, hw1, htn, maxStr])) | with_reducible refine And.intro ?_ ?_ | with_reducible exact okay_rfl rfl | with_reducible assumption | (refine W_cond rfl (fun h => ?_) (fun h => ?_) <;> first | (exfalso; simp at h; first | done | omega | contradiction) | (exfalso; simp_all; done) | (try simp at h)) | omega)
      refine ⟨l.length - (i + 1), by omega, i + 1, d ++ fixP p, rfl, hlt, hsn, ?_⟩
      simp [gc, closeN, liveA, gcV, gcO, renA, renAs, renO, namesAs, namesA, namesO, posn, hfx]
      exact wrap_id (by omega) (by omega)
  · rw [List.take_of_length_le (by omega)] at hd
    rw [hd]
    repeat' (first | refine W_seq ?_ | refine W_skip ?_ | refine W_block ?_ | refine W_exit ?_ | refine pick_pos rfl ?_ | refine pick_neg rfl ?_ | ((first | refine W_regP fun K hK => ?_ | refine W_regPD fun K hK => ?_ | refine W_ret ?_); simp [Fin]) | (with_reducible refine hK _ ?_; clear hK K) | (with_reducible refine goL_split (fun h => ?_) (fun h => ?_) <;> first | (exfalso; simp at h; first | done | omega | contradiction) | ((try simp at h); simp)) | with_reducible refine And.intro ?_ ?_ | with_reducible exact okay_rfl rfl | with_reducible assumption | (refine W_cond rfl (fun h => ?_) (fun h => ?_) <;> first | (exfalso; simp at h; first | done | omega | contradiction) | (exfalso; simp_all; done) | (try simp at h)) | omega)

def rulW (s : List UInt8) : Option (List UInt8) := if s = [46] then some [] else polP (cutAt 59 s)

theorem set_take {p : List UInt8} {j k : Nat} {x : UInt8} (h : p[k]? = some x) : (p.set j 32).take (k + 1) = (p.set j 32).take k ++ [if k = j then 32 else x] := by
  have hk := (List.getElem?_eq_some_iff.1 h).1
  rw [List.take_add_one]
  congr 1
  rw [List.getElem?_set]
  by_cases e : k = j
  · subst e; simp [hk]
  · rw [if_neg (fun h => e h.symm), if_neg e, h]; rfl

theorem set_fix {p : List UInt8} {j : Nat} (hj : j < p.length) : p.set j 32 = p.take j ++ [32] ++ p.drop (j + 1) := by
  rw [List.set_eq_take_append_cons_drop, if_pos hj]; simp

theorem s_l19Rules_ok (s : List UInt8) (hs : s.length ≤ 1048576) : Valid PP GG F_S_l19Rules [.d (.str s)] (.tup [.d (.str ((rulW s).getD [])), .d (.bool (rulW s).isSome)]) [none] := by
  refine v_S_l19Rules [.d (.str ((rulW s).getD [])), .d (.bool (rulW s).isSome)] rfl rfl ?_
  have cs := l01Parts_ok (GG := GG) s 59 (by omega)
  change Valid PP GG F_S_l01Parts [.d (.str s), .d (.int .u8 59)] _ _ at cs
  have hcl := cutAt_len 59 s
  have hcm : ∀ p, p ∈ cutAt 59 s → p.length ≤ s.length := fun p => cutAt_mem s
  have hr : rulW s = if s = [46] then some [] else polP (cutAt 59 s) := rfl
  generalize rulW s = r at hr ⊢
  generalize cutAt 59 s = l at *
  by_cases hdot : s = [46]
  · rw [if_pos hdot] at hr
    subst hr hdot
    repeat' (first | refine W_seq ?_ | refine W_skip ?_ | refine W_block ?_ | refine W_exit ?_ | refine pick_pos rfl ?_ | refine pick_neg rfl ?_ | ((first | refine W_regP fun K hK => ?_ | refine W_regPD fun K hK => ?_ | refine W_ret ?_); simp [Fin]) | (with_reducible refine hK _ ?_; clear hK K) | (with_reducible refine goL_split (fun h => ?_) (fun h => ?_) <;> first | (exfalso; simp at h; first | done | omega | contradiction) | ((try simp at h); simp)) | with_reducible refine And.intro ?_ ?_ | with_reducible exact okay_rfl rfl | with_reducible assumption | (refine W_cond rfl (fun h => ?_) (fun h => ?_) <;> first | (exfalso; simp at h; first | done | omega | contradiction) | (exfalso; simp_all; done) | (try simp at h)) | omega)
  rw [if_neg hdot] at hr
  have hne : (s == [46]) = false := by simpa using hdot
  subst hr
  have hind := ind_strs l
  repeat' (first | refine W_seq ?_ | refine W_skip ?_ | refine W_block ?_ | refine W_exit ?_ | refine pick_pos rfl ?_ | refine pick_neg rfl ?_ | ((first | refine W_regP fun K hK => ?_ | refine W_regPD fun K hK => ?_ | refine W_ret ?_ | with_reducible refine callQ (cs) ?_); simp [Fin, hne]) | (with_reducible refine hK _ ?_; clear hK K) | (with_reducible refine goL_split (fun h => ?_) (fun h => ?_) <;> first | (exfalso; simp at h; first | done | omega | contradiction) | ((try simp at h); simp [hne])) | with_reducible refine And.intro ?_ ?_ | with_reducible exact okay_rfl rfl | with_reducible assumption | (refine W_cond rfl (fun h => ?_) (fun h => ?_) <;> first | (exfalso; simp at h; first | done | omega | contradiction) | (exfalso; simp_all; done) | (try simp at h)) | omega)
  refine W_loop (fun n st => ∃ (i : Nat) (d : List UInt8), n = l.length - i ∧ i ≤ l.length ∧ polP (l.take i) = some d ∧ st = ⟨[], [(4, .sl 0), (5, .sl 1), (6, .d (.int .i64 i))], [(0, .arr 0 0 1 (bytesD d)), (1, .arr 0 0 1 (strsD l))], 2⟩) _ ⟨0, [], rfl, by omega, rfl, rfl⟩ ?_
  rintro n st ⟨i, d, rfl, hi, hd, rfl⟩
  by_cases hlt : i < l.length
  · have ha := List.getElem?_eq_getElem hlt
    generalize l[i] = p at ha
    have hpl := hcm p (List.mem_of_getElem? ha)
    have hsn := polP_snoc hd p
    have htk : l.take i ++ [p] = l.take (i + 1) := by rw [List.take_add_one, ha]; rfl
    rw [htk] at hsn
    have hdl := polP_len (m := s.length) hd fun q hq => hcm q (List.mem_of_mem_take hq)
    have hdl2 : (l.take i).length * (s.length + 2) ≤ 1048577 * 1048578 := Nat.mul_le_mul (by rw [List.length_take]; omega) (by omega)
    repeat' (first | refine W_seq ?_ | refine W_skip ?_ | refine W_block ?_ | refine W_exit ?_ | refine pick_pos rfl ?_ | refine pick_neg rfl ?_ | ((first | refine W_regP fun K hK => ?_ | refine W_regPD fun K hK => ?_ | refine W_ret ?_); simp [Fin, ha]) | (with_reducible refine hK _ ?_; clear hK K) | (with_reducible refine goL_split (fun h => ?_) (fun h => ?_) <;> first | (exfalso; simp at h; first | done | omega | contradiction) | ((try simp at h); simp [ha])) | with_reducible refine And.intro ?_ ?_ | with_reducible exact okay_rfl rfl | with_reducible assumption | (refine W_cond rfl (fun h => ?_) (fun h => ?_) <;> first | (exfalso; simp at h; first | done | omega | contradiction) | (exfalso; simp_all; done) | (try simp at h)) | omega)
    refine W_loop (fun n st => ∃ (k : Nat), n = p.length - k ∧ k ≤ p.length ∧ st = ⟨[], [(4, .sl 0), (5, .sl 1), (6, .d (.int .i64 i)), (7, .d (.int .i64 (lastP p k))), (8, .d (.int .i64 k))], [(0, .arr 0 0 1 (bytesD d)), (1, .arr 0 0 1 (strsD l))], 2⟩) _ ⟨0, rfl, by omega, rfl⟩ ?_
    rintro n st ⟨k, rfl, hk, rfl⟩
    by_cases hkl : k < p.length
    · have hb := List.getElem?_eq_getElem hkl
      generalize p[k] = y at hb
      have hst : lastP p (k + 1) = if (y.toNat : Int) = 61 then (k : Int) else lastP p k := by simp only [lastP, List.getD_eq_getElem?_getD, hb, Option.getD_some]
      repeat' (first | refine W_seq ?_ | refine W_skip ?_ | refine W_block ?_ | refine W_exit ?_ | refine pick_pos rfl ?_ | refine pick_neg rfl ?_ | ((first | refine W_regP fun K hK => ?_ | refine W_regPD fun K hK => ?_ | refine W_ret ?_); simp [Fin, ha, hb]) | (with_reducible refine hK _ ?_; clear hK K) | (with_reducible refine goL_split (fun h => ?_) (fun h => ?_) <;> first | (exfalso; simp at h; first | done | omega | contradiction) | ((try simp at h); simp [ha, hb])) | with_reducible refine And.intro ?_ ?_ | with_reducible exact okay_rfl rfl | with_reducible assumption | (refine W_cond rfl (fun h => ?_) (fun h => ?_) <;> first | (exfalso; simp at h; first | done | omega | contradiction) | (exfalso; simp_all; done) | (try simp at h)) | omega)
      · refine ⟨p.length - (k + 1), by omega, k + 1, rfl, hkl, ?_⟩
        simp [gc, closeN, liveA, gcV, gcO, renA, renAs, renO, namesAs, namesA, namesO, posn, hst]
        exact ⟨fun h' => by omega, wrap_id (by omega) (by omega)⟩
      · refine ⟨p.length - (k + 1), by omega, k + 1, rfl, hkl, ?_⟩
        simp [gc, closeN, liveA, gcV, gcO, renA, renAs, renO, namesAs, namesA, namesO, posn, hst]
        exact ⟨fun h' => by omega, wrap_id (by omega) (by omega)⟩
    · have hke : k = p.length := by omega
      subst hke
      rcases lastP_range p p.length (Nat.le_refl _) with hr | ⟨j, hr, hj, _⟩
      · rw [hr] at hsn ⊢
        rw [if_pos (by omega)] at hsn
        rw [polP_none hsn]
        repeat' (first | refine W_seq ?_ | refine W_skip ?_ | refine W_block ?_ | refine W_exit ?_ | refine pick_pos rfl ?_ | refine pick_neg rfl ?_ | ((first | refine W_regP fun K hK => ?_ | refine W_regPD fun K hK => ?_ | refine W_ret ?_); simp [Fin, ha]) | (with_reducible refine hK _ ?_; clear hK K) | (with_reducible refine goL_split (fun h => ?_) (fun h => ?_) <;> first | (exfalso; simp at h; first | done | omega | contradiction) | ((try simp at h); simp [ha])) | with_reducible refine And.intro ?_ ?_ | with_reducible exact okay_rfl rfl | with_reducible assumption | (refine W_cond rfl (fun h => ?_) (fun h => ?_) <;> first | (exfalso; simp at h; first | done | omega | contradiction) | (exfalso; simp_all; done) | (try simp at h)) | omega)
      · have hfx : fixP p = p.set j 32 ++ [10] := by unfold fixP; rw [hr, Int.toNat_natCast, set_fix hj]
        rw [hr] at hsn ⊢
        rw [if_neg (by omega)] at hsn
        repeat' (first | refine W_seq ?_ | refine W_skip ?_ | refine W_block ?_ | refine W_exit ?_ | refine pick_pos rfl ?_ | refine pick_neg rfl ?_ | ((first | refine W_regP fun K hK => ?_ | refine W_regPD fun K hK => ?_ | refine W_ret ?_); simp [Fin, ha]) | (with_reducible refine hK _ ?_; clear hK K) | (with_reducible refine goL_split (fun h => ?_) (fun h => ?_) <;> first | (exfalso; simp at h; first | done | omega | contradiction) | ((try simp at h); simp [ha])) | with_reducible refine And.intro ?_ ?_ | with_reducible exact okay_rfl rfl | with_reducible assumption | (refine W_cond rfl (fun h => ?_) (fun h => ?_) <;> first | (exfalso; simp at h; first | done | omega | contradiction) | (exfalso; simp_all; done) | (try simp at h)) | omega)
        refine W_loop (fun n st => ∃ (q : Nat), n = p.length - q ∧ q ≤ p.length ∧ st = ⟨[], [(4, .sl 0), (5, .sl 1), (6, .d (.int .i64 i)), (7, .d (.int .i64 j)), (9, .d (.int .i64 q))], [(0, .arr 0 0 1 (bytesD (d ++ (p.set j 32).take q))), (1, .arr 0 0 1 (strsD l))], 2⟩) _ ⟨0, rfl, by omega, by simp; rfl⟩ ?_
        rintro n st ⟨q, rfl, hq, rfl⟩
        by_cases hql : q < p.length
        · have hb := List.getElem?_eq_getElem hql
          generalize p[q] = y at hb
          have hst := set_take (j := j) hb
          by_cases hqj : q = j
          · rw [if_pos hqj] at hst
            subst hqj
            repeat' (first | refine W_seq ?_ | refine W_skip ?_ | refine W_block ?_ | refine W_exit ?_ | refine pick_pos rfl ?_ | refine pick_neg rfl ?_ | ((first | refine W_regP fun K hK => ?_ | refine W_regPD fun K hK => ?_ | refine W_ret ?_); simp [Fin, ha, hb, limit]) | (with_reducible refine hK _ ?_; clear hK K) | (with_reducible refine goL_split (fun h => ?_) (fun h => ?_) <;> first | (exfalso; simp at h; first | done | omega | contradiction) | ((try simp at h); simp [ha, hb, limit])) | with_reducible refine And.intro ?_ ?_ | with_reducible exact okay_rfl rfl | with_reducible assumption | (refine W_cond rfl (fun h => ?_) (fun h => ?_) <;> first | (exfalso; simp at h; first | done | omega | contradiction) | (exfalso; simp_all; done) | (try simp at h)) | omega)
            all_goals (refine ⟨p.length - (q + 1), by omega, q + 1, rfl, hql, ?_⟩; rw [hst, ← List.append_assoc, bytesD_app])
            all_goals (simp [gc, closeN, liveA, gcV, gcO, renA, renAs, renO, namesAs, namesA, namesO, posn]; exact ⟨wrap_id (by omega) (by omega), by simp [bytesD]⟩)
          · rw [if_neg hqj] at hst
            repeat' (first | refine W_seq ?_ | refine W_skip ?_ | refine W_block ?_ | refine W_exit ?_ | refine pick_pos rfl ?_ | refine pick_neg rfl ?_ | ((first | refine W_regP fun K hK => ?_ | refine W_regPD fun K hK => ?_ | refine W_ret ?_); simp [Fin, ha, hb, hqj, limit]) | (with_reducible refine hK _ ?_; clear hK K) | (with_reducible refine goL_split (fun h => ?_) (fun h => ?_) <;> first | (exfalso; simp at h; first | done | omega | contradiction) | ((try simp at h); simp [ha, hb, hqj, limit])) | with_reducible refine And.intro ?_ ?_ | with_reducible exact okay_rfl rfl | with_reducible assumption | (refine W_cond rfl (fun h => ?_) (fun h => ?_) <;> first | (exfalso; simp at h; first | done | omega | contradiction) | (exfalso; simp_all; done) | (try simp at h)) | omega)
            all_goals (refine ⟨p.length - (q + 1), by omega, q + 1, rfl, hql, ?_⟩; rw [hst, ← List.append_assoc, bytesD_app])
            all_goals (simp [gc, closeN, liveA, gcV, gcO, renA, renAs, renO, namesAs, namesA, namesO, posn]; exact ⟨wrap_id (by omega) (by omega), by simp [bytesD]⟩)
        · rw [List.take_of_length_le (by simp; omega)]
          repeat' (first | refine W_seq ?_ | refine W_skip ?_ | refine W_block ?_ | refine W_exit ?_ | refine pick_pos rfl ?_ | refine pick_neg rfl ?_ | ((first | refine W_regP fun K hK => ?_ | refine W_regPD fun K hK => ?_ | refine W_ret ?_); simp [Fin, ha, limit]) | (with_reducible refine hK _ ?_; clear hK K) | (with_reducible refine goL_split (fun h => ?_) (fun h => ?_) <;> first | (exfalso; simp at h; first | done | omega | contradiction) | ((try simp at h); simp [ha, limit])) | with_reducible refine And.intro ?_ ?_ | with_reducible exact okay_rfl rfl | with_reducible assumption | (refine W_cond rfl (fun h => ?_) (fun h => ?_) <;> first | (exfalso; simp at h; first | done | omega | contradiction) | (exfalso; simp_all; done) | (try simp at h)) | omega)
          refine ⟨l.length - (i + 1), by omega, i + 1, d ++ fixP p, rfl, hlt, hsn, ?_⟩
          simp [gc, closeN, liveA, gcV, gcO, renA, renAs, renO, namesAs, namesA, namesO, posn, hfx]
          exact ⟨wrap_id (by omega) (by omega), by simp [bytesD]⟩
  · rw [List.take_of_length_le (by omega)] at hd
    rw [hd]
    repeat' (first | refine W_seq ?_ | refine W_skip ?_ | refine W_block ?_ | refine W_exit ?_ | refine pick_pos rfl ?_ | refine pick_neg rfl ?_ | ((first | refine W_regP fun K hK => ?_ | refine W_regPD fun K hK => ?_ | refine W_ret ?_); simp [Fin, strOf_bytesD]) | (with_reducible refine hK _ ?_; clear hK K) | (with_reducible refine goL_split (fun h => ?_) (fun h => ?_) <;> first | (exfalso; simp at h; first | done | omega | contradiction) | ((try simp at h); simp [strOf_bytesD])) | with_reducible refine And.intro ?_ ?_ | with_reducible exact okay_rfl rfl | with_reducible assumption | (refine W_cond rfl (fun h => ?_) (fun h => ?_) <;> first | (exfalso; simp at h; first | done | omega | contradiction) | (exfalso; simp_all; done) | (try simp at h)) | omega)

def takeW (kind : Int) (c : UInt8) (r : GReq) (w : List UInt8) : Option GReq :=
  if c = 110 then (match numW w with | some n => some { r with fNum := n } | none => none)
  else if wordB w = false then none
  else if c = 112 then some { r with fPath := w }
  else if c = 109 then some { r with fName := w }
  else if w = [46] then some r
  else if c = 113 then some { r with fPath := w }
  else if kind = 0 then (match polP (cutAt 59 w) with | some d => some { r with fData := d } | none => none)
  else some { r with fData := w }

theorem u8_ne {a b : UInt8} (h : ¬ a = b) : ¬ a.toNat = b.toNat := fun e => h (UInt8.toNat_inj.1 e)

end Go.Proofs.YtgoknpcippfjbaaDoor.Ab

