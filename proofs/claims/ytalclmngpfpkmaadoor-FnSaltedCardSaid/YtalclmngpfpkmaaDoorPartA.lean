/-
  A part of a proof about the given program; what is proved is said where each theorem stands.
-/
import Derived.Test.YtalclmngpfpkmaaDoorFrameA
import Derived.Test.YtalclmngpfpkmaaDoorFrameB
import Derived.Test.YtalclmngpfpkmaaDoorFrameC
import Derived.Test.YtalclmngpfpkmaaDoorFrameD
import Derived.Test.YtalclmngpfpkmaaDoorFrameE
import Derived.Test.YtalclmngpfpkmaaDoorCodesA
import Derived.Test.YtalclmngpfpkmaaDoorShelf
namespace Go.Proofs
end Go.Proofs
set_option linter.unusedSimpArgs false
set_option linter.unusedVariables false
set_option maxRecDepth 100000
set_option maxHeartbeats 2000000
namespace Go.Proofs.YtalclmngpfpkmaaDoor.Ab
open Go.Proofs
variable {GG : GV}
structure Hide (q : Prop) : Prop where
  out : q
theorem bq {a b : Bool} (h : a = b := by first | omega | (exact decide_eq_false (by omega)) | (exact decide_eq_true (by omega)) | (exact (decide_eq_true (by omega)).symm) | (exact (decide_eq_false (by omega)).symm) | (exact decide_eq_decide.2 (by omega)) | (simp only [← decide_not]; exact decide_eq_decide.2 (by omega)) | (simp [*]; done) | (simp [*]; omega) | (simp_all; done) | (simp_all; omega) | (rw [Bool.eq_iff_iff]; simp at *; omega)) : a = b := h
abbrev RS (V : FuncId → List C → C → List (Option C) → Prop) (ops : List AOper) (st st' : St) : Prop := ∀ K : St → Prop, K st' → regS V st.nx 0 ops st K
abbrev RD (V : FuncId → List C → C → List (Option C) → Prop) (ops : List AOper) (st st' : St) : Prop := ∀ K : St → Prop, K st' → regD V st.nx 0 ops [] true st K
abbrev RB (V : FuncId → List C → C → List (Option C) → Prop) (ops : List AOper) (st : St) (r : Nat) (b : Bool) : Prop := ∀ K : St → Prop, (∀ t tm, t = b → K ⟨tm, put st.vars r (.d (.bool t)), st.objs, st.nx⟩) → regS V st.nx 0 ops st K
abbrev RE (V : FuncId → List C → C → List (Option C) → Prop) (ops : List AOper) (st : St) (r : Nat) (b : Bool) : Prop := ∀ K : St → Prop, (∀ t tm, t = b → K ⟨tm, put st.vars r (.d (.bool t)), st.objs, st.nx⟩) → regD V st.nx 0 ops [] true st K
section
variable {P : Program} {vl : List Nat} {nt : Nat × List Nat} {V : FuncId → List C → C → List (Option C) → Prop} {ops : List AOper} {st st' : St} {Kn : St → Prop} {Ke : Nat → St → Prop} {Kr : St → Prop} {p_e1 p_e2 p_e3 p_e4 p_e5 p_e6 p_e7 p_k1 p_k2 p_k3 p_k4 p_k5 p_k6 p_k7 p q : Prop}

end

theorem wrap_id {n : Int} (h1 : -9223372036854775808 ≤ n) (h2 : n ≤ 9223372036854775807) : IntKind.i64.wrap n = n := by
  rw [IntKind.wrap_i64]; omega

theorem row_one {R : List (List D)} {i : Nat} (h : ∀ r, r ∈ R → r.length = 1) (hi : i < R.length) : ∃ d, R[i]? = some [d] := by
  have := h _ (List.getElem_mem hi)
  rw [List.length_eq_one_iff] at this
  obtain ⟨d, hd⟩ := this
  exact ⟨d, by rw [List.getElem?_eq_getElem hi, hd]⟩

theorem set_one {R : List (List D)} {i : Nat} {d : D} (h : ∀ r, r ∈ R → r.length = 1) : ∀ r, r ∈ R.set i [d] → r.length = 1 := by
  intro r hr
  rcases List.mem_or_eq_of_mem_set hr with h1 | h1
  · exact h r h1
  · subst h1; rfl

theorem take_set_succ {R : List (List D)} {i : Nat} {r : List D} (hi : i < R.length) : (R.set i r).take (i + 1) = R.take i ++ [r] := by
  rw [List.take_add_one, List.take_set_of_le (Nat.le_refl _)]
  simp [hi]

theorem bytesD_succ {a : List UInt8} {i : Nat} {x : UInt8} (ha : a[i]? = some x) : bytesD (a.take (i + 1)) = bytesD (a.take i) ++ [[.int .u8 x.toNat]] := by
  rw [List.take_add_one, ha]; simp [bytesD]

theorem ofBytes_bytesD (s : List UInt8) : ofBytes (bytesD s) = some s := by
  induction s with
  | nil => rfl
  | cons x s ih => simp [bytesD, ofBytes] at ih ⊢; exact ih

theorem strOf_bytesD (s : List UInt8) : strOf (.slc 1 (bytesD s)) = out (.d (.str s)) := by
  cases s with
  | nil => rfl
  | cons x s => simp only [strOf, ofBytes_bytesD]; simp [bytesD]

theorem l01In_ok (x lo hi : Int) : Valid PP GG F_S_l01In [.d (.int .i64 x), .d (.int .i64 lo), .d (.int .i64 hi)] (.d (.bool (decide (lo ≤ x) && decide (x ≤ hi)))) [none, none, none] := by
  refine v_S_l01In [.d (.bool (decide (lo ≤ x) && decide (x ≤ hi)))] rfl rfl ?_
  refine W_seq (?_)
  apply W_regS
  · intro K hK
    simp
    repeat' (first | with_reducible exact hK | (with_reducible refine goL_split (fun _ => ?_) (fun _ => ?_) <;> simp) | with_reducible refine And.intro ?_ ?_ | with_reducible exact okay_rfl rfl | with_reducible assumption | omega)
  refine W_seq (?_)
  refine W_regB 6 (decide (lo ≤ x) && decide (x ≤ hi)) (fun K hK => ?_) ?_
  · simp
    repeat' (first | exact hK _ _ (by clear hK; first | omega | (exact decide_eq_false (by omega)) | (exact decide_eq_true (by omega)) | (exact (decide_eq_true (by omega)).symm) | (exact (decide_eq_false (by omega)).symm) | (exact decide_eq_decide.2 (by omega)) | (simp only [← decide_not]; exact decide_eq_decide.2 (by omega)) | (simp [*]; done) | (simp [*]; omega) | (simp_all; done) | (simp_all; omega) | (rw [Bool.eq_iff_iff]; simp at *; omega)) | (with_reducible refine goL_split (fun _ => ?_) (fun _ => ?_) <;> simp) | with_reducible refine And.intro ?_ ?_ | with_reducible exact okay_rfl rfl | with_reducible assumption | omega)
  refine W_ret ?_
  simp [Fin]
  all_goals omega

theorem within_ok (x lo hi : Int) : Valid PP GG F_I_within [.d (.int .i64 x), .d (.int .i64 lo), .d (.int .i64 hi)] (.d (.bool (decide (lo ≤ x) && decide (x ≤ hi)))) [none, none, none] := by
  refine v_I_within [.d (.bool (decide (lo ≤ x) && decide (x ≤ hi)))] rfl rfl ?_
  refine W_seq (?_)
  apply W_regS
  · intro K hK
    simp
    repeat' (first | with_reducible exact hK | (with_reducible refine goL_split (fun _ => ?_) (fun _ => ?_) <;> simp) | with_reducible refine And.intro ?_ ?_ | with_reducible exact okay_rfl rfl | with_reducible assumption | omega)
  refine W_seq (?_)
  refine W_regB 6 (decide (lo ≤ x) && decide (x ≤ hi)) (fun K hK => ?_) ?_
  · simp
    repeat' (first | exact hK _ _ (by clear hK; first | omega | (exact decide_eq_false (by omega)) | (exact decide_eq_true (by omega)) | (exact (decide_eq_true (by omega)).symm) | (exact (decide_eq_false (by omega)).symm) | (exact decide_eq_decide.2 (by omega)) | (simp only [← decide_not]; exact decide_eq_decide.2 (by omega)) | (simp [*]; done) | (simp [*]; omega) | (simp_all; done) | (simp_all; omega) | (rw [Bool.eq_iff_iff]; simp at *; omega)) | (with_reducible refine goL_split (fun _ => ?_) (fun _ => ?_) <;> simp) | with_reducible refine And.intro ?_ ?_ | with_reducible exact okay_rfl rfl | with_reducible assumption | omega)
  refine W_ret ?_
  simp [Fin]
  all_goals omega

/-- The digits of a number. -/
def digs (n : Nat) : List UInt8 := if h : n = 0 then [] else digs (n / 10) ++ [UInt8.ofNat (48 + n % 10)]
termination_by n
decreasing_by omega

theorem u8_digit (n : Nat) : IntKind.u8.wrap (IntKind.i64.wrap (48 + ((n % 10 : Nat) : Int))) = ((UInt8.ofNat (48 + n % 10)).toNat : Int) := by
  rw [wrap_id (by omega) (by omega), IntKind.wrap_u8, UInt8.toNat_ofNat']
  have : (48 + n % 10) % 2 ^ 8 = 48 + n % 10 := by omega
  rw [this]; omega

theorem bytes_one (v : UInt8) : [[D.int .u8 v.toNat]] = bytesD [v] := rfl

theorem digs_dec : ∀ n, 0 < n → digs n = Lib.decDigits n := by
  intro n
  induction n using Nat.strongRecOn with
  | _ n ih =>
    intro h
    rw [digs, dif_neg (by omega), Lib.decDigits]
    by_cases hn : n < 10
    · rw [dif_pos hn]
      have e : n / 10 = 0 := by omega
      rw [e, digs, dif_pos rfl, Nat.mod_eq_of_lt hn]; rfl
    · rw [dif_neg hn, ih (n / 10) (by omega) (by omega)]

theorem digs_len2 {n : Nat} (h : n ≤ 9223372036854775808) : (digs n).length ≤ 21 := by
  by_cases h0 : n = 0
  · subst h0; rw [digs]; simp
  · rw [digs_dec n (by omega)]
    by_cases h1 : n ≤ 9223372036854775807
    · have := Lib.itoa_length_le n (by omega) (by omega)
      rw [Lib.itoa_nonneg] at this
      exact this
    · have := Lib.itoa_length_le (-(n : Int)) (by omega) (by omega)
      rw [Lib.itoa_neg n (by omega)] at this
      simp at this; omega

theorem l01Num_ok (x : Int) (hx : int64 x) : Valid PP GG F_S_l01Num [.d (.int .i64 x)] (.d (.str (Lib.itoa x))) [none] := by
  refine v_S_l01Num [.d (.str (Lib.itoa x))] rfl rfl ?_
  unfold int64 at hx
  refine W_seq (?_)
  apply W_regS
  · intro K hK
    simp
    repeat' (first | with_reducible exact hK | (with_reducible refine goL_split (fun _ => ?_) (fun _ => ?_) <;> simp) | with_reducible refine And.intro ?_ ?_ | with_reducible exact okay_rfl rfl | with_reducible assumption | omega)
  refine W_seq (W_seq (?_))
  apply W_regS
  · intro K hK
    simp
    repeat' (first | with_reducible exact hK | (with_reducible refine goL_split (fun _ => ?_) (fun _ => ?_) <;> simp) | with_reducible refine And.intro ?_ ?_ | with_reducible exact okay_rfl rfl | with_reducible assumption | omega)
  refine W_cond rfl (fun h => W_seq ?_) (fun h => W_skip ?_)
  · simp at h
    subst h
    apply W_regS
    · intro K hK
      simp
      repeat' (first | with_reducible exact hK | (with_reducible refine goL_split (fun _ => ?_) (fun _ => ?_) <;> simp) | with_reducible refine And.intro ?_ ?_ | with_reducible exact okay_rfl rfl | with_reducible assumption | omega)
    have : Lib.itoa 0 = [48] := by rw [show (0 : Int) = ((0 : Nat) : Int) from rfl, Lib.itoa_nonneg, Lib.decDigits]; rfl
    refine W_ret ?_
    simp [Fin, this]
    all_goals omega
  simp at h
  obtain ⟨ng, hng⟩ : ∃ ng, ng = decide (x < 0) := ⟨_, rfl⟩
  refine W_seq (?_)
  apply W_regS
  · intro K hK
    simp
    repeat' (first | with_reducible exact hK | (with_reducible refine goL_split (fun _ => ?_) (fun _ => ?_) <;> simp) | with_reducible refine And.intro ?_ ?_ | with_reducible exact okay_rfl rfl | with_reducible assumption | omega)
  refine W_seq (?_)
  apply W_regS
  · intro K hK
    simp [← hng]
    repeat' (first | with_reducible exact hK | (with_reducible refine goL_split (fun _ => ?_) (fun _ => ?_) <;> simp [← hng]) | with_reducible refine And.intro ?_ ?_ | with_reducible exact okay_rfl rfl | with_reducible assumption | omega)
  refine W_seq (?_)
  refine W_block (W_loop (fun n st => ∃ (m : Nat) (out : List UInt8), n = m ∧ digs m ++ out = digs x.natAbs ∧ m ≤ x.natAbs ∧
    st = ⟨[], [(0, .d (.int .i64 (if ng then -(m : Int) else m))), (3, .d (.str out)), (4, .d (.bool ng))], [], 0⟩) _ ⟨x.natAbs, [], rfl, by simp, by omega, by
      simp [gc, closeN, liveA, gcV, gcO, renA, namesAs, namesA, ← hng]; cases ng <;> simp at hng ⊢ <;> omega⟩ ?_)
  rintro m st ⟨m', out, rfl, he, hm, rfl⟩
  have hl : out.length ≤ 21 := by
    have h1 := digs_len2 (n := x.natAbs) (by omega)
    rw [← he] at h1
    simp at h1
    omega
  refine W_seq (W_seq (?_))
  apply W_regS
  · intro K hK
    simp
    repeat' (first | with_reducible exact hK | (with_reducible refine goL_split (fun _ => ?_) (fun _ => ?_) <;> simp) | with_reducible refine And.intro ?_ ?_ | with_reducible exact okay_rfl rfl | with_reducible assumption | omega)
  refine W_cond rfl (fun h2 => W_skip ?_) (fun h2 => W_exit ?_)
  · have hm0 : m ≠ 0 := by rintro rfl; cases ng <;> simp at h2
    have hd := u8_digit m
    obtain ⟨r, hr⟩ : ∃ r : Nat, r = m % 10 := ⟨_, rfl⟩
    obtain ⟨q, hqq⟩ : ∃ q : Nat, q = m / 10 := ⟨_, rfl⟩
    rw [← hr] at hd
    obtain ⟨v, hv⟩ : ∃ v, v = UInt8.ofNat (48 + r) := ⟨_, rfl⟩
    rw [← hv] at hd
    have fin : digs q ++ (v :: out) = digs x.natAbs := by
      rw [← he, digs.eq_1 m, dif_neg hm0, ← hqq, ← hr, ← hv]
      simp
    cases ng with
    | false =>
      have ht : ((m : Int).tmod 10) = (r : Int) := by rw [hr]; rfl
      have hq : IntKind.i64.wrap ((m : Int).tdiv 10) = (q : Int) := by
        have : (m : Int).tdiv 10 = ((m / 10 : Nat) : Int) := rfl
        rw [this, ← hqq]; exact wrap_id (by omega) (by omega)
      simp at hq
      refine W_block (W_seq ?_)
      apply W_regS
      · intro K hK
        simp [ht]
        repeat' (first | with_reducible exact hK | (with_reducible refine goL_split (fun _ => ?_) (fun _ => ?_) <;> simp [ht]) | with_reducible refine And.intro ?_ ?_ | with_reducible exact okay_rfl rfl | with_reducible assumption | omega)
      refine W_seq (W_seq (?_))
      apply W_regS
      · intro K hK
        simp
        repeat' (first | with_reducible exact hK | (with_reducible refine goL_split (fun _ => ?_) (fun _ => ?_) <;> simp) | with_reducible refine And.intro ?_ ?_ | with_reducible exact okay_rfl rfl | with_reducible assumption | omega)
      refine W_cond rfl (fun h3 => ?_) (fun h3 => W_skip ?_)
      · simp at h3; omega
      refine W_seq (?_)
      apply W_regS
      · intro K hK
        simp [hd, litA, bytes_one, strOf_bytesD, maxStr]
        repeat' (first | with_reducible exact hK | (with_reducible refine goL_split (fun _ => ?_) (fun _ => ?_) <;> simp [hd, litA, bytes_one, strOf_bytesD, maxStr]) | with_reducible refine And.intro ?_ ?_ | with_reducible exact okay_rfl rfl | with_reducible assumption | omega)
      apply W_regS
      · intro K hK
        simp [hq]
        repeat' (first | with_reducible exact hK | (with_reducible refine goL_split (fun _ => ?_) (fun _ => ?_) <;> simp [hq]) | with_reducible refine And.intro ?_ ?_ | with_reducible exact okay_rfl rfl | with_reducible assumption | omega)
      exact ⟨q, by omega, q, v :: out, rfl, fin, by omega, by simp [gc, closeN, liveA, gcV, gcO, renA, namesAs, namesA]⟩
    | true =>
      have ht : ((-(m : Int)).tmod 10) = -(r : Int) := by rw [Int.neg_tmod, hr]; rfl
      have hn : IntKind.i64.wrap (0 - -(r : Int)) = (r : Int) := by rw [wrap_id (by omega) (by omega)]; omega
      have hq : IntKind.i64.wrap ((-(m : Int)).tdiv 10) = -(q : Int) := by
        have : (-(m : Int)).tdiv 10 = -((m / 10 : Nat) : Int) := by rw [Int.neg_tdiv]; rfl
        rw [this, ← hqq]; exact wrap_id (by omega) (by omega)
      simp at hn hq
      refine W_block (W_seq ?_)
      apply W_regS
      · intro K hK
        simp [ht]
        repeat' (first | with_reducible exact hK | (with_reducible refine goL_split (fun _ => ?_) (fun _ => ?_) <;> simp [ht]) | with_reducible refine And.intro ?_ ?_ | with_reducible exact okay_rfl rfl | with_reducible assumption | omega)
      refine W_seq (W_seq (?_))
      apply W_regS
      · intro K hK
        simp
        repeat' (first | with_reducible exact hK | (with_reducible refine goL_split (fun _ => ?_) (fun _ => ?_) <;> simp) | with_reducible refine And.intro ?_ ?_ | with_reducible exact okay_rfl rfl | with_reducible assumption | omega)
      refine W_cond rfl (fun h3 => ?_) (fun h3 => W_skip ?_)
      · apply W_regS
        · intro K hK
          simp [hn]
          repeat' (first | with_reducible exact hK | (with_reducible refine goL_split (fun _ => ?_) (fun _ => ?_) <;> simp [hn]) | with_reducible refine And.intro ?_ ?_ | with_reducible exact okay_rfl rfl | with_reducible assumption | omega)
        refine W_seq (?_)
        apply W_regS
        · intro K hK
          simp [hd, litA, bytes_one, strOf_bytesD, maxStr]
          repeat' (first | with_reducible exact hK | (with_reducible refine goL_split (fun _ => ?_) (fun _ => ?_) <;> simp [hd, litA, bytes_one, strOf_bytesD, maxStr]) | with_reducible refine And.intro ?_ ?_ | with_reducible exact okay_rfl rfl | with_reducible assumption | omega)
        apply W_regS
        · intro K hK
          simp [hq]
          repeat' (first | with_reducible exact hK | (with_reducible refine goL_split (fun _ => ?_) (fun _ => ?_) <;> simp [hq]) | with_reducible refine And.intro ?_ ?_ | with_reducible exact okay_rfl rfl | with_reducible assumption | omega)
        exact ⟨q, by omega, q, v :: out, rfl, fin, by omega, by simp [gc, closeN, liveA, gcV, gcO, renA, namesAs, namesA]⟩
      have hn2 : -(r : Int) = (r : Int) := by simp at h3; omega
      refine W_seq (?_)
      apply W_regS
      · intro K hK
        simp [hn2, hd, litA, bytes_one, strOf_bytesD, maxStr]
        repeat' (first | with_reducible exact hK | (with_reducible refine goL_split (fun _ => ?_) (fun _ => ?_) <;> simp [hn2, hd, litA, bytes_one, strOf_bytesD, maxStr]) | with_reducible refine And.intro ?_ ?_ | with_reducible exact okay_rfl rfl | with_reducible assumption | omega)
      apply W_regS
      · intro K hK
        simp [hq]
        repeat' (first | with_reducible exact hK | (with_reducible refine goL_split (fun _ => ?_) (fun _ => ?_) <;> simp [hq]) | with_reducible refine And.intro ?_ ?_ | with_reducible exact okay_rfl rfl | with_reducible assumption | omega)
      exact ⟨q, by omega, q, v :: out, rfl, fin, by omega, by simp [gc, closeN, liveA, gcV, gcO, renA, namesAs, namesA]⟩
  · have hm0 : m = 0 := by cases ng <;> simp at h2 <;> omega
    subst hm0
    rw [if_pos rfl]
    have hz : digs 0 = [] := by rw [digs]; simp
    rw [hz, List.nil_append] at he
    refine W_seq (W_seq (?_))
    apply W_regS
    · intro K hK
      simp
      repeat' (first | with_reducible exact hK | (with_reducible refine goL_split (fun _ => ?_) (fun _ => ?_) <;> simp) | with_reducible refine And.intro ?_ ?_ | with_reducible exact okay_rfl rfl | with_reducible assumption | omega)
    refine W_cond rfl (fun h3 => W_seq ?_) (fun h3 => W_skip ?_)
    · subst h3
      apply W_regS
      · intro K hK
        simp [maxStr]
        repeat' (first | with_reducible exact hK | (with_reducible refine goL_split (fun _ => ?_) (fun _ => ?_) <;> simp [maxStr]) | with_reducible refine And.intro ?_ ?_ | with_reducible exact okay_rfl rfl | with_reducible assumption | omega)
      have : Lib.itoa x = 45 :: out := by
        simp at hng
        unfold Lib.itoa
        rw [if_pos (by omega), he, digs_dec _ (by omega)]
      refine W_ret ?_
      simp [Fin, this]
      all_goals omega
    subst h3
    refine W_seq (?_)
    apply W_regS
    · intro K hK
      simp
      repeat' (first | with_reducible exact hK | (with_reducible refine goL_split (fun _ => ?_) (fun _ => ?_) <;> simp) | with_reducible refine And.intro ?_ ?_ | with_reducible exact okay_rfl rfl | with_reducible assumption | omega)
    have : Lib.itoa x = out := by
      simp at hng
      unfold Lib.itoa
      rw [if_neg (by omega), he, digs_dec _ (by omega)]
      congr 1
      omega
    refine W_ret ?_
    simp [Fin, this]
    all_goals omega

abbrev noteC (s a w : Int) (t p : List UInt8) (c m : Int) : List C := [.d (.int .i64 s), .d (.int .i64 a), .d (.int .i64 w), .d (.str t), .d (.str p), .d (.int .i64 c), .d (.int .i64 m)]

def dA (l : List UInt8) : Nat := l.foldl (fun p b => (131 * p + b.toNat + 1) % 2147483647) 7

def dB (l : List UInt8) : Nat := l.foldl (fun p b => (137 * p + b.toNat + 3) % 2147483629) 11

def digN (l : List UInt8) : Int := 2147483648 * (dA l : Int) + (dB l : Int)

theorem dA_lt (l : List UInt8) : dA l < 2147483647 := by
  rcases List.eq_nil_or_concat l with rfl | ⟨r, x, rfl⟩
  · simp [dA]
  · simp only [dA, List.concat_eq_append, List.foldl_append, List.foldl_cons, List.foldl_nil]; omega

theorem dB_lt (l : List UInt8) : dB l < 2147483629 := by
  rcases List.eq_nil_or_concat l with rfl | ⟨r, x, rfl⟩
  · simp [dB]
  · simp only [dB, List.concat_eq_append, List.foldl_append, List.foldl_cons, List.foldl_nil]; omega

theorem dA_succ {l : List UInt8} {i : Nat} {x : UInt8} (h : l[i]? = some x) : dA (l.take (i + 1)) = (131 * dA (l.take i) + x.toNat + 1) % 2147483647 := by
  rw [List.take_add_one, h]; simp [dA, List.foldl_append]

theorem dB_succ {l : List UInt8} {i : Nat} {x : UInt8} (h : l[i]? = some x) : dB (l.take (i + 1)) = (137 * dB (l.take i) + x.toNat + 3) % 2147483629 := by
  rw [List.take_add_one, h]; simp [dB, List.foldl_append]

theorem stepA (p : Nat) (x : UInt8) (hp : p < 2147483647) : (IntKind.i64.wrap (IntKind.i64.wrap (IntKind.i64.wrap (131 * (p : Int)) + IntKind.i64.wrap (x.toNat : Int)) + 1)).tmod 2147483647 = (((131 * p + x.toNat + 1) % 2147483647 : Nat) : Int) := by
  have hx := x.toNat_lt
  rw [wrap_id (n := 131 * (p : Int)) (by omega) (by omega), wrap_id (n := (x.toNat : Int)) (by omega) (by omega), wrap_id (n := 131 * (p : Int) + x.toNat) (by omega) (by omega), wrap_id (by omega) (by omega)]
  rw [Int.tmod_eq_emod_of_nonneg (by omega)]
  omega

theorem stepB (p : Nat) (x : UInt8) (hp : p < 2147483629) : (IntKind.i64.wrap (IntKind.i64.wrap (IntKind.i64.wrap (137 * (p : Int)) + IntKind.i64.wrap (x.toNat : Int)) + 3)).tmod 2147483629 = (((137 * p + x.toNat + 3) % 2147483629 : Nat) : Int) := by
  have hx := x.toNat_lt
  rw [wrap_id (n := 137 * (p : Int)) (by omega) (by omega), wrap_id (n := (x.toNat : Int)) (by omega) (by omega), wrap_id (n := 137 * (p : Int) + x.toNat) (by omega) (by omega), wrap_id (by omega) (by omega)]
  rw [Int.tmod_eq_emod_of_nonneg (by omega)]
  omega

theorem digFin (l : List UInt8) : IntKind.i64.wrap (IntKind.i64.wrap (2147483648 * (dA l : Int)) + (dB l : Int)) = digN l := by
  have := dA_lt l
  have := dB_lt l
  rw [wrap_id (n := 2147483648 * (dA l : Int)) (by omega) (by omega), wrap_id (by omega) (by omega)]; rfl

theorem Digest_ok (a : List UInt8) (ha : a.length ≤ 140737488355328) : Valid PP GG F_S_Digest [.d (.slc 1 (bytesD a))] (.d (.int .i64 (digN a))) [none] := by
  refine v_S_Digest [.d (.int .i64 (digN a))] rfl rfl ?_
  refine W_seq (?_)
  apply W_regS
  · intro K hK
    simp
    repeat' (first | with_reducible exact hK | (with_reducible refine goL_split (fun _ => ?_) (fun _ => ?_) <;> simp) | with_reducible refine And.intro ?_ ?_ | with_reducible exact okay_rfl rfl | with_reducible assumption | omega)
  refine W_seq (?_)
  apply W_regS
  · intro K hK
    simp
    repeat' (first | with_reducible exact hK | (with_reducible refine goL_split (fun _ => ?_) (fun _ => ?_) <;> simp) | with_reducible refine And.intro ?_ ?_ | with_reducible exact okay_rfl rfl | with_reducible assumption | omega)
  refine W_seq (?_)
  apply W_regS
  · intro K hK
    simp
    repeat' (first | with_reducible exact hK | (with_reducible refine goL_split (fun _ => ?_) (fun _ => ?_) <;> simp) | with_reducible refine And.intro ?_ ?_ | with_reducible exact okay_rfl rfl | with_reducible assumption | omega)
  refine W_seq (W_seq (?_))
  apply W_regS
  · intro K hK
    simp
    repeat' (first | with_reducible exact hK | (with_reducible refine goL_split (fun _ => ?_) (fun _ => ?_) <;> simp) | with_reducible refine And.intro ?_ ?_ | with_reducible exact okay_rfl rfl | with_reducible assumption | omega)
  refine W_block (W_loop (fun n st => ∃ (i : Nat), n = a.length - i ∧ i ≤ a.length ∧
    st = ⟨[], [(0, .d (.slc 1 (bytesD a))), (3, .d (.int .i64 (dA (a.take i)))), (4, .d (.int .i64 (dB (a.take i)))), (5, .d (.int .i64 i))], [], 0⟩) _ ⟨0, rfl, by omega, rfl⟩ ?_)
  rintro n st ⟨i, rfl, hi, rfl⟩
  refine W_seq (W_seq (?_))
  apply W_regS
  · intro K hK
    simp
    repeat' (first | with_reducible exact hK | (with_reducible refine goL_split (fun _ => ?_) (fun _ => ?_) <;> simp) | with_reducible refine And.intro ?_ ?_ | with_reducible exact okay_rfl rfl | with_reducible assumption | omega)
  refine W_cond rfl (fun h => W_skip ?_) (fun h => W_exit ?_)
  · simp at h
    have hx := List.getElem?_eq_getElem h
    generalize a[i] = x at hx
    have sA := stepA _ x (dA_lt (a.take i))
    have sB := stepB _ x (dB_lt (a.take i))
    rw [← dA_succ hx] at sA
    rw [← dB_succ hx] at sB
    refine W_seq (W_block (W_seq ?_))
    apply W_regS
    · intro K hK
      simp [hx, sA]
      repeat' (first | with_reducible exact hK | (with_reducible refine goL_split (fun _ => ?_) (fun _ => ?_) <;> simp [hx, sA]) | with_reducible refine And.intro ?_ ?_ | with_reducible exact okay_rfl rfl | with_reducible assumption | omega)
    apply W_regS
    · intro K hK
      simp [hx, sB]
      repeat' (first | with_reducible exact hK | (with_reducible refine goL_split (fun _ => ?_) (fun _ => ?_) <;> simp [hx, sB]) | with_reducible refine And.intro ?_ ?_ | with_reducible exact okay_rfl rfl | with_reducible assumption | omega)
    apply W_regS
    · intro K hK
      simp
      repeat' (first | with_reducible exact hK | (with_reducible refine goL_split (fun _ => ?_) (fun _ => ?_) <;> simp) | with_reducible refine And.intro ?_ ?_ | with_reducible exact okay_rfl rfl | with_reducible assumption | omega)
    exact ⟨a.length - (i + 1), by omega, i + 1, rfl, h, by
      simp [gc, closeN, liveA, gcV, gcO, renA, namesAs, namesA]
      rw [wrap_id (by omega) (by omega)]⟩
  · simp at h
    rw [if_pos rfl]
    refine W_seq (?_)
    apply W_regS
    · intro K hK
      simp [List.take_of_length_le h, digFin]
      repeat' (first | with_reducible exact hK | (with_reducible refine goL_split (fun _ => ?_) (fun _ => ?_) <;> simp [List.take_of_length_le h, digFin]) | with_reducible refine And.intro ?_ ?_ | with_reducible exact okay_rfl rfl | with_reducible assumption | omega)
    refine W_ret ?_
    simp [Fin]
    all_goals omega

theorem digest_ok (a : List UInt8) (ha : a.length ≤ 140737488355328) : Valid PP GG F_I_digest [.d (.slc 1 (bytesD a))] (.d (.int .i64 (digN a))) [none] := by
  refine v_I_digest [.d (.int .i64 (digN a))] rfl rfl ?_
  refine W_seq (?_)
  apply W_regS
  · intro K hK
    simp
    repeat' (first | with_reducible exact hK | (with_reducible refine goL_split (fun _ => ?_) (fun _ => ?_) <;> simp) | with_reducible refine And.intro ?_ ?_ | with_reducible exact okay_rfl rfl | with_reducible assumption | omega)
  refine W_seq (?_)
  apply W_regS
  · intro K hK
    simp
    repeat' (first | with_reducible exact hK | (with_reducible refine goL_split (fun _ => ?_) (fun _ => ?_) <;> simp) | with_reducible refine And.intro ?_ ?_ | with_reducible exact okay_rfl rfl | with_reducible assumption | omega)
  refine W_seq (W_seq (?_))
  apply W_regS
  · intro K hK
    simp
    repeat' (first | with_reducible exact hK | (with_reducible refine goL_split (fun _ => ?_) (fun _ => ?_) <;> simp) | with_reducible refine And.intro ?_ ?_ | with_reducible exact okay_rfl rfl | with_reducible assumption | omega)
  refine W_block (W_loop (fun n st => ∃ (i : Nat), n = a.length - i ∧ i ≤ a.length ∧
    st = ⟨[], [(3, .d (.int .i64 (dA (a.take i)))), (4, .d (.int .i64 (dB (a.take i)))), (7, .d (.slc 1 (bytesD a))), (8, .d (.int .i64 a.length)), (9, .d (.int .i64 i))], [], 0⟩) _ ⟨0, rfl, by omega, rfl⟩ ?_)
  rintro n st ⟨i, rfl, hi, rfl⟩
  refine W_seq (?_)
  apply W_regS
  · intro K hK
    simp
    repeat' (first | with_reducible exact hK | (with_reducible refine goL_split (fun _ => ?_) (fun _ => ?_) <;> simp) | with_reducible refine And.intro ?_ ?_ | with_reducible exact okay_rfl rfl | with_reducible assumption | omega)
  refine W_seq (?_)
  refine W_cond rfl (fun h => W_skip ?_) (fun h => W_exit ?_)
  · simp at h
    have hx := List.getElem?_eq_getElem h
    generalize a[i] = x at hx
    have sA := stepA _ x (dA_lt (a.take i))
    have sB := stepB _ x (dB_lt (a.take i))
    rw [← dA_succ hx] at sA
    rw [← dB_succ hx] at sB
    refine W_seq (W_block (W_seq ?_))
    apply W_regS
    · intro K hK
      simp [hx]
      repeat' (first | with_reducible exact hK | (with_reducible refine goL_split (fun _ => ?_) (fun _ => ?_) <;> simp [hx]) | with_reducible refine And.intro ?_ ?_ | with_reducible exact okay_rfl rfl | with_reducible assumption | omega)
    refine W_seq (?_)
    apply W_regS
    · intro K hK
      simp [hx, sA]
      repeat' (first | with_reducible exact hK | (with_reducible refine goL_split (fun _ => ?_) (fun _ => ?_) <;> simp [hx, sA]) | with_reducible refine And.intro ?_ ?_ | with_reducible exact okay_rfl rfl | with_reducible assumption | omega)
    apply W_regS
    · intro K hK
      simp [hx, sB]
      repeat' (first | with_reducible exact hK | (with_reducible refine goL_split (fun _ => ?_) (fun _ => ?_) <;> simp [hx, sB]) | with_reducible refine And.intro ?_ ?_ | with_reducible exact okay_rfl rfl | with_reducible assumption | omega)
    apply W_regS
    · intro K hK
      simp
      repeat' (first | with_reducible exact hK | (with_reducible refine goL_split (fun _ => ?_) (fun _ => ?_) <;> simp) | with_reducible refine And.intro ?_ ?_ | with_reducible exact okay_rfl rfl | with_reducible assumption | omega)
    exact ⟨a.length - (i + 1), by omega, i + 1, rfl, h, by
      simp [gc, closeN, liveA, gcV, gcO, renA, namesAs, namesA]
      rw [wrap_id (by omega) (by omega)]⟩
  · simp at h
    rw [if_pos rfl]
    refine W_seq (?_)
    apply W_regS
    · intro K hK
      simp [List.take_of_length_le h, digFin]
      repeat' (first | with_reducible exact hK | (with_reducible refine goL_split (fun _ => ?_) (fun _ => ?_) <;> simp [List.take_of_length_le h, digFin]) | with_reducible refine And.intro ?_ ?_ | with_reducible exact okay_rfl rfl | with_reducible assumption | omega)
    refine W_ret ?_
    simp [Fin]
    all_goals omega

def sumT (x s a w : Int) (t p : List UInt8) (c : Int) : List UInt8 := Lib.itoa x ++ [10] ++ Lib.itoa s ++ [10] ++ Lib.itoa a ++ [10] ++ Lib.itoa w ++ [10] ++ t ++ [10] ++ p ++ [10] ++ Lib.itoa c

theorem itoa_len {x : Int} (h : int64 x) : (Lib.itoa x).length ≤ 21 := Lib.itoa_length_le x h.1 h.2

theorem s_SumOf_ok (x s a w : Int) (t p : List UInt8) (c m : Int) (hx : int64 x) (hs : int64 s) (ha : int64 a) (hw : int64 w) (hc : int64 c) (h1 : t.length ≤ 1048576) (h2 : p.length ≤ 1048576) :
    Valid PP GG F_S_SumOf [.d (.int .i64 x), .agg (noteC s a w t p c m)] (.d (.int .i64 (digN (sumT x s a w t p c)))) [none, none] := by
  refine v_S_SumOf [.d (.int .i64 (digN (sumT x s a w t p c)))] rfl rfl ?_
  have l0 := itoa_len hx
  have l1 := itoa_len hs
  have l2 := itoa_len ha
  have l3 := itoa_len hw
  have l4 := itoa_len hc
  refine W_seq (?_)
  apply W_regS
  · intro K hK
    simp
    repeat' (first | with_reducible exact hK | (with_reducible refine goL_split (fun _ => ?_) (fun _ => ?_) <;> simp) | with_reducible refine And.intro ?_ ?_ | with_reducible exact okay_rfl rfl | with_reducible assumption | omega)
  refine W_seq (?_)
  apply W_regD
  · intro K hK
    simp [maxStr]
    repeat' (first | with_reducible exact hK | (with_reducible refine callQ (l01Num_ok x hx) ?_; simp [maxStr]) | (with_reducible refine callQ (l01Num_ok s hs) ?_; simp [maxStr]) | (with_reducible refine callQ (l01Num_ok a ha) ?_; simp [maxStr]) | (with_reducible refine callQ (l01Num_ok w hw) ?_; simp [maxStr]) | (with_reducible refine callQ (l01Num_ok c hc) ?_; simp [maxStr]) | (with_reducible refine goL_split (fun _ => ?_) (fun _ => ?_) <;> simp [maxStr]) | with_reducible refine And.intro ?_ ?_ | with_reducible exact okay_rfl rfl | with_reducible assumption | omega)
  have hl : (sumT x s a w t p c).length ≤ 140737488355328 := by unfold sumT; simp; omega
  have e : Lib.itoa x ++ 10 :: (Lib.itoa s ++ 10 :: (Lib.itoa a ++ 10 :: (Lib.itoa w ++ 10 :: (t ++ 10 :: (p ++ 10 :: Lib.itoa c))))) = sumT x s a w t p c := by simp [sumT]
  refine W_seq (?_)
  apply W_regS
  · intro K hK
    simp [e]
    repeat' (first | with_reducible exact hK | (with_reducible refine callQ (Digest_ok (sumT x s a w t p c) hl) ?_; simp [e]) | (with_reducible refine goL_split (fun _ => ?_) (fun _ => ?_) <;> simp [e]) | with_reducible refine And.intro ?_ ?_ | with_reducible exact okay_rfl rfl | with_reducible assumption | omega)
  refine W_ret ?_
  simp [Fin]
  all_goals omega

theorem u8_all {p : UInt8 → Prop} (h : ∀ n : _root_.Fin 256, p (UInt8.ofNat n.val)) (x : UInt8) : p x := by
  have := h ⟨x.toNat, x.toNat_lt⟩
  simpa using this

def sumBy {α : Type} (f : α → Nat) : List α → Nat
  | [] => 0
  | x :: r => f x + sumBy f r

theorem sumBy_append {α : Type} (f : α → Nat) (a b : List α) : sumBy f (a ++ b) = sumBy f a + sumBy f b := by
  induction a with
  | nil => simp [sumBy]
  | cons x a ih => simp [sumBy, ih]; omega

theorem sumBy_mem {α : Type} {f : α → Nat} {a : List α} {x : α} (h : x ∈ a) : f x ≤ sumBy f a := by
  induction a with
  | nil => simp at h
  | cons y a ih =>
    rcases List.mem_cons.1 h with rfl | h
    · simp [sumBy]
    · have := ih h; simp [sumBy]; omega

theorem sumBy_get {α : Type} {f : α → Nat} {a : List α} {i : Nat} {x : α} (h : a[i]? = some x) : f x ≤ sumBy f a := sumBy_mem (List.mem_of_getElem? h)

theorem drop_get {α : Type} {a : List α} {i : Nat} {x : α} (h : a[i]? = some x) : a.drop i = x :: a.drop (i + 1) := by
  obtain ⟨h1, rfl⟩ := List.getElem?_eq_some_iff.1 h
  exact List.drop_eq_getElem_cons h1

structure GNote where
  fSeq : Int
  fAt : Int
  fWho : Int
  fWhat : List UInt8
  fPath : List UInt8
  fCode : Int
  fSum : Int
  deriving DecidableEq

@[simp] abbrev GNote.row (x : GNote) : List D := [.int .i64 x.fSeq, .int .i64 x.fAt, .int .i64 x.fWho, .str x.fWhat, .str x.fPath, .int .i64 x.fCode, .int .i64 x.fSum]

@[simp] abbrev GNote.c (x : GNote) : List C := [.d (.int .i64 x.fSeq), .d (.int .i64 x.fAt), .d (.int .i64 x.fWho), .d (.str x.fWhat), .d (.str x.fPath), .d (.int .i64 x.fCode), .d (.int .i64 x.fSum)]

@[simp] abbrev GNote.o (x : GNote) : List C := [.d (.int .i64 x.fSeq), .d (.int .i64 x.fAt), .d (.int .i64 x.fWho), .d (.str x.fWhat), .d (.str x.fPath), .d (.int .i64 x.fCode), .d (.int .i64 x.fSum)]

def rNote (l : List GNote) : List (List D) := l.map GNote.row

@[simp] theorem rNote_len (l : List GNote) : (rNote l).length = l.length := by simp [rNote]

@[simp] theorem rNote_get (l : List GNote) (i : Nat) : (rNote l)[i]? = (l[i]?).map GNote.row := by simp [rNote]

def GNote.cost (x : GNote) : Nat := x.fWhat.length + x.fPath.length

def GNote.ok (x : GNote) : Prop := int64 x.fSeq ∧ int64 x.fAt ∧ int64 x.fWho ∧ x.fWhat.length ≤ maxLen ∧ x.fPath.length ≤ maxLen ∧ int64 x.fCode ∧ int64 x.fSum

structure GChain where
  fFirst : Int
  fSalt : Int
  fNotes : List GNote
  deriving DecidableEq

@[simp] abbrev GChain.row (x : GChain) : List D := [.int .i64 x.fFirst, .int .i64 x.fSalt, .slc 7 (rNote x.fNotes)]

@[simp] abbrev GChain.c (x : GChain) : List C := [.d (.int .i64 x.fFirst), .d (.int .i64 x.fSalt), .d (.slc 7 (rNote x.fNotes))]

@[simp] abbrev GChain.o (x : GChain) : List C := [.d (.int .i64 x.fFirst), .d (.int .i64 x.fSalt), .own 0 7 (rNote x.fNotes)]

def GChain.cost (x : GChain) : Nat := (x.fNotes.length + sumBy GNote.cost x.fNotes)

def GChain.ok (x : GChain) : Prop := int64 x.fFirst ∧ int64 x.fSalt ∧ x.fNotes.length ≤ maxLen ∧ (∀ y, y ∈ x.fNotes → y.ok)

structure GReq where
  fKind : Int
  fToken : Int
  fName : List UInt8
  fPath : List UInt8
  fData : List UInt8
  fNum : Int
  deriving DecidableEq

@[simp] abbrev GReq.row (x : GReq) : List D := [.int .i64 x.fKind, .int .i64 x.fToken, .str x.fName, .str x.fPath, .str x.fData, .int .i64 x.fNum]

@[simp] abbrev GReq.c (x : GReq) : List C := [.d (.int .i64 x.fKind), .d (.int .i64 x.fToken), .d (.str x.fName), .d (.str x.fPath), .d (.str x.fData), .d (.int .i64 x.fNum)]

@[simp] abbrev GReq.o (x : GReq) : List C := [.d (.int .i64 x.fKind), .d (.int .i64 x.fToken), .d (.str x.fName), .d (.str x.fPath), .d (.str x.fData), .d (.int .i64 x.fNum)]

def GReq.cost (x : GReq) : Nat := x.fName.length + x.fPath.length + x.fData.length

def GReq.ok (x : GReq) : Prop := int64 x.fKind ∧ int64 x.fToken ∧ x.fName.length ≤ maxLen ∧ x.fPath.length ≤ maxLen ∧ x.fData.length ≤ maxLen ∧ int64 x.fNum

def nameB (b : UInt8) : Bool := decide (97 ≤ b.toNat ∧ b.toNat ≤ 122 ∨ 48 ≤ b.toNat ∧ b.toNat ≤ 57)

def segB (b : UInt8) : Bool := decide ((97 ≤ b.toNat ∧ b.toNat ≤ 122 ∨ 48 ≤ b.toNat ∧ b.toNat ≤ 57) ∨ b.toNat = 45)

def nameOk (s : List UInt8) : Bool := decide (1 ≤ s.length ∧ s.length ≤ 12) && s.all nameB

def segOk (s : List UInt8) : Bool := decide (1 ≤ s.length ∧ s.length ≤ 16) && s.all segB

def headCons (b : UInt8) : List (List UInt8) → List (List UInt8)
  | [] => []
  | p :: ps => (b :: p) :: ps

def headApp (c : List UInt8) : List (List UInt8) → List (List UInt8)
  | [] => []
  | p :: ps => (c ++ p) :: ps

/-- A text cut at each byte c. -/
def cutAt (c : UInt8) : List UInt8 → List (List UInt8)
  | [] => [[]]
  | b :: r => if b = c then [] :: cutAt c r else headCons b (cutAt c r)

theorem cutAt_ne (c : UInt8) (s : List UInt8) : ∃ p ps, cutAt c s = p :: ps := by
  induction s with
  | nil => exact ⟨_, _, rfl⟩
  | cons b r ih =>
    obtain ⟨p, ps, h⟩ := ih
    unfold cutAt
    split
    · exact ⟨_, _, rfl⟩
    · rw [h]; exact ⟨_, _, rfl⟩

theorem headApp_nil (c : UInt8) (s : List UInt8) : headApp [] (cutAt c s) = cutAt c s := by
  obtain ⟨p, ps, h⟩ := cutAt_ne c s
  rw [h]; rfl

theorem headApp_hit (c : UInt8) (cur r : List UInt8) : headApp cur (cutAt c (c :: r)) = cur :: headApp [] (cutAt c r) := by
  rw [headApp_nil, cutAt, if_pos rfl]; simp [headApp]

theorem headApp_miss {c b : UInt8} (h : b ≠ c) (cur r : List UInt8) : headApp cur (cutAt c (b :: r)) = headApp (cur ++ [b]) (cutAt c r) := by
  obtain ⟨p, ps, e⟩ := cutAt_ne c r
  rw [cutAt, if_neg h, e]; simp [headCons, headApp]

theorem cutAt_len (c : UInt8) (s : List UInt8) : (cutAt c s).length ≤ s.length + 1 := by
  induction s with
  | nil => simp [cutAt]
  | cons b r ih =>
    unfold cutAt
    split
    · simp; exact ih
    · obtain ⟨p, ps, e⟩ := cutAt_ne c r
      rw [e] at ih ⊢
      simp [headCons] at ih ⊢; omega

theorem cutAt_mem {c : UInt8} : ∀ (s : List UInt8) {p : List UInt8}, p ∈ cutAt c s → p.length ≤ s.length := by
  intro s
  induction s with
  | nil => intro p h; simp [cutAt] at h; subst h; simp
  | cons b r ih =>
    intro p h
    unfold cutAt at h
    split at h
    · rcases List.mem_cons.1 h with rfl | h
      · simp
      · have := ih h; simp; omega
    · obtain ⟨q, qs, e⟩ := cutAt_ne c r
      rw [e] at h ih
      simp only [headCons] at h
      rcases List.mem_cons.1 h with rfl | h
      · have := ih (List.mem_cons_self ..); simp; omega
      · have := ih (List.mem_cons_of_mem _ h); simp; omega

/-- What is in a text is in one of its pieces, or is the cutting byte. -/
theorem cutAt_all {c : UInt8} {P : UInt8 → Prop} (hc : P c) : ∀ (s : List UInt8), (∀ p, p ∈ cutAt c s → ∀ b, b ∈ p → P b) → ∀ b, b ∈ s → P b := by
  intro s
  induction s with
  | nil => intro _ b h; simp at h
  | cons x r ih =>
    intro h b hb
    unfold cutAt at h
    split at h
    · rename_i e
      rcases List.mem_cons.1 hb with rfl | hb
      · rw [e]; exact hc
      · exact ih (fun p hp => h p (by simp [hp])) b hb
    · obtain ⟨q, qs, e⟩ := cutAt_ne c r
      rw [e] at h ih
      simp only [headCons] at h
      rcases List.mem_cons.1 hb with rfl | hb
      · exact h _ (List.mem_cons_self ..) _ (by simp)
      · refine ih (fun p hp b' hb' => ?_) b hb
        rcases List.mem_cons.1 hp with rfl | hp
        · exact h _ (List.mem_cons_self ..) b' (by simp [hb'])
        · exact h p (by simp [hp]) b' hb'

def segAt (l : List (List UInt8)) (i : Nat) : Bool := match l[i]? with | some s => segOk s || (s == [43]) || (s == [42] && decide (i + 1 = l.length)) | none => true

def globOk (s : List UInt8) : Bool := decide (s.length ≤ 120) && ((List.range (cutAt 47 s).length).all (segAt (cutAt 47 s)) && decide ((cutAt 47 s).length ≤ 8))

def starB (b : UInt8) : Bool := decide (b.toNat = 43 ∨ b.toNat = 42)

def pathOk (s : List UInt8) : Bool := globOk s && !s.any starB

theorem globOk_ascii {s : List UInt8} (h : globOk s = true) : ∀ b, b ∈ s → b.toNat < 128 := by
  simp only [globOk, Bool.and_eq_true, List.all_eq_true, List.mem_range] at h
  refine cutAt_all (c := 47) (P := fun b => b.toNat < 128) (by decide) s fun p hp b hb => ?_
  obtain ⟨i, hi, he⟩ := List.mem_iff_getElem.1 hp
  have := h.2.1 i hi
  unfold segAt at this
  rw [List.getElem?_eq_getElem hi, he] at this
  simp only [Bool.or_eq_true, Bool.and_eq_true, beq_iff_eq] at this
  rcases this with (h1 | h1) | h1
  · unfold segOk at h1
    simp only [Bool.and_eq_true, List.all_eq_true] at h1
    have := h1.2 b hb
    unfold segB at this
    simp at this
    omega
  · subst h1; simp at hb; subst hb; decide
  · obtain ⟨h1, _⟩ := h1; subst h1; simp at hb; subst hb; decide

theorem all_no {α : Type} {p : α → Bool} {l : List α} {i : Nat} {x : α} (h : l[i]? = some x) (hx : p x = false) : l.all p = false := by
  rw [List.all_eq_false]; exact ⟨x, List.mem_of_getElem? h, by simp [hx]⟩

theorem any_yes {α : Type} {p : α → Bool} {l : List α} {i : Nat} {x : α} (h : l[i]? = some x) (hx : p x = true) : l.any p = true := by
  rw [List.any_eq_true]; exact ⟨x, List.mem_of_getElem? h, hx⟩

theorem take_all {α : Type} {p : α → Prop} {l : List α} {i : Nat} {x : α} (ha : l[i]? = some x) (hn : ∀ y, y ∈ l.take i → p y) (hx : p x) : ∀ y, y ∈ l.take (i + 1) → p y := by
  intro y hy
  rw [List.take_add_one, ha] at hy
  rcases List.mem_append.1 hy with hy | hy
  · exact hn y hy
  · simp at hy; subst hy; exact hx

theorem getD_of {s : List UInt8} {i : Nat} {x : UInt8} (h : s[i]? = some x) : s[i]?.getD 0 = x := by rw [h]; rfl

theorem l01Name_ok (s : List UInt8) (hs : s.length ≤ 281474976710656) : Valid PP GG F_S_l01Name [.d (.str s)] (.d (.bool (nameOk s))) [none] := by
  refine v_S_l01Name [.d (.bool (nameOk s))] rfl rfl ?_
  refine W_seq (?_)
  apply W_regS
  · intro K hK
    simp
    repeat' (first | with_reducible exact hK | (with_reducible refine goL_split (fun _ => ?_) (fun _ => ?_) <;> simp) | with_reducible refine And.intro ?_ ?_ | with_reducible exact okay_rfl rfl | with_reducible assumption | omega)
  refine W_seq (W_seq (?_))
  apply W_regS
  · intro K hK
    simp
    repeat' (first | with_reducible exact hK | (with_reducible refine goL_split (fun _ => ?_) (fun _ => ?_) <;> simp) | with_reducible refine And.intro ?_ ?_ | with_reducible exact okay_rfl rfl | with_reducible assumption | omega)
  refine W_block (W_loop (fun n st => ∃ i : Nat, n = s.length - i ∧ i ≤ s.length ∧ (∀ y, y ∈ s.take i → nameB y = true) ∧ st = ⟨[], [(0, .d (.str s)), (3, .d (.int .i64 i))], [], 0⟩) _ ⟨0, rfl, by omega, fun y h => by simp at h, rfl⟩ ?_)
  rintro n st ⟨i, rfl, hi, hn, rfl⟩
  refine W_seq (W_seq (?_))
  apply W_regS
  · intro K hK
    simp
    repeat' (first | with_reducible exact hK | (with_reducible refine goL_split (fun _ => ?_) (fun _ => ?_) <;> simp) | with_reducible refine And.intro ?_ ?_ | with_reducible exact okay_rfl rfl | with_reducible assumption | omega)
  refine W_cond rfl (fun h => W_skip ?_) (fun h => W_exit ?_)
  · simp at h
    have ha := List.getElem?_eq_getElem h
    generalize s[i] = x at ha
    have hd := getD_of ha
    refine W_seq (W_block (W_seq ?_))
    apply W_regS
    · intro K hK
      simp [hd]
      repeat' (first | with_reducible exact hK | (with_reducible refine goL_split (fun _ => ?_) (fun _ => ?_) <;> simp [hd]) | with_reducible refine And.intro ?_ ?_ | with_reducible exact okay_rfl rfl | with_reducible assumption | omega)
    obtain ⟨v, hv⟩ : ∃ v, x.toNat = v := ⟨_, rfl⟩
    have hnb : nameB x = decide (97 ≤ v ∧ v ≤ 122 ∨ 48 ≤ v ∧ v ≤ 57) := by rw [← hv]; rfl
    rw [hv]
    refine W_seq (?_)
    refine W_regB 29 (decide (¬ (97 ≤ v ∧ v ≤ 122 ∨ 48 ≤ v ∧ v ≤ 57))) (fun K hK => ?_) ?_
    · simp
      repeat' (first | exact hK _ _ (by clear hK; first | omega | (exact decide_eq_false (by omega)) | (exact decide_eq_true (by omega)) | (exact (decide_eq_true (by omega)).symm) | (exact (decide_eq_false (by omega)).symm) | (exact decide_eq_decide.2 (by omega)) | (simp only [← decide_not]; exact decide_eq_decide.2 (by omega)) | (simp [*]; done) | (simp [*]; omega) | (simp_all; done) | (simp_all; omega) | (rw [Bool.eq_iff_iff]; simp at *; omega)) | (with_reducible refine goL_split (fun _ => ?_) (fun _ => ?_) <;> simp) | with_reducible refine And.intro ?_ ?_ | with_reducible exact okay_rfl rfl | with_reducible assumption | omega)
    refine W_cond rfl (fun h2 => W_seq ?_) (fun h2 => W_skip ?_)
    · rw [h2]
      apply W_regS
      · intro K hK
        simp
        repeat' (first | with_reducible exact hK | (with_reducible refine goL_split (fun _ => ?_) (fun _ => ?_) <;> simp) | with_reducible refine And.intro ?_ ?_ | with_reducible exact okay_rfl rfl | with_reducible assumption | omega)
      have : nameOk s = false := by
        unfold nameOk
        rw [all_no ha (by rw [hnb]; exact decide_eq_false (of_decide_eq_true h2)), Bool.and_false]
      refine W_ret ?_
      simp [Fin, this]
      all_goals omega
    rw [h2]
    apply W_regS
    · intro K hK
      simp
      repeat' (first | with_reducible exact hK | (with_reducible refine goL_split (fun _ => ?_) (fun _ => ?_) <;> simp) | with_reducible refine And.intro ?_ ?_ | with_reducible exact okay_rfl rfl | with_reducible assumption | omega)
    exact ⟨s.length - (i + 1), by omega, i + 1, rfl, h, take_all ha hn (by rw [hnb]; exact decide_eq_true (Decidable.not_not.1 (of_decide_eq_false h2))), by simp [gc, closeN, liveA, gcV, gcO, renA, namesAs, namesA]; rw [wrap_id (by omega) (by omega)]⟩
  · simp at h
    rw [if_pos rfl]
    rw [List.take_of_length_le h] at hn
    refine W_seq (?_)
    apply W_regS
    · intro K hK
      simp
      repeat' (first | with_reducible exact hK | (with_reducible refine callQ (l01In_ok s.length 1 12) ?_; simp) | (with_reducible refine goL_split (fun _ => ?_) (fun _ => ?_) <;> simp) | with_reducible refine And.intro ?_ ?_ | with_reducible exact okay_rfl rfl | with_reducible assumption | omega)
    have : (decide (1 ≤ (s.length : Int)) && decide ((s.length : Int) ≤ 12)) = nameOk s := by
      unfold nameOk
      rw [List.all_eq_true.2 hn, Bool.and_true, Bool.eq_iff_iff]
      simp
      omega
    refine W_ret ?_
    simp [Fin, this]
    all_goals omega

theorem l01Segment_ok (s : List UInt8) (hs : s.length ≤ 281474976710656) : Valid PP GG F_S_l01Segment [.d (.str s)] (.d (.bool (segOk s))) [none] := by
  refine v_S_l01Segment [.d (.bool (segOk s))] rfl rfl ?_
  have cl := l01In_ok (GG := GG) s.length 1 16
  obtain ⟨p, hp⟩ : ∃ p, (decide (1 ≤ (s.length : Int)) && decide ((s.length : Int) ≤ 16)) = p := ⟨_, rfl⟩
  have hp2 : segOk s = (p && s.all segB) := by
    unfold segOk
    rw [← hp]
    congr 1
    rw [Bool.eq_iff_iff]; simp; omega
  rw [hp] at cl
  refine W_seq (?_)
  apply W_regS
  · intro K hK
    simp
    repeat' (first | with_reducible exact hK | (with_reducible refine goL_split (fun _ => ?_) (fun _ => ?_) <;> simp) | with_reducible refine And.intro ?_ ?_ | with_reducible exact okay_rfl rfl | with_reducible assumption | omega)
  refine W_seq (W_seq (?_))
  apply W_regS
  · intro K hK
    simp
    repeat' (first | with_reducible exact hK | (with_reducible refine callQ (cl) ?_; simp) | (with_reducible refine goL_split (fun _ => ?_) (fun _ => ?_) <;> simp) | with_reducible refine And.intro ?_ ?_ | with_reducible exact okay_rfl rfl | with_reducible assumption | omega)
  refine W_cond rfl (fun h => W_seq ?_) (fun h => W_skip ?_)
  · simp at h
    subst h
    apply W_regS
    · intro K hK
      simp
      repeat' (first | with_reducible exact hK | (with_reducible refine goL_split (fun _ => ?_) (fun _ => ?_) <;> simp) | with_reducible refine And.intro ?_ ?_ | with_reducible exact okay_rfl rfl | with_reducible assumption | omega)
    refine W_ret ?_
    simp [Fin, hp2]
    all_goals omega
  simp at h
  subst h
  refine W_seq (W_seq (?_))
  apply W_regS
  · intro K hK
    simp
    repeat' (first | with_reducible exact hK | (with_reducible refine goL_split (fun _ => ?_) (fun _ => ?_) <;> simp) | with_reducible refine And.intro ?_ ?_ | with_reducible exact okay_rfl rfl | with_reducible assumption | omega)
  refine W_block (W_loop (fun n st => ∃ i : Nat, n = s.length - i ∧ i ≤ s.length ∧ (∀ y, y ∈ s.take i → segB y = true) ∧ st = ⟨[], [(0, .d (.str s)), (3, .d (.int .i64 i))], [], 0⟩) _ ⟨0, rfl, by omega, fun y h => by simp at h, rfl⟩ ?_)
  rintro n st ⟨i, rfl, hi, hn, rfl⟩
  refine W_seq (W_seq (?_))
  apply W_regS
  · intro K hK
    simp
    repeat' (first | with_reducible exact hK | (with_reducible refine goL_split (fun _ => ?_) (fun _ => ?_) <;> simp) | with_reducible refine And.intro ?_ ?_ | with_reducible exact okay_rfl rfl | with_reducible assumption | omega)
  refine W_cond rfl (fun h => W_skip ?_) (fun h => W_exit ?_)
  · simp at h
    have ha := List.getElem?_eq_getElem h
    generalize s[i] = x at ha
    have hd := getD_of ha
    refine W_seq (W_block (W_seq ?_))
    apply W_regS
    · intro K hK
      simp [hd]
      repeat' (first | with_reducible exact hK | (with_reducible refine goL_split (fun _ => ?_) (fun _ => ?_) <;> simp [hd]) | with_reducible refine And.intro ?_ ?_ | with_reducible exact okay_rfl rfl | with_reducible assumption | omega)
    obtain ⟨v, hv⟩ : ∃ v, x.toNat = v := ⟨_, rfl⟩
    have hnb : segB x = decide ((97 ≤ v ∧ v ≤ 122 ∨ 48 ≤ v ∧ v ≤ 57) ∨ v = 45) := by rw [← hv]; rfl
    rw [hv]
    refine W_seq (?_)
    refine W_regB 37 (decide (¬ ((97 ≤ v ∧ v ≤ 122 ∨ 48 ≤ v ∧ v ≤ 57) ∨ v = 45))) (fun K hK => ?_) ?_
    · simp
      repeat' (first | exact hK _ _ (by clear hK; first | omega | (exact decide_eq_false (by omega)) | (exact decide_eq_true (by omega)) | (exact (decide_eq_true (by omega)).symm) | (exact (decide_eq_false (by omega)).symm) | (exact decide_eq_decide.2 (by omega)) | (simp only [← decide_not]; exact decide_eq_decide.2 (by omega)) | (simp [*]; done) | (simp [*]; omega) | (simp_all; done) | (simp_all; omega) | (rw [Bool.eq_iff_iff]; simp at *; omega)) | (with_reducible refine goL_split (fun _ => ?_) (fun _ => ?_) <;> simp) | with_reducible refine And.intro ?_ ?_ | with_reducible exact okay_rfl rfl | with_reducible assumption | omega)
    refine W_cond rfl (fun h2 => W_seq ?_) (fun h2 => W_skip ?_)
    · rw [h2]
      apply W_regS
      · intro K hK
        simp
        repeat' (first | with_reducible exact hK | (with_reducible refine goL_split (fun _ => ?_) (fun _ => ?_) <;> simp) | with_reducible refine And.intro ?_ ?_ | with_reducible exact okay_rfl rfl | with_reducible assumption | omega)
      have : segOk s = false := by
        rw [hp2, all_no ha (by rw [hnb]; exact decide_eq_false (of_decide_eq_true h2)), Bool.and_false]
      refine W_ret ?_
      simp [Fin, this]
      all_goals omega
    rw [h2]
    apply W_regS
    · intro K hK
      simp
      repeat' (first | with_reducible exact hK | (with_reducible refine goL_split (fun _ => ?_) (fun _ => ?_) <;> simp) | with_reducible refine And.intro ?_ ?_ | with_reducible exact okay_rfl rfl | with_reducible assumption | omega)
    exact ⟨s.length - (i + 1), by omega, i + 1, rfl, h, take_all ha hn (by rw [hnb]; exact decide_eq_true (Decidable.not_not.1 (of_decide_eq_false h2))), by simp [gc, closeN, liveA, gcV, gcO, renA, namesAs, namesA]; rw [wrap_id (by omega) (by omega)]⟩
  · simp at h
    rw [if_pos rfl]
    rw [List.take_of_length_le h] at hn
    refine W_seq (?_)
    apply W_regS
    · intro K hK
      simp
      repeat' (first | with_reducible exact hK | (with_reducible refine goL_split (fun _ => ?_) (fun _ => ?_) <;> simp) | with_reducible refine And.intro ?_ ?_ | with_reducible exact okay_rfl rfl | with_reducible assumption | omega)
    have : segOk s = true := by rw [hp2, List.all_eq_true.2 hn]; rfl
    refine W_ret ?_
    simp [Fin, this]
    all_goals omega

theorem take_drop_snoc {s : List UInt8} {a i : Nat} {x : UInt8} (h : s[i]? = some x) (ha : a ≤ i) : (s.take (i + 1)).drop a = (s.take i).drop a ++ [x] := by
  have hl := (List.getElem?_eq_some_iff.1 h).1
  rw [List.take_add_one, h, List.drop_append_of_le_length (by rw [List.length_take]; omega)]; rfl

theorem l01Parts_ok (s : List UInt8) (c : UInt8) (hs : s.length ≤ 4194304) : Valid PP GG F_S_l01Parts [.d (.str s), .d (.int .u8 c.toNat)] (.own 0 1 (strsD (cutAt c s))) [none, none] := by
  refine v_S_l01Parts [.own 0 1 (strsD (cutAt c s))] rfl rfl ?_
  refine W_seq (?_)
  apply W_regS
  · intro K hK
    simp
    repeat' (first | with_reducible exact hK | (with_reducible refine goL_split (fun _ => ?_) (fun _ => ?_) <;> simp) | with_reducible refine And.intro ?_ ?_ | with_reducible exact okay_rfl rfl | with_reducible assumption | omega)
  refine W_seq (?_)
  apply W_regS
  · intro K hK
    simp [litA]
    repeat' (first | with_reducible exact hK | (with_reducible refine goL_split (fun _ => ?_) (fun _ => ?_) <;> simp [litA]) | with_reducible refine And.intro ?_ ?_ | with_reducible exact okay_rfl rfl | with_reducible assumption | omega)
  refine W_seq (?_)
  apply W_regS
  · intro K hK
    simp
    repeat' (first | with_reducible exact hK | (with_reducible refine goL_split (fun _ => ?_) (fun _ => ?_) <;> simp) | with_reducible refine And.intro ?_ ?_ | with_reducible exact okay_rfl rfl | with_reducible assumption | omega)
  refine W_seq (W_seq (?_))
  apply W_regS
  · intro K hK
    simp
    repeat' (first | with_reducible exact hK | (with_reducible refine goL_split (fun _ => ?_) (fun _ => ?_) <;> simp) | with_reducible refine And.intro ?_ ?_ | with_reducible exact okay_rfl rfl | with_reducible assumption | omega)
  refine W_block (W_loop (fun n st => ∃ (i a : Nat) (o : List (List UInt8)), n = s.length + 1 - i ∧ o.length ≤ i ∧ a ≤ i ∧ (i ≤ s.length ∧ cutAt c s = o ++ headApp ((s.take i).drop a) (cutAt c (s.drop i)) ∨ i = s.length + 1 ∧ cutAt c s = o) ∧
    st = ⟨[], [(0, .d (.str s)), (1, .d (.int .u8 c.toNat)), (5, .sl 0), (6, .d (.int .i64 a)), (7, .d (.int .i64 i))], [(0, .arr 0 0 1 (strsD o))], 1⟩) _ ⟨0, 0, [], rfl, by simp, by omega, .inl ⟨by omega, by simp [headApp_nil]⟩, rfl⟩ ?_)
  rintro n st ⟨i, a, o, rfl, hol, hai, hinv, rfl⟩
  refine W_seq (W_seq (?_))
  apply W_regS
  · intro K hK
    simp
    repeat' (first | with_reducible exact hK | (with_reducible refine goL_split (fun _ => ?_) (fun _ => ?_) <;> simp) | with_reducible refine And.intro ?_ ?_ | with_reducible exact okay_rfl rfl | with_reducible assumption | omega)
  refine W_cond rfl (fun h => W_skip ?_) (fun h => W_exit ?_)
  · rw [h]
    simp at h
    obtain ⟨_, hcut⟩ := hinv.resolve_right (by omega)
    clear hinv
    have hw : IntKind.i64.wrap ((i : Int) + 1) = ((i + 1 : Nat) : Int) := by rw [wrap_id (by omega) (by omega)]; omega
    have t1 : ((a : Int)).toNat = a := by omega
    have t2 : ((i : Int)).toNat = i := by omega
    refine W_seq (W_block (W_seq ?_))
    by_cases hend : i = s.length
    · subst hend
      refine W_regB 25 (true) (fun K hK => ?_) ?_
      · simp
        repeat' (first | exact hK _ _ (by clear hK; first | omega | (exact decide_eq_false (by omega)) | (exact decide_eq_true (by omega)) | (exact (decide_eq_true (by omega)).symm) | (exact (decide_eq_false (by omega)).symm) | (exact decide_eq_decide.2 (by omega)) | (simp only [← decide_not]; exact decide_eq_decide.2 (by omega)) | (simp [*]; done) | (simp [*]; omega) | (simp_all; done) | (simp_all; omega) | (rw [Bool.eq_iff_iff]; simp at *; omega)) | (with_reducible refine goL_split (fun _ => ?_) (fun _ => ?_) <;> simp) | with_reducible refine And.intro ?_ ?_ | with_reducible exact okay_rfl rfl | with_reducible assumption | omega)
      refine W_cond rfl (fun h2 => W_seq ?_) (fun h2 => ?_)
      rotate_left
      · cases h2
      apply W_regS
      · intro K hK
        simp [t1, t2, limit]
        repeat' (first | with_reducible exact hK | (with_reducible refine goL_split (fun _ => ?_) (fun _ => ?_) <;> simp [t1, t2, limit]) | with_reducible refine And.intro ?_ ?_ | with_reducible exact okay_rfl rfl | with_reducible assumption | omega)
      apply W_regS
      · intro K hK
        simp [hw]
        repeat' (first | with_reducible exact hK | (with_reducible refine goL_split (fun _ => ?_) (fun _ => ?_) <;> simp [hw]) | with_reducible refine And.intro ?_ ?_ | with_reducible exact okay_rfl rfl | with_reducible assumption | omega)
      apply W_regS
      · intro K hK
        simp [hw]
        repeat' (first | with_reducible exact hK | (with_reducible refine goL_split (fun _ => ?_) (fun _ => ?_) <;> simp [hw]) | with_reducible refine And.intro ?_ ?_ | with_reducible exact okay_rfl rfl | with_reducible assumption | omega)
      refine ⟨s.length + 1 - (s.length + 1), by omega, s.length + 1, s.length + 1, o ++ [(s.take s.length).drop a], rfl, by simp; omega, by omega, .inr ⟨by omega, ?_⟩, by simp [gc, closeN, liveA, gcV, gcO, renA, renO, namesAs, namesA, namesO, posn, strsD]⟩
      rw [hcut, List.drop_length]
      simp [cutAt, headApp]
    · have ha := List.getElem?_eq_getElem (show i < s.length by omega)
      generalize s[i]'_ = x at ha
      have hd := getD_of ha
      have hdr := drop_get ha
      by_cases hx : x = c
      · subst hx
        refine W_regB 25 (true) (fun K hK => ?_) ?_
        · simp [hd]
          repeat' (first | exact hK _ _ (by clear hK; first | omega | (exact decide_eq_false (by omega)) | (exact decide_eq_true (by omega)) | (exact (decide_eq_true (by omega)).symm) | (exact (decide_eq_false (by omega)).symm) | (exact decide_eq_decide.2 (by omega)) | (simp only [← decide_not]; exact decide_eq_decide.2 (by omega)) | (simp [*]; done) | (simp [*]; omega) | (simp_all; done) | (simp_all; omega) | (rw [Bool.eq_iff_iff]; simp at *; omega)) | (with_reducible refine goL_split (fun _ => ?_) (fun _ => ?_) <;> simp [hd]) | with_reducible refine And.intro ?_ ?_ | with_reducible exact okay_rfl rfl | with_reducible assumption | omega)
        refine W_cond rfl (fun h2 => W_seq ?_) (fun h2 => ?_)
        rotate_left
        · cases h2
        apply W_regS
        · intro K hK
          simp [t1, t2, limit]
          repeat' (first | with_reducible exact hK | (with_reducible refine goL_split (fun _ => ?_) (fun _ => ?_) <;> simp [t1, t2, limit]) | with_reducible refine And.intro ?_ ?_ | with_reducible exact okay_rfl rfl | with_reducible assumption | omega)
        apply W_regS
        · intro K hK
          simp [hw]
          repeat' (first | with_reducible exact hK | (with_reducible refine goL_split (fun _ => ?_) (fun _ => ?_) <;> simp [hw]) | with_reducible refine And.intro ?_ ?_ | with_reducible exact okay_rfl rfl | with_reducible assumption | omega)
        apply W_regS
        · intro K hK
          simp [hw]
          repeat' (first | with_reducible exact hK | (with_reducible refine goL_split (fun _ => ?_) (fun _ => ?_) <;> simp [hw]) | with_reducible refine And.intro ?_ ?_ | with_reducible exact okay_rfl rfl | with_reducible assumption | omega)
        refine ⟨s.length + 1 - (i + 1), by omega, i + 1, i + 1, o ++ [(s.take i).drop a], rfl, by simp; omega, by omega, .inl ⟨by omega, ?_⟩, by simp [gc, closeN, liveA, gcV, gcO, renA, renO, namesAs, namesA, namesO, posn, strsD]⟩
        have hnil : (s.take (i + 1)).drop (i + 1) = [] := List.drop_eq_nil_of_le (by rw [List.length_take]; omega)
        rw [hcut, hdr, headApp_hit, hnil]
        simp
      · have hx2 : x.toNat ≠ c.toNat := fun e => hx (UInt8.toNat_inj.1 e)
        refine W_regB 25 (false) (fun K hK => ?_) ?_
        · simp [hd]
          repeat' (first | exact hK _ _ (by clear hK; first | omega | (exact decide_eq_false (by omega)) | (exact decide_eq_true (by omega)) | (exact (decide_eq_true (by omega)).symm) | (exact (decide_eq_false (by omega)).symm) | (exact decide_eq_decide.2 (by omega)) | (simp only [← decide_not]; exact decide_eq_decide.2 (by omega)) | (simp [*]; done) | (simp [*]; omega) | (simp_all; done) | (simp_all; omega) | (rw [Bool.eq_iff_iff]; simp at *; omega)) | (with_reducible refine goL_split (fun _ => ?_) (fun _ => ?_) <;> simp [hd]) | with_reducible refine And.intro ?_ ?_ | with_reducible exact okay_rfl rfl | with_reducible assumption | omega)
        refine W_cond rfl (fun h2 => ?_) (fun h2 => W_skip ?_)
        · cases h2
        apply W_regS
        · intro K hK
          simp [hw]
          repeat' (first | with_reducible exact hK | (with_reducible refine goL_split (fun _ => ?_) (fun _ => ?_) <;> simp [hw]) | with_reducible refine And.intro ?_ ?_ | with_reducible exact okay_rfl rfl | with_reducible assumption | omega)
        refine ⟨s.length + 1 - (i + 1), by omega, i + 1, a, o, rfl, by omega, by omega, .inl ⟨by omega, ?_⟩, by simp [gc, closeN, liveA, gcV, gcO, renA, renO, namesAs, namesA, namesO, posn, strsD]⟩
        rw [hcut, hdr, headApp_miss hx, take_drop_snoc ha hai]
  · simp at h
    obtain ⟨_, hcut⟩ := hinv.resolve_left (by omega)
    rw [if_pos rfl]
    subst hcut
    refine W_seq (?_)
    apply W_regS
    · intro K hK
      simp
      repeat' (first | with_reducible exact hK | (with_reducible refine goL_split (fun _ => ?_) (fun _ => ?_) <;> simp) | with_reducible refine And.intro ?_ ?_ | with_reducible exact okay_rfl rfl | with_reducible assumption | omega)
    refine W_ret ?_
    simp [Fin]
    all_goals omega

theorem range_no {p : Nat → Bool} {n i : Nat} (h : i < n) (hp : p i = false) : (List.range n).all p = false := by
  rw [List.all_eq_false]; exact ⟨i, by simpa using h, by simp [hp]⟩

theorem s_GlobOk_ok (s : List UInt8) (hs : s.length ≤ 4194304) : Valid PP GG F_S_GlobOk [.d (.str s)] (.d (.bool (globOk s))) [none] := by
  refine v_S_GlobOk [.d (.bool (globOk s))] rfl rfl ?_
  refine W_seq (?_)
  apply W_regS
  · intro K hK
    simp
    repeat' (first | with_reducible exact hK | (with_reducible refine goL_split (fun _ => ?_) (fun _ => ?_) <;> simp) | with_reducible refine And.intro ?_ ?_ | with_reducible exact okay_rfl rfl | with_reducible assumption | omega)
  refine W_seq (W_seq (?_))
  apply W_regS
  · intro K hK
    simp
    repeat' (first | with_reducible exact hK | (with_reducible refine goL_split (fun _ => ?_) (fun _ => ?_) <;> simp) | with_reducible refine And.intro ?_ ?_ | with_reducible exact okay_rfl rfl | with_reducible assumption | omega)
  refine W_cond rfl (fun h => W_seq ?_) (fun h => W_skip ?_)
  · simp at h
    apply W_regS
    · intro K hK
      simp
      repeat' (first | with_reducible exact hK | (with_reducible refine goL_split (fun _ => ?_) (fun _ => ?_) <;> simp) | with_reducible refine And.intro ?_ ?_ | with_reducible exact okay_rfl rfl | with_reducible assumption | omega)
    have : globOk s = false := by unfold globOk; rw [decide_eq_false (by omega)]; rfl
    refine W_ret ?_
    simp [Fin, this]
    all_goals omega
  simp at h
  have cp : Valid PP GG F_S_l01Parts [.d (.str s), .d (.int .u8 47)] (.own 0 1 (strsD (cutAt 47 s))) [none, none] := l01Parts_ok s 47 hs
  have hg : globOk s = ((List.range (cutAt 47 s).length).all (segAt (cutAt 47 s)) && decide ((cutAt 47 s).length ≤ 8)) := by unfold globOk; rw [decide_eq_true (by omega)]; rfl
  have hml : ∀ x, x ∈ cutAt 47 s → x.length ≤ 4194304 := fun x hx => by have := cutAt_mem s hx; omega
  have hll := cutAt_len 47 s
  generalize cutAt 47 s = l at cp hg hml hll
  refine W_seq (?_)
  apply W_regS
  · intro K hK
    simp
    repeat' (first | with_reducible exact hK | (with_reducible refine callQ (cp) ?_; simp) | (with_reducible refine goL_split (fun _ => ?_) (fun _ => ?_) <;> simp) | with_reducible refine And.intro ?_ ?_ | with_reducible exact okay_rfl rfl | with_reducible assumption | omega)
  refine W_seq (W_seq (?_))
  apply W_regS
  · intro K hK
    simp
    repeat' (first | with_reducible exact hK | (with_reducible refine goL_split (fun _ => ?_) (fun _ => ?_) <;> simp) | with_reducible refine And.intro ?_ ?_ | with_reducible exact okay_rfl rfl | with_reducible assumption | omega)
  refine W_block (W_loop (fun n st => ∃ i : Nat, n = l.length - i ∧ i ≤ l.length ∧ (∀ j, j < i → segAt l j = true) ∧ st = ⟨[], [(3, .sl 0), (4, .d (.int .i64 i))], [(0, .arr 0 0 1 (strsD l))], 1⟩) _ ⟨0, rfl, by omega, fun j h => by omega, rfl⟩ ?_)
  rintro n st ⟨i, rfl, hi, hn, rfl⟩
  refine W_seq (W_seq (?_))
  apply W_regS
  · intro K hK
    simp
    repeat' (first | with_reducible exact hK | (with_reducible refine goL_split (fun _ => ?_) (fun _ => ?_) <;> simp) | with_reducible refine And.intro ?_ ?_ | with_reducible exact okay_rfl rfl | with_reducible assumption | omega)
  refine W_cond rfl (fun h => W_skip ?_) (fun h => W_exit ?_)
  · simp at h
    have ha := List.getElem?_eq_getElem h
    generalize l[i] = x at ha
    have ct := l01Segment_ok (GG := GG) x (by have := hml x (List.mem_of_getElem? ha); omega)
    have hseg : segAt l i = (segOk x || (x == [43]) || (x == [42] && decide (i + 1 = l.length))) := by unfold segAt; rw [ha]
    obtain ⟨p, hp⟩ : ∃ p, segOk x = p := ⟨_, rfl⟩
    obtain ⟨u, hu⟩ : ∃ p, (x == [43]) = p := ⟨_, rfl⟩
    obtain ⟨w, hw⟩ : ∃ p, (x == [42]) = p := ⟨_, rfl⟩
    rw [hp] at ct
    rw [hp, hu, hw] at hseg
    have hwl : IntKind.i64.wrap ((l.length : Int) - 1) = (l.length : Int) - 1 := wrap_id (by omega) (by omega)
    obtain ⟨z, hz⟩ : ∃ z, decide ((i : Int) = (l.length : Int) - 1) = z := ⟨_, rfl⟩
    have hz2 : decide (i + 1 = l.length) = z := by rw [← hz]; exact decide_eq_decide.2 (by omega)
    rw [hz2] at hseg
    have hzb : ((i : Int) == (l.length : Int) - 1) = z := by rw [← hz]; rfl
    refine W_seq (W_block (W_seq ?_))
    refine W_regB 43 (!(p || u || (w && z))) (fun K hK => ?_) ?_
    · simp [ha, hu, hw, hwl, hzb]
      repeat' (first | exact hK _ _ (by clear hK; first | omega | (exact decide_eq_false (by omega)) | (exact decide_eq_true (by omega)) | (exact (decide_eq_true (by omega)).symm) | (exact (decide_eq_false (by omega)).symm) | (exact decide_eq_decide.2 (by omega)) | (simp only [← decide_not]; exact decide_eq_decide.2 (by omega)) | (simp [*]; done) | (simp [*]; omega) | (simp_all; done) | (simp_all; omega) | (rw [Bool.eq_iff_iff]; simp at *; omega)) | (with_reducible refine callQ (ct) ?_; simp [ha, hu, hw, hwl, hzb]) | (with_reducible refine goL_split (fun _ => ?_) (fun _ => ?_) <;> simp [ha, hu, hw, hwl, hzb]) | with_reducible refine And.intro ?_ ?_ | with_reducible exact okay_rfl rfl | with_reducible assumption | omega)
    refine W_cond rfl (fun h2 => W_seq ?_) (fun h2 => W_skip ?_)
    · apply W_regS
      · intro K hK
        simp
        repeat' (first | with_reducible exact hK | (with_reducible refine goL_split (fun _ => ?_) (fun _ => ?_) <;> simp) | with_reducible refine And.intro ?_ ?_ | with_reducible exact okay_rfl rfl | with_reducible assumption | omega)
      have : globOk s = false := by
        rw [hg, range_no (i := i) (by omega) (by rw [hseg]; generalize (p || u || (w && z)) = q at h2 ⊢; cases q <;> simp_all), Bool.false_and]
      refine W_ret ?_
      simp [Fin, this]
      all_goals omega
    apply W_regS
    · intro K hK
      simp
      repeat' (first | with_reducible exact hK | (with_reducible refine goL_split (fun _ => ?_) (fun _ => ?_) <;> simp) | with_reducible refine And.intro ?_ ?_ | with_reducible exact okay_rfl rfl | with_reducible assumption | omega)
    refine ⟨l.length - (i + 1), by omega, i + 1, rfl, h, fun j hj => ?_, by simp [gc, closeN, liveA, gcV, gcO, renA, renO, namesAs, namesA, namesO, posn]; rw [wrap_id (by omega) (by omega)]⟩
    by_cases e : j = i
    · subst e; rw [hseg]; generalize (p || u || (w && z)) = q at h2 ⊢; cases q <;> simp_all
    · exact hn j (by omega)
  · simp at h
    rw [if_pos rfl]
    have hall : (List.range l.length).all (segAt l) = true := List.all_eq_true.2 fun j hj => hn j (by have := List.mem_range.1 hj; omega)
    refine W_seq (?_)
    apply W_regS
    · intro K hK
      simp
      repeat' (first | with_reducible exact hK | (with_reducible refine goL_split (fun _ => ?_) (fun _ => ?_) <;> simp) | with_reducible refine And.intro ?_ ?_ | with_reducible exact okay_rfl rfl | with_reducible assumption | omega)
    have : globOk s = decide ((l.length : Int) ≤ 8) := by rw [hg, hall, Bool.true_and]; exact decide_eq_decide.2 (by omega)
    refine W_ret ?_
    simp [Fin, this]
    all_goals omega

theorem s_PathOk_ok (s : List UInt8) (hs : s.length ≤ 4194304) : Valid PP GG F_S_PathOk [.d (.str s)] (.d (.bool (pathOk s))) [none] := by
  refine v_S_PathOk [.d (.bool (pathOk s))] rfl rfl ?_
  have cg := s_GlobOk_ok (GG := GG) s hs
  have hp : pathOk s = (globOk s && !s.any starB) := rfl
  generalize globOk s = g at cg hp
  refine W_seq (?_)
  apply W_regS
  · intro K hK
    simp
    repeat' (first | with_reducible exact hK | (with_reducible refine goL_split (fun _ => ?_) (fun _ => ?_) <;> simp) | with_reducible refine And.intro ?_ ?_ | with_reducible exact okay_rfl rfl | with_reducible assumption | omega)
  refine W_seq (W_seq (?_))
  apply W_regS
  · intro K hK
    simp
    repeat' (first | with_reducible exact hK | (with_reducible refine callQ (cg) ?_; simp) | (with_reducible refine goL_split (fun _ => ?_) (fun _ => ?_) <;> simp) | with_reducible refine And.intro ?_ ?_ | with_reducible exact okay_rfl rfl | with_reducible assumption | omega)
  refine W_cond rfl (fun h => W_seq ?_) (fun h => W_skip ?_)
  · simp at h
    subst h
    apply W_regS
    · intro K hK
      simp
      repeat' (first | with_reducible exact hK | (with_reducible refine goL_split (fun _ => ?_) (fun _ => ?_) <;> simp) | with_reducible refine And.intro ?_ ?_ | with_reducible exact okay_rfl rfl | with_reducible assumption | omega)
    refine W_ret ?_
    simp [Fin, hp]
    all_goals omega
  simp at h
  subst h
  refine W_seq (W_seq (?_))
  apply W_regS
  · intro K hK
    simp
    repeat' (first | with_reducible exact hK | (with_reducible refine goL_split (fun _ => ?_) (fun _ => ?_) <;> simp) | with_reducible refine And.intro ?_ ?_ | with_reducible exact okay_rfl rfl | with_reducible assumption | omega)
  refine W_block (W_loop (fun n st => ∃ i : Nat, n = s.length - i ∧ i ≤ s.length ∧ (∀ y, y ∈ s.take i → starB y = false) ∧ st = ⟨[], [(0, .d (.str s)), (3, .d (.int .i64 i))], [], 0⟩) _ ⟨0, rfl, by omega, fun y h => by simp at h, rfl⟩ ?_)
  rintro n st ⟨i, rfl, hi, hn, rfl⟩
  refine W_seq (W_seq (?_))
  apply W_regS
  · intro K hK
    simp
    repeat' (first | with_reducible exact hK | (with_reducible refine goL_split (fun _ => ?_) (fun _ => ?_) <;> simp) | with_reducible refine And.intro ?_ ?_ | with_reducible exact okay_rfl rfl | with_reducible assumption | omega)
  refine W_cond rfl (fun h => W_skip ?_) (fun h => W_exit ?_)
  · simp at h
    have ha := List.getElem?_eq_getElem h
    generalize s[i] = x at ha
    have hd := getD_of ha
    obtain ⟨v, hv⟩ : ∃ v, x.toNat = v := ⟨_, rfl⟩
    have hnb : starB x = decide (v = 43 ∨ v = 42) := by rw [← hv]; rfl
    refine W_seq (W_block (W_seq ?_))
    refine W_regB 22 (decide (v = 43 ∨ v = 42)) (fun K hK => ?_) ?_
    · simp [hd, hv]
      repeat' (first | exact hK _ _ (by clear hK; first | omega | (exact decide_eq_false (by omega)) | (exact decide_eq_true (by omega)) | (exact (decide_eq_true (by omega)).symm) | (exact (decide_eq_false (by omega)).symm) | (exact decide_eq_decide.2 (by omega)) | (simp only [← decide_not]; exact decide_eq_decide.2 (by omega)) | (simp [*]; done) | (simp [*]; omega) | (simp_all; done) | (simp_all; omega) | (rw [Bool.eq_iff_iff]; simp at *; omega)) | (with_reducible refine goL_split (fun _ => ?_) (fun _ => ?_) <;> simp [hd, hv]) | with_reducible refine And.intro ?_ ?_ | with_reducible exact okay_rfl rfl | with_reducible assumption | omega)
    refine W_cond rfl (fun h2 => W_seq ?_) (fun h2 => W_skip ?_)
    · rw [h2]
      apply W_regS
      · intro K hK
        simp
        repeat' (first | with_reducible exact hK | (with_reducible refine goL_split (fun _ => ?_) (fun _ => ?_) <;> simp) | with_reducible refine And.intro ?_ ?_ | with_reducible exact okay_rfl rfl | with_reducible assumption | omega)
      have : pathOk s = false := by rw [hp, any_yes ha (by rw [hnb]; exact h2)]; rfl
      refine W_ret ?_
      simp [Fin, this]
      all_goals omega
    rw [h2]
    apply W_regS
    · intro K hK
      simp
      repeat' (first | with_reducible exact hK | (with_reducible refine goL_split (fun _ => ?_) (fun _ => ?_) <;> simp) | with_reducible refine And.intro ?_ ?_ | with_reducible exact okay_rfl rfl | with_reducible assumption | omega)
    exact ⟨s.length - (i + 1), by omega, i + 1, rfl, h, take_all ha hn (by rw [hnb]; exact h2), by simp [gc, closeN, liveA, gcV, gcO, renA, namesAs, namesA]; rw [wrap_id (by omega) (by omega)]⟩
  · simp at h
    rw [if_pos rfl]
    rw [List.take_of_length_le h] at hn
    refine W_seq (?_)
    apply W_regS
    · intro K hK
      simp
      repeat' (first | with_reducible exact hK | (with_reducible refine goL_split (fun _ => ?_) (fun _ => ?_) <;> simp) | with_reducible refine And.intro ?_ ?_ | with_reducible exact okay_rfl rfl | with_reducible assumption | omega)
    have : pathOk s = true := by
      have e : s.any starB = false := by rw [List.any_eq_false]; intro y hy; simp [hn y hy]
      rw [hp, e]; rfl
    refine W_ret ?_
    simp [Fin, this]
    all_goals omega

theorem IndexByte_ok (al : List UInt8) (b : UInt8) : Valid PP GG 77 [.d (.str al), .d (.int .u8 b.toNat)] (.d (.int .i64 (Lib.indexByte al b))) [none, none] := by
  refine lib_new [.str al, .int .u8 b.toNat] ⟨Tryd.f77, Tryd.func77, by kernel_rfl, by kernel_rfl⟩ fun w Fz args hG hFz hl hA => ?_
  have e : args = #[.string ⟨al.toArray⟩, .int .u8 b.toNat] := by
    refine args_eq (l := [.string ⟨al.toArray⟩, .int .u8 b.toNat]) hl fun i v hv => ?_
    match i, hv with
    | 0, hv => cases hv; exact shr_str (hA 0 _ rfl)
    | 1, hv => cases hv; exact shr_int (hA 1 _ rfl)
  subst e
  refine (Go.Proofs.YtalclmngpfpkmaaDoor.Tryd.strings_IndexByte ⟨al.toArray⟩ b.toNat w).mono ?_
  rintro e w' ⟨rfl, rfl⟩
  have hb : ((b.toNat : Int).toNat).toUInt8 = b := by simp
  rw [hb]
  exact ⟨_, Fz, fun _ _ => False, rfl, ⟨rfl, rfl⟩, Nat.le_refl _, fun _ _ => rfl, fun _ _ h => h, fun b o h => ⟨.inl h, hFz b o h⟩, .d _ _ _ (.int _ _) fun _ _ h => h, fun _ _ h => h.elim⟩

theorem ContainsAny_ok (s c : List UInt8) (h1 : s.length < 4294967281) (h2 : c.length < 4294967281) (h3 : ∀ b, b ∈ s → b.toNat < 128) (h4 : ∀ b, b ∈ c → b.toNat < 128) :
    Valid PP GG 69 [.d (.str s), .d (.str c)] (.d (.bool (Lib.containsAny s c))) [none, none] := by
  refine lib_new [.str s, .str c] ⟨Tryd.f69, Tryd.func69, by kernel_rfl, by kernel_rfl⟩ fun w Fz args hG hFz hl hA => ?_
  have e : args = #[.string ⟨s.toArray⟩, .string ⟨c.toArray⟩] := by
    refine args_eq (l := [.string ⟨s.toArray⟩, .string ⟨c.toArray⟩]) hl fun i v hv => ?_
    match i, hv with
    | 0, hv => cases hv; exact shr_str (hA 0 _ rfl)
    | 1, hv => cases hv; exact shr_str (hA 1 _ rfl)
  subst e
  refine (Go.Proofs.YtalclmngpfpkmaaDoor.Tryd.strings_ContainsAny_laid ⟨s.toArray⟩ ⟨c.toArray⟩ w h1 h2 (fun j b hb => h3 b (List.mem_of_getElem? hb)) (fun j b hb => h4 b (List.mem_of_getElem? hb))).mono ?_
  rintro e w' ⟨rfl, hb⟩
  exact ⟨_, Fz, fun _ _ => False, rfl, ⟨hb.os, hb.output⟩, hb.size, fun b h => hb.block b h, fun _ _ h => h, fun b o h => ⟨.inl h, Nat.lt_of_lt_of_le (hFz b o h) hb.size⟩, .d _ _ _ (.bool _) fun _ _ h => h, fun _ _ h => h.elim⟩

theorem splitK_cons {b c : UInt8} (h : b ≠ c) : ∀ (k : Nat) (l : List UInt8), Lib.splitK [c] 0 k (b :: l) = headCons b (Lib.splitK [c] 0 k l) := by
  intro k l
  cases k with
  | zero => rfl
  | succ k =>
    have hp : ([c] : List UInt8).isPrefixOf (b :: l) = false := by simp [List.isPrefixOf, Ne.symm h]
    have hix : Lib.index (b :: l) [c] = if Lib.index l [c] == -1 then -1 else Lib.index l [c] + 1 := by rw [Lib.index, hp]; simp
    unfold Lib.splitK
    rw [hix]
    have hge := Lib.index_ge l [c]
    by_cases hm : Lib.index l [c] = -1
    · rw [hm]; simp [headCons]
    · obtain ⟨j, hj⟩ : ∃ j : Nat, Lib.index l [c] = j := ⟨(Lib.index l [c]).toNat, by omega⟩
      have h1 : ¬ ((j : Int) == -1) = true := fun e => by have := beq_iff_eq.1 e; omega
      have h2 : ¬ ((j : Int) + 1 == -1) = true := fun e => by have := beq_iff_eq.1 e; omega
      rw [hj, if_neg h1, if_neg h1, if_neg h2]
      have e1 : ((j : Int) + 1).toNat = j + 1 := by omega
      simp [headCons, e1]

theorem split_cut (c : UInt8) : ∀ s : List UInt8, Lib.splitK [c] 0 (Lib.count s [c]) s = cutAt c s := by
  intro s
  induction s with
  | nil => rw [Lib.count_one]; rfl
  | cons b r ih =>
    by_cases h : b = c
    · subst h
      have hix : Lib.index (b :: r) [b] = 0 := by rw [Lib.index]; simp [List.isPrefixOf]
      rw [Lib.count_cons_eq, show 1 + Lib.count r [b] = Lib.count r [b] + 1 by omega, Lib.splitK, hix, cutAt, if_pos rfl]
      simp [ih]
    · rw [Lib.count_cons_ne b c r h, splitK_cons h, ih, cutAt, if_neg h]

theorem Split_ok (s : List UInt8) (c : UInt8) [MaxL GG] (hs : s.length < 4294967281) : Valid PP GG 78 [.d (.str s), .d (.str [c])] (.d (.slc 1 (strsD (cutAt c s)))) [none, none] := by
  refine lib_new [.str s, .str [c]] ⟨Tryd.f78, Tryd.func78, by kernel_rfl, by kernel_rfl⟩ fun w Fz args hG hFz hl hA => ?_
  have e : args = #[.string ⟨s.toArray⟩, .string ⟨#[c]⟩] := by
    refine args_eq (l := [.string ⟨s.toArray⟩, .string ⟨#[c]⟩]) hl fun i v hv => ?_
    match i, hv with
    | 0, hv => cases hv; exact shr_str (hA 0 _ rfl)
    | 1, hv => cases hv; exact shr_str (hA 1 _ rfl)
  subst e
  obtain ⟨ob, h1, h2⟩ := hG 3 _ MaxL.h
  cases ob with
  | cells cs t fr =>
    obtain ⟨m, h3⟩ := h2
    refine (Go.Proofs.YtalclmngpfpkmaaDoor.Tryd.strings_Split ⟨s.toArray⟩ ⟨#[c]⟩ m w hs (by unfold World.cell?; simp [h1, h3]) (Nat.le_refl 1)).mono ?_
    rintro e w' ⟨rfl, rfl⟩
    have hcount : Lib.countB ⟨s.toArray⟩ ⟨#[c]⟩ = Lib.count s [c] := rfl
    have hsplit : (Lib.splitB ⟨#[c]⟩ 0 (Lib.countB ⟨s.toArray⟩ ⟨#[c]⟩) ⟨s.toArray⟩).map (·.data.toList) = cutAt c s := by
      rw [Lib.splitB_data, hcount]; exact split_cut c s
    have hlen : (cutAt c s).length = Lib.countB ⟨s.toArray⟩ ⟨#[c]⟩ + 1 := by
      rw [← hsplit, List.length_map, Lib.splitB_all ⟨#[c]⟩ (Nat.le_refl 1) 0 _ _ rfl]
    generalize Lib.countB ⟨s.toArray⟩ ⟨#[c]⟩ = k at hsplit hlen ⊢
    generalize hL : Lib.splitB ⟨#[c]⟩ 0 k ⟨s.toArray⟩ = L at hsplit ⊢
    have hLl : L.length = k + 1 := by rw [← hlen, ← hsplit, List.length_map]
    have hblk : ∀ b, b < w.heap.size → (w.alloc (.cells (L.map Value.string).toArray 9)).heap[b]? = w.heap[b]? := fun b hb => by
      show (w.heap.push _)[b]? = _
      rw [Array.getElem?_push_lt hb, Array.getElem?_eq_getElem hb]
    have hnew : (w.alloc (.cells (L.map Value.string).toArray 9)).heap[w.heap.size]? = some (.cells (L.map Value.string).toArray 9) := by
      show (w.heap.push _)[w.heap.size]? = _
      simp
    have hsz : (w.alloc (.cells (L.map Value.string).toArray 9)).heap.size = w.heap.size + 1 := by
      show (w.heap.push _).size = _
      simp
    refine ⟨_, fun b o => Fz b o ∨ b = w.heap.size, fun _ _ => False, rfl, ⟨rfl, rfl⟩, by omega, hblk, fun _ _ h => .inl h, fun b o h => ?_, .d _ _ _ ?_ fun _ _ h => h, fun _ _ h => h.elim⟩
    · rcases h with h | h
      · exact ⟨.inl h, by have := hFz b o h; omega⟩
      · exact ⟨.inr (by omega), by omega⟩
    · have hrows : (strsD (cutAt c s)).length = k + 1 := by simp [hlen]
      have hget : ∀ (m : Nat) (d : D), (strsD (cutAt c s)).flatten[m]? = some d → ∃ t : ByteArray, L[m]? = some t ∧ d = D.str t.data.toList := by
        intro m d hm
        rw [← hsplit] at hm
        have hf : (strsD (L.map (·.data.toList))).flatten = L.map fun t => D.str t.data.toList := by
          unfold strsD
          generalize L = M
          induction M with
          | nil => rfl
          | cons x M ih => simp only [List.map_cons, List.flatten_cons] at ih ⊢; rw [ih]; rfl
        rw [hf, List.getElem?_map] at hm
        cases ht : L[m]? with
        | none => rw [ht] at hm; cases hm
        | some t => rw [ht] at hm; cases hm; exact ⟨t, rfl, rfl⟩
      have hcell : ∀ (m : Nat) (t : ByteArray), L[m]? = some t → (w.alloc (.cells (L.map Value.string).toArray 9)).cell? (at_ w.heap.size (0 + m)) = some (.string t) := by
        intro m t ht
        unfold World.cell?
        rw [show (at_ w.heap.size (0 + m)).block = w.heap.size from rfl, hnew]
        simp [ht]
      have := Shr.slc (w := w.alloc (.cells (L.map Value.string).toArray 9)) (Fz := fun b o => Fz b o ∨ b = w.heap.size) w.heap.size 0 (k + 1) 1 (strsD (cutAt c s)) (fun m => match L[m]? with | some t => .string t | none => Go.undef)
        (fun r hr => by unfold strsD at hr; obtain ⟨x, _, rfl⟩ := List.mem_map.1 hr; rfl) (by omega)
        (fun m d hm => by
          obtain ⟨t, ht, _⟩ := hget m d hm
          exact ⟨by rw [hcell m t ht, ht], .inr rfl⟩)
        (fun m d hm => by
          obtain ⟨t, ht, rfl⟩ := hget m d hm
          rw [ht]
          exact Shr.str t.data.toList)
      rw [hrows] at this
      exact this
  | _ => exact h2.elim

theorem onlyOf_ok (s al : List UInt8) (hs : s.length ≤ 281474976710656) : Valid PP GG F_I_onlyOf [.d (.str s), .d (.str al)] (.d (.bool (s.all fun b => decide (0 ≤ Lib.indexByte al b)))) [none, none] := by
  refine v_I_onlyOf [.d (.bool (s.all fun b => decide (0 ≤ Lib.indexByte al b)))] rfl rfl ?_
  refine W_seq (?_)
  apply W_regS
  · intro K hK
    simp
    repeat' (first | with_reducible exact hK | (with_reducible refine goL_split (fun _ => ?_) (fun _ => ?_) <;> simp) | with_reducible refine And.intro ?_ ?_ | with_reducible exact okay_rfl rfl | with_reducible assumption | omega)
  refine W_seq (W_seq (?_))
  apply W_regS
  · intro K hK
    simp
    repeat' (first | with_reducible exact hK | (with_reducible refine goL_split (fun _ => ?_) (fun _ => ?_) <;> simp) | with_reducible refine And.intro ?_ ?_ | with_reducible exact okay_rfl rfl | with_reducible assumption | omega)
  refine W_block (W_loop (fun n st => ∃ i : Nat, n = s.length - i ∧ i ≤ s.length ∧ (∀ y, y ∈ s.take i → decide (0 ≤ Lib.indexByte al y) = true) ∧ st = ⟨[], [(0, .d (.str s)), (1, .d (.str al)), (7, .d (.int .i64 s.length)), (8, .d (.int .i64 i))], [], 0⟩) _ ⟨0, rfl, by omega, fun y h => by simp at h, rfl⟩ ?_)
  rintro n st ⟨i, rfl, hi, hn, rfl⟩
  refine W_seq (?_)
  apply W_regS
  · intro K hK
    simp
    repeat' (first | with_reducible exact hK | (with_reducible refine goL_split (fun _ => ?_) (fun _ => ?_) <;> simp) | with_reducible refine And.intro ?_ ?_ | with_reducible exact okay_rfl rfl | with_reducible assumption | omega)
  refine W_seq (?_)
  refine W_cond rfl (fun h => W_skip ?_) (fun h => W_exit ?_)
  · simp at h
    have ha := List.getElem?_eq_getElem h
    generalize s[i] = x at ha
    have hd := getD_of ha
    have ci := IndexByte_ok (GG := GG) al x
    refine W_seq (W_block (W_seq ?_))
    apply W_regS
    · intro K hK
      simp
      repeat' (first | with_reducible exact hK | (with_reducible refine goL_split (fun _ => ?_) (fun _ => ?_) <;> simp) | with_reducible refine And.intro ?_ ?_ | with_reducible exact okay_rfl rfl | with_reducible assumption | omega)
    obtain ⟨v, hv⟩ : ∃ v, Lib.indexByte al x = v := ⟨_, rfl⟩
    rw [hv] at ci
    refine W_seq (?_)
    apply W_regS
    · intro K hK
      simp [hd]
      repeat' (first | with_reducible exact hK | (with_reducible refine callQ (ci) ?_; simp [hd]) | (with_reducible refine goL_split (fun _ => ?_) (fun _ => ?_) <;> simp [hd]) | with_reducible refine And.intro ?_ ?_ | with_reducible exact okay_rfl rfl | with_reducible assumption | omega)
    refine W_cond rfl (fun h2 => W_seq ?_) (fun h2 => W_skip ?_)
    · simp at h2
      apply W_regS
      · intro K hK
        simp
        repeat' (first | with_reducible exact hK | (with_reducible refine goL_split (fun _ => ?_) (fun _ => ?_) <;> simp) | with_reducible refine And.intro ?_ ?_ | with_reducible exact okay_rfl rfl | with_reducible assumption | omega)
      have : (s.all fun b => decide (0 ≤ Lib.indexByte al b)) = false := all_no ha (decide_eq_false (by omega))
      refine W_ret ?_
      simp [Fin, this]
      all_goals omega
    simp at h2
    apply W_regS
    · intro K hK
      simp
      repeat' (first | with_reducible exact hK | (with_reducible refine goL_split (fun _ => ?_) (fun _ => ?_) <;> simp) | with_reducible refine And.intro ?_ ?_ | with_reducible exact okay_rfl rfl | with_reducible assumption | omega)
    exact ⟨s.length - (i + 1), by omega, i + 1, rfl, h, take_all ha hn (decide_eq_true (by omega)), by simp [gc, closeN, liveA, gcV, gcO, renA, namesAs, namesA]; rw [wrap_id (by omega) (by omega)]⟩
  · simp at h
    rw [if_pos rfl]
    rw [List.take_of_length_le h] at hn
    refine W_seq (?_)
    apply W_regS
    · intro K hK
      simp
      repeat' (first | with_reducible exact hK | (with_reducible refine goL_split (fun _ => ?_) (fun _ => ?_) <;> simp) | with_reducible refine And.intro ?_ ?_ | with_reducible exact okay_rfl rfl | with_reducible assumption | omega)
    have : (s.all fun b => decide (0 ≤ Lib.indexByte al b)) = true := List.all_eq_true.2 hn
    refine W_ret ?_
    simp [Fin, this]
    all_goals omega

def nameT : List UInt8 := [97, 98, 99, 100, 101, 102, 103, 104, 105, 106, 107, 108, 109, 110, 111, 112, 113, 114, 115, 116, 117, 118, 119, 120, 121, 122, 48, 49, 50, 51, 52, 53, 54, 55, 56, 57]

theorem nameT_is (b : UInt8) : decide (0 ≤ Lib.indexByte nameT b) = nameB b := by
  revert b; exact u8_all (p := fun b => decide (0 ≤ Lib.indexByte nameT b) = nameB b) (by decide +kernel)

theorem segT_is (b : UInt8) : decide (0 ≤ Lib.indexByte (nameT ++ [45]) b) = segB b := by
  revert b; exact u8_all (p := fun b => decide (0 ≤ Lib.indexByte (nameT ++ [45]) b) = segB b) (by decide +kernel)

theorem onlyName_ok (s : List UInt8) (hs : s.length ≤ 281474976710656) : Valid PP GG F_I_onlyOf [.d (.str s), .d (.str nameT)] (.d (.bool (s.all nameB))) [none, none] := by
  have h := onlyOf_ok (GG := GG) s nameT hs
  rw [show (fun b => decide (0 ≤ Lib.indexByte nameT b)) = nameB from funext nameT_is] at h
  exact h

theorem onlySeg_ok (s : List UInt8) (hs : s.length ≤ 281474976710656) : Valid PP GG F_I_onlyOf [.d (.str s), .d (.str (nameT ++ [45]))] (.d (.bool (s.all segB))) [none, none] := by
  have h := onlyOf_ok (GG := GG) s (nameT ++ [45]) hs
  rw [show (fun b => decide (0 ≤ Lib.indexByte (nameT ++ [45]) b)) = segB from funext segT_is] at h
  exact h

theorem isName_ok (s : List UInt8) (hs : s.length ≤ 281474976710656) : Valid PP GG F_I_isName [.d (.str s)] (.d (.bool (nameOk s))) [none] := by
  refine v_I_isName [.d (.bool (nameOk s))] rfl rfl ?_
  have cw := within_ok (GG := GG) s.length 1 12
  have co := onlyName_ok (GG := GG) s hs
  simp only [nameT] at co
  obtain ⟨p, hp⟩ : ∃ p, (decide (1 ≤ (s.length : Int)) && decide ((s.length : Int) ≤ 12)) = p := ⟨_, rfl⟩
  have hr : nameOk s = (p && s.all nameB) := by
    unfold nameOk
    rw [← hp]
    congr 1
    rw [Bool.eq_iff_iff]; simp; omega
  rw [hp] at cw
  generalize s.all nameB = q at co hr
  refine W_seq (?_)
  apply W_regS
  · intro K hK
    simp
    repeat' (first | with_reducible exact hK | (with_reducible refine goL_split (fun _ => ?_) (fun _ => ?_) <;> simp) | with_reducible refine And.intro ?_ ?_ | with_reducible exact okay_rfl rfl | with_reducible assumption | omega)
  refine W_seq (?_)
  refine W_regB 2 (p && q) (fun K hK => ?_) ?_
  · simp
    repeat' (first | exact hK _ _ (by clear hK; first | omega | (exact decide_eq_false (by omega)) | (exact decide_eq_true (by omega)) | (exact (decide_eq_true (by omega)).symm) | (exact (decide_eq_false (by omega)).symm) | (exact decide_eq_decide.2 (by omega)) | (simp only [← decide_not]; exact decide_eq_decide.2 (by omega)) | (simp [*]; done) | (simp [*]; omega) | (simp_all; done) | (simp_all; omega) | (rw [Bool.eq_iff_iff]; simp at *; omega)) | (with_reducible refine callQ (cw) ?_; simp) | (with_reducible refine callQ (co) ?_; simp) | (with_reducible refine goL_split (fun _ => ?_) (fun _ => ?_) <;> simp) | with_reducible refine And.intro ?_ ?_ | with_reducible exact okay_rfl rfl | with_reducible assumption | omega)
  refine W_ret ?_
  simp [Fin, hr]
  all_goals omega

theorem isGlob_ok [MaxL GG] (s : List UInt8) (hs : s.length ≤ 4194304) : Valid PP GG F_I_isGlob [.d (.str s)] (.d (.bool (globOk s))) [none] := by
  refine v_I_isGlob [.d (.bool (globOk s))] rfl rfl ?_
  refine W_seq (?_)
  apply W_regS
  · intro K hK
    simp
    repeat' (first | with_reducible exact hK | (with_reducible refine goL_split (fun _ => ?_) (fun _ => ?_) <;> simp) | with_reducible refine And.intro ?_ ?_ | with_reducible exact okay_rfl rfl | with_reducible assumption | omega)
  refine W_seq (W_seq (?_))
  apply W_regS
  · intro K hK
    simp
    repeat' (first | with_reducible exact hK | (with_reducible refine goL_split (fun _ => ?_) (fun _ => ?_) <;> simp) | with_reducible refine And.intro ?_ ?_ | with_reducible exact okay_rfl rfl | with_reducible assumption | omega)
  refine W_cond rfl (fun h => W_seq ?_) (fun h => W_skip ?_)
  · simp at h
    apply W_regS
    · intro K hK
      simp
      repeat' (first | with_reducible exact hK | (with_reducible refine goL_split (fun _ => ?_) (fun _ => ?_) <;> simp) | with_reducible refine And.intro ?_ ?_ | with_reducible exact okay_rfl rfl | with_reducible assumption | omega)
    have : globOk s = false := by unfold globOk; rw [decide_eq_false (by omega)]; rfl
    refine W_ret ?_
    simp [Fin, this]
    all_goals omega
  simp at h
  have cp := Split_ok (GG := GG) s 47 (by omega)
  have hg : globOk s = ((List.range (cutAt 47 s).length).all (segAt (cutAt 47 s)) && decide ((cutAt 47 s).length ≤ 8)) := by unfold globOk; rw [decide_eq_true (by omega)]; rfl
  have hml : ∀ x, x ∈ cutAt 47 s → x.length ≤ 4194304 := fun x hx => by have := cutAt_mem s hx; omega
  have hll := cutAt_len 47 s
  generalize cutAt 47 s = l at cp hg hml hll
  refine W_seq (?_)
  apply W_regS
  · intro K hK
    simp
    repeat' (first | with_reducible exact hK | (with_reducible refine callQ (cp) ?_; simp) | (with_reducible refine goL_split (fun _ => ?_) (fun _ => ?_) <;> simp) | with_reducible refine And.intro ?_ ?_ | with_reducible exact okay_rfl rfl | with_reducible assumption | omega)
  refine W_seq (W_seq (?_))
  apply W_regS
  · intro K hK
    simp
    repeat' (first | with_reducible exact hK | (with_reducible refine goL_split (fun _ => ?_) (fun _ => ?_) <;> simp) | with_reducible refine And.intro ?_ ?_ | with_reducible exact okay_rfl rfl | with_reducible assumption | omega)
  refine W_block (W_loop (fun n st => ∃ i : Nat, n = l.length - i ∧ i ≤ l.length ∧ (∀ j, j < i → segAt l j = true) ∧ st = ⟨[], [(3, .d (.slc 1 (strsD l))), (11, .d (.slc 1 (strsD l))), (12, .d (.int .i64 l.length)), (13, .d (.int .i64 i))], [], 0⟩) _ ⟨0, rfl, by omega, fun j h => by omega, rfl⟩ ?_)
  rintro n st ⟨i, rfl, hi, hn, rfl⟩
  refine W_seq (?_)
  apply W_regS
  · intro K hK
    simp
    repeat' (first | with_reducible exact hK | (with_reducible refine goL_split (fun _ => ?_) (fun _ => ?_) <;> simp) | with_reducible refine And.intro ?_ ?_ | with_reducible exact okay_rfl rfl | with_reducible assumption | omega)
  refine W_seq (?_)
  refine W_cond rfl (fun h => W_skip ?_) (fun h => W_exit ?_)
  · simp at h
    have ha := List.getElem?_eq_getElem h
    generalize l[i] = x at ha
    have hxl := hml x (List.mem_of_getElem? ha)
    have cw := within_ok (GG := GG) x.length 1 16
    have co := onlySeg_ok (GG := GG) x (by omega)
    simp only [nameT, List.cons_append, List.nil_append] at co
    have hseg : segAt l i = (segOk x || (x == [43]) || (x == [42] && decide (i + 1 = l.length))) := by unfold segAt; rw [ha]
    obtain ⟨p, hp⟩ : ∃ p, (decide (1 ≤ (x.length : Int)) && decide ((x.length : Int) ≤ 16)) = p := ⟨_, rfl⟩
    have hr : segOk x = (p && x.all segB) := by
      unfold segOk
      rw [← hp]
      congr 1
      rw [Bool.eq_iff_iff]; simp; omega
    rw [hp] at cw
    obtain ⟨q, hq⟩ : ∃ q, x.all segB = q := ⟨_, rfl⟩
    rw [hq] at co hr
    obtain ⟨u, hu⟩ : ∃ p, (x == [43]) = p := ⟨_, rfl⟩
    obtain ⟨w, hw⟩ : ∃ p, (x == [42]) = p := ⟨_, rfl⟩
    rw [hr, hu, hw] at hseg
    have hwl : IntKind.i64.wrap ((l.length : Int) - 1) = (l.length : Int) - 1 := wrap_id (by omega) (by omega)
    obtain ⟨z, hz⟩ : ∃ z, decide ((i : Int) = (l.length : Int) - 1) = z := ⟨_, rfl⟩
    have hz2 : decide (i + 1 = l.length) = z := by rw [← hz]; exact decide_eq_decide.2 (by omega)
    rw [hz2] at hseg
    have hzb : ((i : Int) == (l.length : Int) - 1) = z := by rw [← hz]; rfl
    have hnext : segAt l i = true → ∀ j, j < i + 1 → segAt l j = true := fun hh j hj => by
      by_cases e : j = i
      · subst e; exact hh
      · exact hn j (by omega)
    refine W_seq (W_block (W_seq ?_))
    apply W_regS
    · intro K hK
      simp [ha]
      repeat' (first | with_reducible exact hK | (with_reducible refine goL_split (fun _ => ?_) (fun _ => ?_) <;> simp [ha]) | with_reducible refine And.intro ?_ ?_ | with_reducible exact okay_rfl rfl | with_reducible assumption | omega)
    refine W_seq (W_seq (?_))
    refine W_regB 30 (u || (w && z)) (fun K hK => ?_) ?_
    · simp [hu, hw, hwl, hzb]
      repeat' (first | exact hK _ _ (by clear hK; first | omega | (exact decide_eq_false (by omega)) | (exact decide_eq_true (by omega)) | (exact (decide_eq_true (by omega)).symm) | (exact (decide_eq_false (by omega)).symm) | (exact decide_eq_decide.2 (by omega)) | (simp only [← decide_not]; exact decide_eq_decide.2 (by omega)) | (simp [*]; done) | (simp [*]; omega) | (simp_all; done) | (simp_all; omega) | (rw [Bool.eq_iff_iff]; simp at *; omega)) | (with_reducible refine goL_split (fun _ => ?_) (fun _ => ?_) <;> simp [hu, hw, hwl, hzb]) | with_reducible refine And.intro ?_ ?_ | with_reducible exact okay_rfl rfl | with_reducible assumption | omega)
    refine W_cond rfl (fun h2 => W_exit ?_) (fun h2 => W_skip ?_)
    · rw [if_pos rfl]
      apply W_regS
      · intro K hK
        simp
        repeat' (first | with_reducible exact hK | (with_reducible refine goL_split (fun _ => ?_) (fun _ => ?_) <;> simp) | with_reducible refine And.intro ?_ ?_ | with_reducible exact okay_rfl rfl | with_reducible assumption | omega)
      exact ⟨l.length - (i + 1), by omega, i + 1, rfl, h, hnext (by rw [hseg]; revert h2; cases u <;> cases w <;> cases z <;> simp), by simp [gc, closeN, liveA, gcV, gcO, renA, renO, namesAs, namesA, namesO, posn]; rw [wrap_id (by omega) (by omega)]⟩
    refine W_seq (?_)
    refine W_regB 39 (!(p && q)) (fun K hK => ?_) ?_
    · simp
      repeat' (first | exact hK _ _ (by clear hK; first | omega | (exact decide_eq_false (by omega)) | (exact decide_eq_true (by omega)) | (exact (decide_eq_true (by omega)).symm) | (exact (decide_eq_false (by omega)).symm) | (exact decide_eq_decide.2 (by omega)) | (simp only [← decide_not]; exact decide_eq_decide.2 (by omega)) | (simp [*]; done) | (simp [*]; omega) | (simp_all; done) | (simp_all; omega) | (rw [Bool.eq_iff_iff]; simp at *; omega)) | (with_reducible refine callQ (cw) ?_; simp) | (with_reducible refine callQ (co) ?_; simp) | (with_reducible refine goL_split (fun _ => ?_) (fun _ => ?_) <;> simp) | with_reducible refine And.intro ?_ ?_ | with_reducible exact okay_rfl rfl | with_reducible assumption | omega)
    refine W_cond rfl (fun h3 => W_seq ?_) (fun h3 => W_skip ?_)
    · apply W_regS
      · intro K hK
        simp
        repeat' (first | with_reducible exact hK | (with_reducible refine goL_split (fun _ => ?_) (fun _ => ?_) <;> simp) | with_reducible refine And.intro ?_ ?_ | with_reducible exact okay_rfl rfl | with_reducible assumption | omega)
      have : globOk s = false := by
        rw [hg, range_no (i := i) (by omega) (by rw [hseg]; revert h2 h3; cases u <;> cases w <;> cases z <;> cases p <;> cases q <;> simp), Bool.false_and]
      refine W_ret ?_
      simp [Fin, this]
      all_goals omega
    apply W_regS
    · intro K hK
      simp
      repeat' (first | with_reducible exact hK | (with_reducible refine goL_split (fun _ => ?_) (fun _ => ?_) <;> simp) | with_reducible refine And.intro ?_ ?_ | with_reducible exact okay_rfl rfl | with_reducible assumption | omega)
    exact ⟨l.length - (i + 1), by omega, i + 1, rfl, h, hnext (by rw [hseg]; revert h3; cases p <;> cases q <;> simp), by simp [gc, closeN, liveA, gcV, gcO, renA, renO, namesAs, namesA, namesO, posn]; rw [wrap_id (by omega) (by omega)]⟩
  · simp at h
    rw [if_pos rfl]
    have hall : (List.range l.length).all (segAt l) = true := List.all_eq_true.2 fun j hj => hn j (by have := List.mem_range.1 hj; omega)
    refine W_seq (?_)
    apply W_regS
    · intro K hK
      simp
      repeat' (first | with_reducible exact hK | (with_reducible refine goL_split (fun _ => ?_) (fun _ => ?_) <;> simp) | with_reducible refine And.intro ?_ ?_ | with_reducible exact okay_rfl rfl | with_reducible assumption | omega)
    have : globOk s = decide ((l.length : Int) ≤ 8) := by rw [hg, hall, Bool.true_and]; exact decide_eq_decide.2 (by omega)
    refine W_ret ?_
    simp [Fin, this]
    all_goals omega

theorem containsAny_star : ∀ s : List UInt8, Lib.containsAny s [43, 42] = s.any starB := by
  have hb : ∀ b : UInt8, ([43, 42] : List UInt8).contains b = starB b := u8_all (p := fun b => ([43, 42] : List UInt8).contains b = starB b) (by decide +kernel)
  intro s
  unfold Lib.containsAny
  induction s with
  | nil => rfl
  | cons b r ih =>
    have hge := Lib.indexAny_ge [43, 42] r
    rw [Lib.indexAny, hb, List.any_cons, ← ih]
    cases starB b with
    | true => rfl
    | false =>
      simp only [Bool.false_eq_true, if_false, Bool.false_or]
      by_cases hm : Lib.indexAny r [43, 42] = -1
      · rw [hm]; rfl
      · rw [if_neg (fun e => hm (beq_iff_eq.1 e))]
        exact decide_eq_decide.2 (by omega)

theorem isPath_ok [MaxL GG] (s : List UInt8) (hs : s.length ≤ 4194304) : Valid PP GG F_I_isPath [.d (.str s)] (.d (.bool (pathOk s))) [none] := by
  refine v_I_isPath [.d (.bool (pathOk s))] rfl rfl ?_
  have cg := isGlob_ok (GG := GG) s hs
  have hp : pathOk s = (globOk s && !s.any starB) := rfl
  have hasc := globOk_ascii (s := s)
  generalize globOk s = g at cg hp hasc
  cases g with
  | false =>
    refine W_seq (?_)
    apply W_regS
    · intro K hK
      simp
      repeat' (first | with_reducible exact hK | (with_reducible refine goL_split (fun _ => ?_) (fun _ => ?_) <;> simp) | with_reducible refine And.intro ?_ ?_ | with_reducible exact okay_rfl rfl | with_reducible assumption | omega)
    refine W_seq (?_)
    refine W_regB 2 (false) (fun K hK => ?_) ?_
    · simp
      repeat' (first | exact hK _ _ (by clear hK; first | omega | (exact decide_eq_false (by omega)) | (exact decide_eq_true (by omega)) | (exact (decide_eq_true (by omega)).symm) | (exact (decide_eq_false (by omega)).symm) | (exact decide_eq_decide.2 (by omega)) | (simp only [← decide_not]; exact decide_eq_decide.2 (by omega)) | (simp [*]; done) | (simp [*]; omega) | (simp_all; done) | (simp_all; omega) | (rw [Bool.eq_iff_iff]; simp at *; omega)) | (with_reducible refine callQ (cg) ?_; simp) | (with_reducible refine goL_split (fun _ => ?_) (fun _ => ?_) <;> simp) | with_reducible refine And.intro ?_ ?_ | with_reducible exact okay_rfl rfl | with_reducible assumption | omega)
    refine W_ret ?_
    simp [Fin, hp]
    all_goals omega
  | true =>
    have cc := ContainsAny_ok (GG := GG) s [43, 42] (by omega) (by simp) (hasc rfl) (by decide)
    rw [containsAny_star] at cc
    generalize s.any starB = q at cc hp
    refine W_seq (?_)
    apply W_regS
    · intro K hK
      simp
      repeat' (first | with_reducible exact hK | (with_reducible refine goL_split (fun _ => ?_) (fun _ => ?_) <;> simp) | with_reducible refine And.intro ?_ ?_ | with_reducible exact okay_rfl rfl | with_reducible assumption | omega)
    refine W_seq (?_)
    refine W_regB 2 (!q) (fun K hK => ?_) ?_
    · simp
      repeat' (first | exact hK _ _ (by clear hK; first | omega | (exact decide_eq_false (by omega)) | (exact decide_eq_true (by omega)) | (exact (decide_eq_true (by omega)).symm) | (exact (decide_eq_false (by omega)).symm) | (exact decide_eq_decide.2 (by omega)) | (simp only [← decide_not]; exact decide_eq_decide.2 (by omega)) | (simp [*]; done) | (simp [*]; omega) | (simp_all; done) | (simp_all; omega) | (rw [Bool.eq_iff_iff]; simp at *; omega)) | (with_reducible refine callQ (cg) ?_; simp) | (with_reducible refine callQ (cc) ?_; simp) | (with_reducible refine goL_split (fun _ => ?_) (fun _ => ?_) <;> simp) | with_reducible refine And.intro ?_ ?_ | with_reducible exact okay_rfl rfl | with_reducible assumption | omega)
    refine W_ret ?_
    simp [Fin, hp]
    all_goals omega

def inB (x lo hi : Int) : Bool := decide (lo ≤ x) && decide (x ≤ hi)

def keyB (x : Int) : Bool := inB x 0 1099511627776

def noteOk (x : GNote) : Bool := inB x.fSeq 1 1000000000 && inB x.fAt 0 1000000000 && inB x.fWho 0 1000000000 && nameOk x.fWhat && pathOk x.fPath && inB x.fCode 0 99

def linkB (y x : GNote) : Bool := decide (x.fSeq = y.fSeq + 1 ∧ y.fAt ≤ x.fAt)

def linkAt (l : List GNote) (i : Nat) : Bool := match l[i]? with
  | none => true
  | some x => noteOk x && (match i with | 0 => true | j + 1 => match l[j]? with | some y => linkB y x | none => true)

def chainOk (c : GChain) : Bool := decide (0 ≤ c.fFirst) && keyB c.fSalt && decide (c.fNotes.length ≤ 120) && (List.range c.fNotes.length).all (linkAt c.fNotes)

theorem l04Key_ok (x : Int) : Valid PP GG F_S_l04Key [.d (.int .i64 x)] (.d (.bool (keyB x))) [none] := by
  refine v_S_l04Key [.d (.bool (keyB x))] rfl rfl ?_
  have cl : Valid PP GG F_S_l01In [.d (.int .i64 x), .d (.int .i64 0), .d (.int .i64 1099511627776)] (.d (.bool (keyB x))) [none, none, none] := l01In_ok x 0 1099511627776
  refine W_seq (?_)
  apply W_regS
  · intro K hK
    simp
    repeat' (first | with_reducible exact hK | (with_reducible refine goL_split (fun _ => ?_) (fun _ => ?_) <;> simp) | with_reducible refine And.intro ?_ ?_ | with_reducible exact okay_rfl rfl | with_reducible assumption | omega)
  refine W_seq (?_)
  apply W_regS
  · intro K hK
    simp
    repeat' (first | with_reducible exact hK | (with_reducible refine callQ (cl) ?_; simp) | (with_reducible refine goL_split (fun _ => ?_) (fun _ => ?_) <;> simp) | with_reducible refine And.intro ?_ ?_ | with_reducible exact okay_rfl rfl | with_reducible assumption | omega)
  refine W_ret ?_
  simp [Fin]
  all_goals omega

theorem isKey_ok (x : Int) : Valid PP GG F_I_isKey [.d (.int .i64 x)] (.d (.bool (keyB x))) [none] := by
  refine v_I_isKey [.d (.bool (keyB x))] rfl rfl ?_
  have cl : Valid PP GG F_I_within [.d (.int .i64 x), .d (.int .i64 0), .d (.int .i64 1099511627776)] (.d (.bool (keyB x))) [none, none, none] := within_ok x 0 1099511627776
  refine W_seq (?_)
  apply W_regS
  · intro K hK
    simp
    repeat' (first | with_reducible exact hK | (with_reducible refine goL_split (fun _ => ?_) (fun _ => ?_) <;> simp) | with_reducible refine And.intro ?_ ?_ | with_reducible exact okay_rfl rfl | with_reducible assumption | omega)
  refine W_seq (?_)
  apply W_regS
  · intro K hK
    simp
    repeat' (first | with_reducible exact hK | (with_reducible refine callQ (cl) ?_; simp) | (with_reducible refine goL_split (fun _ => ?_) (fun _ => ?_) <;> simp) | with_reducible refine And.intro ?_ ?_ | with_reducible exact okay_rfl rfl | with_reducible assumption | omega)
  refine W_ret ?_
  simp [Fin]
  all_goals omega

theorem note_range {x : GNote} (h : noteOk x = true) : 1 ≤ x.fSeq ∧ x.fSeq ≤ 1000000000 := by
  simp only [noteOk, inB, Bool.and_eq_true, decide_eq_true_eq] at h
  exact h.1.1.1.1.1

theorem link_note {l : List GNote} {j : Nat} {y : GNote} (h : linkAt l j = true) (hy : l[j]? = some y) : noteOk y = true := by
  unfold linkAt at h
  rw [hy] at h
  simp only [Bool.and_eq_true] at h
  exact h.1

theorem range_step {p : Nat → Bool} {i : Nat} (hn : ∀ j, j < i → p j = true) (h : p i = true) : ∀ j, j < i + 1 → p j = true := fun j hj => by
  by_cases e : j = i
  · subst e; exact h
  · exact hn j (by omega)

theorem isNote_ok [MaxL GG] (x : GNote) (hx : x.cost ≤ 4194304) : Valid PP GG F_I_isNote [.agg x.c] (.d (.bool (noteOk x))) [none] := by
  refine v_I_isNote [.d (.bool (noteOk x))] rfl rfl ?_
  have hco : x.cost = x.fWhat.length + x.fPath.length := rfl
  have c1 : Valid PP GG F_I_within [.d (.int .i64 x.fSeq), .d (.int .i64 1), .d (.int .i64 1000000000)] (.d (.bool (inB x.fSeq 1 1000000000))) [none, none, none] := within_ok _ _ _
  have c2 : Valid PP GG F_I_within [.d (.int .i64 x.fAt), .d (.int .i64 0), .d (.int .i64 1000000000)] (.d (.bool (inB x.fAt 0 1000000000))) [none, none, none] := within_ok _ _ _
  have c3 : Valid PP GG F_I_within [.d (.int .i64 x.fWho), .d (.int .i64 0), .d (.int .i64 1000000000)] (.d (.bool (inB x.fWho 0 1000000000))) [none, none, none] := within_ok _ _ _
  have c4 := isName_ok (GG := GG) x.fWhat (by omega)
  have c5 := isPath_ok (GG := GG) x.fPath (by omega)
  have c6 : Valid PP GG F_I_within [.d (.int .i64 x.fCode), .d (.int .i64 0), .d (.int .i64 99)] (.d (.bool (inB x.fCode 0 99))) [none, none, none] := within_ok _ _ _
  have hr : noteOk x = (inB x.fSeq 1 1000000000 && inB x.fAt 0 1000000000 && inB x.fWho 0 1000000000 && nameOk x.fWhat && pathOk x.fPath && inB x.fCode 0 99) := rfl
  generalize inB x.fSeq 1 1000000000 = p1 at c1 hr
  generalize inB x.fAt 0 1000000000 = p2 at c2 hr
  generalize inB x.fWho 0 1000000000 = p3 at c3 hr
  generalize nameOk x.fWhat = p4 at c4 hr
  generalize pathOk x.fPath = p5 at c5 hr
  generalize inB x.fCode 0 99 = p6 at c6 hr
  refine W_seq (?_)
  apply W_regS
  · intro K hK
    simp
    repeat' (first | with_reducible exact hK | (with_reducible refine goL_split (fun _ => ?_) (fun _ => ?_) <;> simp) | with_reducible refine And.intro ?_ ?_ | with_reducible exact okay_rfl rfl | with_reducible assumption | omega)
  refine W_seq (?_)
  refine W_regB 2 (p1 && p2 && p3 && p4 && p5 && p6) (fun K hK => ?_) ?_
  · simp
    repeat' (first | exact hK _ _ (by clear hK; first | omega | (exact decide_eq_false (by omega)) | (exact decide_eq_true (by omega)) | (exact (decide_eq_true (by omega)).symm) | (exact (decide_eq_false (by omega)).symm) | (exact decide_eq_decide.2 (by omega)) | (simp only [← decide_not]; exact decide_eq_decide.2 (by omega)) | (simp [*]; done) | (simp [*]; omega) | (simp_all; done) | (simp_all; omega) | (rw [Bool.eq_iff_iff]; simp at *; omega)) | (with_reducible refine callQ (c1) ?_; simp) | (with_reducible refine callQ (c2) ?_; simp) | (with_reducible refine callQ (c3) ?_; simp) | (with_reducible refine callQ (c4) ?_; simp) | (with_reducible refine callQ (c5) ?_; simp) | (with_reducible refine callQ (c6) ?_; simp) | (with_reducible refine goL_split (fun _ => ?_) (fun _ => ?_) <;> simp) | with_reducible refine And.intro ?_ ?_ | with_reducible exact okay_rfl rfl | with_reducible assumption | omega)
  refine W_ret ?_
  simp [Fin, hr]
  all_goals omega

theorem s_ChainOk_ok (c : GChain) (hc : c.cost ≤ 4194304) : Valid PP GG F_S_ChainOk [.agg c.c] (.d (.bool (chainOk c))) [none] := by
  refine v_S_ChainOk [.d (.bool (chainOk c))] rfl rfl ?_
  obtain ⟨f, k, l⟩ := c
  have hco : (GChain.mk f k l).cost = l.length + sumBy GNote.cost l := rfl
  have ck := l04Key_ok (GG := GG) k
  have hr : chainOk (GChain.mk f k l) = (decide (0 ≤ f) && keyB k && decide (l.length ≤ 120) && (List.range l.length).all (linkAt l)) := rfl
  generalize keyB k = p at ck hr
  obtain ⟨u, hu⟩ : ∃ u, decide (0 ≤ f) = u := ⟨_, rfl⟩
  obtain ⟨v, hv⟩ : ∃ v, decide (l.length ≤ 120) = v := ⟨_, rfl⟩
  have hu2 : decide (f < 0) = !u := by rw [← hu, ← decide_not]; exact decide_eq_decide.2 (by omega)
  have hv2 : decide (120 < (l.length : Int)) = !v := by rw [← hv, ← decide_not]; exact decide_eq_decide.2 (by omega)
  rw [hu, hv] at hr
  refine W_seq (?_)
  apply W_regS
  · intro K hK
    simp
    repeat' (first | with_reducible exact hK | (with_reducible refine goL_split (fun _ => ?_) (fun _ => ?_) <;> simp) | with_reducible refine And.intro ?_ ?_ | with_reducible exact okay_rfl rfl | with_reducible assumption | omega)
  refine W_seq (W_seq (?_))
  refine W_regB 19 (!(u && p && v)) (fun K hK => ?_) ?_
  · simp [hu2, hv2]
    repeat' (first | exact hK _ _ (by clear hK; first | omega | (exact decide_eq_false (by omega)) | (exact decide_eq_true (by omega)) | (exact (decide_eq_true (by omega)).symm) | (exact (decide_eq_false (by omega)).symm) | (exact decide_eq_decide.2 (by omega)) | (simp only [← decide_not]; exact decide_eq_decide.2 (by omega)) | (simp [*]; done) | (simp [*]; omega) | (simp_all; done) | (simp_all; omega) | (rw [Bool.eq_iff_iff]; simp at *; omega)) | (with_reducible refine callQ (ck) ?_; simp [hu2, hv2]) | (with_reducible refine goL_split (fun _ => ?_) (fun _ => ?_) <;> simp [hu2, hv2]) | with_reducible refine And.intro ?_ ?_ | with_reducible exact okay_rfl rfl | with_reducible assumption | omega)
  refine W_cond rfl (fun h => W_seq ?_) (fun h => W_skip ?_)
  · apply W_regS
    · intro K hK
      simp
      repeat' (first | with_reducible exact hK | (with_reducible refine goL_split (fun _ => ?_) (fun _ => ?_) <;> simp) | with_reducible refine And.intro ?_ ?_ | with_reducible exact okay_rfl rfl | with_reducible assumption | omega)
    have : chainOk (GChain.mk f k l) = false := by rw [hr]; revert h; cases u <;> cases p <;> cases v <;> simp
    refine W_ret ?_
    simp [Fin, this]
    all_goals omega
  have hr2 : chainOk (GChain.mk f k l) = (List.range l.length).all (linkAt l) := by rw [hr]; revert h; cases u <;> cases p <;> cases v <;> simp
  refine W_seq (W_seq (?_))
  apply W_regS
  · intro K hK
    simp
    repeat' (first | with_reducible exact hK | (with_reducible refine goL_split (fun _ => ?_) (fun _ => ?_) <;> simp) | with_reducible refine And.intro ?_ ?_ | with_reducible exact okay_rfl rfl | with_reducible assumption | omega)
  refine W_block (W_loop (fun n st => ∃ i : Nat, n = l.length - i ∧ i ≤ l.length ∧ (∀ j, j < i → linkAt l j = true) ∧
    st = ⟨[], [(1, .ptr 0 0), (3, .d (.int .i64 i))], [(0, .box [.d (.int .i64 f), .d (.int .i64 k), .d (.slc 7 (rNote l))])], 1⟩) _ ⟨0, rfl, by omega, fun j h => by omega, rfl⟩ ?_)
  rintro n st ⟨i, rfl, hi, hn, rfl⟩
  refine W_seq (W_seq (?_))
  apply W_regS
  · intro K hK
    simp
    repeat' (first | with_reducible exact hK | (with_reducible refine goL_split (fun _ => ?_) (fun _ => ?_) <;> simp) | with_reducible refine And.intro ?_ ?_ | with_reducible exact okay_rfl rfl | with_reducible assumption | omega)
  refine W_cond rfl (fun h2 => W_skip ?_) (fun h2 => W_exit ?_)
  · simp at h2
    have ha := List.getElem?_eq_getElem h2
    generalize l[i] = x at ha
    have hg := sumBy_get (f := GNote.cost) ha
    have hcx : x.cost = x.fWhat.length + x.fPath.length := rfl
    refine W_seq (W_block (W_seq ?_))
    apply W_regS
    · intro K hK
      simp [ha]
      repeat' (first | with_reducible exact hK | (with_reducible refine goL_split (fun _ => ?_) (fun _ => ?_) <;> simp [ha]) | with_reducible refine And.intro ?_ ?_ | with_reducible exact okay_rfl rfl | with_reducible assumption | omega)
    have c1 : Valid PP GG F_S_l01In [.d (.int .i64 x.fSeq), .d (.int .i64 1), .d (.int .i64 1000000000)] (.d (.bool (inB x.fSeq 1 1000000000))) [none, none, none] := l01In_ok _ _ _
    have c2 : Valid PP GG F_S_l01In [.d (.int .i64 x.fAt), .d (.int .i64 0), .d (.int .i64 1000000000)] (.d (.bool (inB x.fAt 0 1000000000))) [none, none, none] := l01In_ok _ _ _
    have c3 : Valid PP GG F_S_l01In [.d (.int .i64 x.fWho), .d (.int .i64 0), .d (.int .i64 1000000000)] (.d (.bool (inB x.fWho 0 1000000000))) [none, none, none] := l01In_ok _ _ _
    have c4 := l01Name_ok (GG := GG) x.fWhat (by omega)
    have c5 := s_PathOk_ok (GG := GG) x.fPath (by omega)
    have c6 : Valid PP GG F_S_l01In [.d (.int .i64 x.fCode), .d (.int .i64 0), .d (.int .i64 99)] (.d (.bool (inB x.fCode 0 99))) [none, none, none] := l01In_ok _ _ _
    have hno : noteOk x = (inB x.fSeq 1 1000000000 && inB x.fAt 0 1000000000 && inB x.fWho 0 1000000000 && nameOk x.fWhat && pathOk x.fPath && inB x.fCode 0 99) := rfl
    generalize inB x.fSeq 1 1000000000 = p1 at c1 hno
    generalize inB x.fAt 0 1000000000 = p2 at c2 hno
    generalize inB x.fWho 0 1000000000 = p3 at c3 hno
    generalize nameOk x.fWhat = p4 at c4 hno
    generalize pathOk x.fPath = p5 at c5 hno
    generalize inB x.fCode 0 99 = p6 at c6 hno
    refine W_seq (W_seq (?_))
    refine W_regB 65 (!(p1 && p2 && p3 && p4 && p5 && p6)) (fun K hK => ?_) ?_
    · simp
      repeat' (first | exact hK _ _ (by clear hK; first | omega | (exact decide_eq_false (by omega)) | (exact decide_eq_true (by omega)) | (exact (decide_eq_true (by omega)).symm) | (exact (decide_eq_false (by omega)).symm) | (exact decide_eq_decide.2 (by omega)) | (simp only [← decide_not]; exact decide_eq_decide.2 (by omega)) | (simp [*]; done) | (simp [*]; omega) | (simp_all; done) | (simp_all; omega) | (rw [Bool.eq_iff_iff]; simp at *; omega)) | (with_reducible refine callQ (c1) ?_; simp) | (with_reducible refine callQ (c2) ?_; simp) | (with_reducible refine callQ (c3) ?_; simp) | (with_reducible refine callQ (c4) ?_; simp) | (with_reducible refine callQ (c5) ?_; simp) | (with_reducible refine callQ (c6) ?_; simp) | (with_reducible refine goL_split (fun _ => ?_) (fun _ => ?_) <;> simp) | with_reducible refine And.intro ?_ ?_ | with_reducible exact okay_rfl rfl | with_reducible assumption | omega)
    rw [← hno]
    clear c1 c2 c3 c4 c5 c6
    generalize hq : noteOk x = q
    refine W_cond rfl (fun h3 => W_seq ?_) (fun h3 => W_skip ?_)
    · apply W_regS
      · intro K hK
        simp
        repeat' (first | with_reducible exact hK | (with_reducible refine goL_split (fun _ => ?_) (fun _ => ?_) <;> simp) | with_reducible refine And.intro ?_ ?_ | with_reducible exact okay_rfl rfl | with_reducible assumption | omega)
      have : chainOk (GChain.mk f k l) = false := by
        rw [hr2]
        exact range_no (i := i) (by omega) (by unfold linkAt; rw [ha]; simp only; rw [hq]; revert h3; cases q <;> simp)
      refine W_ret ?_
      simp [Fin, this]
      all_goals omega
    have hq1 : q = true := by revert h3; cases q <;> simp
    subst hq1
    cases i with
    | zero =>
      refine W_seq (?_)
      refine W_regBD 92 (false) (fun K hK => ?_) ?_
      · simp [ha]
        repeat' (first | exact hK _ _ (by clear hK; first | omega | (exact decide_eq_false (by omega)) | (exact decide_eq_true (by omega)) | (exact (decide_eq_true (by omega)).symm) | (exact (decide_eq_false (by omega)).symm) | (exact decide_eq_decide.2 (by omega)) | (simp only [← decide_not]; exact decide_eq_decide.2 (by omega)) | (simp [*]; done) | (simp [*]; omega) | (simp_all; done) | (simp_all; omega) | (rw [Bool.eq_iff_iff]; simp at *; omega)) | (with_reducible refine goL_split (fun _ => ?_) (fun _ => ?_) <;> simp [ha]) | with_reducible refine And.intro ?_ ?_ | with_reducible exact okay_rfl rfl | with_reducible assumption | omega)
      refine W_cond rfl (fun h4 => ?_) (fun h4 => W_skip ?_)
      · cases h4
      apply W_regS
      · intro K hK
        simp
        repeat' (first | with_reducible exact hK | (with_reducible refine goL_split (fun _ => ?_) (fun _ => ?_) <;> simp) | with_reducible refine And.intro ?_ ?_ | with_reducible exact okay_rfl rfl | with_reducible assumption | omega)
      exact ⟨l.length - (0 + 1), by omega, 0 + 1, rfl, h2, range_step hn (by unfold linkAt; rw [ha]; simp only; rw [hq]; rfl), by simp [gc, closeN, liveA, gcV, gcO, renA, renAs, renO, namesAs, namesA, namesO, posn]; exact wrap_id (by omega) (by omega)⟩
    | succ j =>
      have hb := List.getElem?_eq_getElem (show j < l.length by omega)
      generalize l[j]'_ = y at hb
      have hy := note_range (link_note (hn j (by omega)) hb)
      have hw1 : IntKind.i64.wrap (j : Int) = j := wrap_id (by omega) (by omega)
      have hw2 : IntKind.i64.wrap (y.fSeq + 1) = y.fSeq + 1 := wrap_id (by omega) (by omega)
      have hlk : linkAt l (j + 1) = decide (x.fSeq = y.fSeq + 1 ∧ y.fAt ≤ x.fAt) := by unfold linkAt; rw [ha]; simp only [hq, hb, linkB, Bool.true_and]
      have hlt : j < l.length := by omega
      refine W_seq (?_)
      refine W_regBD 92 (decide (¬ (x.fSeq = y.fSeq + 1 ∧ y.fAt ≤ x.fAt))) (fun K hK => ?_) ?_
      · simp [ha, hb, hw1, hw2]
        repeat' (first | exact hK _ _ (by clear hK; first | omega | (exact decide_eq_false (by omega)) | (exact decide_eq_true (by omega)) | (exact (decide_eq_true (by omega)).symm) | (exact (decide_eq_false (by omega)).symm) | (exact decide_eq_decide.2 (by omega)) | (simp only [← decide_not]; exact decide_eq_decide.2 (by omega)) | (simp [*]; done) | (simp [*]; omega) | (simp_all; done) | (simp_all; omega) | (rw [Bool.eq_iff_iff]; simp at *; omega)) | (with_reducible refine goL_split (fun _ => ?_) (fun _ => ?_) <;> simp [ha, hb, hw1, hw2]) | with_reducible refine And.intro ?_ ?_ | with_reducible exact okay_rfl rfl | with_reducible assumption | omega)
      refine W_cond rfl (fun h4 => W_seq ?_) (fun h4 => W_skip ?_)
      · rw [h4]
        apply W_regS
        · intro K hK
          simp
          repeat' (first | with_reducible exact hK | (with_reducible refine goL_split (fun _ => ?_) (fun _ => ?_) <;> simp) | with_reducible refine And.intro ?_ ?_ | with_reducible exact okay_rfl rfl | with_reducible assumption | omega)
        have : chainOk (GChain.mk f k l) = false := by
          rw [hr2]
          exact range_no (i := j + 1) (by omega) (by rw [hlk]; exact decide_eq_false (of_decide_eq_true h4))
        refine W_ret ?_
        simp [Fin, this]
        all_goals omega
      rw [h4]
      apply W_regS
      · intro K hK
        simp
        repeat' (first | with_reducible exact hK | (with_reducible refine goL_split (fun _ => ?_) (fun _ => ?_) <;> simp) | with_reducible refine And.intro ?_ ?_ | with_reducible exact okay_rfl rfl | with_reducible assumption | omega)
      refine ⟨l.length - (j + 1 + 1), by omega, j + 1 + 1, rfl, h2, range_step hn (by rw [hlk]; exact decide_eq_true (Decidable.not_not.1 (of_decide_eq_false h4))), ?_⟩
      simp [gc, closeN, liveA, gcV, gcO, renA, renAs, renO, namesAs, namesA, namesO, posn]
      rw [wrap_id (by omega) (by omega)]
  · simp at h2
    rw [if_pos rfl]
    refine W_seq (?_)
    apply W_regS
    · intro K hK
      simp
      repeat' (first | with_reducible exact hK | (with_reducible refine goL_split (fun _ => ?_) (fun _ => ?_) <;> simp) | with_reducible refine And.intro ?_ ?_ | with_reducible exact okay_rfl rfl | with_reducible assumption | omega)
    have : chainOk (GChain.mk f k l) = true := by
      rw [hr2]; exact List.all_eq_true.2 fun j hj => hn j (by have := List.mem_range.1 hj; omega)
    refine W_ret ?_
    simp [Fin, this]
    all_goals omega

theorem isChain_ok [MaxL GG] (c : GChain) (hc : c.cost ≤ 4194304) : Valid PP GG F_I_isChain [.agg c.c] (.d (.bool (chainOk c))) [none] := by
  refine v_I_isChain [.d (.bool (chainOk c))] rfl rfl ?_
  obtain ⟨f, k, l⟩ := c
  have hco : (GChain.mk f k l).cost = l.length + sumBy GNote.cost l := rfl
  have ck := isKey_ok (GG := GG) k
  have hr : chainOk (GChain.mk f k l) = (decide (0 ≤ f) && keyB k && decide (l.length ≤ 120) && (List.range l.length).all (linkAt l)) := rfl
  generalize keyB k = p at ck hr
  obtain ⟨u, hu⟩ : ∃ u, decide (0 ≤ f) = u := ⟨_, rfl⟩
  obtain ⟨v, hv⟩ : ∃ v, decide (l.length ≤ 120) = v := ⟨_, rfl⟩
  have hv2 : decide ((l.length : Int) ≤ 120) = v := by rw [← hv]; exact decide_eq_decide.2 (by omega)
  rw [hu, hv] at hr
  refine W_seq (?_)
  apply W_regS
  · intro K hK
    simp
    repeat' (first | with_reducible exact hK | (with_reducible refine goL_split (fun _ => ?_) (fun _ => ?_) <;> simp) | with_reducible refine And.intro ?_ ?_ | with_reducible exact okay_rfl rfl | with_reducible assumption | omega)
  refine W_seq (W_seq (?_))
  apply W_regS
  · intro K hK
    simp
    repeat' (first | with_reducible exact hK | (with_reducible refine goL_split (fun _ => ?_) (fun _ => ?_) <;> simp) | with_reducible refine And.intro ?_ ?_ | with_reducible exact okay_rfl rfl | with_reducible assumption | omega)
  refine W_block (W_loop (fun n st => ∃ i : Nat, n = l.length - i ∧ i ≤ l.length ∧ (∀ j, j < i → linkAt l j = true) ∧
    st = ⟨[], [(1, .ptr 0 0), (6, .d (.slc 7 (rNote l))), (7, .d (.int .i64 l.length)), (8, .d (.int .i64 i))], [(0, .box [.d (.int .i64 f), .d (.int .i64 k), .d (.slc 7 (rNote l))])], 1⟩) _ ⟨0, rfl, by omega, fun j h => by omega, rfl⟩ ?_)
  rintro n st ⟨i, rfl, hi, hn, rfl⟩
  refine W_seq (?_)
  apply W_regS
  · intro K hK
    simp
    repeat' (first | with_reducible exact hK | (with_reducible refine goL_split (fun _ => ?_) (fun _ => ?_) <;> simp) | with_reducible refine And.intro ?_ ?_ | with_reducible exact okay_rfl rfl | with_reducible assumption | omega)
  refine W_seq (?_)
  refine W_cond rfl (fun h2 => W_skip ?_) (fun h2 => W_exit ?_)
  · simp at h2
    have ha := List.getElem?_eq_getElem h2
    generalize l[i] = x at ha
    have hg := sumBy_get (f := GNote.cost) ha
    have c1 := isNote_ok (GG := GG) x (by omega)
    refine W_seq (W_block (W_seq ?_))
    apply W_regS
    · intro K hK
      simp [ha]
      repeat' (first | with_reducible exact hK | (with_reducible refine goL_split (fun _ => ?_) (fun _ => ?_) <;> simp [ha]) | with_reducible refine And.intro ?_ ?_ | with_reducible exact okay_rfl rfl | with_reducible assumption | omega)
    refine W_seq (?_)
    cases hq : noteOk x with
    | false =>
      rw [hq] at c1
      refine W_regBD 44 (true) (fun K hK => ?_) ?_
      · simp
        repeat' (first | exact hK _ _ (by clear hK; first | omega | (exact decide_eq_false (by omega)) | (exact decide_eq_true (by omega)) | (exact (decide_eq_true (by omega)).symm) | (exact (decide_eq_false (by omega)).symm) | (exact decide_eq_decide.2 (by omega)) | (simp only [← decide_not]; exact decide_eq_decide.2 (by omega)) | (simp [*]; done) | (simp [*]; omega) | (simp_all; done) | (simp_all; omega) | (rw [Bool.eq_iff_iff]; simp at *; omega)) | (with_reducible refine callQ (c1) ?_; simp) | (with_reducible refine goL_split (fun _ => ?_) (fun _ => ?_) <;> simp) | with_reducible refine And.intro ?_ ?_ | with_reducible exact okay_rfl rfl | with_reducible assumption | omega)
      refine W_cond rfl (fun h3 => W_seq ?_) (fun h3 => ?_)
      rotate_left
      · cases h3
      apply W_regS
      · intro K hK
        simp
        repeat' (first | with_reducible exact hK | (with_reducible refine goL_split (fun _ => ?_) (fun _ => ?_) <;> simp) | with_reducible refine And.intro ?_ ?_ | with_reducible exact okay_rfl rfl | with_reducible assumption | omega)
      have : chainOk (GChain.mk f k l) = false := by
        rw [hr, range_no (i := i) (by omega) (by unfold linkAt; rw [ha]; simp only; rw [hq]; rfl), Bool.and_false]
      refine W_ret ?_
      simp [Fin, this]
      all_goals omega
    | true =>
      rw [hq] at c1
      cases i with
      | zero =>
        refine W_regBD 44 (false) (fun K hK => ?_) ?_
        · simp
          repeat' (first | exact hK _ _ (by clear hK; first | omega | (exact decide_eq_false (by omega)) | (exact decide_eq_true (by omega)) | (exact (decide_eq_true (by omega)).symm) | (exact (decide_eq_false (by omega)).symm) | (exact decide_eq_decide.2 (by omega)) | (simp only [← decide_not]; exact decide_eq_decide.2 (by omega)) | (simp [*]; done) | (simp [*]; omega) | (simp_all; done) | (simp_all; omega) | (rw [Bool.eq_iff_iff]; simp at *; omega)) | (with_reducible refine callQ (c1) ?_; simp) | (with_reducible refine goL_split (fun _ => ?_) (fun _ => ?_) <;> simp) | with_reducible refine And.intro ?_ ?_ | with_reducible exact okay_rfl rfl | with_reducible assumption | omega)
        refine W_cond rfl (fun h4 => ?_) (fun h4 => W_skip ?_)
        · cases h4
        apply W_regS
        · intro K hK
          simp
          repeat' (first | with_reducible exact hK | (with_reducible refine goL_split (fun _ => ?_) (fun _ => ?_) <;> simp) | with_reducible refine And.intro ?_ ?_ | with_reducible exact okay_rfl rfl | with_reducible assumption | omega)
        exact ⟨l.length - (0 + 1), by omega, 0 + 1, rfl, h2, range_step hn (by unfold linkAt; rw [ha]; simp only; rw [hq]; rfl), by simp [gc, closeN, liveA, gcV, gcO, renA, renAs, renO, namesAs, namesA, namesO, posn]; exact wrap_id (by omega) (by omega)⟩
      | succ j =>
        have hb := List.getElem?_eq_getElem (show j < l.length by omega)
        generalize l[j]'_ = y at hb
        have hy := note_range (link_note (hn j (by omega)) hb)
        have hw1 : IntKind.i64.wrap (j : Int) = j := wrap_id (by omega) (by omega)
        have hw2 : IntKind.i64.wrap (y.fSeq + 1) = y.fSeq + 1 := wrap_id (by omega) (by omega)
        have hlk : linkAt l (j + 1) = decide (x.fSeq = y.fSeq + 1 ∧ y.fAt ≤ x.fAt) := by unfold linkAt; rw [ha]; simp only [hq, hb, linkB, Bool.true_and]
        have hlt : j < l.length := by omega
        refine W_regBD 44 (decide (¬ (x.fSeq = y.fSeq + 1 ∧ y.fAt ≤ x.fAt))) (fun K hK => ?_) ?_
        · simp [ha, hb, hw1, hw2]
          repeat' (first | exact hK _ _ (by clear hK; first | omega | (exact decide_eq_false (by omega)) | (exact decide_eq_true (by omega)) | (exact (decide_eq_true (by omega)).symm) | (exact (decide_eq_false (by omega)).symm) | (exact decide_eq_decide.2 (by omega)) | (simp only [← decide_not]; exact decide_eq_decide.2 (by omega)) | (simp [*]; done) | (simp [*]; omega) | (simp_all; done) | (simp_all; omega) | (rw [Bool.eq_iff_iff]; simp at *; omega)) | (with_reducible refine callQ (c1) ?_; simp [ha, hb, hw1, hw2]) | (with_reducible refine goL_split (fun _ => ?_) (fun _ => ?_) <;> simp [ha, hb, hw1, hw2]) | with_reducible refine And.intro ?_ ?_ | with_reducible exact okay_rfl rfl | with_reducible assumption | omega)
        refine W_cond rfl (fun h4 => W_seq ?_) (fun h4 => W_skip ?_)
        · rw [h4]
          apply W_regS
          · intro K hK
            simp
            repeat' (first | with_reducible exact hK | (with_reducible refine goL_split (fun _ => ?_) (fun _ => ?_) <;> simp) | with_reducible refine And.intro ?_ ?_ | with_reducible exact okay_rfl rfl | with_reducible assumption | omega)
          have : chainOk (GChain.mk f k l) = false := by
            rw [hr, range_no (i := j + 1) (by omega) (by rw [hlk]; exact decide_eq_false (of_decide_eq_true h4)), Bool.and_false]
          refine W_ret ?_
          simp [Fin, this]
          all_goals omega
        rw [h4]
        apply W_regS
        · intro K hK
          simp
          repeat' (first | with_reducible exact hK | (with_reducible refine goL_split (fun _ => ?_) (fun _ => ?_) <;> simp) | with_reducible refine And.intro ?_ ?_ | with_reducible exact okay_rfl rfl | with_reducible assumption | omega)
        refine ⟨l.length - (j + 1 + 1), by omega, j + 1 + 1, rfl, h2, range_step hn (by rw [hlk]; exact decide_eq_true (Decidable.not_not.1 (of_decide_eq_false h4))), ?_⟩
        simp [gc, closeN, liveA, gcV, gcO, renA, renAs, renO, namesAs, namesA, namesO, posn]
        rw [wrap_id (by omega) (by omega)]
  · simp at h2
    rw [if_pos rfl]
    have hall : (List.range l.length).all (linkAt l) = true := List.all_eq_true.2 fun j hj => hn j (by have := List.mem_range.1 hj; omega)
    rw [hall, Bool.and_true] at hr
    refine W_seq (?_)
    refine W_regB 2 (u && p && v) (fun K hK => ?_) ?_
    · simp [hu, hv2]
      repeat' (first | exact hK _ _ (by clear hK; first | omega | (exact decide_eq_false (by omega)) | (exact decide_eq_true (by omega)) | (exact (decide_eq_true (by omega)).symm) | (exact (decide_eq_false (by omega)).symm) | (exact decide_eq_decide.2 (by omega)) | (simp only [← decide_not]; exact decide_eq_decide.2 (by omega)) | (simp [*]; done) | (simp [*]; omega) | (simp_all; done) | (simp_all; omega) | (rw [Bool.eq_iff_iff]; simp at *; omega)) | (with_reducible refine callQ (ck) ?_; simp [hu, hv2]) | (with_reducible refine goL_split (fun _ => ?_) (fun _ => ?_) <;> simp [hu, hv2]) | with_reducible refine And.intro ?_ ?_ | with_reducible exact okay_rfl rfl | with_reducible assumption | omega)
    refine W_ret ?_
    simp [Fin, hr]
    all_goals omega

def headV (c : GChain) : Int := if chainOk c = true then (match c.fNotes.getLast? with | some x => x.fSum | none => c.fFirst) else -1

theorem last_get {α : Type} {l : List α} {x : α} {n : Nat} (h : l.length = n + 1) (hx : l[n]? = some x) : l.getLast? = some x := by
  rw [List.getLast?_eq_getElem?, h]; exact hx

theorem s_HeadOf_ok (c : GChain) (hc : c.cost ≤ 1048576) : Valid PP GG F_S_HeadOf [.agg c.c] (.d (.int .i64 (headV c))) [none] := by
  refine v_S_HeadOf [.d (.int .i64 (headV c))] rfl rfl ?_
  have cc := s_ChainOk_ok (GG := GG) c (by omega)
  have hr : headV c = if chainOk c = true then (match c.fNotes.getLast? with | some x => x.fSum | none => c.fFirst) else -1 := rfl
  obtain ⟨f, k, l⟩ := c
  have hco : (GChain.mk f k l).cost = l.length + sumBy GNote.cost l := rfl
  generalize chainOk (GChain.mk f k l) = b at cc hr
  simp only at hr
  refine W_seq (?_)
  apply W_regS
  · intro K hK
    simp
    repeat' (first | with_reducible exact hK | (with_reducible refine goL_split (fun _ => ?_) (fun _ => ?_) <;> simp) | with_reducible refine And.intro ?_ ?_ | with_reducible exact okay_rfl rfl | with_reducible assumption | omega)
  refine W_seq (W_seq (?_))
  apply W_regS
  · intro K hK
    simp
    repeat' (first | with_reducible exact hK | (with_reducible refine callQ (cc) ?_; simp) | (with_reducible refine goL_split (fun _ => ?_) (fun _ => ?_) <;> simp) | with_reducible refine And.intro ?_ ?_ | with_reducible exact okay_rfl rfl | with_reducible assumption | omega)
  refine W_cond rfl (fun h => W_seq ?_) (fun h => W_skip ?_)
  · simp at h
    subst h
    apply W_regS
    · intro K hK
      simp
      repeat' (first | with_reducible exact hK | (with_reducible refine goL_split (fun _ => ?_) (fun _ => ?_) <;> simp) | with_reducible refine And.intro ?_ ?_ | with_reducible exact okay_rfl rfl | with_reducible assumption | omega)
    rw [if_neg (by simp)] at hr
    refine W_ret ?_
    simp [Fin, hr]
    all_goals omega
  simp at h
  subst h
  rw [if_pos rfl] at hr
  cases hl : l with
  | nil =>
    subst hl
    refine W_seq (W_seq (?_))
    apply W_regS
    · intro K hK
      simp [rNote]
      repeat' (first | with_reducible exact hK | (with_reducible refine goL_split (fun _ => ?_) (fun _ => ?_) <;> simp [rNote]) | with_reducible refine And.intro ?_ ?_ | with_reducible exact okay_rfl rfl | with_reducible assumption | omega)
    refine W_cond rfl (fun h => W_seq ?_) (fun h => ?_)
    rotate_left
    · simp at h
    apply W_regS
    · intro K hK
      simp
      repeat' (first | with_reducible exact hK | (with_reducible refine goL_split (fun _ => ?_) (fun _ => ?_) <;> simp) | with_reducible refine And.intro ?_ ?_ | with_reducible exact okay_rfl rfl | with_reducible assumption | omega)
    refine W_ret ?_
    simp [Fin, hr]
    all_goals omega
  | cons z r =>
    have ha := List.getElem?_eq_getElem (show r.length < (z :: r).length by simp)
    generalize (z :: r)[r.length]'_ = x at ha
    have hlast : l.getLast? = some x := last_get (n := r.length) (by rw [hl]; simp) (by rw [hl]; exact ha)
    have hlen : l.length = r.length + 1 := by rw [hl]; simp
    rw [← hl] at ha ⊢
    rw [hlast] at hr
    simp only at hr
    clear hl
    have hw : IntKind.i64.wrap ((l.length : Int) - 1) = (r.length : Int) := by rw [wrap_id (by omega) (by omega)]; omega
    refine W_seq (W_seq (?_))
    apply W_regS
    · intro K hK
      simp
      repeat' (first | with_reducible exact hK | (with_reducible refine goL_split (fun _ => ?_) (fun _ => ?_) <;> simp) | with_reducible refine And.intro ?_ ?_ | with_reducible exact okay_rfl rfl | with_reducible assumption | omega)
    refine W_cond rfl (fun h => W_seq ?_) (fun h => W_skip ?_)
    · simp at h; subst h; simp at hlen
    refine W_seq (?_)
    apply W_regS
    · intro K hK
      simp [hw, ha]
      repeat' (first | with_reducible exact hK | (with_reducible refine goL_split (fun _ => ?_) (fun _ => ?_) <;> simp [hw, ha]) | with_reducible refine And.intro ?_ ?_ | with_reducible exact okay_rfl rfl | with_reducible assumption | omega)
    refine W_ret ?_
    simp [Fin, hr]
    all_goals omega

def notesBy (who : Int) : List GNote → List Int
  | [] => []
  | x :: r => if x.fWho = who then x.fSeq :: notesBy who r else notesBy who r

theorem notesBy_app (who : Int) (a b : List GNote) : notesBy who (a ++ b) = notesBy who a ++ notesBy who b := by
  induction a with
  | nil => rfl
  | cons x a ih => simp only [List.cons_append, notesBy, ih]; split <;> simp

theorem notesBy_succ {who : Int} {l : List GNote} {i : Nat} {x : GNote} (h : l[i]? = some x) : notesBy who (l.take (i + 1)) = notesBy who (l.take i) ++ (if x.fWho = who then [x.fSeq] else []) := by
  rw [List.take_add_one, h, notesBy_app]; rfl

theorem notesBy_len (who : Int) (l : List GNote) : (notesBy who l).length ≤ l.length := by
  induction l with
  | nil => simp [notesBy]
  | cons x l ih => simp only [notesBy]; split <;> simp <;> omega

def notesV (c : GChain) (who : Int) : List Int := if chainOk c = true then notesBy who c.fNotes else []

theorem intsD_snoc (l : List Int) (x : Int) : intsD (l ++ [x]) = intsD l ++ [[.int .i64 x]] := by simp [intsD]

theorem i_NotesOf_ok [MaxL GG] (c : GChain) (who : Int) (hc : c.cost ≤ 1048576) : Valid PP GG F_I_NotesOf [.agg c.c, .d (.int .i64 who)] (.own 0 1 (intsD (notesV c who))) [none, none] := by
  refine v_I_NotesOf [.own 0 1 (intsD (notesV c who))] rfl rfl ?_
  have cc := isChain_ok (GG := GG) c (by omega)
  have hr : notesV c who = if chainOk c = true then notesBy who c.fNotes else [] := rfl
  obtain ⟨f, k, l⟩ := c
  have hco : (GChain.mk f k l).cost = l.length + sumBy GNote.cost l := rfl
  generalize chainOk (GChain.mk f k l) = b at cc hr
  simp only at hr
  refine W_seq (?_)
  apply W_regS
  · intro K hK
    simp
    repeat' (first | with_reducible exact hK | (with_reducible refine goL_split (fun _ => ?_) (fun _ => ?_) <;> simp) | with_reducible refine And.intro ?_ ?_ | with_reducible exact okay_rfl rfl | with_reducible assumption | omega)
  refine W_seq (W_seq (?_))
  apply W_regS
  · intro K hK
    simp
    repeat' (first | with_reducible exact hK | (with_reducible refine callQ (cc) ?_; simp) | (with_reducible refine goL_split (fun _ => ?_) (fun _ => ?_) <;> simp) | with_reducible refine And.intro ?_ ?_ | with_reducible exact okay_rfl rfl | with_reducible assumption | omega)
  refine W_cond rfl (fun h => W_seq ?_) (fun h => W_skip ?_)
  · simp at h
    subst h
    apply W_regS
    · intro K hK
      simp
      repeat' (first | with_reducible exact hK | (with_reducible refine goL_split (fun _ => ?_) (fun _ => ?_) <;> simp) | with_reducible refine And.intro ?_ ?_ | with_reducible exact okay_rfl rfl | with_reducible assumption | omega)
    rw [if_neg (by simp)] at hr
    refine W_ret ?_
    simp [Fin, hr, intsD]
    all_goals omega
  simp at h
  subst h
  rw [if_pos rfl] at hr
  refine W_seq (?_)
  apply W_regS
  · intro K hK
    simp
    repeat' (first | with_reducible exact hK | (with_reducible refine goL_split (fun _ => ?_) (fun _ => ?_) <;> simp) | with_reducible refine And.intro ?_ ?_ | with_reducible exact okay_rfl rfl | with_reducible assumption | omega)
  refine W_seq (W_seq (?_))
  apply W_regS
  · intro K hK
    simp
    repeat' (first | with_reducible exact hK | (with_reducible refine goL_split (fun _ => ?_) (fun _ => ?_) <;> simp) | with_reducible refine And.intro ?_ ?_ | with_reducible exact okay_rfl rfl | with_reducible assumption | omega)
  refine W_block (W_loop (fun n st => ∃ (i : Nat), n = l.length - i ∧ i ≤ l.length ∧
    ((notesBy who (l.take i) = [] ∧ st = ⟨[], [(1, .d (.int .i64 who)), (5, .nil 0 1), (12, .d (.slc 7 (rNote l))), (13, .d (.int .i64 l.length)), (14, .d (.int .i64 i))], [], 0⟩) ∨
     st = ⟨[], [(1, .d (.int .i64 who)), (5, .sl 0), (12, .d (.slc 7 (rNote l))), (13, .d (.int .i64 l.length)), (14, .d (.int .i64 i))], [(0, .arr 0 0 1 (intsD (notesBy who (l.take i))))], 1⟩)) _ ⟨0, rfl, by omega, .inl ⟨rfl, rfl⟩⟩ ?_)
  rintro n st ⟨i, rfl, hi, ⟨hz, rfl⟩ | rfl⟩
  · refine W_seq (?_)
    apply W_regS
    · intro K hK
      simp
      repeat' (first | with_reducible exact hK | (with_reducible refine goL_split (fun _ => ?_) (fun _ => ?_) <;> simp) | with_reducible refine And.intro ?_ ?_ | with_reducible exact okay_rfl rfl | with_reducible assumption | omega)
    refine W_seq (?_)
    refine W_cond rfl (fun h2 => W_skip ?_) (fun h2 => W_exit ?_)
    · simp at h2
      have ha := List.getElem?_eq_getElem h2
      generalize l[i] = x at ha
      have hs := notesBy_succ (who := who) ha
      rw [hz, List.nil_append] at hs
      refine W_seq (W_block (W_seq ?_))
      apply W_regS
      · intro K hK
        simp [ha]
        repeat' (first | with_reducible exact hK | (with_reducible refine goL_split (fun _ => ?_) (fun _ => ?_) <;> simp [ha]) | with_reducible refine And.intro ?_ ?_ | with_reducible exact okay_rfl rfl | with_reducible assumption | omega)
      refine W_seq (?_)
      apply W_regS
      · intro K hK
        simp
        repeat' (first | with_reducible exact hK | (with_reducible refine goL_split (fun _ => ?_) (fun _ => ?_) <;> simp) | with_reducible refine And.intro ?_ ?_ | with_reducible exact okay_rfl rfl | with_reducible assumption | omega)
      refine W_cond rfl (fun h3 => ?_) (fun h3 => W_skip ?_)
      · simp at h3
        rw [if_pos h3] at hs
        apply W_regS
        · intro K hK
          simp [limit]
          repeat' (first | with_reducible exact hK | (with_reducible refine goL_split (fun _ => ?_) (fun _ => ?_) <;> simp [limit]) | with_reducible refine And.intro ?_ ?_ | with_reducible exact okay_rfl rfl | with_reducible assumption | omega)
        apply W_regS
        · intro K hK
          simp
          repeat' (first | with_reducible exact hK | (with_reducible refine goL_split (fun _ => ?_) (fun _ => ?_) <;> simp) | with_reducible refine And.intro ?_ ?_ | with_reducible exact okay_rfl rfl | with_reducible assumption | omega)
        exact ⟨l.length - (i + 1), by omega, i + 1, rfl, h2, .inr (by simp [gc, closeN, liveA, gcV, gcO, renA, renAs, renO, namesAs, namesA, namesO, posn, hs, intsD]; exact wrap_id (by omega) (by omega))⟩
      · simp at h3
        rw [if_neg h3] at hs
        apply W_regS
        · intro K hK
          simp
          repeat' (first | with_reducible exact hK | (with_reducible refine goL_split (fun _ => ?_) (fun _ => ?_) <;> simp) | with_reducible refine And.intro ?_ ?_ | with_reducible exact okay_rfl rfl | with_reducible assumption | omega)
        exact ⟨l.length - (i + 1), by omega, i + 1, rfl, h2, .inl ⟨hs, by simp [gc, closeN, liveA, gcV, gcO, renA, renAs, renO, namesAs, namesA, namesO, posn]; exact wrap_id (by omega) (by omega)⟩⟩
    · simp at h2
      rw [if_pos rfl]
      rw [List.take_of_length_le h2] at hz
      rw [hz] at hr
      refine W_seq (?_)
      apply W_regS
      · intro K hK
        simp
        repeat' (first | with_reducible exact hK | (with_reducible refine goL_split (fun _ => ?_) (fun _ => ?_) <;> simp) | with_reducible refine And.intro ?_ ?_ | with_reducible exact okay_rfl rfl | with_reducible assumption | omega)
      refine W_ret ?_
      simp [Fin, hr, intsD]
      all_goals omega
  · refine W_seq (?_)
    apply W_regS
    · intro K hK
      simp
      repeat' (first | with_reducible exact hK | (with_reducible refine goL_split (fun _ => ?_) (fun _ => ?_) <;> simp) | with_reducible refine And.intro ?_ ?_ | with_reducible exact okay_rfl rfl | with_reducible assumption | omega)
    refine W_seq (?_)
    refine W_cond rfl (fun h2 => W_skip ?_) (fun h2 => W_exit ?_)
    · simp at h2
      have ha := List.getElem?_eq_getElem h2
      generalize l[i] = x at ha
      have hs := notesBy_succ (who := who) ha
      have hlen := notesBy_len who (l.take i)
      rw [List.length_take] at hlen
      refine W_seq (W_block (W_seq ?_))
      apply W_regS
      · intro K hK
        simp [ha]
        repeat' (first | with_reducible exact hK | (with_reducible refine goL_split (fun _ => ?_) (fun _ => ?_) <;> simp [ha]) | with_reducible refine And.intro ?_ ?_ | with_reducible exact okay_rfl rfl | with_reducible assumption | omega)
      refine W_seq (?_)
      apply W_regS
      · intro K hK
        simp
        repeat' (first | with_reducible exact hK | (with_reducible refine goL_split (fun _ => ?_) (fun _ => ?_) <;> simp) | with_reducible refine And.intro ?_ ?_ | with_reducible exact okay_rfl rfl | with_reducible assumption | omega)
      refine W_cond rfl (fun h3 => ?_) (fun h3 => W_skip ?_)
      · simp at h3
        rw [if_pos h3] at hs
        apply W_regS
        · intro K hK
          simp [limit]
          repeat' (first | with_reducible exact hK | (with_reducible refine goL_split (fun _ => ?_) (fun _ => ?_) <;> simp [limit]) | with_reducible refine And.intro ?_ ?_ | with_reducible exact okay_rfl rfl | with_reducible assumption | omega)
        apply W_regS
        · intro K hK
          simp
          repeat' (first | with_reducible exact hK | (with_reducible refine goL_split (fun _ => ?_) (fun _ => ?_) <;> simp) | with_reducible refine And.intro ?_ ?_ | with_reducible exact okay_rfl rfl | with_reducible assumption | omega)
        exact ⟨l.length - (i + 1), by omega, i + 1, rfl, h2, .inr (by simp [gc, closeN, liveA, gcV, gcO, renA, renAs, renO, namesAs, namesA, namesO, posn, hs, intsD_snoc]; exact wrap_id (by omega) (by omega))⟩
      · simp at h3
        rw [if_neg h3, List.append_nil] at hs
        apply W_regS
        · intro K hK
          simp
          repeat' (first | with_reducible exact hK | (with_reducible refine goL_split (fun _ => ?_) (fun _ => ?_) <;> simp) | with_reducible refine And.intro ?_ ?_ | with_reducible exact okay_rfl rfl | with_reducible assumption | omega)
        exact ⟨l.length - (i + 1), by omega, i + 1, rfl, h2, .inr (by simp [gc, closeN, liveA, gcV, gcO, renA, renAs, renO, namesAs, namesA, namesO, posn, hs]; exact wrap_id (by omega) (by omega))⟩
    · simp at h2
      rw [if_pos rfl]
      rw [List.take_of_length_le h2]
      refine W_seq (?_)
      apply W_regS
      · intro K hK
        simp
        repeat' (first | with_reducible exact hK | (with_reducible refine goL_split (fun _ => ?_) (fun _ => ?_) <;> simp) | with_reducible refine And.intro ?_ ?_ | with_reducible exact okay_rfl rfl | with_reducible assumption | omega)
      refine W_ret ?_
      simp [Fin, hr]
      all_goals omega

theorem inB_true {x lo hi : Int} (h : inB x lo hi = true) : lo ≤ x ∧ x ≤ hi := by
  simp only [inB, Bool.and_eq_true, decide_eq_true_eq] at h; exact h

theorem l01Bytes_ok (a : List UInt8) (ha : a.length ≤ 70368744177664) : Valid PP GG F_S_l01Bytes [.d (.slc 1 (bytesD a))] (.own 0 1 (bytesD a)) [none] := by
  refine v_S_l01Bytes [.own 0 1 (bytesD a)] rfl rfl ?_
  refine W_seq (?_)
  apply W_regS
  · intro K hK
    simp
    repeat' (first | with_reducible exact hK | (with_reducible refine goL_split (fun _ => ?_) (fun _ => ?_) <;> simp) | with_reducible refine And.intro ?_ ?_ | with_reducible exact okay_rfl rfl | with_reducible assumption | omega)
  refine W_seq (?_)
  apply W_regS
  · intro K hK
    simp [litA]
    repeat' (first | with_reducible exact hK | (with_reducible refine goL_split (fun _ => ?_) (fun _ => ?_) <;> simp [litA]) | with_reducible refine And.intro ?_ ?_ | with_reducible exact okay_rfl rfl | with_reducible assumption | omega)
  refine W_seq (W_seq (?_))
  apply W_regS
  · intro K hK
    simp
    repeat' (first | with_reducible exact hK | (with_reducible refine goL_split (fun _ => ?_) (fun _ => ?_) <;> simp) | with_reducible refine And.intro ?_ ?_ | with_reducible exact okay_rfl rfl | with_reducible assumption | omega)
  refine W_block (W_loop (fun n st => ∃ i : Nat, n = a.length - i ∧ i ≤ a.length ∧
    st = ⟨[], [(0, .d (.slc 1 (bytesD a))), (3, .sl 0), (4, .d (.int .i64 i))], [(0, .arr 0 0 1 (bytesD (a.take i)))], 1⟩) _ ⟨0, rfl, by omega, rfl⟩ ?_)
  rintro n st ⟨i, rfl, hi, rfl⟩
  refine W_seq (W_seq (?_))
  apply W_regS
  · intro K hK
    simp
    repeat' (first | with_reducible exact hK | (with_reducible refine goL_split (fun _ => ?_) (fun _ => ?_) <;> simp) | with_reducible refine And.intro ?_ ?_ | with_reducible exact okay_rfl rfl | with_reducible assumption | omega)
  refine W_cond rfl (fun h => W_skip ?_) (fun h => W_exit ?_)
  · simp at h
    have hx := List.getElem?_eq_getElem h
    generalize a[i] = x at hx
    have hl : (a.take i).length ≤ a.length := by rw [List.length_take]; omega
    refine W_seq (W_block ?_)
    apply W_regS
    · intro K hK
      simp [hx, limit]
      repeat' (first | with_reducible exact hK | (with_reducible refine goL_split (fun _ => ?_) (fun _ => ?_) <;> simp [hx, limit]) | with_reducible refine And.intro ?_ ?_ | with_reducible exact okay_rfl rfl | with_reducible assumption | omega)
    apply W_regS
    · intro K hK
      simp
      repeat' (first | with_reducible exact hK | (with_reducible refine goL_split (fun _ => ?_) (fun _ => ?_) <;> simp) | with_reducible refine And.intro ?_ ?_ | with_reducible exact okay_rfl rfl | with_reducible assumption | omega)
    exact ⟨a.length - (i + 1), by omega, i + 1, rfl, h, by simp [gc, closeN, liveA, gcV, gcO, renA, renAs, renO, namesAs, namesA, namesO, posn, bytesD_succ hx]; exact wrap_id (by omega) (by omega)⟩
  · simp at h
    rw [if_pos rfl]
    refine W_seq (?_)
    apply W_regS
    · intro K hK
      simp [List.take_of_length_le h]
      repeat' (first | with_reducible exact hK | (with_reducible refine goL_split (fun _ => ?_) (fun _ => ?_) <;> simp [List.take_of_length_le h]) | with_reducible refine And.intro ?_ ?_ | with_reducible exact okay_rfl rfl | with_reducible assumption | omega)
    refine W_ret ?_
    simp [Fin]
    all_goals omega

theorem l01Join_ok (a b : List UInt8) (ha : a.length + b.length ≤ 70368744177664) : Valid PP GG F_S_l01Join [.d (.slc 1 (bytesD a)), .d (.slc 1 (bytesD b))] (.own 0 1 (bytesD (a ++ b))) [none, none] := by
  refine v_S_l01Join [.own 0 1 (bytesD (a ++ b))] rfl rfl ?_
  have cb := l01Bytes_ok (GG := GG) a (by omega)
  have happ : ∀ x y : List UInt8, bytesD (x ++ y) = bytesD x ++ bytesD y := fun x y => by simp [bytesD]
  refine W_seq (?_)
  apply W_regS
  · intro K hK
    simp
    repeat' (first | with_reducible exact hK | (with_reducible refine goL_split (fun _ => ?_) (fun _ => ?_) <;> simp) | with_reducible refine And.intro ?_ ?_ | with_reducible exact okay_rfl rfl | with_reducible assumption | omega)
  refine W_seq (?_)
  apply W_regS
  · intro K hK
    simp
    repeat' (first | with_reducible exact hK | (with_reducible refine callQ (cb) ?_; simp) | (with_reducible refine goL_split (fun _ => ?_) (fun _ => ?_) <;> simp) | with_reducible refine And.intro ?_ ?_ | with_reducible exact okay_rfl rfl | with_reducible assumption | omega)
  refine W_seq (W_seq (?_))
  apply W_regS
  · intro K hK
    simp
    repeat' (first | with_reducible exact hK | (with_reducible refine goL_split (fun _ => ?_) (fun _ => ?_) <;> simp) | with_reducible refine And.intro ?_ ?_ | with_reducible exact okay_rfl rfl | with_reducible assumption | omega)
  refine W_block (W_loop (fun n st => ∃ i : Nat, n = b.length - i ∧ i ≤ b.length ∧
    st = ⟨[], [(1, .d (.slc 1 (bytesD b))), (5, .sl 0), (6, .d (.int .i64 i))], [(0, .arr 0 0 1 (bytesD (a ++ b.take i)))], 1⟩) _ ⟨0, rfl, by omega, by simp [gc, closeN, liveA, gcV, gcO, renA, renAs, renO, namesAs, namesA, namesO, posn]⟩ ?_)
  rintro n st ⟨i, rfl, hi, rfl⟩
  refine W_seq (W_seq (?_))
  apply W_regS
  · intro K hK
    simp
    repeat' (first | with_reducible exact hK | (with_reducible refine goL_split (fun _ => ?_) (fun _ => ?_) <;> simp) | with_reducible refine And.intro ?_ ?_ | with_reducible exact okay_rfl rfl | with_reducible assumption | omega)
  refine W_cond rfl (fun h => W_skip ?_) (fun h => W_exit ?_)
  · simp at h
    have hx := List.getElem?_eq_getElem h
    generalize b[i] = x at hx
    have hl : (a ++ b.take i).length ≤ a.length + b.length := by rw [List.length_append, List.length_take]; omega
    have hs := bytesD_succ hx
    obtain ⟨w, hw⟩ : ∃ w, a ++ b.take i = w := ⟨_, rfl⟩
    have hw2 : bytesD (a ++ b.take (i + 1)) = bytesD w ++ [[.int .u8 x.toNat]] := by rw [happ, hs, ← hw, happ, List.append_assoc]
    rw [hw] at hl ⊢
    refine W_seq (W_block ?_)
    apply W_regS
    · intro K hK
      simp [hx, limit]
      repeat' (first | with_reducible exact hK | (with_reducible refine goL_split (fun _ => ?_) (fun _ => ?_) <;> simp [hx, limit]) | with_reducible refine And.intro ?_ ?_ | with_reducible exact okay_rfl rfl | with_reducible assumption | omega)
    apply W_regS
    · intro K hK
      simp
      repeat' (first | with_reducible exact hK | (with_reducible refine goL_split (fun _ => ?_) (fun _ => ?_) <;> simp) | with_reducible refine And.intro ?_ ?_ | with_reducible exact okay_rfl rfl | with_reducible assumption | omega)
    exact ⟨b.length - (i + 1), by omega, i + 1, rfl, h, by simp [gc, closeN, liveA, gcV, gcO, renA, renAs, renO, namesAs, namesA, namesO, posn, hw2]; exact wrap_id (by omega) (by omega)⟩
  · simp at h
    rw [if_pos rfl]
    refine W_seq (?_)
    apply W_regS
    · intro K hK
      simp [List.take_of_length_le h]
      repeat' (first | with_reducible exact hK | (with_reducible refine goL_split (fun _ => ?_) (fun _ => ?_) <;> simp [List.take_of_length_le h]) | with_reducible refine And.intro ?_ ?_ | with_reducible exact okay_rfl rfl | with_reducible assumption | omega)
    refine W_ret ?_
    simp [Fin]
    all_goals omega

def wideB (x : Int) (i : Nat) : UInt8 := UInt8.ofNat ((x.toNat / 2 ^ (8 * i)) % 256)

def wide (x : Int) : List UInt8 := (List.range 8).map (wideB x)

theorem wide_len (x : Int) : (wide x).length = 8 := by simp [wide]

theorem wide_sh {x : Int} (hx : 0 ≤ x) {i q : Nat} (hi : i < 8) (hq : x.toNat / 2 ^ (8 * i) = q) : shBin .shr .i64 x (8 * (i : Int)) = some (.int .i64 (q : Int)) := by
  rw [shBin_shr _ _ _ (by omega)]
  have e1 : (8 * (i : Int)).toNat = 8 * i := by omega
  have e2 : min (8 * i) IntKind.i64.bits = 8 * i := by
    show min (8 * i) 64 = 8 * i
    omega
  have e4 : ((2 : Int) ^ (8 * i)) = ((2 ^ (8 * i) : Nat) : Int) := by simp
  obtain ⟨m, rfl⟩ : ∃ m : Nat, x = m := ⟨x.toNat, by omega⟩
  rw [e1, e2, e4, Int.fdiv_eq_ediv_of_nonneg _ (Int.natCast_nonneg _), ← hq]
  rfl

theorem wide_and (q : Nat) : intBin .and .i64 (q : Int) 255 = some (.int .i64 ((q % 256 : Nat) : Int)) := by
  have e : (BitVec.ofInt IntKind.i64.bits (q : Int) &&& BitVec.ofInt IntKind.i64.bits 255).toNat = q % 256 := by
    show (BitVec.ofInt 64 (q : Int) &&& 255#64).toNat = q % 256
    rw [BitVec.toNat_and, show (255#64).toNat = 2 ^ 8 - 1 from rfl, Nat.and_two_pow_sub_one_eq_mod, BitVec.ofInt_natCast, BitVec.toNat_ofNat]
    omega
  show some (D.int .i64 (IntKind.i64.wrap (((BitVec.ofInt IntKind.i64.bits (q : Int) &&& BitVec.ofInt IntKind.i64.bits 255).toNat : Nat) : Int))) = _
  rw [e, wrap_id (by omega) (by omega)]

theorem wide_u8 {x : Int} {i q : Nat} (hq : x.toNat / 2 ^ (8 * i) = q) : IntKind.u8.wrap (q : Int) = ((wideB x i).toNat : Int) := by
  unfold wideB
  rw [hq, IntKind.wrap_u8, UInt8.toNat_ofNat']; omega

theorem wide_u8' {x : Int} {i q : Nat} (hq : x.toNat / 2 ^ (8 * i) = q) : IntKind.u8.wrap ((q : Int) % 256) = ((wideB x i).toNat : Int) := by
  unfold wideB
  rw [hq, IntKind.wrap_u8, UInt8.toNat_ofNat']; omega

theorem wide_succ (x : Int) (i : Nat) : bytesD ((List.range (i + 1)).map (wideB x)) = bytesD ((List.range i).map (wideB x)) ++ [[.int .u8 (wideB x i).toNat]] := by
  simp [List.range_succ, bytesD]

theorem s_PutWide_ok (x : Int) (hk : keyB x = true) : Valid PP GG F_S_PutWide [.d (.int .i64 x)] (.own 0 1 (bytesD (wide x))) [none] := by
  refine v_S_PutWide [.own 0 1 (bytesD (wide x))] rfl rfl ?_
  have ck := l04Key_ok (GG := GG) x
  rw [hk] at ck
  have hx := inB_true hk
  refine W_seq (?_)
  apply W_regS
  · intro K hK
    simp
    repeat' (first | with_reducible exact hK | (with_reducible refine goL_split (fun _ => ?_) (fun _ => ?_) <;> simp) | with_reducible refine And.intro ?_ ?_ | with_reducible exact okay_rfl rfl | with_reducible assumption | omega)
  refine W_seq (?_)
  apply W_regS
  · intro K hK
    simp [litA]
    repeat' (first | with_reducible exact hK | (with_reducible refine goL_split (fun _ => ?_) (fun _ => ?_) <;> simp [litA]) | with_reducible refine And.intro ?_ ?_ | with_reducible exact okay_rfl rfl | with_reducible assumption | omega)
  refine W_seq (W_seq (?_))
  apply W_regS
  · intro K hK
    simp
    repeat' (first | with_reducible exact hK | (with_reducible refine callQ (ck) ?_; simp) | (with_reducible refine goL_split (fun _ => ?_) (fun _ => ?_) <;> simp) | with_reducible refine And.intro ?_ ?_ | with_reducible exact okay_rfl rfl | with_reducible assumption | omega)
  refine W_cond rfl (fun h => ?_) (fun h => W_skip ?_)
  · simp at h
  refine W_seq (W_seq (?_))
  apply W_regS
  · intro K hK
    simp
    repeat' (first | with_reducible exact hK | (with_reducible refine goL_split (fun _ => ?_) (fun _ => ?_) <;> simp) | with_reducible refine And.intro ?_ ?_ | with_reducible exact okay_rfl rfl | with_reducible assumption | omega)
  refine W_block (W_loop (fun n st => ∃ i : Nat, n = 8 - i ∧ i ≤ 8 ∧
    st = ⟨[], [(0, .d (.int .i64 x)), (3, .sl 0), (4, .d (.int .i64 i))], [(0, .arr 0 0 1 (bytesD ((List.range i).map (wideB x))))], 1⟩) _ ⟨0, rfl, by omega, rfl⟩ ?_)
  rintro n st ⟨i, rfl, hi, rfl⟩
  refine W_seq (W_seq (?_))
  apply W_regS
  · intro K hK
    simp
    repeat' (first | with_reducible exact hK | (with_reducible refine goL_split (fun _ => ?_) (fun _ => ?_) <;> simp) | with_reducible refine And.intro ?_ ?_ | with_reducible exact okay_rfl rfl | with_reducible assumption | omega)
  refine W_cond rfl (fun h => W_skip ?_) (fun h => W_exit ?_)
  · simp at h
    obtain ⟨q, hq⟩ : ∃ q : Nat, x.toNat / 2 ^ (8 * i) = q := ⟨_, rfl⟩
    have f1 := wide_sh hx.1 (by omega) hq
    have f2 := wide_and q
    have f3 := wide_u8' hq
    have f4 : IntKind.i64.wrap (8 * (i : Int)) = 8 * i := wrap_id (by omega) (by omega)
    have f5 : IntKind.u64.wrap (8 * (i : Int)) = 8 * i := by rw [IntKind.wrap_u64]; omega
    have hs := wide_succ x i
    have hl : ((List.range i).map (wideB x)).length = i := by simp
    generalize (List.range i).map (wideB x) = w at hs hl ⊢
    generalize wideB x i = b at f3 hs
    refine W_seq (W_block ?_)
    apply W_regS
    · intro K hK
      simp [f4, f5, f1, f2, f3, limit]
      repeat' (first | with_reducible exact hK | (with_reducible refine goL_split (fun _ => ?_) (fun _ => ?_) <;> simp [f4, f5, f1, f2, f3, limit]) | with_reducible refine And.intro ?_ ?_ | with_reducible exact okay_rfl rfl | with_reducible assumption | omega)
    apply W_regS
    · intro K hK
      simp
      repeat' (first | with_reducible exact hK | (with_reducible refine goL_split (fun _ => ?_) (fun _ => ?_) <;> simp) | with_reducible refine And.intro ?_ ?_ | with_reducible exact okay_rfl rfl | with_reducible assumption | omega)
    exact ⟨8 - (i + 1), by omega, i + 1, rfl, by omega, by rw [hs]; simp [gc, closeN, liveA, gcV, gcO, renA, renAs, renO, namesAs, namesA, namesO, posn]; exact wrap_id (by omega) (by omega)⟩
  · simp at h
    have hi8 : i = 8 := by omega
    subst hi8
    rw [if_pos rfl]
    refine W_seq (?_)
    apply W_regS
    · intro K hK
      simp
      repeat' (first | with_reducible exact hK | (with_reducible refine goL_split (fun _ => ?_) (fun _ => ?_) <;> simp) | with_reducible refine And.intro ?_ ?_ | with_reducible exact okay_rfl rfl | with_reducible assumption | omega)
    refine W_ret ?_
    simp [Fin, wide]
    all_goals omega

theorem i_putWide_ok (x : Int) (hk : keyB x = true) : Valid PP GG F_I_putWide [.d (.int .i64 x)] (.own 0 1 (bytesD (wide x))) [none] := by
  refine v_I_putWide [.own 0 1 (bytesD (wide x))] rfl rfl ?_
  have hx := inB_true hk
  refine W_seq (?_)
  apply W_regS
  · intro K hK
    simp
    repeat' (first | with_reducible exact hK | (with_reducible refine goL_split (fun _ => ?_) (fun _ => ?_) <;> simp) | with_reducible refine And.intro ?_ ?_ | with_reducible exact okay_rfl rfl | with_reducible assumption | omega)
  refine W_seq (?_)
  apply W_regS
  · intro K hK
    simp [mkA, limit]
    repeat' (first | with_reducible exact hK | (with_reducible refine goL_split (fun _ => ?_) (fun _ => ?_) <;> simp [mkA, limit]) | with_reducible refine And.intro ?_ ?_ | with_reducible exact okay_rfl rfl | with_reducible assumption | omega)
  refine W_seq (W_seq (?_))
  apply W_regS
  · intro K hK
    simp
    repeat' (first | with_reducible exact hK | (with_reducible refine goL_split (fun _ => ?_) (fun _ => ?_) <;> simp) | with_reducible refine And.intro ?_ ?_ | with_reducible exact okay_rfl rfl | with_reducible assumption | omega)
  refine W_block (W_loop (fun n st => ∃ (i : Nat) (R : List (List D)), n = 8 - i ∧ i ≤ 8 ∧ R.length = 8 ∧ (∀ r, r ∈ R → r.length = 1) ∧ R.take i = bytesD ((List.range i).map (wideB x)) ∧
    st = ⟨[], [(0, .d (.int .i64 x)), (3, .sl 0), (7, .d (.int .i64 8)), (8, .d (.int .i64 i))], [(0, .arr 0 0 1 R)], 1⟩) _ ⟨0, List.replicate 8 [.int .u8 0], rfl, by omega, by simp, by simp, rfl, rfl⟩ ?_)
  rintro n st ⟨i, R, rfl, hi, hl, h1, hR, rfl⟩
  refine W_seq (?_)
  apply W_regS
  · intro K hK
    simp
    repeat' (first | with_reducible exact hK | (with_reducible refine goL_split (fun _ => ?_) (fun _ => ?_) <;> simp) | with_reducible refine And.intro ?_ ?_ | with_reducible exact okay_rfl rfl | with_reducible assumption | omega)
  refine W_seq (?_)
  refine W_cond rfl (fun h => W_skip ?_) (fun h => W_exit ?_)
  · simp at h
    obtain ⟨d, hd⟩ := row_one h1 (show i < R.length by omega)
    obtain ⟨q, hq⟩ : ∃ q : Nat, x.toNat / 2 ^ (8 * i) = q := ⟨_, rfl⟩
    have f1 := wide_sh hx.1 (by omega) hq
    have f3 := wide_u8 hq
    have f4 : IntKind.i64.wrap (8 * (i : Int)) = 8 * i := wrap_id (by omega) (by omega)
    have hs := wide_succ x i
    generalize wideB x i = b at f3 hs
    refine W_seq (W_block (W_seq ?_))
    apply W_regS
    · intro K hK
      simp
      repeat' (first | with_reducible exact hK | (with_reducible refine goL_split (fun _ => ?_) (fun _ => ?_) <;> simp) | with_reducible refine And.intro ?_ ?_ | with_reducible exact okay_rfl rfl | with_reducible assumption | omega)
    apply W_regS
    · intro K hK
      simp [f4, f1, f3, hd, hl]
      repeat' (first | with_reducible exact hK | (with_reducible refine goL_split (fun _ => ?_) (fun _ => ?_) <;> simp [f4, f1, f3, hd, hl]) | with_reducible refine And.intro ?_ ?_ | with_reducible exact okay_rfl rfl | with_reducible assumption | omega)
    apply W_regS
    · intro K hK
      simp
      repeat' (first | with_reducible exact hK | (with_reducible refine goL_split (fun _ => ?_) (fun _ => ?_) <;> simp) | with_reducible refine And.intro ?_ ?_ | with_reducible exact okay_rfl rfl | with_reducible assumption | omega)
    exact ⟨8 - (i + 1), by omega, i + 1, R.set i [.int .u8 b.toNat], rfl, by omega, by simpa using hl, set_one h1, by rw [take_set_succ (by omega), hR, hs], by simp [gc, closeN, liveA, gcV, gcO, renA, renAs, renO, namesAs, namesA, namesO, posn]; exact wrap_id (by omega) (by omega)⟩
  · simp at h
    have hi8 : i = 8 := by omega
    subst hi8
    have eR : R = bytesD (wide x) := by rwa [List.take_of_length_le (by omega)] at hR
    subst eR
    rw [if_pos rfl]
    refine W_seq (?_)
    apply W_regS
    · intro K hK
      simp
      repeat' (first | with_reducible exact hK | (with_reducible refine goL_split (fun _ => ?_) (fun _ => ?_) <;> simp) | with_reducible refine And.intro ?_ ?_ | with_reducible exact okay_rfl rfl | with_reducible assumption | omega)
    refine W_ret ?_
    simp [Fin]
    all_goals omega

theorem digN_range (l : List UInt8) : 0 ≤ digN l ∧ digN l ≤ 4611686018427387904 := by
  have h1 := dA_lt l
  have h2 := dB_lt l
  unfold digN
  omega

def saltV (c : GChain) (t : List UInt8) : List UInt8 := if chainOk c = true ∧ t.length ≤ 2000 then 104 :: Lib.itoa (digN (wide c.fSalt ++ t)) else []

theorem chain_key {c : GChain} (h : chainOk c = true) : keyB c.fSalt = true := by
  simp only [chainOk, Bool.and_eq_true] at h; exact h.1.1.2

theorem s_Salted_ok (c : GChain) (t : List UInt8) (hc : c.cost ≤ 1048576) (ht : t.length ≤ 1048576) : Valid PP GG F_S_Salted [.agg c.c, .d (.str t)] (.d (.str (saltV c t))) [none, none] := by
  refine v_S_Salted [.d (.str (saltV c t))] rfl rfl ?_
  have cc := s_ChainOk_ok (GG := GG) c (by omega)
  have hkey := chain_key (c := c)
  have hr : saltV c t = if chainOk c = true ∧ t.length ≤ 2000 then 104 :: Lib.itoa (digN (wide c.fSalt ++ t)) else [] := rfl
  generalize saltV c t = v at hr ⊢
  generalize chainOk c = b at cc hkey hr
  refine W_seq (?_)
  apply W_regS
  · intro K hK
    simp
    repeat' (first | with_reducible exact hK | (with_reducible refine goL_split (fun _ => ?_) (fun _ => ?_) <;> simp) | with_reducible refine And.intro ?_ ?_ | with_reducible exact okay_rfl rfl | with_reducible assumption | omega)
  refine W_seq (W_seq (?_))
  refine W_regB 12 (decide (¬ (b = true ∧ t.length ≤ 2000))) (fun K hK => ?_) ?_
  · simp
    repeat' (first | exact hK _ _ (by clear hK; first | omega | (exact decide_eq_false (by omega)) | (exact decide_eq_true (by omega)) | (exact (decide_eq_true (by omega)).symm) | (exact (decide_eq_false (by omega)).symm) | (exact decide_eq_decide.2 (by omega)) | (simp only [← decide_not]; exact decide_eq_decide.2 (by omega)) | (simp [*]; done) | (simp [*]; omega) | (simp_all; done) | (simp_all; omega) | (rw [Bool.eq_iff_iff]; simp at *; omega)) | (with_reducible refine callQ (cc) ?_; simp) | (with_reducible refine goL_split (fun _ => ?_) (fun _ => ?_) <;> simp) | with_reducible refine And.intro ?_ ?_ | with_reducible exact okay_rfl rfl | with_reducible assumption | omega)
  refine W_cond rfl (fun h => W_seq ?_) (fun h => W_skip ?_)
  · rw [h]
    rw [if_neg (of_decide_eq_true h)] at hr
    subst hr
    apply W_regS
    · intro K hK
      simp
      repeat' (first | with_reducible exact hK | (with_reducible refine goL_split (fun _ => ?_) (fun _ => ?_) <;> simp) | with_reducible refine And.intro ?_ ?_ | with_reducible exact okay_rfl rfl | with_reducible assumption | omega)
    refine W_ret ?_
    simp [Fin]
    all_goals omega
  rw [h]
  have hcond := Decidable.not_not.1 (of_decide_eq_false h)
  rw [if_pos hcond] at hr
  have cp := s_PutWide_ok (GG := GG) c.fSalt (hkey hcond.1)
  have hwl := wide_len c.fSalt
  have hind := ind_bytes (wide c.fSalt)
  have cj := l01Join_ok (GG := GG) (wide c.fSalt) t (by omega)
  have hind2 := ind_bytes (wide c.fSalt ++ t)
  have cd := Digest_ok (GG := GG) (wide c.fSalt ++ t) (by simp; omega)
  have hd := digN_range (wide c.fSalt ++ t)
  generalize digN (wide c.fSalt ++ t) = m at cd hd hr
  have cn := l01Num_ok (GG := GG) m ⟨by omega, by omega⟩
  have hln := Lib.itoa_length_le m (by omega) (by omega)
  refine W_seq (?_)
  apply W_regS
  · intro K hK
    simp [maxStr]
    repeat' (first | with_reducible exact hK | (with_reducible refine callQ (cp) ?_; simp [maxStr]) | (with_reducible refine callQ (cj) ?_; simp [maxStr]) | (with_reducible refine callQ (cd) ?_; simp [maxStr]) | (with_reducible refine callQ (cn) ?_; simp [maxStr]) | (with_reducible refine goL_split (fun _ => ?_) (fun _ => ?_) <;> simp [maxStr]) | with_reducible refine And.intro ?_ ?_ | with_reducible exact okay_rfl rfl | with_reducible assumption | omega)
  refine W_ret ?_
  simp [Fin, hr]
  all_goals omega

theorem ItoaB_ok [P10 GG] (n : Int) (h : int64 n) : Valid PP GG 31 [.d (.int .i64 n)] (.d (.str (Lib.itoa n))) [none] := by
  refine lib_int (rv := .string ⟨(Lib.itoa n).toArray⟩) ⟨Tryd.f31, Tryd.func31, by kernel_rfl, by kernel_rfl⟩ (fun w Fz => .str _) fun w hG => ?_
  refine Go.Proofs.YtalclmngpfpkmaaDoor.Tryd.strconv_Itoa n h.1 h.2 w ?_
  obtain ⟨ob, h1, h2⟩ := hG 0 _ P10.h
  unfold Lib.TabIs World.var?
  rw [show Tryd.prog.globalNamed "internal/strconv.uint64pow10" = some 0 by kernel_rfl]
  simp only [Option.bind_some, h1]
  cases ob with
  | cells cs t fr => simp only [pow10Cells] at h2; rw [h2]
  | _ => exact h2.elim

theorem i_Salted_ok [P10 GG] [MaxL GG] (c : GChain) (t : List UInt8) (hc : c.cost ≤ 1048576) (ht : t.length ≤ 1048576) : Valid PP GG F_I_Salted [.agg c.c, .d (.str t)] (.d (.str (saltV c t))) [none, none] := by
  refine v_I_Salted [.d (.str (saltV c t))] rfl rfl ?_
  have cc := isChain_ok (GG := GG) c (by omega)
  have hkey := chain_key (c := c)
  have hr : saltV c t = if chainOk c = true ∧ t.length ≤ 2000 then 104 :: Lib.itoa (digN (wide c.fSalt ++ t)) else [] := rfl
  generalize saltV c t = v at hr ⊢
  generalize chainOk c = b at cc hkey hr
  refine W_seq (?_)
  apply W_regS
  · intro K hK
    simp
    repeat' (first | with_reducible exact hK | (with_reducible refine goL_split (fun _ => ?_) (fun _ => ?_) <;> simp) | with_reducible refine And.intro ?_ ?_ | with_reducible exact okay_rfl rfl | with_reducible assumption | omega)
  refine W_seq (W_seq (?_))
  refine W_regB 12 (decide (¬ (b = true ∧ t.length ≤ 2000))) (fun K hK => ?_) ?_
  · simp
    repeat' (first | exact hK _ _ (by clear hK; first | omega | (exact decide_eq_false (by omega)) | (exact decide_eq_true (by omega)) | (exact (decide_eq_true (by omega)).symm) | (exact (decide_eq_false (by omega)).symm) | (exact decide_eq_decide.2 (by omega)) | (simp only [← decide_not]; exact decide_eq_decide.2 (by omega)) | (simp [*]; done) | (simp [*]; omega) | (simp_all; done) | (simp_all; omega) | (rw [Bool.eq_iff_iff]; simp at *; omega)) | (with_reducible refine callQ (cc) ?_; simp) | (with_reducible refine goL_split (fun _ => ?_) (fun _ => ?_) <;> simp) | with_reducible refine And.intro ?_ ?_ | with_reducible exact okay_rfl rfl | with_reducible assumption | omega)
  refine W_cond rfl (fun h => W_seq ?_) (fun h => W_skip ?_)
  · rw [h]
    rw [if_neg (of_decide_eq_true h)] at hr
    subst hr
    apply W_regS
    · intro K hK
      simp
      repeat' (first | with_reducible exact hK | (with_reducible refine goL_split (fun _ => ?_) (fun _ => ?_) <;> simp) | with_reducible refine And.intro ?_ ?_ | with_reducible exact okay_rfl rfl | with_reducible assumption | omega)
    refine W_ret ?_
    simp [Fin]
    all_goals omega
  rw [h]
  have hcond := Decidable.not_not.1 (of_decide_eq_false h)
  rw [if_pos hcond] at hr
  have cp := i_putWide_ok (GG := GG) c.fSalt (hkey hcond.1)
  have hwl := wide_len c.fSalt
  have hind := ind_bytes (wide c.fSalt)
  have hind2 := ind_bytes (wide c.fSalt ++ t)
  have happ : bytesD (wide c.fSalt) ++ bytesD t = bytesD (wide c.fSalt ++ t) := by simp [bytesD]
  have cd := digest_ok (GG := GG) (wide c.fSalt ++ t) (by simp; omega)
  have hd := digN_range (wide c.fSalt ++ t)
  generalize digN (wide c.fSalt ++ t) = m at cd hd hr
  have cn := ItoaB_ok (GG := GG) m ⟨by omega, by omega⟩
  have hln := Lib.itoa_length_le m (by omega) (by omega)
  have hblen : (bytesD (wide c.fSalt)).length + t.length ≤ 1048600 := by simp; omega
  refine W_seq (?_)
  apply W_regS
  · intro K hK
    simp [maxStr, limit, happ]
    repeat' (first | with_reducible exact hK | (with_reducible refine callQ (cp) ?_; simp [maxStr, limit, happ]) | (with_reducible refine callQ (cd) ?_; simp [maxStr, limit, happ]) | (with_reducible refine callQ (cn) ?_; simp [maxStr, limit, happ]) | (with_reducible refine goL_split (fun _ => ?_) (fun _ => ?_) <;> simp [maxStr, limit, happ]) | with_reducible refine And.intro ?_ ?_ | with_reducible exact okay_rfl rfl | with_reducible assumption | omega)
  refine W_ret ?_
  simp [Fin, hr]
  all_goals omega

def sumV (a : Int) (x : GNote) : Int := digN (sumT a x.fSeq x.fAt x.fWho x.fWhat x.fPath x.fCode)

theorem chain_note {c : GChain} {i : Nat} {x : GNote} (h : chainOk c = true) (hx : c.fNotes[i]? = some x) : noteOk x = true := by
  simp only [chainOk, Bool.and_eq_true, List.all_eq_true, List.mem_range] at h
  exact link_note (h.2 i ((List.getElem?_eq_some_iff.1 hx).1)) hx

theorem s_SumOf_g (a : Int) (x : GNote) (ha : int64 a) (hx : x.ok) (h1 : x.fWhat.length ≤ 1048576) (h2 : x.fPath.length ≤ 1048576) : Valid PP GG F_S_SumOf [.d (.int .i64 a), .agg x.c] (.d (.int .i64 (sumV a x))) [none, none] :=
  s_SumOf_ok a x.fSeq x.fAt x.fWho x.fWhat x.fPath x.fCode x.fSum ha hx.1 hx.2.1 hx.2.2.1 hx.2.2.2.2.2.1 h1 h2

def headL (c : GChain) : Int := match c.fNotes.getLast? with | some x => x.fSum | none => c.fFirst

theorem ind_rNote (l : List GNote) : ∀ row, row ∈ rNote l → ∀ d, d ∈ row → IndD 0 d := by
  intro row hr d hd
  simp only [rNote, List.mem_map] at hr
  obtain ⟨x, _, rfl⟩ := hr
  simp only [GNote.row, List.mem_cons, List.not_mem_nil, or_false] at hd
  rcases hd with rfl | rfl | rfl | rfl | rfl | rfl | rfl <;> trivial

theorem rNote_snoc (l : List GNote) (x : GNote) : rNote (l ++ [x]) = rNote l ++ [x.row] := by simp [rNote]

theorem l15Copy_ok (r : GChain) (hc : r.cost ≤ 4194304) : Valid PP GG F_S_l15Copy [.agg r.c] (.agg r.o) [none] := by
  refine v_S_l15Copy [.agg r.o] rfl rfl ?_
  obtain ⟨f, k, l⟩ := r
  have hco : (GChain.mk f k l).cost = l.length + sumBy GNote.cost l := rfl
  refine W_seq (?_)
  apply W_regS
  · intro K hK
    simp
    repeat' (first | with_reducible exact hK | (with_reducible refine goL_split (fun _ => ?_) (fun _ => ?_) <;> simp) | with_reducible refine And.intro ?_ ?_ | with_reducible exact okay_rfl rfl | with_reducible assumption | omega)
  refine W_seq (?_)
  apply W_regS
  · intro K hK
    simp
    repeat' (first | with_reducible exact hK | (with_reducible refine goL_split (fun _ => ?_) (fun _ => ?_) <;> simp) | with_reducible refine And.intro ?_ ?_ | with_reducible exact okay_rfl rfl | with_reducible assumption | omega)
  refine W_seq (W_seq (?_))
  apply W_regS
  · intro K hK
    simp
    repeat' (first | with_reducible exact hK | (with_reducible refine goL_split (fun _ => ?_) (fun _ => ?_) <;> simp) | with_reducible refine And.intro ?_ ?_ | with_reducible exact okay_rfl rfl | with_reducible assumption | omega)
  refine W_block (W_loop (fun n st => ∃ (i : Nat) (w : List GNote), n = l.length - i ∧ i ≤ l.length ∧ w = l.take i ∧
    ((i = 0 ∧ st = ⟨[], [(1, .ptr 0 0), (2, .ptr 1 0), (3, .ptr 2 0), (4, .d (.int .i64 0))], [(0, .box [.d (.int .i64 f), .d (.int .i64 k), .d (.slc 7 (rNote l))]), (1, .box [.d (.int .i64 0), .d (.int .i64 0), .nil 0 7]), (2, .box [.d (.int .i64 f), .d (.int .i64 k), .nil 0 7])], 3⟩) ∨
     st = ⟨[], [(1, .ptr 0 0), (2, .ptr 1 0), (3, .ptr 2 0), (4, .d (.int .i64 i))], [(0, .box [.d (.int .i64 f), .d (.int .i64 k), .d (.slc 7 (rNote l))]), (1, .box [.d (.int .i64 0), .d (.int .i64 0), .nil 0 7]), (2, .box [.d (.int .i64 f), .d (.int .i64 k), .sl 3]), (3, .arr 0 0 7 (rNote w))], 4⟩)) _ ⟨0, [], rfl, by omega, rfl, .inl ⟨rfl, rfl⟩⟩ ?_)
  rintro n st ⟨i, w, rfl, hi, hw, ⟨rfl, rfl⟩ | rfl⟩
  · refine W_seq (W_seq (?_))
    apply W_regS
    · intro K hK
      simp
      repeat' (first | with_reducible exact hK | (with_reducible refine goL_split (fun _ => ?_) (fun _ => ?_) <;> simp) | with_reducible refine And.intro ?_ ?_ | with_reducible exact okay_rfl rfl | with_reducible assumption | omega)
    refine W_cond rfl (fun h => W_skip ?_) (fun h => W_exit ?_)
    · simp at h
      have ha := List.getElem?_eq_getElem h
      generalize l[0] = x at ha
      have hg := sumBy_get (f := GNote.cost) ha
      refine W_seq (W_block ?_)
      apply W_regD
      · intro K hK
        simp [ha, limit]
        repeat' (first | with_reducible exact hK | (with_reducible refine goL_split (fun _ => ?_) (fun _ => ?_) <;> simp [ha, limit]) | with_reducible refine And.intro ?_ ?_ | with_reducible exact okay_rfl rfl | with_reducible assumption | omega)
      apply W_regS
      · intro K hK
        simp
        repeat' (first | with_reducible exact hK | (with_reducible refine goL_split (fun _ => ?_) (fun _ => ?_) <;> simp) | with_reducible refine And.intro ?_ ?_ | with_reducible exact okay_rfl rfl | with_reducible assumption | omega)
      refine ⟨l.length - (0 + 1), by omega, 0 + 1, [x], rfl, h, by rw [List.take_add_one, ha]; rfl, .inr ?_⟩
      simp [gc, closeN, liveA, gcV, gcO, renA, renAs, renO, namesAs, namesA, namesO, posn, rNote]
      exact wrap_id (by omega) (by omega)
    · simp at h
      have hnil : l = [] := by first | exact h | exact List.length_eq_zero_iff.1 (by omega)
      rw [if_pos rfl]
      refine W_seq (?_)
      apply W_regS
      · intro K hK
        simp
        repeat' (first | with_reducible exact hK | (with_reducible refine goL_split (fun _ => ?_) (fun _ => ?_) <;> simp) | with_reducible refine And.intro ?_ ?_ | with_reducible exact okay_rfl rfl | with_reducible assumption | omega)
      refine W_ret ?_
      simp [Fin, hnil, rNote]
      all_goals omega
  · refine W_seq (W_seq (?_))
    apply W_regS
    · intro K hK
      simp
      repeat' (first | with_reducible exact hK | (with_reducible refine goL_split (fun _ => ?_) (fun _ => ?_) <;> simp) | with_reducible refine And.intro ?_ ?_ | with_reducible exact okay_rfl rfl | with_reducible assumption | omega)
    refine W_cond rfl (fun h => W_skip ?_) (fun h => W_exit ?_)
    · simp at h
      have ha := List.getElem?_eq_getElem h
      generalize l[i] = x at ha
      have hg := sumBy_get (f := GNote.cost) ha
      have hwl : w.length ≤ l.length := by rw [hw, List.length_take]; omega
      have hs : w ++ [x] = l.take (i + 1) := by rw [hw, List.take_add_one, ha]; rfl
      refine W_seq (W_block ?_)
      apply W_regD
      · intro K hK
        simp [ha, limit]
        repeat' (first | with_reducible exact hK | (with_reducible refine goL_split (fun _ => ?_) (fun _ => ?_) <;> simp [ha, limit]) | with_reducible refine And.intro ?_ ?_ | with_reducible exact okay_rfl rfl | with_reducible assumption | omega)
      apply W_regS
      · intro K hK
        simp
        repeat' (first | with_reducible exact hK | (with_reducible refine goL_split (fun _ => ?_) (fun _ => ?_) <;> simp) | with_reducible refine And.intro ?_ ?_ | with_reducible exact okay_rfl rfl | with_reducible assumption | omega)
      refine ⟨l.length - (i + 1), by omega, i + 1, w ++ [x], rfl, h, hs, .inr ?_⟩
      rw [rNote_snoc]
      simp [gc, closeN, liveA, gcV, gcO, renA, renAs, renO, namesAs, namesA, namesO, posn]
      exact wrap_id (by omega) (by omega)
    · simp at h
      rw [List.take_of_length_le h] at hw
      subst hw
      rw [if_pos rfl]
      refine W_seq (?_)
      apply W_regS
      · intro K hK
        simp
        repeat' (first | with_reducible exact hK | (with_reducible refine goL_split (fun _ => ?_) (fun _ => ?_) <;> simp) | with_reducible refine And.intro ?_ ?_ | with_reducible exact okay_rfl rfl | with_reducible assumption | omega)
      refine W_ret ?_
      simp [Fin]
      all_goals omega

def putSeq (n : GNote) (s : Int) : GNote := { n with fSeq := s }

def putSum (n : GNote) (s : Int) : GNote := { n with fSum := s }

/-- The note as it comes into the chain. -/
def newNote (c : GChain) (n : GNote) : GNote :=
  let m := putSeq n (match c.fNotes.getLast? with | some x => x.fSeq + 1 | none => 1)
  putSum m (sumV (headL c) m)

def grown (c : GChain) (x : GNote) : GChain :=
  if c.fNotes.length = 120 then { fFirst := (match c.fNotes with | z :: _ => z.fSum | [] => 0), fSalt := c.fSalt, fNotes := c.fNotes.drop 1 ++ [x] }
  else { fFirst := c.fFirst, fSalt := c.fSalt, fNotes := c.fNotes ++ [x] }

def addB (c : GChain) (n : GNote) : Bool := chainOk c && chainOk (grown c (newNote c n))

def addC (c : GChain) (n : GNote) : GChain := if addB c n = true then grown c (newNote c n) else c

theorem grown_cost (c : GChain) (x : GNote) : (grown c x).cost ≤ c.cost + 1 + x.cost := by
  have hsum : ∀ (a b : List GNote), sumBy GNote.cost (a ++ b) = sumBy GNote.cost a + sumBy GNote.cost b := fun a b => sumBy_append _ a b
  have hd : sumBy GNote.cost (c.fNotes.drop 1) ≤ sumBy GNote.cost c.fNotes := by
    cases c.fNotes with
    | nil => simp
    | cons z t => show sumBy GNote.cost t ≤ sumBy GNote.cost (z :: t); simp [sumBy]
  have h1 : sumBy GNote.cost [x] = x.cost := by simp [sumBy]
  unfold grown
  split
  · show (c.fNotes.drop 1 ++ [x]).length + sumBy GNote.cost (c.fNotes.drop 1 ++ [x]) ≤ c.fNotes.length + sumBy GNote.cost c.fNotes + 1 + x.cost
    rw [hsum, h1, List.length_append, List.length_drop]; simp only [List.length_cons, List.length_nil]; omega
  · show (c.fNotes ++ [x]).length + sumBy GNote.cost (c.fNotes ++ [x]) ≤ c.fNotes.length + sumBy GNote.cost c.fNotes + 1 + x.cost
    rw [hsum, h1, List.length_append]; simp; omega

theorem chain_len {c : GChain} (h : chainOk c = true) : c.fNotes.length ≤ 120 := by
  unfold chainOk at h; simp only [Bool.and_eq_true, decide_eq_true_eq] at h; omega

theorem s_AddNote_ok (c : GChain) (n : GNote) (hok : c.ok) (hon : n.ok) (hc : c.cost + n.cost ≤ 1048576) : Valid PP GG F_S_AddNote [.agg c.c, .agg n.c] (.tup [.agg (addC c n).o, .d (.bool (addB c n))]) [none, none] := by
  have cp := l15Copy_ok (GG := GG) c (by omega)
  have ch := s_HeadOf_ok (GG := GG) c (by omega)
  have cc := s_ChainOk_ok (GG := GG) c (by omega)
  have hhv : headV c = if chainOk c = true then headL c else -1 := rfl
  have hind := ind_rNote c.fNotes
  have hB : addB c n = (chainOk c && chainOk (grown c (newNote c n))) := rfl
  have hC : addC c n = if addB c n = true then grown c (newNote c n) else c := rfl
  have hna : chainOk c = true → ∀ (i : Nat) x, c.fNotes[i]? = some x → noteOk x = true := fun h i x hx => chain_note h hx
  have hlc : chainOk c = true → c.fNotes.length ≤ 120 := chain_len
  obtain ⟨f, k, l⟩ := c
  obtain ⟨q, a, w, t, p, cd, m⟩ := n
  have hco : (GChain.mk f k l).cost = l.length + sumBy GNote.cost l := rfl
  have hcn : (GNote.mk q a w t p cd m).cost = t.length + p.length := rfl
  obtain ⟨o1, o2, o3, o4⟩ := hok
  simp only at o1 o4 hna hind hlc
  have hhl : headL ⟨f, k, l⟩ = match l.getLast? with | some x => x.fSum | none => f := rfl
  have hsl : newNote ⟨f, k, l⟩ ⟨q, a, w, t, p, cd, m⟩ = ⟨(match l.getLast? with | some x => x.fSeq + 1 | none => 1), a, w, t, p, cd, sumV (headL ⟨f, k, l⟩) ⟨(match l.getLast? with | some x => x.fSeq + 1 | none => 1), a, w, t, p, cd, m⟩⟩ := rfl
  generalize addC ⟨f, k, l⟩ ⟨q, a, w, t, p, cd, m⟩ = rC at hC ⊢
  generalize addB ⟨f, k, l⟩ ⟨q, a, w, t, p, cd, m⟩ = rB at hB hC ⊢
  have hd64 : int64 (headL ⟨f, k, l⟩) := by
    rw [hhl]
    cases hl : l.getLast? with
    | none => exact o1
    | some x => exact (o4 x (List.mem_of_getLast? hl)).2.2.2.2.2.2
  generalize headL ⟨f, k, l⟩ = hd at hhv hsl hd64 hhl
  clear hhl
  refine v_S_AddNote [.agg rC.o, .d (.bool rB)] rfl rfl ?_
  cases hk : chainOk ⟨f, k, l⟩ with
  | false =>
    rw [hk] at cc hB
    rw [Bool.false_and] at hB
    subst hB
    rw [if_neg (by simp)] at hC
    subst hC
    repeat' (first | refine W_seq ?_ | refine W_skip ?_ | refine W_block ?_ | refine W_exit ?_ | refine pick_pos rfl ?_ | refine pick_neg rfl ?_ | ((first | refine W_regP fun K hK => ?_ | refine W_regPD fun K hK => ?_ | refine W_ret ?_ | with_reducible refine callQ (cp) ?_ | with_reducible refine callQ (cc) ?_); simp [Fin]) | (with_reducible refine hK _ ?_; clear hK K) | (with_reducible refine goL_split (fun h => ?_) (fun h => ?_) <;> first | (exfalso; simp at h; first | done | omega | contradiction) | ((try simp at h); simp)) | with_reducible refine And.intro ?_ ?_ | with_reducible exact okay_rfl rfl | with_reducible assumption | (refine W_cond rfl (fun h => ?_) (fun h => ?_) <;> first | (exfalso; simp at h; first | done | omega | contradiction) | (exfalso; simp_all; done) | (try simp at h)) | omega)
  | true =>
  rw [hk] at cc hB hhv
  rw [if_pos rfl] at hhv
  rw [hhv] at ch
  rw [Bool.true_and] at hB
  have hl120 := hlc hk
  obtain ⟨s, hs⟩ : ∃ s : Int, (match l.getLast? with | some x => x.fSeq + 1 | none => 1) = s := ⟨_, rfl⟩
  rw [hs] at hsl
  have hs64 : int64 s := by
    rw [← hs]
    cases hl : l.getLast? with
    | none => show int64 1; exact ⟨by omega, by omega⟩
    | some x =>
      show int64 (x.fSeq + 1)
      obtain ⟨j, hj⟩ := List.getElem?_of_mem (List.mem_of_getLast? hl)
      have hn := note_range (hna hk j x hj)
      exact ⟨by omega, by omega⟩
  have cs := s_SumOf_g (GG := GG) hd ⟨s, a, w, t, p, cd, m⟩ hd64 ⟨hs64, hon.2⟩ (by show t.length ≤ _; omega) (by show p.length ≤ _; omega)
  obtain ⟨v, hv⟩ : ∃ v, sumV hd ⟨s, a, w, t, p, cd, m⟩ = v := ⟨_, rfl⟩
  rw [hv] at cs hsl
  rw [hsl] at hB hC
  clear hv hsl
  have hgc := grown_cost ⟨f, k, l⟩ ⟨s, a, w, t, p, cd, v⟩
  have hcx : (GNote.mk s a w t p cd v).cost = t.length + p.length := rfl
  have cg0 := s_ChainOk_ok (GG := GG) (grown ⟨f, k, l⟩ ⟨s, a, w, t, p, cd, v⟩) (by omega)
  cases hl : l.getLast? with
  | none =>
    have hlen : l.length = 0 := by rw [List.getLast?_eq_none_iff.1 hl]; rfl
    have hnil : l = [] := List.getLast?_eq_none_iff.1 hl
    rw [hl] at hs
    simp only at hs
    subst hs
    have hg : grown ⟨f, k, l⟩ ⟨1, a, w, t, p, cd, v⟩ = ⟨f, k, l ++ [⟨1, a, w, t, p, cd, v⟩]⟩ := by unfold grown; rw [if_neg (show ¬ l.length = 120 by omega)]
    rw [hg] at hB hC cg0
    clear hgc hg
    generalize chainOk ⟨f, k, l ++ [⟨1, a, w, t, p, cd, v⟩]⟩ = b at hB cg0
    have hsn := rNote_snoc l ⟨1, a, w, t, p, cd, v⟩
    have cg : Valid PP GG F_S_ChainOk [.agg [.d (.int .i64 f), .d (.int .i64 k), .d (.slc 7 (rNote l ++ [(GNote.mk 1 a w t p cd v).row]))]] (.d (.bool b)) [none] := by rw [← hsn]; exact cg0
    simp only [GNote.row] at cg hsn
    repeat' (first | refine W_seq ?_ | refine W_skip ?_ | refine W_block ?_ | (refine W_exit ?_; first | refine pick_pos rfl ?_ | (refine pick_neg rfl ?_; first | refine pick_pos rfl ?_ | (refine pick_neg rfl ?_; refine pick_pos rfl ?_))) | (refine W_regP fun K hK => ?_; simp [limit]) | (refine W_regPD fun K hK => ?_; simp [limit]) | (with_reducible refine hK _ ?_; clear hK K) | (with_reducible refine callQ (cp) ?_; simp [limit]) | (with_reducible refine callQ (cc) ?_; simp [limit]) | (with_reducible refine callQ (ch) ?_; simp [limit]) | (with_reducible refine callQ (cs) ?_; simp [limit]) | (with_reducible refine callQ (cg) ?_; simp [limit]) | (with_reducible refine goL_split (fun h => ?_) (fun h => ?_) <;> first | (exfalso; simp at h; done) | (exfalso; simp at h; omega) | (exfalso; simp at h; contradiction) | ((try simp at h); simp [limit])) | with_reducible refine And.intro ?_ ?_ | with_reducible exact okay_rfl rfl | with_reducible assumption | (refine W_cond rfl (fun h => ?_) (fun h => ?_) <;> first | (exfalso; simp at h; done) | (exfalso; simp at h; omega) | (exfalso; simp at h; contradiction) | (exfalso; simp_all; done) | (try simp at h)) | (refine W_ret ?_; simp [Fin, limit]) | omega)
    all_goals simp_all
  | some x =>
    obtain ⟨j, hlen, hx⟩ : ∃ j, l.length = j + 1 ∧ l[j]? = some x := by
      rw [List.getLast?_eq_getElem?] at hl
      have := (List.getElem?_eq_some_iff.1 hl).1
      exact ⟨l.length - 1, by omega, hl⟩
    have hn := note_range (hna hk j x hx)
    rw [hl] at hs
    simp only at hs
    have hw : IntKind.i64.wrap ((l.length : Int) - 1) = (j : Int) := by rw [wrap_id (by omega) (by omega)]; omega
    have hw' : IntKind.i64.wrap ((j : Int) + 1 - 1) = (j : Int) := by rw [wrap_id (by omega) (by omega)]; omega
    have hw2 : IntKind.i64.wrap (x.fSeq + 1) = s := by rw [wrap_id (by omega) (by omega)]; exact hs
    clear hs
    by_cases h120 : l.length = 120
    · have hw3 : IntKind.i64.wrap 119 = (j : Int) := by rw [wrap_id (by omega) (by omega)]; omega
      obtain ⟨z, hz⟩ : ∃ z, l[0]? = some z := ⟨_, List.getElem?_eq_getElem (by omega)⟩
      have htk2 : ∀ r : List D, List.take 121 (rNote l ++ [r]) = rNote l ++ [r] := fun r => List.take_of_length_le (by simp; omega)
      have htk3 : ∀ r : List D, (rNote l ++ [r]).tail = (rNote l).tail ++ [r] := fun r => by
        cases l with
        | nil => simp at h120
        | cons y u => simp [rNote]
      have hr2 : ∀ h : 0 < (rNote l).length, (rNote l)[0]'h = z.row := fun h => by simp only [rNote, List.getElem_map]; rw [List.getElem?_eq_getElem (by omega)] at hz; rw [Option.some.inj hz]
      have hz2 : ∀ h : 0 < l.length, l[0]'h = z := fun h => by rw [List.getElem?_eq_getElem h] at hz; exact Option.some.inj hz
      have hg : grown ⟨f, k, l⟩ ⟨s, a, w, t, p, cd, v⟩ = ⟨z.fSum, k, l.drop 1 ++ [⟨s, a, w, t, p, cd, v⟩]⟩ := by
        unfold grown; rw [if_pos h120]; cases l with | nil => simp at h120 | cons y u => simp at hz; subst hz; rfl
      rw [hg] at hB hC cg0
      clear hg hgc
      generalize chainOk ⟨z.fSum, k, l.drop 1 ++ [⟨s, a, w, t, p, cd, v⟩]⟩ = b at hB cg0
      have hsn : rNote (l.drop 1 ++ [⟨s, a, w, t, p, cd, v⟩]) = (rNote l).drop 1 ++ [(GNote.mk s a w t p cd v).row] := by rw [rNote_snoc]; simp [rNote]
      have htk : List.take 120 (rNote l) = rNote l := List.take_of_length_le (by rw [rNote_len]; omega)
      have cg : Valid PP GG F_S_ChainOk [.agg [.d (.int .i64 z.fSum), .d (.int .i64 k), .d (.slc 7 ((rNote l).drop 1 ++ [(GNote.mk s a w t p cd v).row]))]] (.d (.bool b)) [none] := by rw [← hsn]; exact cg0
      simp only [GNote.row] at cg hsn
      simp at cg
      repeat' (first | refine W_seq ?_ | refine W_skip ?_ | refine W_block ?_ | (refine W_exit ?_; first | refine pick_pos rfl ?_ | (refine pick_neg rfl ?_; first | refine pick_pos rfl ?_ | (refine pick_neg rfl ?_; refine pick_pos rfl ?_))) | (refine W_regP fun K hK => ?_; simp [limit, hw3, hw2, hx, hz, hz2, hr2, h120, htk, htk2, htk3]) | (refine W_regPD fun K hK => ?_; simp [limit, hw3, hw2, hx, hz, hz2, hr2, h120, htk, htk2, htk3]) | (with_reducible refine hK _ ?_; clear hK K) | (with_reducible refine callQ (cp) ?_; simp [limit, hw3, hw2, hx, hz, hz2, hr2, h120, htk, htk2, htk3]) | (with_reducible refine callQ (cc) ?_; simp [limit, hw3, hw2, hx, hz, hz2, hr2, h120, htk, htk2, htk3]) | (with_reducible refine callQ (ch) ?_; simp [limit, hw3, hw2, hx, hz, hz2, hr2, h120, htk, htk2, htk3]) | (with_reducible refine callQ (cs) ?_; simp [limit, hw3, hw2, hx, hz, hz2, hr2, h120, htk, htk2, htk3]) | (with_reducible refine callQ (cg) ?_; simp [limit, hw3, hw2, hx, hz, hz2, hr2, h120, htk, htk2, htk3]) | (with_reducible refine goL_split (fun h => ?_) (fun h => ?_) <;> first | (exfalso; simp at h; done) | (exfalso; simp at h; omega) | (exfalso; simp at h; contradiction) | ((try simp at h); simp [limit, hw3, hw2, hx, hz, hz2, hr2, h120, htk, htk2, htk3])) | with_reducible refine And.intro ?_ ?_ | with_reducible exact okay_rfl rfl | with_reducible assumption | (refine W_cond rfl (fun h => ?_) (fun h => ?_) <;> first | (exfalso; simp at h; done) | (exfalso; simp at h; omega) | (exfalso; simp at h; contradiction) | (exfalso; simp_all; done) | (try simp at h)) | (refine W_ret ?_; simp [Fin, limit, hw3, hw2, hx, hz, hz2, hr2, h120, htk, htk2, htk3]) | omega)
      all_goals simp_all
    · have hg : grown ⟨f, k, l⟩ ⟨s, a, w, t, p, cd, v⟩ = ⟨f, k, l ++ [⟨s, a, w, t, p, cd, v⟩]⟩ := by unfold grown; rw [if_neg h120]
      rw [hg] at hB hC cg0
      clear hg hgc
      generalize chainOk ⟨f, k, l ++ [⟨s, a, w, t, p, cd, v⟩]⟩ = b at hB cg0
      have hsn := rNote_snoc l ⟨s, a, w, t, p, cd, v⟩
      have cg : Valid PP GG F_S_ChainOk [.agg [.d (.int .i64 f), .d (.int .i64 k), .d (.slc 7 (rNote l ++ [(GNote.mk s a w t p cd v).row]))]] (.d (.bool b)) [none] := by rw [← hsn]; exact cg0
      simp only [GNote.row] at cg hsn
      repeat' (first | refine W_seq ?_ | refine W_skip ?_ | refine W_block ?_ | (refine W_exit ?_; first | refine pick_pos rfl ?_ | (refine pick_neg rfl ?_; first | refine pick_pos rfl ?_ | (refine pick_neg rfl ?_; refine pick_pos rfl ?_))) | (refine W_regP fun K hK => ?_; simp [limit, hw, hw', hw2, hx, h120]) | (refine W_regPD fun K hK => ?_; simp [limit, hw, hw', hw2, hx, h120]) | (with_reducible refine hK _ ?_; clear hK K) | (with_reducible refine callQ (cp) ?_; simp [limit, hw, hw', hw2, hx, h120]) | (with_reducible refine callQ (cc) ?_; simp [limit, hw, hw', hw2, hx, h120]) | (with_reducible refine callQ (ch) ?_; simp [limit, hw, hw', hw2, hx, h120]) | (with_reducible refine callQ (cs) ?_; simp [limit, hw, hw', hw2, hx, h120]) | (with_reducible refine callQ (cg) ?_; simp [limit, hw, hw', hw2, hx, h120]) | (with_reducible refine goL_split (fun h => ?_) (fun h => ?_) <;> first | (exfalso; simp at h; done) | (exfalso; simp at h; omega) | (exfalso; simp at h; contradiction) | ((try simp at h); simp [limit, hw, hw', hw2, hx, h120])) | with_reducible refine And.intro ?_ ?_ | with_reducible exact okay_rfl rfl | with_reducible assumption | (refine W_cond rfl (fun h => ?_) (fun h => ?_) <;> first | (exfalso; simp at h; done) | (exfalso; simp at h; omega) | (exfalso; simp at h; contradiction) | (exfalso; simp_all; done) | (try simp at h)) | (refine W_ret ?_; simp [Fin, limit, hw, hw', hw2, hx, h120]) | omega)
      all_goals simp_all

theorem addC_cost (c : GChain) (n : GNote) : (addC c n).cost ≤ c.cost + 1 + n.cost := by
  unfold addC
  split
  · exact grown_cost c _
  · omega

def zReq : GReq := ⟨0, 0, [], [], [], 0⟩

def S0 (ws : List (List UInt8)) : St := ⟨[], [(2, .ptr 0 0), (4, .ptr 1 0), (5, .sl 2)], [(0, .box (zReq.row.map A.d)), (1, .box (zReq.row.map A.d)), (2, .arr 0 0 1 (strsD ws))], 3⟩

@[simp] theorem binA_strgeq (s t : List UInt8) : binA .str .geq (.d (.str s)) (.d (.str t)) = out (.d (.bool (!(Go.Op.bytesLess s t)))) := id rfl

@[simp] theorem binA_strlss (s t : List UInt8) : binA .str .lss (.d (.str s)) (.d (.str t)) = out (.d (.bool (Go.Op.bytesLess s t))) := id rfl

@[simp] theorem binA_strleq (s t : List UInt8) : binA .str .leq (.d (.str s)) (.d (.str t)) = out (.d (.bool (Go.Op.bytesLess s t || s == t))) := id rfl

@[simp] theorem binA_strgtr (s t : List UInt8) : binA .str .gtr (.d (.str s)) (.d (.str t)) = out (.d (.bool (!(Go.Op.bytesLess s t || s == t)))) := id rfl

theorem strs_get (l : List (List UInt8)) (i : Nat) : (strsD l)[i]? = (l[i]?).map fun s => [.str s] := by simp [strsD]

theorem ints_get (l : List Int) (i : Nat) : (intsD l)[i]? = (l[i]?).map fun s => [.int .i64 s] := by simp [intsD]

theorem ints_len (l : List Int) : (intsD l).length = l.length := by simp [intsD]

theorem chain_link {c : GChain} (h : chainOk c = true) {i : Nat} (hi : i < c.fNotes.length) : linkAt c.fNotes i = true := by
  unfold chainOk at h
  simp only [Bool.and_eq_true, List.all_eq_true, List.mem_range] at h
  exact h.2 i hi

theorem chain_seq {c : GChain} (h : chainOk c = true) {x0 : GNote} (h0 : c.fNotes[0]? = some x0) : ∀ (i : Nat) (x : GNote), c.fNotes[i]? = some x → x.fSeq = x0.fSeq + (i : Int) := by
  intro i
  induction i with
  | zero => intro x hx; rw [h0] at hx; cases hx; simp
  | succ i ih =>
    intro x hx
    have hlt := (List.getElem?_eq_some_iff.1 hx).1
    have hy := List.getElem?_eq_getElem (l := c.fNotes) (i := i) (by omega)
    have e := ih _ hy
    have hl := chain_link h hlt
    unfold linkAt at hl
    rw [hx] at hl
    simp only [Nat.add_sub_cancel, hy] at hl
    simp [linkB] at hl
    omega

theorem notesBy_mem {who : Int} {l : List GNote} {s : Int} (h : s ∈ notesBy who l) : ∃ (i : Nat) (x : GNote), l[i]? = some x ∧ x.fWho = who ∧ x.fSeq = s := by
  induction l with
  | nil => simp [notesBy] at h
  | cons a t ih =>
    unfold notesBy at h
    by_cases ha : a.fWho = who
    · rw [if_pos ha] at h
      rcases List.mem_cons.1 h with h | h
      · exact ⟨0, a, rfl, ha, h.symm⟩
      · obtain ⟨i, x, h1, h2⟩ := ih h
        exact ⟨i + 1, x, h1, h2⟩
    · rw [if_neg ha] at h
      obtain ⟨i, x, h1, h2⟩ := ih h
      exact ⟨i + 1, x, h1, h2⟩

def cntW (l : List GNote) : Nat → Nat
  | 0 => 0
  | w + 1 => cntW l w + (notesBy (w : Int) l).length

def cntB (l : List GNote) (k : Int) : Nat := (l.filter fun x => decide (x.fWho < k)).length

theorem cntB_snoc (l : List GNote) (x : GNote) (k : Int) : cntB (l ++ [x]) k = cntB l k + (if x.fWho < k then 1 else 0) := by
  unfold cntB
  rw [List.filter_append, List.length_append, List.filter_cons]
  by_cases h : x.fWho < k
  · simp [h]
  · simp [h]

theorem cnt_eq (l : List GNote) (hp : ∀ x, x ∈ l → 0 ≤ x.fWho) : ∀ k : Nat, cntW l k = cntB l (k : Int) := by
  induction l with
  | nil =>
    intro k
    induction k with
    | zero => rfl
    | succ k ih => unfold cntW; rw [ih]; rfl
  | cons a t ih =>
    have ih := ih fun x hx => hp x (by simp [hx])
    have ha := hp a (by simp)
    have step : ∀ k : Nat, cntW (a :: t) k = cntW t k + (if a.fWho < (k : Int) then 1 else 0) := by
      intro k
      induction k with
      | zero => rw [if_neg (by omega)]; rfl
      | succ k ihk =>
        rw [show cntW (a :: t) (k + 1) = cntW (a :: t) k + (notesBy (k : Int) (a :: t)).length from rfl, show cntW t (k + 1) = cntW t k + (notesBy (k : Int) t).length from rfl, ihk]
        rw [show notesBy (k : Int) (a :: t) = if a.fWho = (k : Int) then a.fSeq :: notesBy (k : Int) t else notesBy (k : Int) t from rfl]
        by_cases h1 : a.fWho = (k : Int)
        · rw [if_pos h1, if_neg (by omega), if_pos (by omega), List.length_cons]; omega
        · rw [if_neg h1]
          by_cases h2 : a.fWho < (k : Int)
          · rw [if_pos h2, if_pos (by omega)]; omega
          · rw [if_neg h2, if_neg (by omega)]; omega
    intro k
    rw [step, ih]
    unfold cntB
    rw [List.filter_cons]
    by_cases h : a.fWho < (k : Int)
    · simp [h]
    · simp [h]

theorem chain_who {c : GChain} (h : chainOk c = true) : ∀ x, x ∈ c.fNotes → 0 ≤ x.fWho := by
  intro x hx
  obtain ⟨i, hi⟩ := List.getElem?_of_mem hx
  have := chain_note h hi
  unfold noteOk inB at this
  simp only [Bool.and_eq_true, decide_eq_true_eq] at this
  exact this.1.1.1.2.1

structure Cur where
  b : List UInt8
  i : Int
  h : Int

@[simp] abbrev Cur.o (c : Cur) : List C := [.d (.slc 1 (bytesD c.b)), .d (.int .i64 c.i), .d (.int .i64 c.h)]

def Cur.good (c : Cur) : Prop := 0 ≤ c.i ∧ c.i ≤ c.b.length ∧ c.b.length ≤ 1048577

def and64 (a b : Int) : Int := IntKind.i64.wrap ((BitVec.ofInt 64 a &&& BitVec.ofInt 64 b).toNat)

def xor64 (a b : Int) : Int := IntKind.i64.wrap ((BitVec.ofInt 64 a ^^^ BitVec.ofInt 64 b).toNat)

theorem and64_ev (a b : Int) : intBin .and .i64 a b = some (.int .i64 (and64 a b)) := rfl

theorem xor64_ev (a b : Int) : intBin .xor .i64 a b = some (.int .i64 (xor64 a b)) := rfl

theorem and64_255 (a : Int) : 0 ≤ and64 a 255 ∧ and64 a 255 ≤ 255 := by
  unfold and64
  have h : (BitVec.ofInt 64 a &&& BitVec.ofInt 64 255).toNat ≤ 255 := by
    rw [BitVec.toNat_and]
    exact Nat.and_le_right
  rw [show IntKind.i64.wrap ((BitVec.ofInt 64 a &&& BitVec.ofInt 64 255).toNat : Int) = ((BitVec.ofInt 64 a &&& BitVec.ofInt 64 255).toNat : Int) from wrap_id (by omega) (by omega)]
  omega

def curH (h : Int) : Int := IntKind.i64.wrap (IntKind.i64.wrap (h * 6364136223846793005) + 1442695040888963407)

def byteX (h : Int) : Int := and64 (xor64 (h.fdiv 8589934592) (h.fdiv 35184372088832)) 255

def nthB (l : List UInt8) (i : Int) : Int := ((l.getD i.toNat 0).toNat : Nat)

def lByte (c : Cur) : Int × Cur :=
  if c.i < (c.b.length : Nat) then (and64 (byteX (curH c.h) + nthB c.b c.i) 255, ⟨c.b, c.i + 1, curH c.h⟩) else (byteX (curH c.h), ⟨c.b, c.i, curH c.h⟩)

theorem lByte_rng (c : Cur) : 0 ≤ (lByte c).1 ∧ (lByte c).1 ≤ 255 := by
  unfold lByte
  split
  · exact and64_255 _
  · exact and64_255 _

theorem lByte_good {c : Cur} (h : c.good) : (lByte c).2.good := by
  unfold lByte
  split <;> (unfold Cur.good at *; dsimp only at *; omega)

def lBelow (c : Cur) (n : Int) : Int × Cur :=
  if n ≤ 0 then (0, c) else if n ≤ 256 then ((lByte c).1.tmod n, (lByte c).2) else
    (((lByte c).1 * 65536 + (lByte (lByte c).2).1 * 256 + (lByte (lByte (lByte c).2).2).1).tmod n, (lByte (lByte (lByte c).2).2).2)

theorem lBelow_rng (c : Cur) {n : Int} (h : 0 < n) : 0 ≤ (lBelow c n).1 ∧ (lBelow c n).1 < n := by
  have h1 := lByte_rng c
  have h2 := lByte_rng (lByte c).2
  have h3 := lByte_rng (lByte (lByte c).2).2
  unfold lBelow
  rw [if_neg (by omega)]
  split
  · exact ⟨Int.tmod_nonneg _ h1.1, Int.tmod_lt_of_pos _ h⟩
  · exact ⟨Int.tmod_nonneg _ (by omega), Int.tmod_lt_of_pos _ h⟩

theorem lBelow_rng0 (c : Cur) (n : Int) : 0 ≤ (lBelow c n).1 ∧ (lBelow c n).1 ≤ (if n ≤ 0 then 0 else n - 1) := by
  by_cases h : n ≤ 0
  · unfold lBelow; rw [if_pos h, if_pos h]; exact ⟨Int.le_refl _, Int.le_refl _⟩
  · have := lBelow_rng c (n := n) (by omega); rw [if_neg h]; omega

theorem lBelow_good {c : Cur} (h : c.good) (n : Int) : (lBelow c n).2.good := by
  unfold lBelow
  split
  · exact h
  · split
    · exact lByte_good h
    · exact lByte_good (lByte_good (lByte_good h))

def lOnce (c : Cur) (n : Int) : Bool × Cur := (decide ((lBelow c n).1 = 0), (lBelow c n).2)

theorem lOnce_good {c : Cur} (h : c.good) (n : Int) : (lOnce c n).2.good := lBelow_good h n

def lPick {α : Type} (c : Cur) (z : α) (l : List α) : α × Cur := (l.getD (lBelow c l.length).1.toNat z, (lBelow c l.length).2)

theorem lPick_good {α : Type} {c : Cur} (h : c.good) (z : α) (l : List α) : (lPick c z l).2.good := lBelow_good h _

theorem lPick_get {α : Type} (c : Cur) (z : α) {l : List α} (h : l ≠ []) : ∃ k : Nat, (lBelow c l.length).1 = (k : Int) ∧ l[k]? = some (lPick c z l).1 := by
  have hl : 0 < l.length := List.length_pos_iff.2 h
  obtain ⟨h1, h2⟩ := lBelow_rng c (n := (l.length : Int)) (by omega)
  refine ⟨(lBelow c l.length).1.toNat, by omega, ?_⟩
  unfold lPick
  rw [List.getD_eq_getElem?_getD, List.getElem?_eq_getElem (by omega)]
  rfl

theorem lPick_mem {α : Type} (c : Cur) (z : α) {l : List α} (h : l ≠ []) : (lPick c z l).1 ∈ l := by
  obtain ⟨k, _, hk⟩ := lPick_get c z h
  exact List.mem_of_getElem? hk

def seg1 : List (List UInt8) := [[], [65], [97, 47, 98], [97, 98, 99, 100, 101, 102, 103, 104, 105, 106, 107, 108, 109, 110, 111, 112], [97, 98, 99, 100, 101, 102, 103, 104, 105, 106, 107, 108, 109, 110, 111, 112, 113], [45], [97, 32, 98], [43, 97], [42, 42]]

def seg2 : List (List UInt8) := [[97], [98], [99], [107, 118], [100, 98], [120, 45, 49], [57]]

def lSeg (c : Cur) : List UInt8 × Cur := if (lOnce c 25).1 = true then lPick (lOnce c 25).2 [] seg1 else lPick (lOnce c 25).2 [] seg2

theorem lSeg_good {c : Cur} (h : c.good) : (lSeg c).2.good := by
  unfold lSeg
  split
  · exact lPick_good (lOnce_good h _) _ _
  · exact lPick_good (lOnce_good h _) _ _

theorem lSeg_len (c : Cur) : (lSeg c).1.length ≤ 17 := by
  unfold lSeg
  have ha : ∀ x, x ∈ seg1 → x.length ≤ 17 := by decide
  have hb : ∀ x, x ∈ seg2 → x.length ≤ 17 := by decide
  split
  · exact ha _ (lPick_mem _ _ (by decide))
  · exact hb _ (lPick_mem _ _ (by decide))

def lPathL (s : List UInt8 × Cur) : Nat → List UInt8 × Cur
  | 0 => s
  | n + 1 => ((lPathL s n).1 ++ [47] ++ (lSeg (lPathL s n).2).1, (lSeg (lPathL s n).2).2)

theorem lPathL_good {s : List UInt8 × Cur} (h : s.2.good) (n : Nat) : (lPathL s n).2.good := by
  induction n with
  | zero => exact h
  | succ n ih => exact lSeg_good ih

theorem lPathL_len (s : List UInt8 × Cur) (n : Nat) : (lPathL s n).1.length ≤ s.1.length + 18 * n := by
  induction n with
  | zero => exact Nat.le_refl _
  | succ n ih =>
    have := lSeg_len (lPathL s n).2
    show ((lPathL s n).1 ++ [47] ++ (lSeg (lPathL s n).2).1).length ≤ _
    simp only [List.length_append, List.length_cons, List.length_nil]
    omega

def lPathN (c : Cur) : Int × Cur :=
  if (lOnce (lBelow c 4).2 20).1 = true then (7 + (lBelow (lOnce (lBelow c 4).2 20).2 2).1, (lBelow (lOnce (lBelow c 4).2 20).2 2).2) else ((lBelow c 4).1, (lOnce (lBelow c 4).2 20).2)

def lPath (c : Cur) : List UInt8 × Cur := lPathL ((lSeg c).1, (lPathN (lSeg c).2).2) (lPathN (lSeg c).2).1.toNat

theorem lPathN_rng (c : Cur) : 0 ≤ (lPathN c).1 ∧ (lPathN c).1 ≤ 8 := by
  have h1 := lBelow_rng c (n := 4) (by omega)
  have h2 := lBelow_rng (lOnce (lBelow c 4).2 20).2 (n := 2) (by omega)
  unfold lPathN
  split
  · dsimp only; omega
  · dsimp only; omega

theorem lPathN_good {c : Cur} (h : c.good) : (lPathN c).2.good := by
  unfold lPathN
  split
  · exact lBelow_good (lOnce_good (lBelow_good h _) _) _
  · exact lOnce_good (lBelow_good h _) _

theorem lPath_good {c : Cur} (h : c.good) : (lPath c).2.good := lPathL_good (lPathN_good (lSeg_good h)) _

theorem lPath_len (c : Cur) : (lPath c).1.length ≤ 200 := by
  have h1 := lSeg_len c
  have h2 := lPathN_rng (lSeg c).2
  have h3 := lPathL_len ((lSeg c).1, (lPathN (lSeg c).2).2) (lPathN (lSeg c).2).1.toNat
  unfold lPath
  dsimp only at h3
  omega

def lByteL (c : Cur) : Nat → List UInt8 × Cur
  | 0 => ([], c)
  | n + 1 =>
    let s := lByteL c n
    let x := lBelow s.2 256
    let y := lBelow x.2 256
    let p := lPick y.2 0 [0, 1, 255, 128, x.1, y.1]
    (s.1 ++ [UInt8.ofNat p.1.toNat], p.2)

theorem lByteL_good {c : Cur} (h : c.good) (n : Nat) : (lByteL c n).2.good := by
  induction n with
  | zero => exact h
  | succ n ih => exact lPick_good (α := Int) (lBelow_good (lBelow_good ih 256) 256) 0 _

theorem lByteL_len (c : Cur) (n : Nat) : (lByteL c n).1.length = n := by
  induction n with
  | zero => rfl
  | succ n ih =>
    show ((lByteL c n).1 ++ [_]).length = _
    rw [List.length_append, ih]; rfl

theorem lByte_pick (c : Cur) (x y : Int) (hx : 0 ≤ x ∧ x ≤ 255) (hy : 0 ≤ y ∧ y ≤ 255) : 0 ≤ (lPick c 0 [0, 1, 255, 128, x, y]).1 ∧ (lPick c 0 [0, 1, 255, 128, x, y]).1 ≤ 255 := by
  have h := lPick_mem c 0 (l := [0, 1, 255, 128, x, y]) (by simp)
  generalize (lPick c 0 [0, 1, 255, 128, x, y]).1 = z at *
  simp only [List.mem_cons, List.not_mem_nil, or_false] at h
  omega

def lGood (c : Cur) : Int × Cur := ((lBelow c 16777216).1 * 65536 + (lBelow (lBelow c 16777216).2 65536).1, (lBelow (lBelow c 16777216).2 65536).2)

theorem lGood_good {c : Cur} (h : c.good) : (lGood c).2.good := lBelow_good (lBelow_good h _) _

theorem lGood_rng (c : Cur) : 0 ≤ (lGood c).1 ∧ (lGood c).1 < 1099511627776 := by
  have h1 := lBelow_rng c (n := 16777216) (by omega)
  have h2 := lBelow_rng (lBelow c 16777216).2 (n := 65536) (by omega)
  unfold lGood
  dsimp only
  omega

def lSize (n : Nat) (most : Int) : Int := if most < 2 + ((n / 16 : Nat) : Int) then most else 2 + ((n / 16 : Nat) : Int)

def wha1 : List (List UInt8) := [[114, 101, 97, 100], [119, 114, 105, 116, 101], [108, 111, 103, 105, 110], [120, 49]]

def wha2 : List (List UInt8) := [[], [82, 101, 97, 100], [97, 98, 99, 100, 101, 102, 103, 104, 105, 106, 107, 108, 109]]

def pat1 : List (List UInt8) := [[97], [107, 118, 47, 98], [100, 98, 47, 120, 45, 49]]

/-- The five first draws of a note. -/
def lNoteA (c : Cur) (at_ : Int) : GNote × Cur :=
  let w := lBelow c 9
  let t := lPick w.2 [] wha1
  let p := lPick t.2 [] pat1
  let k := lBelow p.2 8
  ({ fSeq := 0, fAt := at_, fWho := w.1, fWhat := t.1, fPath := p.1, fCode := k.1, fSum := 0 }, k.2)

def lNoteB (n : GNote) (c : Cur) : GNote × Cur :=
  let s := lBelow c 5
  if s.1 = 0 then let q := lPick s.2 0 [-1, 1000000000, 1000000001, 0]; ({ n with fAt := q.1 }, q.2)
  else if s.1 = 1 then let q := lPick s.2 0 [-1, 1000000000, 1000000001]; ({ n with fWho := q.1 }, q.2)
  else if s.1 = 2 then let q := lPick s.2 [] wha2; ({ n with fWhat := q.1 }, q.2)
  else if s.1 = 3 then let q := lPath s.2; ({ n with fPath := q.1 }, q.2)
  else if s.1 = 4 then let q := lPick s.2 0 [-1, 99, 100]; ({ n with fCode := q.1 }, q.2)
  else (n, s.2)

def lNote (c : Cur) (at_ : Int) : GNote × Cur :=
  let a := lNoteA c at_
  let o := lOnce a.2 25
  if o.1 = true then lNoteB a.1 o.2 else (a.1, o.2)

def smallN (n : GNote) : Prop := n.fWhat.length ≤ 20 ∧ n.fPath.length ≤ 200 ∧ n.fSeq = 0 ∧ n.fSum = 0 ∧ (-1 ≤ n.fWho ∧ n.fWho ≤ 1000000001) ∧ (-1 ≤ n.fCode ∧ n.fCode ≤ 100)

theorem lNoteA_small (c : Cur) (a : Int) : smallN (lNoteA c a).1 ∧ (lNoteA c a).1.fAt = a := by
  have h1 := lBelow_rng c (n := 9) (by omega)
  have ha : ∀ x, x ∈ wha1 → x.length ≤ 20 := by decide
  have hb : ∀ x, x ∈ pat1 → x.length ≤ 200 := by decide
  have h2 := ha _ (lPick_mem (lBelow c 9).2 [] (l := wha1) (by decide))
  have h3 := hb _ (lPick_mem (lPick (lBelow c 9).2 [] wha1).2 [] (l := pat1) (by decide))
  have h4 := lBelow_rng (lPick (lPick (lBelow c 9).2 [] wha1).2 [] pat1).2 (n := 8) (by omega)
  refine ⟨⟨h2, h3, rfl, rfl, ?_, ?_⟩, rfl⟩
  · show -1 ≤ (lBelow c 9).1 ∧ (lBelow c 9).1 ≤ _; omega
  · show -1 ≤ (lBelow (lPick (lPick (lBelow c 9).2 [] wha1).2 [] pat1).2 8).1 ∧ (lBelow (lPick (lPick (lBelow c 9).2 [] wha1).2 [] pat1).2 8).1 ≤ 100; omega

theorem lNoteA_good {c : Cur} (h : c.good) (a : Int) : (lNoteA c a).2.good := lBelow_good (lPick_good (lPick_good (lBelow_good h _) _ _) _ _) _

theorem lNoteB_small {n : GNote} (h : smallN n) (c : Cur) : smallN (lNoteB n c).1 ∧ ((lNoteB n c).1.fAt = n.fAt ∨ (-1 ≤ (lNoteB n c).1.fAt ∧ (lNoteB n c).1.fAt ≤ 1000000001)) := by
  have hb : ∀ x, x ∈ wha2 → x.length ≤ 20 := by decide
  have hA : ∀ x : Int, x ∈ [-1, 1000000000, 1000000001, 0] → -1 ≤ x ∧ x ≤ 1000000001 := by decide
  have hW : ∀ x : Int, x ∈ [-1, 1000000000, 1000000001] → -1 ≤ x ∧ x ≤ 1000000001 := by decide
  have hC : ∀ x : Int, x ∈ [-1, 99, 100] → -1 ≤ x ∧ x ≤ 100 := by decide
  obtain ⟨h1, h2, h3, h4, h5, h6⟩ := h
  unfold lNoteB
  dsimp only
  split
  · exact ⟨⟨h1, h2, h3, h4, h5, h6⟩, .inr (hA _ (lPick_mem _ _ (by simp)))⟩
  split
  · exact ⟨⟨h1, h2, h3, h4, hW _ (lPick_mem _ _ (by simp)), h6⟩, .inl rfl⟩
  split
  · exact ⟨⟨hb _ (lPick_mem _ _ (by decide)), h2, h3, h4, h5, h6⟩, .inl rfl⟩
  split
  · exact ⟨⟨h1, lPath_len _, h3, h4, h5, h6⟩, .inl rfl⟩
  split
  · exact ⟨⟨h1, h2, h3, h4, h5, hC _ (lPick_mem _ _ (by simp))⟩, .inl rfl⟩
  · exact ⟨⟨h1, h2, h3, h4, h5, h6⟩, .inl rfl⟩

theorem lNoteB_good {c : Cur} (h : c.good) (n : GNote) : (lNoteB n c).2.good := by
  have hs := lBelow_good h 5
  unfold lNoteB
  dsimp only
  split
  · exact lPick_good hs (0 : Int) _
  split
  · exact lPick_good hs (0 : Int) _
  split
  · exact lPick_good hs ([] : List UInt8) _
  split
  · exact lPath_good hs
  split
  · exact lPick_good hs (0 : Int) _
  · exact hs

theorem lNote_small (c : Cur) (a : Int) : smallN (lNote c a).1 ∧ ((lNote c a).1.fAt = a ∨ (-1 ≤ (lNote c a).1.fAt ∧ (lNote c a).1.fAt ≤ 1000000001)) := by
  obtain ⟨h1, h2⟩ := lNoteA_small c a
  unfold lNote
  dsimp only
  split
  · have := lNoteB_small h1 (lOnce (lNoteA c a).2 25).2
    rw [h2] at this
    exact this
  · exact ⟨h1, .inl h2⟩

theorem lNote_good {c : Cur} (h : c.good) (a : Int) : (lNote c a).2.good := by
  unfold lNote
  dsimp only
  split
  · exact lNoteB_good (lOnce_good (lNoteA_good h a) _) _
  · exact lOnce_good (lNoteA_good h a) _

structure DrS where
  ch : GChain
  at_ : Int
  cu : Cur

def chStep (s : DrS) : DrS :=
  ⟨addC s.ch (lNote (lBelow s.cu 3).2 (s.at_ + (lBelow s.cu 3).1)).1, s.at_ + (lBelow s.cu 3).1, (lNote (lBelow s.cu 3).2 (s.at_ + (lBelow s.cu 3).1)).2⟩

def chRun (s : DrS) : Nat → DrS
  | 0 => s
  | n + 1 => chStep (chRun s n)

def lCh0 (c : Cur) : DrS :=
  let b := lBelow c 16777216
  let f := lPick b.2 0 [0, 0, 7, b.1]
  let g := lGood f.2
  ⟨{ fFirst := f.1, fSalt := g.1, fNotes := [] }, 0, g.2⟩

structure DrOk (s : DrS) (i : Nat) : Prop where
  good : s.cu.good
  at_ : 0 ≤ s.at_ ∧ s.at_ ≤ 2 * (i : Int)
  ok : s.ch.ok
  cost : s.ch.cost ≤ 230 * i

theorem small_ok {n : GNote} (h : smallN n) {a : Int} (ha : n.fAt = a ∨ (-1 ≤ n.fAt ∧ n.fAt ≤ 1000000001)) (hb : 0 ≤ a ∧ a ≤ 1000) : n.ok ∧ n.cost ≤ 220 := by
  obtain ⟨h1, h2, h3, h4, h5, h6⟩ := h
  have hm : maxLen = 9223372036854775807 := rfl
  refine ⟨?_, by unfold GNote.cost; omega⟩
  unfold GNote.ok int64
  rw [h3, h4]
  omega

theorem sumV_int (a : Int) (x : GNote) : int64 (sumV a x) := by
  have := digN_range (sumT a x.fSeq x.fAt x.fWho x.fWhat x.fPath x.fCode)
  unfold int64 sumV
  omega

theorem addC_ok {c : GChain} {n : GNote} (hc : c.ok) (hn : n.ok) (hcc : c.cost ≤ 1048576) (hnc : n.cost ≤ 1048576) : (addC c n).ok := by
  unfold addC
  split
  · rename_i hb
    unfold addB at hb
    rw [Bool.and_eq_true] at hb
    have hseq := chain_note hb.2 (i := (grown c (newNote c n)).fNotes.length - 1) (x := newNote c n) (by
      unfold grown
      split
      · simp
      · simp)
    have hr := note_range hseq
    obtain ⟨h1, h2, h3, h4⟩ := hc
    obtain ⟨n1, n2, n3, n4, n5, n6, n7⟩ := hn
    have hm : maxLen = 9223372036854775807 := rfl
    have hnew : (newNote c n).ok := ⟨by unfold int64; omega, n2, n3, n4, n5, n6, sumV_int _ _⟩
    have hlen := chain_len hb.1
    unfold grown
    split
    · refine ⟨?_, h2, ?_, ?_⟩
      · dsimp only
        cases hl : c.fNotes with
        | nil => show int64 0; unfold int64; omega
        | cons z t => exact (h4 z (by rw [hl]; simp)).2.2.2.2.2.2
      · simp; omega
      · intro y hy
        rcases List.mem_append.1 hy with hy | hy
        · exact h4 y (List.mem_of_mem_drop hy)
        · simp at hy; subst hy; exact hnew
    · refine ⟨h1, h2, ?_, ?_⟩
      · simp; omega
      · intro y hy
        rcases List.mem_append.1 hy with hy | hy
        · exact h4 y hy
        · simp at hy; subst hy; exact hnew
  · exact hc

theorem lCh0_ok {c : Cur} (h : c.good) : DrOk (lCh0 c) 0 := by
  have hb := lBelow_rng c (n := 16777216) (by omega)
  have hp := lPick_mem (lBelow c 16777216).2 0 (l := [0, 0, 7, (lBelow c 16777216).1]) (by simp)
  have hg := lGood_rng (lPick (lBelow c 16777216).2 0 [0, 0, 7, (lBelow c 16777216).1]).2
  refine ⟨lGood_good (lPick_good (lBelow_good h _) (0 : Int) _), ⟨Int.le_refl _, by simp [lCh0]⟩, ⟨?_, ?_, ?_, ?_⟩, ?_⟩
  · show int64 (lPick (lBelow c 16777216).2 0 [0, 0, 7, (lBelow c 16777216).1]).1
    simp only [List.mem_cons, List.not_mem_nil, or_false] at hp
    unfold int64; omega
  · show int64 (lGood (lPick (lBelow c 16777216).2 0 [0, 0, 7, (lBelow c 16777216).1]).2).1
    unfold int64; omega
  · simp [lCh0]
  · intro y hy; simp [lCh0] at hy
  · simp [lCh0, GChain.cost, sumBy]

theorem chStep_ok {s : DrS} {i : Nat} (h : DrOk s i) (hi : i < 122) : DrOk (chStep s) (i + 1) := by
  obtain ⟨h1, h2, h3, h4⟩ := h
  have hb := lBelow_rng s.cu (n := 3) (by omega)
  have hg := lBelow_good h1 3
  obtain ⟨n1, n2⟩ := lNote_small (lBelow s.cu 3).2 (s.at_ + (lBelow s.cu 3).1)
  obtain ⟨n3, n4⟩ := small_ok n1 n2 ⟨by omega, by omega⟩
  have hc := addC_cost s.ch (lNote (lBelow s.cu 3).2 (s.at_ + (lBelow s.cu 3).1)).1
  refine ⟨lNote_good hg _, ⟨?_, ?_⟩, addC_ok h3 n3 (by omega) (by omega), ?_⟩
  · show 0 ≤ s.at_ + (lBelow s.cu 3).1; omega
  · show s.at_ + (lBelow s.cu 3).1 ≤ _; omega
  · show (addC s.ch (lNote (lBelow s.cu 3).2 (s.at_ + (lBelow s.cu 3).1)).1).cost ≤ _; omega

theorem chRun_ok {s : DrS} (h : DrOk s 0) : ∀ n, n ≤ 122 → DrOk (chRun s n) n := by
  intro n
  induction n with
  | zero => intro _; exact h
  | succ n ih => intro hn; exact chStep_ok (ih (by omega)) (by omega)

def setN (l : List GNote) (i : Nat) (f : GNote → GNote) : List GNote := match l[i]? with
  | some x => l.set i (f x)
  | none => l

/-- What is turned in a chain that is drawn. -/
def bendN (c : GChain) (i : Nat) (k : Int) (q : Int) : GChain :=
  if k = 0 then { c with fNotes := setN c.fNotes i fun x => { x with fCode := IntKind.i64.wrap (x.fCode + 1) } }
  else if k = 1 then { c with fNotes := setN c.fNotes i fun x => { x with fSum := IntKind.i64.wrap (x.fSum + 1) } }
  else if k = 2 then { c with fNotes := setN c.fNotes i fun x => { x with fWhat := [111, 116, 104, 101, 114] } }
  else if k = 3 then { c with fNotes := c.fNotes.drop 1 }
  else if k = 4 then { c with fNotes := setN c.fNotes i fun x => { x with fSeq := IntKind.i64.wrap (x.fSeq + 1) } }
  else if k = 5 then { c with fNotes := setN c.fNotes i fun x => { x with fAt := q } }
  else c

def lChB (c : GChain) (u : Cur) : GChain × Cur :=
  let o := lOnce u 5
  if o.1 = true ∧ 0 < c.fNotes.length then
    let i := lBelow o.2 (c.fNotes.length : Nat)
    let k := lBelow i.2 6
    let q := lPick k.2 0 [-1, 0]
    (bendN c i.1.toNat k.1 q.1, if k.1 = 5 then q.2 else k.2)
  else (c, o.2)

def lChC (c : GChain) (u : Cur) : GChain × Cur :=
  ((if (lOnce u 30).1 = true then { c with fFirst := -1 } else c), (lOnce u 30).2)

def lChain (c : Cur) (n : Int) : GChain × Cur :=
  lChC (lChB (chRun (lCh0 c) n.toNat).ch (chRun (lCh0 c) n.toNat).cu).1 (lChB (chRun (lCh0 c) n.toNat).ch (chRun (lCh0 c) n.toNat).cu).2

theorem sumBy_set {l : List GNote} {i : Nat} {x y : GNote} (h : l[i]? = some x) : sumBy GNote.cost (l.set i y) ≤ sumBy GNote.cost l + y.cost := by
  induction l generalizing i with
  | nil => simp at h
  | cons a t ih =>
    cases i with
    | zero => simp only [List.set_cons_zero, sumBy]; omega
    | succ i => simp only [List.set_cons_succ, sumBy]; have := ih (i := i) (by simpa using h); omega

theorem mem_cost {l : List GNote} {x : GNote} (h : x ∈ l) : x.cost ≤ sumBy GNote.cost l := by
  induction l with
  | nil => cases h
  | cons a t ih =>
    rcases List.mem_cons.1 h with rfl | h
    · simp only [sumBy]; omega
    · simp only [sumBy]; have := ih h; omega

theorem setN_ok {c : GChain} (hc : c.ok) (i : Nat) (f : GNote → GNote) (hf : ∀ x, x.ok → (f x).ok ∧ (f x).cost ≤ x.cost + 5) : ({ c with fNotes := setN c.fNotes i f } : GChain).ok ∧ ({ c with fNotes := setN c.fNotes i f } : GChain).cost ≤ 2 * c.cost + 5 := by
  obtain ⟨h1, h2, h3, h4⟩ := hc
  unfold setN
  cases hx : c.fNotes[i]? with
  | none => exact ⟨⟨h1, h2, h3, h4⟩, by show c.cost ≤ _; omega⟩
  | some x =>
    have hm := List.mem_of_getElem? hx
    obtain ⟨f1, f2⟩ := hf x (h4 x hm)
    refine ⟨⟨h1, h2, by simpa using h3, ?_⟩, ?_⟩
    · intro y hy
      rcases List.mem_or_eq_of_mem_set hy with hy | rfl
      · exact h4 y hy
      · exact f1
    · have h5 := sumBy_set (y := f x) hx
      have h6 := mem_cost hm
      show (c.fNotes.set i (f x)).length + sumBy GNote.cost (c.fNotes.set i (f x)) ≤ 2 * (c.fNotes.length + sumBy GNote.cost c.fNotes) + 5
      rw [List.length_set]
      omega

theorem wrap_int (x : Int) : int64 (IntKind.i64.wrap x) := by
  unfold int64 IntKind.wrap
  simp only [show IntKind.i64.signed = true from rfl, show IntKind.i64.bits = 64 from rfl, Bool.true_and, decide_eq_true_eq]
  split <;> omega

theorem bendN_ok {c : GChain} (hc : c.ok) (i : Nat) (k q : Int) (hq : -1 ≤ q ∧ q ≤ 0) : (bendN c i k q).ok ∧ (bendN c i k q).cost ≤ 2 * c.cost + 5 := by
  have hm : maxLen = 9223372036854775807 := rfl
  unfold bendN
  split
  · exact setN_ok hc i _ fun x hx => ⟨⟨hx.1, hx.2.1, hx.2.2.1, hx.2.2.2.1, hx.2.2.2.2.1, wrap_int _, hx.2.2.2.2.2.2⟩, Nat.le_add_right _ _⟩
  split
  · exact setN_ok hc i _ fun x hx => ⟨⟨hx.1, hx.2.1, hx.2.2.1, hx.2.2.2.1, hx.2.2.2.2.1, hx.2.2.2.2.2.1, wrap_int _⟩, Nat.le_add_right _ _⟩
  split
  · exact setN_ok hc i _ fun x hx => ⟨⟨hx.1, hx.2.1, hx.2.2.1, by show 5 ≤ maxLen; omega, hx.2.2.2.2.1, hx.2.2.2.2.2.1, hx.2.2.2.2.2.2⟩, by show 5 + x.fPath.length ≤ x.fWhat.length + x.fPath.length + 5; omega⟩
  split
  · obtain ⟨h1, h2, h3, h4⟩ := hc
    refine ⟨⟨h1, h2, by simp; omega, fun y hy => h4 y (List.mem_of_mem_drop hy)⟩, ?_⟩
    show (c.fNotes.drop 1).length + sumBy GNote.cost (c.fNotes.drop 1) ≤ 2 * (c.fNotes.length + sumBy GNote.cost c.fNotes) + 5
    cases c.fNotes with
    | nil => simp [sumBy]
    | cons z t => simp [sumBy]; omega
  split
  · exact setN_ok hc i _ fun x hx => ⟨⟨wrap_int _, hx.2.1, hx.2.2.1, hx.2.2.2.1, hx.2.2.2.2.1, hx.2.2.2.2.2.1, hx.2.2.2.2.2.2⟩, Nat.le_add_right _ _⟩
  split
  · exact setN_ok hc i _ fun x hx => ⟨⟨hx.1, by show int64 q; unfold int64; omega, hx.2.2.1, hx.2.2.2.1, hx.2.2.2.2.1, hx.2.2.2.2.2.1, hx.2.2.2.2.2.2⟩, Nat.le_add_right _ _⟩
  · exact ⟨hc, by omega⟩

theorem lChain_ok {c : Cur} (h : c.good) {n : Int} (hn : n ≤ 122) : (lChain c n).1.ok ∧ (lChain c n).1.cost ≤ 60000 ∧ (lChain c n).2.good := by
  obtain ⟨g1, g2, g3, g4⟩ := chRun_ok (lCh0_ok h) n.toNat (by omega)
  unfold lChain
  generalize chRun (lCh0 c) n.toNat = s at *
  have hB : (lChB s.ch s.cu).1.ok ∧ (lChB s.ch s.cu).1.cost ≤ 60000 ∧ (lChB s.ch s.cu).2.good := by
    have ho := lOnce_good g1 5
    unfold lChB
    dsimp only
    split
    · have hi := lBelow_good ho (s.ch.fNotes.length : Nat)
      have hk := lBelow_good hi 6
      have hp := lPick_mem (lBelow (lBelow (lOnce s.cu 5).2 (s.ch.fNotes.length : Nat)).2 6).2 0 (l := [-1, 0]) (by simp)
      have hq : -1 ≤ (lPick (lBelow (lBelow (lOnce s.cu 5).2 (s.ch.fNotes.length : Nat)).2 6).2 0 [-1, 0]).1 ∧ (lPick (lBelow (lBelow (lOnce s.cu 5).2 (s.ch.fNotes.length : Nat)).2 6).2 0 [-1, 0]).1 ≤ 0 := by
        simp only [List.mem_cons, List.not_mem_nil, or_false] at hp
        omega
      obtain ⟨b1, b2⟩ := bendN_ok g3 (lBelow (lOnce s.cu 5).2 (s.ch.fNotes.length : Nat)).1.toNat (lBelow (lBelow (lOnce s.cu 5).2 (s.ch.fNotes.length : Nat)).2 6).1 _ hq
      refine ⟨b1, Nat.le_trans b2 (by omega), ?_⟩
      split
      · exact lPick_good hk (0 : Int) _
      · exact hk
    · exact ⟨g3, by dsimp only; omega, ho⟩
  obtain ⟨b1, b2, b3⟩ := hB
  generalize (lChB s.ch s.cu).1 = d at *
  refine ⟨?_, ?_, lOnce_good b3 30⟩
  · unfold lChC
    dsimp only
    split
    · exact ⟨by show int64 (-1); unfold int64; omega, b1.2⟩
    · exact b1
  · unfold lChC
    dsimp only
    split
    · exact b2
    · exact b2

def hStep (h : Int) (b : UInt8) : Int := and64 (IntKind.i64.wrap (IntKind.i64.wrap (IntKind.i64.wrap (h * 149) + (b.toNat : Nat)) + 11)) 1073741823

def hRun (h : Int) (l : List UInt8) : Int := l.foldl hStep h

def lNew (code : List UInt8) : Cur := ⟨code, 0, hRun (705705 + (code.length : Nat)) (code.take 4000)⟩

theorem lNew_good {code : List UInt8} (h : code.length ≤ 1048577) : (lNew code).good := ⟨Int.le_refl _, by show (0 : Int) ≤ _; omega, h⟩

def lOne (code : List UInt8) : GChain × Cur :=
  let n := lBelow (lNew code) (lSize code.length 20)
  let o := lOnce n.2 30
  if o.1 = true then lChain (lBelow o.2 4).2 (119 + (lBelow o.2 4).1) else lChain o.2 n.1

theorem lOne_ok {code : List UInt8} (h : code.length ≤ 1048577) : (lOne code).1.ok ∧ (lOne code).1.cost ≤ 60000 ∧ (lOne code).2.good := by
  have h1 := lNew_good h
  have h2 := lBelow_good h1 (lSize code.length 20)
  have h3 := lOnce_good h2 30
  have h4 := lBelow_rng0 (lNew code) (lSize code.length 20)
  have h5 : lSize code.length 20 ≤ 20 := by unfold lSize; split <;> omega
  have h6 := lBelow_rng (lOnce (lBelow (lNew code) (lSize code.length 20)).2 30).2 (n := 4) (by omega)
  unfold lOne
  dsimp only
  split
  · exact lChain_ok (lBelow_good h3 4) (by omega)
  · refine lChain_ok h3 ?_
    split at h4 <;> omega

def lSalted (code : List UInt8) : GChain × List UInt8 :=
  let n := lBelow (lOne code).2 (lSize code.length 30)
  let t := lByteL n.2 n.1.toNat
  let o := lOnce t.2 30
  if o.1 = true then ((lOne code).1, (lByteL (lBelow o.2 2).2 (2000 + (lBelow o.2 2).1).toNat).1) else ((lOne code).1, t.1)

theorem lSalted_ok {code : List UInt8} (h : code.length ≤ 1048577) : (lSalted code).1.ok ∧ (lSalted code).1.cost ≤ 60000 ∧ (lSalted code).2.length ≤ 2001 := by
  obtain ⟨h1, h2, h3⟩ := lOne_ok h
  have h4 := lBelow_rng0 (lOne code).2 (lSize code.length 30)
  have h5 : lSize code.length 30 ≤ 30 := by unfold lSize; split <;> omega
  have h6 := lBelow_rng (lOnce (lByteL (lBelow (lOne code).2 (lSize code.length 30)).2 (lBelow (lOne code).2 (lSize code.length 30)).1.toNat).2 30).2 (n := 2) (by omega)
  unfold lSalted
  dsimp only
  split
  · refine ⟨h1, h2, ?_⟩
    rw [lByteL_len]
    omega
  · refine ⟨h1, h2, ?_⟩
    rw [lByteL_len]
    split at h4 <;> omega

theorem lByte_v (c : Cur) (hc : c.good) : Valid PP GG F_S_l01Byte [.box c.o] (.d (.int .i64 (lByte c).1)) [some (.box (lByte c).2.o)] := by
  refine v_S_l01Byte [.d (.int .i64 (lByte c).1)] rfl rfl ?_
  obtain ⟨b, i, h⟩ := c
  obtain ⟨h1, h2, h3⟩ := hc
  dsimp only at h1 h2 h3
  obtain ⟨k, rfl⟩ := Int.eq_ofNat_of_zero_le h1
  have hx := and64_255 (xor64 ((curH h).fdiv 8589934592) ((curH h).fdiv 35184372088832))
  unfold curH at hx
  by_cases hlt : k < b.length
  · have hr : lByte ⟨b, (k : Int), h⟩ = (and64 (byteX (curH h) + nthB b k) 255, ⟨b, k + 1, curH h⟩) := by unfold lByte; rw [if_pos (by dsimp only; omega)]
    have hg := List.getElem?_eq_getElem hlt
    have hn : nthB b k = ((b[k].toNat : Nat) : Int) := by unfold nthB; rw [List.getD_eq_getElem?_getD, Int.toNat_natCast, hg]; rfl
    rw [hr, hn]
    unfold curH byteX
    generalize b[k] = x at *
    have hxx := x.toNat_lt
    have hw1 : IntKind.i64.wrap ((k : Int) + 1) = (k : Int) + 1 := wrap_id (by omega) (by omega)
    have hw2 : IntKind.i64.wrap (x.toNat : Nat) = (x.toNat : Nat) := wrap_id (by omega) (by omega)
    have hw3 : IntKind.i64.wrap (and64 (xor64 ((IntKind.i64.wrap (IntKind.i64.wrap (h * 6364136223846793005) + 1442695040888963407)).fdiv 8589934592) ((IntKind.i64.wrap (IntKind.i64.wrap (h * 6364136223846793005) + 1442695040888963407)).fdiv 35184372088832)) 255 + (x.toNat : Nat)) = and64 (xor64 ((IntKind.i64.wrap (IntKind.i64.wrap (h * 6364136223846793005) + 1442695040888963407)).fdiv 8589934592) ((IntKind.i64.wrap (IntKind.i64.wrap (h * 6364136223846793005) + 1442695040888963407)).fdiv 35184372088832)) 255 + (x.toNat : Nat) := wrap_id (by omega) (by omega)
    repeat' (first | refine W_seq ?_ | refine W_skip ?_ | refine W_block ?_ | refine W_exit ?_ | refine pick_pos rfl ?_ | refine pick_neg rfl ?_ | ((first | refine W_regP fun K hK => ?_ | refine W_regPD fun K hK => ?_ | refine W_ret ?_); simp [Fin, hg, and64_ev, xor64_ev, hw1, hw2, hw3]) | (with_reducible refine hK _ ?_; clear hK K) | (with_reducible refine goL_split (fun h => ?_) (fun h => ?_) <;> first | (exfalso; simp at h; first | done | omega | contradiction) | ((try simp at h); simp [hg, and64_ev, xor64_ev, hw1, hw2, hw3])) | with_reducible refine And.intro ?_ ?_ | with_reducible exact okay_rfl rfl | with_reducible assumption | (refine W_cond rfl (fun h => ?_) (fun h => ?_) <;> first | (exfalso; simp at h; first | done | omega | contradiction) | (exfalso; simp_all; done) | (try simp at h)) | omega)
  · have hr : lByte ⟨b, (k : Int), h⟩ = (byteX (curH h), ⟨b, k, curH h⟩) := by unfold lByte; rw [if_neg (by dsimp only; omega)]
    rw [hr]
    unfold curH byteX
    repeat' (first | refine W_seq ?_ | refine W_skip ?_ | refine W_block ?_ | refine W_exit ?_ | refine pick_pos rfl ?_ | refine pick_neg rfl ?_ | ((first | refine W_regP fun K hK => ?_ | refine W_regPD fun K hK => ?_ | refine W_ret ?_); simp [Fin, and64_ev, xor64_ev]) | (with_reducible refine hK _ ?_; clear hK K) | (with_reducible refine goL_split (fun h => ?_) (fun h => ?_) <;> first | (exfalso; simp at h; first | done | omega | contradiction) | ((try simp at h); simp [and64_ev, xor64_ev])) | with_reducible refine And.intro ?_ ?_ | with_reducible exact okay_rfl rfl | with_reducible assumption | (refine W_cond rfl (fun h => ?_) (fun h => ?_) <;> first | (exfalso; simp at h; first | done | omega | contradiction) | (exfalso; simp_all; done) | (try simp at h)) | omega)

theorem lBelow_v (c : Cur) (n : Int) (hc : c.good) : Valid PP GG F_S_l01Below [.box c.o, .d (.int .i64 n)] (.d (.int .i64 (lBelow c n).1)) [some (.box (lBelow c n).2.o), none] := by
  refine v_S_l01Below [.d (.int .i64 (lBelow c n).1)] rfl rfl ?_
  have c1 := lByte_v (GG := GG) c hc
  have r1 := lByte_rng c
  have c2 := lByte_v (GG := GG) (lByte c).2 (lByte_good hc)
  have r2 := lByte_rng (lByte c).2
  have c3 := lByte_v (GG := GG) (lByte (lByte c).2).2 (lByte_good (lByte_good hc))
  have r3 := lByte_rng (lByte (lByte c).2).2
  have hr : lBelow c n = if n ≤ 0 then (0, c) else if n ≤ 256 then ((lByte c).1.tmod n, (lByte c).2) else
    (((lByte c).1 * 65536 + (lByte (lByte c).2).1 * 256 + (lByte (lByte (lByte c).2).2).1).tmod n, (lByte (lByte (lByte c).2).2).2) := rfl
  by_cases h0 : n ≤ 0
  · rw [if_pos h0] at hr
    rw [hr]
    clear hr c1 c2 c3
    repeat' (first | refine W_seq ?_ | refine W_skip ?_ | refine W_block ?_ | refine W_exit ?_ | refine pick_pos rfl ?_ | refine pick_neg rfl ?_ | ((first | refine W_regP fun K hK => ?_ | refine W_regPD fun K hK => ?_ | refine W_ret ?_); simp [Fin, h0]) | (with_reducible refine hK _ ?_; clear hK K) | (with_reducible refine goL_split (fun h => ?_) (fun h => ?_) <;> first | (exfalso; simp at h; first | done | omega | contradiction) | ((try simp at h); simp [h0])) | with_reducible refine And.intro ?_ ?_ | with_reducible exact okay_rfl rfl | with_reducible assumption | (refine W_cond rfl (fun h => ?_) (fun h => ?_) <;> first | (exfalso; simp at h; first | done | omega | contradiction) | (exfalso; simp_all; done) | (try simp at h)) | omega)
  rw [if_neg h0] at hr
  have hn0 : ¬ n = 0 := by omega
  by_cases h1 : n ≤ 256
  · rw [if_pos h1] at hr
    rw [hr]
    clear hr c2 c3
    repeat' (first | refine W_seq ?_ | refine W_skip ?_ | refine W_block ?_ | refine W_exit ?_ | refine pick_pos rfl ?_ | refine pick_neg rfl ?_ | ((first | refine W_regP fun K hK => ?_ | refine W_regPD fun K hK => ?_ | refine W_ret ?_ | with_reducible refine callQ (c1) ?_); simp [Fin, h0, h1, hn0]) | (with_reducible refine hK _ ?_; clear hK K) | (with_reducible refine goL_split (fun h => ?_) (fun h => ?_) <;> first | (exfalso; simp at h; first | done | omega | contradiction) | ((try simp at h); simp [h0, h1, hn0])) | with_reducible refine And.intro ?_ ?_ | with_reducible exact okay_rfl rfl | with_reducible assumption | (refine W_cond rfl (fun h => ?_) (fun h => ?_) <;> first | (exfalso; simp at h; first | done | omega | contradiction) | (exfalso; simp_all; done) | (try simp at h)) | omega)
  · rw [if_neg h1] at hr
    rw [hr]
    clear hr
    generalize (lByte (lByte (lByte c).2).2) = p3 at *
    generalize (lByte (lByte c).2) = p2 at *
    generalize lByte c = p1 at *
    have hw1 : IntKind.i64.wrap (p1.1 * 65536) = p1.1 * 65536 := wrap_id (by omega) (by omega)
    have hw2 : IntKind.i64.wrap (p2.1 * 256) = p2.1 * 256 := wrap_id (by omega) (by omega)
    have hw3 : IntKind.i64.wrap (p1.1 * 65536 + p2.1 * 256) = p1.1 * 65536 + p2.1 * 256 := wrap_id (by omega) (by omega)
    have hw4 : IntKind.i64.wrap (p1.1 * 65536 + p2.1 * 256 + p3.1) = p1.1 * 65536 + p2.1 * 256 + p3.1 := wrap_id (by omega) (by omega)
    repeat' (first | refine W_seq ?_ | refine W_skip ?_ | refine W_block ?_ | refine W_exit ?_ | refine pick_pos rfl ?_ | refine pick_neg rfl ?_ | ((first | refine W_regP fun K hK => ?_ | refine W_regPD fun K hK => ?_ | refine W_ret ?_ | with_reducible refine callQ (c1) ?_ | with_reducible refine callQ (c2) ?_ | with_reducible refine callQ (c3) ?_); simp [Fin, h0, h1, hn0, hw1, hw2, hw3, hw4]) | (with_reducible refine hK _ ?_; clear hK K) | (with_reducible refine goL_split (fun h => ?_) (fun h => ?_) <;> first | (exfalso; simp at h; first | done | omega | contradiction) | ((try simp at h); simp [h0, h1, hn0, hw1, hw2, hw3, hw4])) | with_reducible refine And.intro ?_ ?_ | with_reducible exact okay_rfl rfl | with_reducible assumption | (refine W_cond rfl (fun h => ?_) (fun h => ?_) <;> first | (exfalso; simp at h; first | done | omega | contradiction) | (exfalso; simp_all; done) | (try simp at h)) | omega)

theorem lOnce_v (c : Cur) (n : Int) (hc : c.good) : Valid PP GG F_S_l01Once [.box c.o, .d (.int .i64 n)] (.d (.bool (lOnce c n).1)) [some (.box (lOnce c n).2.o), none] := by
  refine v_S_l01Once [.d (.bool (lOnce c n).1)] rfl rfl ?_
  have c1 := lBelow_v (GG := GG) c n hc
  have e : lOnce c n = (decide ((lBelow c n).1 = 0), (lBelow c n).2) := rfl
  rw [e]
  have hq : ((lBelow c n).1 == 0) = decide ((lBelow c n).1 = 0) := rfl
  repeat' (first | refine W_seq ?_ | refine W_skip ?_ | refine W_block ?_ | refine W_exit ?_ | refine pick_pos rfl ?_ | refine pick_neg rfl ?_ | ((first | refine W_regP fun K hK => ?_ | refine W_regPD fun K hK => ?_ | refine W_ret ?_ | with_reducible refine callQ (c1) ?_); simp [Fin, hq]) | (with_reducible refine hK _ ?_; clear hK K) | (with_reducible refine goL_split (fun h => ?_) (fun h => ?_) <;> first | (exfalso; simp at h; first | done | omega | contradiction) | ((try simp at h); simp [hq])) | with_reducible refine And.intro ?_ ?_ | with_reducible exact okay_rfl rfl | with_reducible assumption | (refine W_cond rfl (fun h => ?_) (fun h => ?_) <;> first | (exfalso; simp at h; first | done | omega | contradiction) | (exfalso; simp_all; done) | (try simp at h)) | omega)

theorem lPickI_v (c : Cur) (l : List Int) (hc : c.good) (hl : l ≠ []) (hs : l.length ≤ 100) : Valid PP GG F_S_l01PickInt [.box c.o, .own 0 1 (intsD l)] (.d (.int .i64 (lPick c 0 l).1)) [some (.box (lPick c 0 l).2.o), none] := by
  refine v_S_l01PickInt [.d (.int .i64 (lPick c 0 l).1)] rfl rfl ?_
  have c1 := lBelow_v (GG := GG) c l.length hc
  obtain ⟨k, hk, hg⟩ := lPick_get c (0 : Int) hl
  have e : (lPick c 0 l).2 = (lBelow c l.length).2 := rfl
  rw [e]
  have hkl := (List.getElem?_eq_some_iff.1 hg).1
  generalize (lPick c 0 l).1 = v at *
  generalize (lBelow c l.length).2 = c2 at *
  rw [hk] at c1
  repeat' (first | refine W_seq ?_ | refine W_skip ?_ | refine W_block ?_ | refine W_exit ?_ | refine pick_pos rfl ?_ | refine pick_neg rfl ?_ | ((first | refine W_regP fun K hK => ?_ | refine W_regPD fun K hK => ?_ | refine W_ret ?_ | with_reducible refine callQ (c1) ?_); simp [Fin, ints_len, ints_get, hg]) | (with_reducible refine hK _ ?_; clear hK K) | (with_reducible refine goL_split (fun h => ?_) (fun h => ?_) <;> first | (exfalso; simp at h; first | done | omega | contradiction) | ((try simp at h); simp [ints_len, ints_get, hg])) | with_reducible refine And.intro ?_ ?_ | with_reducible exact okay_rfl rfl | with_reducible assumption | (refine W_cond rfl (fun h => ?_) (fun h => ?_) <;> first | (exfalso; simp at h; first | done | omega | contradiction) | (exfalso; simp_all; done) | (try simp at h)) | omega)

end Go.Proofs.YtalclmngpfpkmaaDoor.Ab

