/-
  A part of a proof about the given program; what is proved is said where each theorem stands.
-/
import Derived.BigCall
import Derived.Test.YtmihpclfdicfkaaDoorFrameA
import Derived.Test.YtmihpclfdicfkaaDoorFrameB
import Derived.Test.YtmihpclfdicfkaaDoorFrameC
import Derived.Test.YtmihpclfdicfkaaDoorFrameD
import Derived.Test.YtmihpclfdicfkaaDoorFrameE
import Derived.Test.YtmihpclfdicfkaaDoorShelf
import Derived.Test.YtmihpclfdicfkaaDoorCodesA
import Derived.Test.YtmihpclfdicfkaaDoorCodesB
namespace Go.Proofs
end Go.Proofs
set_option linter.unusedSimpArgs false
set_option linter.unusedVariables false
set_option maxRecDepth 100000
set_option maxHeartbeats 2000000
namespace Go.Proofs.YtmihpclfdicfkaaDoor.Ab
open Go.Proofs
variable {GG : GV}
structure Hide (q : Prop) : Prop where
  out : q
theorem bq {a b : Bool} (h : a = b := by first | omega | (exact decide_eq_false (by omega)) | (exact decide_eq_true (by omega)) | (exact (decide_eq_true (by omega)).symm) | (exact (decide_eq_false (by omega)).symm) | (exact decide_eq_decide.2 (by omega)) | (simp only [← decide_not]; exact decide_eq_decide.2 (by omega)) | (simp [*]; done) | (simp [*]; omega) | (simp_all; done) | (simp_all; omega) | (rw [Bool.eq_iff_iff]; simp at *; omega)) : a = b := h
abbrev RS (V : FuncId → List C → C → List (Option C) → Prop) (ops : List AOper) (st st' : St) : Prop := ∀ K : St → Prop, K st' → regS V st.nx 0 ops st K
abbrev RD (V : FuncId → List C → C → List (Option C) → Prop) (ops : List AOper) (st st' : St) : Prop := ∀ K : St → Prop, K st' → regD V st.nx 0 ops [] true st K
abbrev RB (V : FuncId → List C → C → List (Option C) → Prop) (ops : List AOper) (st : St) (r : Nat) (b : Bool) : Prop := ∀ K : St → Prop, (∀ t tm, t = b → K ⟨tm, put st.vars r (.d (.bool t)), st.objs, st.nx⟩) → regS V st.nx 0 ops st K
abbrev RE (V : FuncId → List C → C → List (Option C) → Prop) (ops : List AOper) (st : St) (r : Nat) (b : Bool) : Prop := ∀ K : St → Prop, (∀ t tm, t = b → K ⟨tm, put st.vars r (.d (.bool t)), st.objs, st.nx⟩) → regD V st.nx 0 ops [] true st K
section
variable {P : Program} {vl : List Nat} {nt : Nat × List Nat} {V : FuncId → List C → C → List (Option C) → Prop} {ops : List AOper} {st st' : St} {Kn : St → Prop} {Ke : Nat → St → Prop} {Kr : St → Prop} {p_e1 p_e2 p_e3 p_e4 p_e5 p_k1 p_k10 p_k11 p_k12 p_k2 p_k3 p_k4 p_k5 p_k6 p_k7 p_k8 p_k9 p q : Prop}

end

theorem wrap_id {n : Int} (h1 : -9223372036854775808 ≤ n) (h2 : n ≤ 9223372036854775807) : IntKind.i64.wrap n = n := by
  rw [IntKind.wrap_i64]; omega

theorem take_succ_eq {α : Type} {a b : List α} {i : Nat} {x : α} (h : a.take i = b.take i) (ha : a[i]? = some x) (hb : b[i]? = some x) : a.take (i + 1) = b.take (i + 1) := by
  rw [List.take_add_one, List.take_add_one, h, ha, hb]

theorem eqByteS_ok (a b : List UInt8) (hsz : a.length ≤ 281474976710656) : Valid PP GG F_L_eqByteS [.d (.slc 1 (bytesD a)), .d (.slc 1 (bytesD b))] (.d (.bool (a == b))) [none, none] := by
  refine v_L_eqByteS [.d (.bool (a == b))] rfl rfl ?_
  refine W_seq (?_)
  apply W_regS
  · intro K hK
    simp
    repeat' (first | with_reducible exact hK | (with_reducible refine goL_split (fun _ => ?_) (fun _ => ?_) <;> simp) | with_reducible refine And.intro ?_ ?_ | with_reducible exact okay_rfl rfl | with_reducible assumption | omega)
  refine W_seq (W_seq (?_))
  apply W_regS
  · intro K hK
    simp
    repeat' (first | with_reducible exact hK | (with_reducible refine goL_split (fun _ => ?_) (fun _ => ?_) <;> simp) | with_reducible refine And.intro ?_ ?_ | with_reducible exact okay_rfl rfl | with_reducible assumption | omega)
  refine W_cond rfl (fun h => W_seq ?_) (fun hlen => W_skip ?_)
  · apply W_regS
    · intro K hK
      simp
      repeat' (first | with_reducible exact hK | (with_reducible refine goL_split (fun _ => ?_) (fun _ => ?_) <;> simp) | with_reducible refine And.intro ?_ ?_ | with_reducible exact okay_rfl rfl | with_reducible assumption | omega)
    have : (a == b) = false := by simp at h ⊢; intro e; subst e; exact h rfl
    refine W_ret ?_
    simp [Fin, this]
    all_goals omega
  refine W_seq (W_seq (?_))
  simp at hlen
  apply W_regS
  · intro K hK
    simp
    repeat' (first | with_reducible exact hK | (with_reducible refine goL_split (fun _ => ?_) (fun _ => ?_) <;> simp) | with_reducible refine And.intro ?_ ?_ | with_reducible exact okay_rfl rfl | with_reducible assumption | omega)
  refine W_block (W_loop (fun n st => ∃ i : Nat, n = a.length - i ∧ i ≤ a.length ∧ a.take i = b.take i ∧ st = ⟨[], [(0, .d (.slc 1 (bytesD a))), (1, .d (.slc 1 (bytesD b))), (5, .d (.int .i64 i))], [], 0⟩) _ ⟨0, rfl, by omega, rfl, rfl⟩ ?_)
  rintro n st ⟨i, rfl, hi, he, rfl⟩
  refine W_seq (W_seq (?_))
  apply W_regS
  · intro K hK
    simp
    repeat' (first | with_reducible exact hK | (with_reducible refine goL_split (fun _ => ?_) (fun _ => ?_) <;> simp) | with_reducible refine And.intro ?_ ?_ | with_reducible exact okay_rfl rfl | with_reducible assumption | omega)
  refine W_cond rfl (fun h => W_skip ?_) (fun h => W_exit ?_)
  · simp at h
    have ha := List.getElem?_eq_getElem h
    have hb := List.getElem?_eq_getElem (show i < b.length by omega)
    generalize a[i] = x at ha
    generalize b[i]'_ = y at hb
    refine W_seq (W_block (W_seq ?_))
    apply W_regD
    · intro K hK
      simp [ha, hb]
      repeat' (first | with_reducible exact hK | (with_reducible refine goL_split (fun _ => ?_) (fun _ => ?_) <;> simp [ha, hb]) | with_reducible refine And.intro ?_ ?_ | with_reducible exact okay_rfl rfl | with_reducible assumption | omega)
    refine W_cond rfl (fun h2 => W_seq ?_) (fun h2 => W_skip ?_)
    · apply W_regS
      · intro K hK
        simp
        repeat' (first | with_reducible exact hK | (with_reducible refine goL_split (fun _ => ?_) (fun _ => ?_) <;> simp) | with_reducible refine And.intro ?_ ?_ | with_reducible exact okay_rfl rfl | with_reducible assumption | omega)
      have : (a == b) = false := by simp; intro e; subst e; simp [ha] at hb; subst hb; simp at h2
      refine W_ret ?_
      simp [Fin, this]
      all_goals omega
    apply W_regS
    · intro K hK
      simp
      repeat' (first | with_reducible exact hK | (with_reducible refine goL_split (fun _ => ?_) (fun _ => ?_) <;> simp) | with_reducible refine And.intro ?_ ?_ | with_reducible exact okay_rfl rfl | with_reducible assumption | omega)
    have hxy : x = y := by simp at h2; exact UInt8.toNat_inj.1 (by omega)
    subst hxy
    exact ⟨a.length - (i + 1), by omega, i + 1, rfl, h, take_succ_eq he ha hb, by simp [gc, closeN, liveA, gcV, gcO, renA, namesAs, namesA]; rw [wrap_id (by omega) (by omega)]⟩
  · simp at h
    rw [if_pos rfl]
    refine W_seq (?_)
    apply W_regS
    · intro K hK
      simp
      repeat' (first | with_reducible exact hK | (with_reducible refine goL_split (fun _ => ?_) (fun _ => ?_) <;> simp) | with_reducible refine And.intro ?_ ?_ | with_reducible exact okay_rfl rfl | with_reducible assumption | omega)
    have : (a == b) = true := by
      simp
      rwa [List.take_of_length_le h, List.take_of_length_le (by omega)] at he
    refine W_ret ?_
    simp [Fin, this]
    all_goals omega

theorem row_one {R : List (List D)} {i : Nat} (h : ∀ r, r ∈ R → r.length = 1) (hi : i < R.length) : ∃ d, R[i]? = some [d] := by
  have := h _ (List.getElem_mem hi)
  rw [List.length_eq_one_iff] at this
  obtain ⟨d, hd⟩ := this
  exact ⟨d, by rw [List.getElem?_eq_getElem hi, hd]⟩

theorem set_one {R : List (List D)} {i : Nat} {d : D} (h : ∀ r, r ∈ R → r.length = 1) : ∀ r, r ∈ R.set i [d] → r.length = 1 := by
  intro r hr
  rcases List.mem_or_eq_of_mem_set hr with h1 | h1
  · exact h r h1
  · subst h1; rfl

theorem take_set_succ {R : List (List D)} {i : Nat} {r : List D} (hi : i < R.length) : (R.set i r).take (i + 1) = R.take i ++ [r] := by
  rw [List.take_add_one, List.take_set_of_le (Nat.le_refl _)]
  simp [hi]

theorem bytesD_succ {a : List UInt8} {i : Nat} {x : UInt8} (ha : a[i]? = some x) : bytesD (a.take (i + 1)) = bytesD (a.take i) ++ [[.int .u8 x.toNat]] := by
  rw [List.take_add_one, ha]; simp [bytesD]

theorem toByteS_ok (a : List UInt8) (hsz : a.length ≤ 140737488355328) : Valid PP GG F_L_toByteS [.d (.slc 1 (bytesD a))] (.own 0 1 (bytesD a)) [none] := by
  refine v_L_toByteS [.own 0 1 (bytesD a)] rfl rfl ?_
  refine W_seq (?_)
  apply W_regS
  · intro K hK
    simp
    repeat' (first | with_reducible exact hK | (with_reducible refine goL_split (fun _ => ?_) (fun _ => ?_) <;> simp) | with_reducible refine And.intro ?_ ?_ | with_reducible exact okay_rfl rfl | with_reducible assumption | omega)
  refine W_seq (?_)
  apply W_regS
  · intro K hK
    simp [mkA, limit]
    repeat' (first | with_reducible exact hK | (with_reducible refine goL_split (fun _ => ?_) (fun _ => ?_) <;> simp [mkA, limit]) | with_reducible refine And.intro ?_ ?_ | with_reducible exact okay_rfl rfl | with_reducible assumption | omega)
  refine W_seq (W_seq (?_))
  apply W_regS
  · intro K hK
    simp
    repeat' (first | with_reducible exact hK | (with_reducible refine goL_split (fun _ => ?_) (fun _ => ?_) <;> simp) | with_reducible refine And.intro ?_ ?_ | with_reducible exact okay_rfl rfl | with_reducible assumption | omega)
  refine W_block (W_loop (fun n st => ∃ (i : Nat) (R : List (List D)), n = a.length - i ∧ i ≤ a.length ∧ R.length = a.length ∧ (∀ r, r ∈ R → r.length = 1) ∧ R.take i = bytesD (a.take i) ∧
    st = ⟨[], [(0, .d (.slc 1 (bytesD a))), (3, .sl 0), (4, .d (.int .i64 i))], [(0, .arr 0 0 1 R)], 1⟩) _ ⟨0, List.replicate a.length [.int .u8 0], rfl, by omega, by simp, by simp, rfl, rfl⟩ ?_)
  rintro n st ⟨i, R, rfl, hi, hl, h1, hR, rfl⟩
  refine W_seq (W_seq (?_))
  apply W_regS
  · intro K hK
    simp
    repeat' (first | with_reducible exact hK | (with_reducible refine goL_split (fun _ => ?_) (fun _ => ?_) <;> simp) | with_reducible refine And.intro ?_ ?_ | with_reducible exact okay_rfl rfl | with_reducible assumption | omega)
  refine W_cond rfl (fun h => W_skip ?_) (fun h => W_exit ?_)
  · simp at h
    have ha := List.getElem?_eq_getElem h
    generalize a[i] = x at ha
    obtain ⟨d, hd⟩ := row_one h1 (show i < R.length by omega)
    refine W_seq (W_block ?_)
    apply W_regS
    · intro K hK
      simp [ha, hd, hl]
      repeat' (first | with_reducible exact hK | (with_reducible refine goL_split (fun _ => ?_) (fun _ => ?_) <;> simp [ha, hd, hl]) | with_reducible refine And.intro ?_ ?_ | with_reducible exact okay_rfl rfl | with_reducible assumption | omega)
    apply W_regS
    · intro K hK
      simp
      repeat' (first | with_reducible exact hK | (with_reducible refine goL_split (fun _ => ?_) (fun _ => ?_) <;> simp) | with_reducible refine And.intro ?_ ?_ | with_reducible exact okay_rfl rfl | with_reducible assumption | omega)
    exact ⟨a.length - (i + 1), by omega, i + 1, R.set i [.int .u8 x.toNat], rfl, h, by simpa using hl, set_one h1, by rw [take_set_succ (by omega), hR, bytesD_succ ha],
      by simp [gc, closeN, liveA, gcV, gcO, renA, renO, namesAs, namesA, namesO, posn]; rw [wrap_id (by omega) (by omega)]⟩
  · simp at h
    have e : R = bytesD a := by rwa [List.take_of_length_le (by omega), List.take_of_length_le (by omega)] at hR
    subst e
    rw [if_pos rfl]
    refine W_seq (?_)
    apply W_regS
    · intro K hK
      simp
      repeat' (first | with_reducible exact hK | (with_reducible refine goL_split (fun _ => ?_) (fun _ => ?_) <;> simp) | with_reducible refine And.intro ?_ ?_ | with_reducible exact okay_rfl rfl | with_reducible assumption | omega)
    refine W_ret ?_
    simp [Fin]
    all_goals omega

theorem ofBytes_bytesD (s : List UInt8) : ofBytes (bytesD s) = some s := by
  induction s with
  | nil => rfl
  | cons x s ih => simp [bytesD, ofBytes] at ih ⊢; exact ih

theorem strOf_bytesD (s : List UInt8) : strOf (.slc 1 (bytesD s)) = out (.d (.str s)) := by
  cases s with
  | nil => rfl
  | cons x s => simp only [strOf, ofBytes_bytesD]; simp [bytesD]

theorem eqIntS_ok (a b : List Int) (hsz : a.length ≤ 281474976710656) : Valid PP GG F_L_eqIntS [.d (.slc 1 (intsD a)), .d (.slc 1 (intsD b))] (.d (.bool (a == b))) [none, none] := by
  refine v_L_eqIntS [.d (.bool (a == b))] rfl rfl ?_
  refine W_seq (?_)
  apply W_regS
  · intro K hK
    simp
    repeat' (first | with_reducible exact hK | (with_reducible refine goL_split (fun _ => ?_) (fun _ => ?_) <;> simp) | with_reducible refine And.intro ?_ ?_ | with_reducible exact okay_rfl rfl | with_reducible assumption | omega)
  refine W_seq (W_seq (?_))
  apply W_regS
  · intro K hK
    simp
    repeat' (first | with_reducible exact hK | (with_reducible refine goL_split (fun _ => ?_) (fun _ => ?_) <;> simp) | with_reducible refine And.intro ?_ ?_ | with_reducible exact okay_rfl rfl | with_reducible assumption | omega)
  refine W_cond rfl (fun h => W_seq ?_) (fun hlen => W_skip ?_)
  · apply W_regS
    · intro K hK
      simp
      repeat' (first | with_reducible exact hK | (with_reducible refine goL_split (fun _ => ?_) (fun _ => ?_) <;> simp) | with_reducible refine And.intro ?_ ?_ | with_reducible exact okay_rfl rfl | with_reducible assumption | omega)
    have : (a == b) = false := by simp at h ⊢; intro e; subst e; exact h rfl
    refine W_ret ?_
    simp [Fin, this]
    all_goals omega
  refine W_seq (W_seq (?_))
  simp at hlen
  apply W_regS
  · intro K hK
    simp
    repeat' (first | with_reducible exact hK | (with_reducible refine goL_split (fun _ => ?_) (fun _ => ?_) <;> simp) | with_reducible refine And.intro ?_ ?_ | with_reducible exact okay_rfl rfl | with_reducible assumption | omega)
  refine W_block (W_loop (fun n st => ∃ i : Nat, n = a.length - i ∧ i ≤ a.length ∧ a.take i = b.take i ∧ st = ⟨[], [(0, .d (.slc 1 (intsD a))), (1, .d (.slc 1 (intsD b))), (5, .d (.int .i64 i))], [], 0⟩) _ ⟨0, rfl, by omega, rfl, rfl⟩ ?_)
  rintro n st ⟨i, rfl, hi, he, rfl⟩
  refine W_seq (W_seq (?_))
  apply W_regS
  · intro K hK
    simp
    repeat' (first | with_reducible exact hK | (with_reducible refine goL_split (fun _ => ?_) (fun _ => ?_) <;> simp) | with_reducible refine And.intro ?_ ?_ | with_reducible exact okay_rfl rfl | with_reducible assumption | omega)
  refine W_cond rfl (fun h => W_skip ?_) (fun h => W_exit ?_)
  · simp at h
    have ha := List.getElem?_eq_getElem h
    have hb := List.getElem?_eq_getElem (show i < b.length by omega)
    generalize a[i] = x at ha
    generalize b[i]'_ = y at hb
    refine W_seq (W_block (W_seq ?_))
    apply W_regD
    · intro K hK
      simp [ha, hb]
      repeat' (first | with_reducible exact hK | (with_reducible refine goL_split (fun _ => ?_) (fun _ => ?_) <;> simp [ha, hb]) | with_reducible refine And.intro ?_ ?_ | with_reducible exact okay_rfl rfl | with_reducible assumption | omega)
    refine W_cond rfl (fun h2 => W_seq ?_) (fun h2 => W_skip ?_)
    · apply W_regS
      · intro K hK
        simp
        repeat' (first | with_reducible exact hK | (with_reducible refine goL_split (fun _ => ?_) (fun _ => ?_) <;> simp) | with_reducible refine And.intro ?_ ?_ | with_reducible exact okay_rfl rfl | with_reducible assumption | omega)
      have : (a == b) = false := by simp; intro e; subst e; simp [ha] at hb; subst hb; simp at h2
      refine W_ret ?_
      simp [Fin, this]
      all_goals omega
    apply W_regS
    · intro K hK
      simp
      repeat' (first | with_reducible exact hK | (with_reducible refine goL_split (fun _ => ?_) (fun _ => ?_) <;> simp) | with_reducible refine And.intro ?_ ?_ | with_reducible exact okay_rfl rfl | with_reducible assumption | omega)
    have hxy : x = y := by simpa using h2
    subst hxy
    exact ⟨a.length - (i + 1), by omega, i + 1, rfl, h, take_succ_eq he ha hb, by simp [gc, closeN, liveA, gcV, gcO, renA, namesAs, namesA]; rw [wrap_id (by omega) (by omega)]⟩
  · simp at h
    rw [if_pos rfl]
    refine W_seq (?_)
    apply W_regS
    · intro K hK
      simp
      repeat' (first | with_reducible exact hK | (with_reducible refine goL_split (fun _ => ?_) (fun _ => ?_) <;> simp) | with_reducible refine And.intro ?_ ?_ | with_reducible exact okay_rfl rfl | with_reducible assumption | omega)
    have : (a == b) = true := by
      simp
      rwa [List.take_of_length_le h, List.take_of_length_le (by omega)] at he
    refine W_ret ?_
    simp [Fin, this]
    all_goals omega

theorem l01In_ok (x lo hi : Int) : Valid PP GG F_S_l01In [.d (.int .i64 x), .d (.int .i64 lo), .d (.int .i64 hi)] (.d (.bool (decide (lo ≤ x) && decide (x ≤ hi)))) [none, none, none] := by
  refine v_S_l01In [.d (.bool (decide (lo ≤ x) && decide (x ≤ hi)))] rfl rfl ?_
  refine W_seq (?_)
  apply W_regS
  · intro K hK
    simp
    repeat' (first | with_reducible exact hK | (with_reducible refine goL_split (fun _ => ?_) (fun _ => ?_) <;> simp) | with_reducible refine And.intro ?_ ?_ | with_reducible exact okay_rfl rfl | with_reducible assumption | omega)
  refine W_seq (?_)
  refine W_regB 6 (decide (lo ≤ x) && decide (x ≤ hi)) (fun K hK => ?_) ?_
  · simp
    repeat' (first | exact hK _ _ (by clear hK; first | omega | (exact decide_eq_false (by omega)) | (exact decide_eq_true (by omega)) | (exact (decide_eq_true (by omega)).symm) | (exact (decide_eq_false (by omega)).symm) | (exact decide_eq_decide.2 (by omega)) | (simp only [← decide_not]; exact decide_eq_decide.2 (by omega)) | (simp [*]; done) | (simp [*]; omega) | (simp_all; done) | (simp_all; omega) | (rw [Bool.eq_iff_iff]; simp at *; omega)) | (with_reducible refine goL_split (fun _ => ?_) (fun _ => ?_) <;> simp) | with_reducible refine And.intro ?_ ?_ | with_reducible exact okay_rfl rfl | with_reducible assumption | omega)
  refine W_ret ?_
  simp [Fin]
  all_goals omega

theorem within_ok (x lo hi : Int) : Valid PP GG F_I_within [.d (.int .i64 x), .d (.int .i64 lo), .d (.int .i64 hi)] (.d (.bool (decide (lo ≤ x) && decide (x ≤ hi)))) [none, none, none] := by
  refine v_I_within [.d (.bool (decide (lo ≤ x) && decide (x ≤ hi)))] rfl rfl ?_
  refine W_seq (?_)
  apply W_regS
  · intro K hK
    simp
    repeat' (first | with_reducible exact hK | (with_reducible refine goL_split (fun _ => ?_) (fun _ => ?_) <;> simp) | with_reducible refine And.intro ?_ ?_ | with_reducible exact okay_rfl rfl | with_reducible assumption | omega)
  refine W_seq (?_)
  refine W_regB 6 (decide (lo ≤ x) && decide (x ≤ hi)) (fun K hK => ?_) ?_
  · simp
    repeat' (first | exact hK _ _ (by clear hK; first | omega | (exact decide_eq_false (by omega)) | (exact decide_eq_true (by omega)) | (exact (decide_eq_true (by omega)).symm) | (exact (decide_eq_false (by omega)).symm) | (exact decide_eq_decide.2 (by omega)) | (simp only [← decide_not]; exact decide_eq_decide.2 (by omega)) | (simp [*]; done) | (simp [*]; omega) | (simp_all; done) | (simp_all; omega) | (rw [Bool.eq_iff_iff]; simp at *; omega)) | (with_reducible refine goL_split (fun _ => ?_) (fun _ => ?_) <;> simp) | with_reducible refine And.intro ?_ ?_ | with_reducible exact okay_rfl rfl | with_reducible assumption | omega)
  refine W_ret ?_
  simp [Fin]
  all_goals omega

/-- The digits of a number. -/
def digs (n : Nat) : List UInt8 := if h : n = 0 then [] else digs (n / 10) ++ [UInt8.ofNat (48 + n % 10)]
termination_by n
decreasing_by omega

def markT (k : Int) : List UInt8 := if k ≤ 0 then [109, 48] else 109 :: digs k.toNat

theorem digs_len (n : Nat) : (digs n).length ≤ n := by
  induction n using Nat.strongRecOn with
  | _ n ih =>
    rw [digs]
    split
    · simp
    · have := ih (n / 10) (by omega)
      simp; omega

theorem u8_digit (n : Nat) : IntKind.u8.wrap (IntKind.i64.wrap (48 + ((n % 10 : Nat) : Int))) = ((UInt8.ofNat (48 + n % 10)).toNat : Int) := by
  rw [wrap_id (by omega) (by omega), IntKind.wrap_u8, UInt8.toNat_ofNat']
  have : (48 + n % 10) % 2 ^ 8 = 48 + n % 10 := by omega
  rw [this]; omega

theorem bytes_one (v : UInt8) : [[D.int .u8 v.toNat]] = bytesD [v] := rfl

theorem markText_ok (k : Int) (hk : k ≤ 4611686018427387904) : Valid PP GG F_L_markText [.d (.int .i64 k)] (.d (.str (markT k))) [none] := by
  refine v_L_markText [.d (.str (markT k))] rfl rfl ?_
  refine W_seq (?_)
  apply W_regS
  · intro K hK
    simp
    repeat' (first | with_reducible exact hK | (with_reducible refine goL_split (fun _ => ?_) (fun _ => ?_) <;> simp) | with_reducible refine And.intro ?_ ?_ | with_reducible exact okay_rfl rfl | with_reducible assumption | omega)
  refine W_seq (W_seq (?_))
  apply W_regS
  · intro K hK
    simp
    repeat' (first | with_reducible exact hK | (with_reducible refine goL_split (fun _ => ?_) (fun _ => ?_) <;> simp) | with_reducible refine And.intro ?_ ?_ | with_reducible exact okay_rfl rfl | with_reducible assumption | omega)
  refine W_cond rfl (fun h => W_seq ?_) (fun h => W_skip ?_)
  · simp at h
    apply W_regS
    · intro K hK
      simp
      repeat' (first | with_reducible exact hK | (with_reducible refine goL_split (fun _ => ?_) (fun _ => ?_) <;> simp) | with_reducible refine And.intro ?_ ?_ | with_reducible exact okay_rfl rfl | with_reducible assumption | omega)
    have : markT k = [109, 48] := by unfold markT; rw [if_pos h]
    refine W_ret ?_
    simp [Fin, this]
    all_goals omega
  simp at h
  refine W_seq (?_)
  apply W_regS
  · intro K hK
    simp
    repeat' (first | with_reducible exact hK | (with_reducible refine goL_split (fun _ => ?_) (fun _ => ?_) <;> simp) | with_reducible refine And.intro ?_ ?_ | with_reducible exact okay_rfl rfl | with_reducible assumption | omega)
  refine W_seq (?_)
  refine W_block (W_loop (fun n st => ∃ (m : Nat) (out : List UInt8), n = m ∧ digs m ++ out = digs k.toNat ∧ (m : Int) ≤ k ∧
    st = ⟨[], [(0, .d (.int .i64 m)), (3, .d (.str out))], [], 0⟩) _ ⟨k.toNat, [], rfl, by simp, by omega, by simp [gc, closeN, liveA, gcV, gcO, renA, namesAs, namesA]; omega⟩ ?_)
  rintro m st ⟨m', out, rfl, he, hm, rfl⟩
  refine W_seq (W_seq (?_))
  apply W_regS
  · intro K hK
    simp
    repeat' (first | with_reducible exact hK | (with_reducible refine goL_split (fun _ => ?_) (fun _ => ?_) <;> simp) | with_reducible refine And.intro ?_ ?_ | with_reducible exact okay_rfl rfl | with_reducible assumption | omega)
  refine W_cond rfl (fun h2 => W_skip ?_) (fun h2 => W_exit ?_)
  · simp at h2
    have hd := u8_digit m
    have hl : out.length ≤ 4611686018427387904 := by
      have h1 := digs_len k.toNat
      rw [← he] at h1
      simp at h1
      omega
    have ht : ((m : Int).tmod 10) = ((m % 10 : Nat) : Int) := rfl
    have hq : IntKind.i64.wrap ((m : Int).tdiv 10) = ((m / 10 : Nat) : Int) := by
      have : (m : Int).tdiv 10 = ((m / 10 : Nat) : Int) := rfl
      rw [this]; exact wrap_id (by omega) (by omega)
    obtain ⟨r, hr⟩ : ∃ r : Nat, r = m % 10 := ⟨_, rfl⟩
    obtain ⟨q, hqq⟩ : ∃ q : Nat, q = m / 10 := ⟨_, rfl⟩
    rw [← hr] at hd ht
    rw [← hqq] at hq
    obtain ⟨v, hv⟩ : ∃ v, v = UInt8.ofNat (48 + r) := ⟨_, rfl⟩
    rw [← hv] at hd
    simp at hq
    refine W_block (W_seq ?_)
    apply W_regS
    · intro K hK
      simp [ht, hd, litA, bytes_one, strOf_bytesD, maxStr]
      repeat' (first | with_reducible exact hK | (with_reducible refine goL_split (fun _ => ?_) (fun _ => ?_) <;> simp [ht, hd, litA, bytes_one, strOf_bytesD, maxStr]) | with_reducible refine And.intro ?_ ?_ | with_reducible exact okay_rfl rfl | with_reducible assumption | omega)
    apply W_regS
    · intro K hK
      simp [hq]
      repeat' (first | with_reducible exact hK | (with_reducible refine goL_split (fun _ => ?_) (fun _ => ?_) <;> simp [hq]) | with_reducible refine And.intro ?_ ?_ | with_reducible exact okay_rfl rfl | with_reducible assumption | omega)
    refine ⟨q, by omega, q, v :: out, rfl, ?_, by omega, by simp [gc, closeN, liveA, gcV, gcO, renA, namesAs, namesA]⟩
    rw [← he, digs.eq_1 m, dif_neg (by omega), ← hqq, ← hr, ← hv]
    simp
  · simp at h2
    rw [if_pos rfl]
    have : m = 0 := by omega
    subst this
    have hz : digs 0 = [] := by rw [digs]; simp
    rw [hz, List.nil_append] at he
    have hl : out.length ≤ 4611686018427387904 := by
      have h1 := digs_len k.toNat
      rw [← he] at h1
      omega
    refine W_seq (?_)
    apply W_regS
    · intro K hK
      simp [maxStr]
      repeat' (first | with_reducible exact hK | (with_reducible refine goL_split (fun _ => ?_) (fun _ => ?_) <;> simp [maxStr]) | with_reducible refine And.intro ?_ ?_ | with_reducible exact okay_rfl rfl | with_reducible assumption | omega)
    have : markT k = 109 :: out := by unfold markT; rw [if_neg (by omega), he]
    refine W_ret ?_
    simp [Fin, this]
    all_goals omega

def marksInt (k : Int) (n : Nat) : List Int := (List.range n).map fun (i : Nat) => k + i

theorem marksInt_len (k : Int) (n : Nat) : (marksInt k n).length = n := by simp [marksInt]

theorem marksInt_succ (k : Int) (n : Nat) : intsD (marksInt k (n + 1)) = intsD (marksInt k n) ++ [[(fun (x : Int) => (.int .i64 x : D)) ((fun (i : Nat) => k + i) n)]] := by
  simp [marksInt, List.range_succ, intsD]

theorem marksInt_get (k : Int) {n i : Nat} (h : i < n) : (marksInt k n)[i]? = some ((fun (i : Nat) => k + i) i) := by
  simp [marksInt, h]

theorem markIntS_ok (rows : List (List D)) (k : Int) (h0 : ∀ r, r ∈ rows → r.length = 1) (h1 : rows.length ≤ 281474976710656) (h2 : 0 ≤ k ∧ k ≤ 281474976710656) :
    Valid PP GG F_L_markIntS [.own 0 1 rows, .d (.int .i64 k)] (.d (.int .i64 (k + rows.length))) [some (.own 0 1 (intsD (marksInt k rows.length))), none] := by
  refine v_L_markIntS [.d (.int .i64 (k + rows.length))] rfl rfl ?_
  refine W_seq (?_)
  apply W_regS
  · intro K hK
    simp
    repeat' (first | with_reducible exact hK | (with_reducible refine goL_split (fun _ => ?_) (fun _ => ?_) <;> simp) | with_reducible refine And.intro ?_ ?_ | with_reducible exact okay_rfl rfl | with_reducible assumption | omega)
  refine W_seq (W_seq (?_))
  apply W_regS
  · intro K hK
    simp
    repeat' (first | with_reducible exact hK | (with_reducible refine goL_split (fun _ => ?_) (fun _ => ?_) <;> simp) | with_reducible refine And.intro ?_ ?_ | with_reducible exact okay_rfl rfl | with_reducible assumption | omega)
  refine W_block (W_loop (fun n st => ∃ (i : Nat) (R : List (List D)), n = rows.length - i ∧ i ≤ rows.length ∧ R.length = rows.length ∧ (∀ r, r ∈ R → r.length = 1) ∧ R.take i = intsD (marksInt k i) ∧
    st = ⟨[], [(0, .sl 0), (1, .d (.int .i64 (k + i))), (5, .d (.int .i64 i))], [(0, .arr 0 0 1 R)], 1⟩) _ ⟨0, rows, rfl, by omega, rfl, h0, rfl, by simp [gc, closeN, liveA, gcV, gcO, renA, renO, namesAs, namesA, namesO, posn]⟩ ?_)
  rintro n st ⟨i, R, rfl, hi, hl, h3, hR, rfl⟩
  refine W_seq (W_seq (?_))
  apply W_regS
  · intro K hK
    simp
    repeat' (first | with_reducible exact hK | (with_reducible refine goL_split (fun _ => ?_) (fun _ => ?_) <;> simp) | with_reducible refine And.intro ?_ ?_ | with_reducible exact okay_rfl rfl | with_reducible assumption | omega)
  refine W_cond rfl (fun h => W_skip ?_) (fun h => W_exit ?_)
  · simp [hl] at h
    obtain ⟨d, hd⟩ := row_one h3 (show i < R.length by omega)
    refine W_seq (W_block (W_seq ?_))
    apply W_regS
    · intro K hK
      simp [hd, hl ]
      repeat' (first | with_reducible exact hK | (with_reducible refine goL_split (fun _ => ?_) (fun _ => ?_) <;> simp [hd, hl ]) | with_reducible refine And.intro ?_ ?_ | with_reducible exact okay_rfl rfl | with_reducible assumption | omega)
    have hw : IntKind.i64.wrap (k + i + 1) = k + i + 1 := wrap_id (by omega) (by omega)
    apply W_regS
    · intro K hK
      simp [hw]
      repeat' (first | with_reducible exact hK | (with_reducible refine goL_split (fun _ => ?_) (fun _ => ?_) <;> simp [hw]) | with_reducible refine And.intro ?_ ?_ | with_reducible exact okay_rfl rfl | with_reducible assumption | omega)
    apply W_regS
    · intro K hK
      simp
      repeat' (first | with_reducible exact hK | (with_reducible refine goL_split (fun _ => ?_) (fun _ => ?_) <;> simp) | with_reducible refine And.intro ?_ ?_ | with_reducible exact okay_rfl rfl | with_reducible assumption | omega)
    exact ⟨rows.length - (i + 1), by omega, i + 1, R.set i [(fun (x : Int) => (.int .i64 x : D)) ((fun (i : Nat) => k + i) i)], rfl, h, by simpa using hl, set_one h3, by rw [take_set_succ (by omega), hR, marksInt_succ],
      by simp [gc, closeN, liveA, gcV, gcO, renA, renO, namesAs, namesA, namesO, posn]; exact ⟨by omega, wrap_id (by omega) (by omega)⟩⟩
  · simp [hl] at h
    have e : R = intsD (marksInt k rows.length) := by
      have : i = rows.length := by omega
      subst this
      rwa [List.take_of_length_le (by omega)] at hR
    have hi' : i = rows.length := by omega
    subst e
    rw [if_pos rfl]
    refine W_seq (?_)
    apply W_regS
    · intro K hK
      simp
      repeat' (first | with_reducible exact hK | (with_reducible refine goL_split (fun _ => ?_) (fun _ => ?_) <;> simp) | with_reducible refine And.intro ?_ ?_ | with_reducible exact okay_rfl rfl | with_reducible assumption | omega)
    refine W_ret ?_
    simp [Fin, hi']
    all_goals omega

theorem heldIntS_ok (n : Nat) (k : Int) (h1 : n ≤ 281474976710656) (h2 : 0 ≤ k ∧ k ≤ 281474976710656) :
    Valid PP GG F_L_heldIntS [.d (.slc 1 (intsD (marksInt k n))), .d (.int .i64 k)] (.d (.int .i64 (k + n))) [none, none] := by
  refine v_L_heldIntS [.d (.int .i64 (k + n))] rfl rfl ?_
  have hl := marksInt_len k n
  refine W_seq (?_)
  apply W_regS
  · intro K hK
    simp
    repeat' (first | with_reducible exact hK | (with_reducible refine goL_split (fun _ => ?_) (fun _ => ?_) <;> simp) | with_reducible refine And.intro ?_ ?_ | with_reducible exact okay_rfl rfl | with_reducible assumption | omega)
  refine W_seq (W_seq (?_))
  apply W_regS
  · intro K hK
    simp
    repeat' (first | with_reducible exact hK | (with_reducible refine goL_split (fun _ => ?_) (fun _ => ?_) <;> simp) | with_reducible refine And.intro ?_ ?_ | with_reducible exact okay_rfl rfl | with_reducible assumption | omega)
  refine W_block (W_loop (fun m st => ∃ (i : Nat), m = n - i ∧ i ≤ n ∧
    st = ⟨[], [(0, .d (.slc 1 (intsD (marksInt k n)))), (1, .d (.int .i64 (k + i))), (5, .d (.int .i64 i))], [], 0⟩) _ ⟨0, rfl, by omega, by simp [gc, closeN, liveA, gcV, gcO, renA, renO, namesAs, namesA, namesO, posn]⟩ ?_)
  rintro m st ⟨i, rfl, hi, rfl⟩
  refine W_seq (W_seq (?_))
  apply W_regS
  · intro K hK
    simp
    repeat' (first | with_reducible exact hK | (with_reducible refine goL_split (fun _ => ?_) (fun _ => ?_) <;> simp) | with_reducible refine And.intro ?_ ?_ | with_reducible exact okay_rfl rfl | with_reducible assumption | omega)
  refine W_cond rfl (fun h => W_skip ?_) (fun h => W_exit ?_)
  · simp [hl] at h
    have ha := marksInt_get k h
    refine W_seq (W_block (W_seq (W_seq ?_)))
    apply W_regS
    · intro K hK
      simp [ha, hl ]
      repeat' (first | with_reducible exact hK | (with_reducible refine goL_split (fun _ => ?_) (fun _ => ?_) <;> simp [ha, hl ]) | with_reducible refine And.intro ?_ ?_ | with_reducible exact okay_rfl rfl | with_reducible assumption | omega)
    refine W_cond rfl (fun h4 => ?_) (fun h4 => W_skip ?_)
    · simp at h4
    have hw : IntKind.i64.wrap (k + i + 1) = k + i + 1 := wrap_id (by omega) (by omega)
    apply W_regS
    · intro K hK
      simp [hw]
      repeat' (first | with_reducible exact hK | (with_reducible refine goL_split (fun _ => ?_) (fun _ => ?_) <;> simp [hw]) | with_reducible refine And.intro ?_ ?_ | with_reducible exact okay_rfl rfl | with_reducible assumption | omega)
    apply W_regS
    · intro K hK
      simp
      repeat' (first | with_reducible exact hK | (with_reducible refine goL_split (fun _ => ?_) (fun _ => ?_) <;> simp) | with_reducible refine And.intro ?_ ?_ | with_reducible exact okay_rfl rfl | with_reducible assumption | omega)
    exact ⟨n - (i + 1), by omega, i + 1, rfl, h, by simp [gc, closeN, liveA, gcV, gcO, renA, renO, namesAs, namesA, namesO, posn]; exact ⟨by omega, wrap_id (by omega) (by omega)⟩⟩
  · simp [hl] at h
    have hi' : i = n := by omega
    rw [if_pos rfl]
    refine W_seq (?_)
    apply W_regS
    · intro K hK
      simp
      repeat' (first | with_reducible exact hK | (with_reducible refine goL_split (fun _ => ?_) (fun _ => ?_) <;> simp) | with_reducible refine And.intro ?_ ?_ | with_reducible exact okay_rfl rfl | with_reducible assumption | omega)
    refine W_ret ?_
    simp [Fin, hi']
    all_goals omega

theorem rows_ints (l : List Int) : ∀ r, r ∈ intsD l → r.length = 1 := by
  intro r hr; simp [intsD] at hr; obtain ⟨_, _, rfl⟩ := hr; rfl

theorem u8_all {p : UInt8 → Prop} (h : ∀ n : _root_.Fin 256, p (UInt8.ofNat n.val)) (x : UInt8) : p x := by
  have := h ⟨x.toNat, x.toNat_lt⟩
  simpa using this

def marksByte (k : Int) (n : Nat) : List UInt8 := (List.range n).map fun (i : Nat) => UInt8.ofNat ((k + i) % 256).toNat

theorem marksByte_len (k : Int) (n : Nat) : (marksByte k n).length = n := by simp [marksByte]

theorem byte_of (z : Int) : IntKind.u8.wrap z = ((UInt8.ofNat (z % 256).toNat).toNat : Int) := by
  rw [IntKind.wrap_u8, UInt8.toNat_ofNat']
  omega

theorem marksByte_succ (k : Int) (n : Nat) : bytesD (marksByte k (n + 1)) = bytesD (marksByte k n) ++ [[.int .u8 (IntKind.u8.wrap (k + n))]] := by
  simp [marksByte, List.range_succ, bytesD, byte_of]

theorem marksByte_get (k : Int) {n i : Nat} (h : i < n) : (bytesD (marksByte k n))[i]? = some [.int .u8 (IntKind.u8.wrap (k + i))] := by
  simp [marksByte, h, bytesD, byte_of]

theorem markByteS_ok (rows : List (List D)) (k : Int) (h0 : ∀ r, r ∈ rows → r.length = 1) (h1 : rows.length ≤ 281474976710656) (h2 : 0 ≤ k ∧ k ≤ 281474976710656000) :
    Valid PP GG F_L_markByteS [.own 0 1 rows, .d (.int .i64 k)] (.d (.int .i64 (k + rows.length))) [some (.own 0 1 (bytesD (marksByte k rows.length))), none] := by
  refine v_L_markByteS [.d (.int .i64 (k + rows.length))] rfl rfl ?_
  refine W_seq (?_)
  apply W_regS
  · intro K hK
    simp
    repeat' (first | with_reducible exact hK | (with_reducible refine goL_split (fun _ => ?_) (fun _ => ?_) <;> simp) | with_reducible refine And.intro ?_ ?_ | with_reducible exact okay_rfl rfl | with_reducible assumption | omega)
  refine W_seq (W_seq (?_))
  apply W_regS
  · intro K hK
    simp
    repeat' (first | with_reducible exact hK | (with_reducible refine goL_split (fun _ => ?_) (fun _ => ?_) <;> simp) | with_reducible refine And.intro ?_ ?_ | with_reducible exact okay_rfl rfl | with_reducible assumption | omega)
  refine W_block (W_loop (fun n st => ∃ (i : Nat) (R : List (List D)), n = rows.length - i ∧ i ≤ rows.length ∧ R.length = rows.length ∧ (∀ r, r ∈ R → r.length = 1) ∧ R.take i = bytesD (marksByte k i) ∧
    st = ⟨[], [(0, .sl 0), (1, .d (.int .i64 (k + i))), (5, .d (.int .i64 i))], [(0, .arr 0 0 1 R)], 1⟩) _ ⟨0, rows, rfl, by omega, rfl, h0, rfl, by simp [gc, closeN, liveA, gcV, gcO, renA, renO, namesAs, namesA, namesO, posn]⟩ ?_)
  rintro n st ⟨i, R, rfl, hi, hl, h3, hR, rfl⟩
  refine W_seq (W_seq (?_))
  apply W_regS
  · intro K hK
    simp
    repeat' (first | with_reducible exact hK | (with_reducible refine goL_split (fun _ => ?_) (fun _ => ?_) <;> simp) | with_reducible refine And.intro ?_ ?_ | with_reducible exact okay_rfl rfl | with_reducible assumption | omega)
  refine W_cond rfl (fun h => W_skip ?_) (fun h => W_exit ?_)
  · simp [hl] at h
    obtain ⟨d, hd⟩ := row_one h3 (show i < R.length by omega)
    refine W_seq (W_block (W_seq ?_))
    apply W_regS
    · intro K hK
      simp [hd, hl]
      repeat' (first | with_reducible exact hK | (with_reducible refine goL_split (fun _ => ?_) (fun _ => ?_) <;> simp [hd, hl]) | with_reducible refine And.intro ?_ ?_ | with_reducible exact okay_rfl rfl | with_reducible assumption | omega)
    have hw : IntKind.i64.wrap (k + i + 1) = k + i + 1 := wrap_id (by omega) (by omega)
    apply W_regS
    · intro K hK
      simp [hw]
      repeat' (first | with_reducible exact hK | (with_reducible refine goL_split (fun _ => ?_) (fun _ => ?_) <;> simp [hw]) | with_reducible refine And.intro ?_ ?_ | with_reducible exact okay_rfl rfl | with_reducible assumption | omega)
    apply W_regS
    · intro K hK
      simp
      repeat' (first | with_reducible exact hK | (with_reducible refine goL_split (fun _ => ?_) (fun _ => ?_) <;> simp) | with_reducible refine And.intro ?_ ?_ | with_reducible exact okay_rfl rfl | with_reducible assumption | omega)
    exact ⟨rows.length - (i + 1), by omega, i + 1, R.set i [.int .u8 (IntKind.u8.wrap (k + i))], rfl, h, by simpa using hl, set_one h3, by rw [take_set_succ (by omega), hR, marksByte_succ],
      by simp [gc, closeN, liveA, gcV, gcO, renA, renO, namesAs, namesA, namesO, posn]; exact ⟨by omega, wrap_id (by omega) (by omega)⟩⟩
  · simp [hl] at h
    have e : R = bytesD (marksByte k rows.length) := by
      have : i = rows.length := by omega
      subst this
      rwa [List.take_of_length_le (by omega)] at hR
    have hi' : i = rows.length := by omega
    subst e
    rw [if_pos rfl]
    refine W_seq (?_)
    apply W_regS
    · intro K hK
      simp
      repeat' (first | with_reducible exact hK | (with_reducible refine goL_split (fun _ => ?_) (fun _ => ?_) <;> simp) | with_reducible refine And.intro ?_ ?_ | with_reducible exact okay_rfl rfl | with_reducible assumption | omega)
    refine W_ret ?_
    simp [Fin, hi']
    all_goals omega

theorem heldByteS_ok (n : Nat) (k : Int) (h1 : n ≤ 281474976710656) (h2 : 0 ≤ k ∧ k ≤ 281474976710656000) :
    Valid PP GG F_L_heldByteS [.d (.slc 1 (bytesD (marksByte k n))), .d (.int .i64 k)] (.d (.int .i64 (k + n))) [none, none] := by
  refine v_L_heldByteS [.d (.int .i64 (k + n))] rfl rfl ?_
  have hl : (bytesD (marksByte k n)).length = n := by simp [marksByte_len]
  have hl2 := marksByte_len k n
  have hget : ∀ i : Nat, i < n → (bytesD (marksByte k n))[i]? = some [.int .u8 (IntKind.u8.wrap (k + i))] := fun i h => marksByte_get k h
  generalize bytesD (marksByte k n) = B at hl hget ⊢
  refine W_seq (?_)
  apply W_regS
  · intro K hK
    simp
    repeat' (first | with_reducible exact hK | (with_reducible refine goL_split (fun _ => ?_) (fun _ => ?_) <;> simp) | with_reducible refine And.intro ?_ ?_ | with_reducible exact okay_rfl rfl | with_reducible assumption | omega)
  refine W_seq (W_seq (?_))
  apply W_regS
  · intro K hK
    simp
    repeat' (first | with_reducible exact hK | (with_reducible refine goL_split (fun _ => ?_) (fun _ => ?_) <;> simp) | with_reducible refine And.intro ?_ ?_ | with_reducible exact okay_rfl rfl | with_reducible assumption | omega)
  refine W_block (W_loop (fun m st => ∃ (i : Nat), m = n - i ∧ i ≤ n ∧
    st = ⟨[], [(0, .d (.slc 1 B)), (1, .d (.int .i64 (k + i))), (5, .d (.int .i64 i))], [], 0⟩) _ ⟨0, rfl, by omega, by simp [gc, closeN, liveA, gcV, gcO, renA, renO, namesAs, namesA, namesO, posn]⟩ ?_)
  rintro m st ⟨i, rfl, hi, rfl⟩
  refine W_seq (W_seq (?_))
  apply W_regS
  · intro K hK
    simp
    repeat' (first | with_reducible exact hK | (with_reducible refine goL_split (fun _ => ?_) (fun _ => ?_) <;> simp) | with_reducible refine And.intro ?_ ?_ | with_reducible exact okay_rfl rfl | with_reducible assumption | omega)
  refine W_cond rfl (fun h => W_skip ?_) (fun h => W_exit ?_)
  · simp [hl] at h
    have ha := hget i h
    refine W_seq (W_block (W_seq (W_seq ?_)))
    apply W_regS
    · intro K hK
      simp [ha, hl]
      repeat' (first | with_reducible exact hK | (with_reducible refine goL_split (fun _ => ?_) (fun _ => ?_) <;> simp [ha, hl]) | with_reducible refine And.intro ?_ ?_ | with_reducible exact okay_rfl rfl | with_reducible assumption | omega)
    refine W_cond rfl (fun h4 => ?_) (fun h4 => W_skip ?_)
    · simp at h4
    have hw : IntKind.i64.wrap (k + i + 1) = k + i + 1 := wrap_id (by omega) (by omega)
    apply W_regS
    · intro K hK
      simp [hw]
      repeat' (first | with_reducible exact hK | (with_reducible refine goL_split (fun _ => ?_) (fun _ => ?_) <;> simp [hw]) | with_reducible refine And.intro ?_ ?_ | with_reducible exact okay_rfl rfl | with_reducible assumption | omega)
    apply W_regS
    · intro K hK
      simp
      repeat' (first | with_reducible exact hK | (with_reducible refine goL_split (fun _ => ?_) (fun _ => ?_) <;> simp) | with_reducible refine And.intro ?_ ?_ | with_reducible exact okay_rfl rfl | with_reducible assumption | omega)
    exact ⟨n - (i + 1), by omega, i + 1, rfl, h, by simp [gc, closeN, liveA, gcV, gcO, renA, renO, namesAs, namesA, namesO, posn]; exact ⟨by omega, wrap_id (by omega) (by omega)⟩⟩
  · simp [hl] at h
    have hi' : i = n := by omega
    rw [if_pos rfl]
    refine W_seq (?_)
    apply W_regS
    · intro K hK
      simp
      repeat' (first | with_reducible exact hK | (with_reducible refine goL_split (fun _ => ?_) (fun _ => ?_) <;> simp) | with_reducible refine And.intro ?_ ?_ | with_reducible exact okay_rfl rfl | with_reducible assumption | omega)
    refine W_ret ?_
    simp [Fin, hi']
    all_goals omega

def sumBy {α : Type} (f : α → Nat) : List α → Nat
  | [] => 0
  | x :: r => f x + sumBy f r

theorem sumBy_append {α : Type} (f : α → Nat) (a b : List α) : sumBy f (a ++ b) = sumBy f a + sumBy f b := by
  induction a with
  | nil => simp [sumBy]
  | cons x a ih => simp [sumBy, ih]; omega

theorem sumBy_succ {α : Type} {f : α → Nat} {a : List α} {i : Nat} {x : α} (h : a[i]? = some x) : sumBy f (a.take (i + 1)) = sumBy f (a.take i) + f x := by
  rw [List.take_add_one, h, sumBy_append]; simp [sumBy]

theorem sumBy_take {α : Type} (f : α → Nat) (a : List α) (i : Nat) : sumBy f (a.take i) ≤ sumBy f a := by
  conv => rhs; rw [← List.take_append_drop i a, sumBy_append]
  omega

theorem sumBy_le {α : Type} {f g : α → Nat} {c : Nat} (h : ∀ x, f x ≤ c * (1 + g x)) (a : List α) : sumBy f a ≤ c * (a.length + sumBy g a) := by
  induction a with
  | nil => simp [sumBy]
  | cons x a ih =>
    have := h x
    simp only [sumBy, List.length_cons]
    rw [show a.length + 1 + (g x + sumBy g a) = (1 + g x) + (a.length + sumBy g a) by omega, Nat.mul_add]
    omega

theorem sumBy_mem {α : Type} {f : α → Nat} {a : List α} {x : α} (h : x ∈ a) : f x ≤ sumBy f a := by
  induction a with
  | nil => simp at h
  | cons y a ih =>
    rcases List.mem_cons.1 h with rfl | h
    · simp [sumBy]
    · have := ih h; simp [sumBy]; omega

theorem sumBy_get {α : Type} {f : α → Nat} {a : List α} {i : Nat} {x : α} (h : a[i]? = some x) : f x ≤ sumBy f a := sumBy_mem (List.mem_of_getElem? h)

/-- What is left of an allowance. -/
def leftR (c : Nat) (l : Int) : Int := if (c : Int) ≤ l then l - c else -1

theorem leftR_neg {c : Nat} {l : Int} (h0 : 0 ≤ l) (h : leftR c l < 0) : l < c := by unfold leftR at h; split at h <;> omega

theorem leftR_pos {c : Nat} {l : Int} (h : ¬ leftR c l < 0) : (c : Int) ≤ l ∧ leftR c l = l - c := by unfold leftR at h ⊢; split at h <;> simp_all

theorem leftR_yes {c : Nat} {l : Int} (h : (c : Int) ≤ l) : leftR c l = l - c := if_pos h

theorem leftR_no {c : Nat} {l : Int} (h : l < c) : leftR c l = -1 := if_neg (by omega)

/-- Marks upon a row: f marks one, g is how many marks it takes. -/
def markL {α : Type} (f : α → Int → α) (g : α → Nat) : List α → Int → List α
  | [], _ => []
  | x :: r, k => f x k :: markL f g r (k + (g x : Nat))

theorem markL_len {α : Type} (f : α → Int → α) (g : α → Nat) (a : List α) (k : Int) : (markL f g a k).length = a.length := by
  induction a generalizing k with
  | nil => rfl
  | cons x a ih => simp [markL, ih]

theorem markL_append {α : Type} (f : α → Int → α) (g : α → Nat) (a b : List α) (k : Int) : markL f g (a ++ b) k = markL f g a k ++ markL f g b (k + (sumBy g a : Nat)) := by
  induction a generalizing k with
  | nil => simp [markL, sumBy]
  | cons x a ih =>
    simp only [List.cons_append, markL, ih, sumBy]
    rw [show k + (g x : Int) + (sumBy g a : Nat) = k + ((g x + sumBy g a : Nat) : Int) by push_cast; omega]

theorem markL_succ {α : Type} {f : α → Int → α} {g : α → Nat} {a : List α} {i : Nat} {x : α} (k : Int) (h : a[i]? = some x) : markL f g (a.take (i + 1)) k = markL f g (a.take i) k ++ [f x (k + (sumBy g (a.take i) : Nat))] := by
  rw [List.take_add_one, h]
  show markL f g (a.take i ++ [x]) k = _
  rw [markL_append]; rfl

theorem markL_get {α : Type} {f : α → Int → α} {g : α → Nat} {a : List α} {i : Nat} {x : α} (k : Int) (h : a[i]? = some x) : (markL f g a k)[i]? = some (f x (k + (sumBy g (a.take i) : Nat))) := by
  induction a generalizing i k with
  | nil => simp at h
  | cons y a ih =>
    cases i with
    | zero => simp at h; subst h; simp [markL, sumBy]
    | succ i =>
      simp at h
      have := ih (k + (g y : Nat)) h
      simp only [markL, List.getElem?_cons_succ, this, List.take_succ_cons, sumBy]
      rw [show k + (g y : Int) + (sumBy g (a.take i) : Nat) = k + ((g y + sumBy g (a.take i) : Nat) : Int) by push_cast; omega]

theorem set_get {α : Type} {R : List α} {i : Nat} {d : α} (h : R[i]? = some d) (x : α) : (R.set i x)[i]? = some x := by
  rw [List.getElem?_set_self (List.getElem?_eq_some_iff.1 h).1]

theorem set_mid {α : Type} {P Q : List α} {x y : α} {i : Nat} (h : P.length = i) : (P ++ x :: Q).set i y = (P ++ [y]) ++ Q := by
  subst h; simp

theorem mid_get {α : Type} {P Q : List α} {x : α} {i : Nat} (h : P.length = i) : (P ++ x :: Q)[i]? = some x := by
  subst h; simp

theorem drop_get {α : Type} {a : List α} {i : Nat} {x : α} (h : a[i]? = some x) : a.drop i = x :: a.drop (i + 1) := by
  obtain ⟨h1, rfl⟩ := List.getElem?_eq_some_iff.1 h
  exact List.drop_eq_getElem_cons h1

structure GBox where
  fNonce : Int
  fData : List UInt8
  fTag : Int
  deriving DecidableEq

@[simp] abbrev GBox.row (x : GBox) : List D := [.int .i64 x.fNonce, .slc 1 (bytesD x.fData), .int .i64 x.fTag]

@[simp] abbrev GBox.c (x : GBox) : List C := [.d (.int .i64 x.fNonce), .d (.slc 1 (bytesD x.fData)), .d (.int .i64 x.fTag)]

@[simp] abbrev GBox.o (x : GBox) : List C := [.d (.int .i64 x.fNonce), .own 0 1 (bytesD x.fData), .d (.int .i64 x.fTag)]

def GBox.cost (x : GBox) : Nat := x.fData.length

def GBox.ok (x : GBox) : Prop := int64 x.fNonce ∧ x.fData.length ≤ maxLen ∧ int64 x.fTag

def GBox.mark (x : GBox) (k : Int) : GBox := { fNonce := k, fData := marksByte (k + 1) x.fData.length, fTag := k + 1 + ((x.fData.length : Nat) : Int) }

def GBox.marks (x : GBox) : Nat := 1 + x.fData.length + 1

def GBox.markIn (x : GBox) (k : Int) : GBox := { fNonce := x.fNonce, fData := marksByte (k) x.fData.length, fTag := x.fTag }

def GBox.marksIn (x : GBox) : Nat := x.fData.length

theorem GBox.marks_fix (x : GBox) : x.marks ≤ 2 + 32 * x.cost := by
  unfold GBox.marks GBox.cost
  omega

theorem GBox.marks_le (x : GBox) : x.marks ≤ 32 * (1 + x.cost) := by
  have := x.marks_fix
  omega

structure GWrap where
  fId : Int
  fEnds : Int
  fKind : List UInt8
  fBox : GBox
  deriving DecidableEq

@[simp] abbrev GWrap.row (x : GWrap) : List D := [.int .i64 x.fId, .int .i64 x.fEnds, .str x.fKind, .int .i64 x.fBox.fNonce, .slc 1 (bytesD x.fBox.fData), .int .i64 x.fBox.fTag]

@[simp] abbrev GWrap.c (x : GWrap) : List C := [.d (.int .i64 x.fId), .d (.int .i64 x.fEnds), .d (.str x.fKind), .d (.int .i64 x.fBox.fNonce), .d (.slc 1 (bytesD x.fBox.fData)), .d (.int .i64 x.fBox.fTag)]

@[simp] abbrev GWrap.o (x : GWrap) : List C := [.d (.int .i64 x.fId), .d (.int .i64 x.fEnds), .d (.str x.fKind), .d (.int .i64 x.fBox.fNonce), .own 0 1 (bytesD x.fBox.fData), .d (.int .i64 x.fBox.fTag)]

def rWrap (l : List GWrap) : List (List D) := l.map GWrap.row

@[simp] theorem rWrap_len (l : List GWrap) : (rWrap l).length = l.length := by simp [rWrap]

@[simp] theorem rWrap_get (l : List GWrap) (i : Nat) : (rWrap l)[i]? = (l[i]?).map GWrap.row := by simp [rWrap]

theorem rWrap_app (a b : List GWrap) : rWrap (a ++ b) = rWrap a ++ rWrap b := by simp [rWrap]

theorem rWrap_row (l : List GWrap) : ∀ r, r ∈ rWrap l → r.length = 6 := by intro r h; simp only [rWrap, List.mem_map] at h; obtain ⟨x, _, rfl⟩ := h; rfl

def GWrap.cost (x : GWrap) : Nat := x.fKind.length + x.fBox.cost

def GWrap.ok (x : GWrap) : Prop := int64 x.fId ∧ int64 x.fEnds ∧ x.fKind.length ≤ maxLen ∧ x.fBox.ok

def GWrap.mark (x : GWrap) (k : Int) : GWrap := { fId := k, fEnds := k + 1, fKind := markT (k + 1 + 1), fBox := x.fBox.mark (k + 1 + 1 + 1) }

def GWrap.marks (x : GWrap) : Nat := 1 + 1 + 1 + x.fBox.marks

def GWrap.markIn (x : GWrap) (k : Int) : GWrap := { fId := x.fId, fEnds := x.fEnds, fKind := x.fKind, fBox := x.fBox.markIn (k) }

def GWrap.marksIn (x : GWrap) : Nat := x.fBox.marksIn

theorem GWrap.marks_fix (x : GWrap) : x.marks ≤ 5 + 32 * x.cost := by
  have := GBox.marks_fix x.fBox
  unfold GWrap.marks GWrap.cost
  omega

theorem GWrap.marks_le (x : GWrap) : x.marks ≤ 32 * (1 + x.cost) := by
  have := x.marks_fix
  omega

structure GRack where
  fKey : Int
  fNext : Int
  fWraps : List GWrap
  deriving DecidableEq

@[simp] abbrev GRack.row (x : GRack) : List D := [.int .i64 x.fKey, .int .i64 x.fNext, .slc 6 (rWrap x.fWraps)]

@[simp] abbrev GRack.c (x : GRack) : List C := [.d (.int .i64 x.fKey), .d (.int .i64 x.fNext), .d (.slc 6 (rWrap x.fWraps))]

@[simp] abbrev GRack.o (x : GRack) : List C := [.d (.int .i64 x.fKey), .d (.int .i64 x.fNext), .own 1 6 (rWrap x.fWraps)]

def GRack.cost (x : GRack) : Nat := (x.fWraps.length + sumBy GWrap.cost x.fWraps)

def GRack.ok (x : GRack) : Prop := int64 x.fKey ∧ int64 x.fNext ∧ x.fWraps.length ≤ maxLen ∧ (∀ y, y ∈ x.fWraps → y.ok)

def GRack.mark (x : GRack) (k : Int) : GRack := { fKey := k, fNext := k + 1, fWraps := markL GWrap.mark GWrap.marks x.fWraps (k + 1 + 1) }

def GRack.marks (x : GRack) : Nat := 1 + 1 + sumBy GWrap.marks x.fWraps

def GRack.markIn (x : GRack) (k : Int) : GRack := { fKey := x.fKey, fNext := x.fNext, fWraps := markL GWrap.mark GWrap.marks x.fWraps (k) }

def GRack.marksIn (x : GRack) : Nat := sumBy GWrap.marks x.fWraps

theorem GRack.marks_fix (x : GRack) : x.marks ≤ 2 + 32 * x.cost := by
  have := sumBy_le GWrap.marks_le x.fWraps
  unfold GRack.marks GRack.cost
  omega

theorem GRack.marks_le (x : GRack) : x.marks ≤ 32 * (1 + x.cost) := by
  have := x.marks_fix
  omega

theorem szByteS_g (a : List UInt8) (l : Int) (h1 : a.length ≤ maxLen) (h2 : 0 ≤ l ∧ l ≤ 1048576) : Valid PP GG F_L_szByteS [.d (.slc 1 (bytesD a)), .d (.int .i64 l)] (.d (.int .i64 (leftR a.length l))) [none, none] := by
  refine v_L_szByteS [.d (.int .i64 (leftR a.length l))] rfl rfl ?_
  unfold maxLen at h1
  obtain ⟨m, hm⟩ : ∃ z : Int, l - a.length = z := ⟨_, rfl⟩
  have hw : IntKind.i64.wrap (l - a.length) = m := by rw [wrap_id (by omega) (by omega)]; exact hm
  refine W_seq (?_)
  apply W_regS
  · intro K hK
    simp
    repeat' (first | with_reducible exact hK | (with_reducible refine goL_split (fun _ => ?_) (fun _ => ?_) <;> simp) | with_reducible refine And.intro ?_ ?_ | with_reducible exact okay_rfl rfl | with_reducible assumption | omega)
  refine W_seq (?_)
  apply W_regS
  · intro K hK
    simp [hw]
    repeat' (first | with_reducible exact hK | (with_reducible refine goL_split (fun _ => ?_) (fun _ => ?_) <;> simp [hw]) | with_reducible refine And.intro ?_ ?_ | with_reducible exact okay_rfl rfl | with_reducible assumption | omega)
  refine W_seq (W_seq (?_))
  apply W_regS
  · intro K hK
    simp
    repeat' (first | with_reducible exact hK | (with_reducible refine goL_split (fun _ => ?_) (fun _ => ?_) <;> simp) | with_reducible refine And.intro ?_ ?_ | with_reducible exact okay_rfl rfl | with_reducible assumption | omega)
  refine W_cond rfl (fun h => W_seq ?_) (fun h => W_skip ?_)
  · apply W_regS
    · intro K hK
      simp
      repeat' (first | with_reducible exact hK | (with_reducible refine goL_split (fun _ => ?_) (fun _ => ?_) <;> simp) | with_reducible refine And.intro ?_ ?_ | with_reducible exact okay_rfl rfl | with_reducible assumption | omega)
    simp at h
    have : leftR a.length l = -1 := leftR_no (by omega)
    refine W_ret ?_
    simp [Fin, this]
    all_goals omega
  simp at h
  refine W_seq (?_)
  apply W_regS
  · intro K hK
    simp
    repeat' (first | with_reducible exact hK | (with_reducible refine goL_split (fun _ => ?_) (fun _ => ?_) <;> simp) | with_reducible refine And.intro ?_ ?_ | with_reducible exact okay_rfl rfl | with_reducible assumption | omega)
  have : leftR a.length l = m := by rw [leftR_yes (by omega)]; omega
  refine W_ret ?_
  simp [Fin, this]
  all_goals omega

theorem szBox_g (x : GBox) (l : Int) (hx : x.ok) (h0 : 0 ≤ l ∧ l ≤ 1048576) : Valid PP GG F_L_szBox [.agg x.c, .d (.int .i64 l)] (.d (.int .i64 (leftR x.cost l))) [none, none] := by
  refine v_L_szBox [.d (.int .i64 (leftR x.cost l))] rfl rfl ?_
  have hco : x.cost = x.fData.length := rfl
  unfold GBox.ok maxLen at hx
  obtain ⟨okNonce0, okData0, okTag0⟩ := hx
  generalize x.cost = co at hco
  refine W_seq (?_)
  apply W_regS
  · intro K hK
    simp
    repeat' (first | with_reducible exact hK | (with_reducible refine goL_split (fun _ => ?_) (fun _ => ?_) <;> simp) | with_reducible refine And.intro ?_ ?_ | with_reducible exact okay_rfl rfl | with_reducible assumption | omega)
  have ct := szByteS_g (GG := GG) x.fData l (by unfold maxLen; omega) ⟨by omega, by omega⟩
  obtain ⟨l1, el1⟩ : ∃ z : Int, leftR x.fData.length l = z := ⟨_, rfl⟩
  rw [el1] at ct
  refine W_seq (?_)
  apply W_regS
  · intro K hK
    simp
    repeat' (first | with_reducible exact hK | (with_reducible refine callQ (ct) ?_; simp) | (with_reducible refine goL_split (fun _ => ?_) (fun _ => ?_) <;> simp) | with_reducible refine And.intro ?_ ?_ | with_reducible exact okay_rfl rfl | with_reducible assumption | omega)
  clear ct
  refine W_seq (W_seq (?_))
  apply W_regS
  · intro K hK
    simp
    repeat' (first | with_reducible exact hK | (with_reducible refine goL_split (fun _ => ?_) (fun _ => ?_) <;> simp) | with_reducible refine And.intro ?_ ?_ | with_reducible exact okay_rfl rfl | with_reducible assumption | omega)
  refine W_cond rfl (fun hh0 => W_seq ?_) (fun hh0 => W_skip ?_)
  · apply W_regS
    · intro K hK
      simp
      repeat' (first | with_reducible exact hK | (with_reducible refine goL_split (fun _ => ?_) (fun _ => ?_) <;> simp) | with_reducible refine And.intro ?_ ?_ | with_reducible exact okay_rfl rfl | with_reducible assumption | omega)
    simp at hh0
    rw [← el1] at hh0
    have hn := leftR_neg (by omega) hh0
    have : leftR co l = -1 := leftR_no (by omega)
    refine W_ret ?_
    simp [Fin, this]
    all_goals omega
  simp at hh0
  rw [← el1] at hh0
  obtain ⟨gl1, jl1⟩ := leftR_pos (Int.not_lt.2 hh0)
  rw [el1] at jl1 hh0
  refine W_seq (?_)
  apply W_regS
  · intro K hK
    simp
    repeat' (first | with_reducible exact hK | (with_reducible refine goL_split (fun _ => ?_) (fun _ => ?_) <;> simp) | with_reducible refine And.intro ?_ ?_ | with_reducible exact okay_rfl rfl | with_reducible assumption | omega)
  have : leftR co l = l1 := by rw [leftR_yes (by omega)]; omega
  refine W_ret ?_
  simp [Fin, this]
  all_goals omega

theorem toBox_g (x : GBox) (hx : x.cost ≤ 1099511627776) : Valid PP GG F_L_toBox [.agg x.c] (.agg x.o) [none] := by
  refine v_L_toBox [.agg x.o] rfl rfl ?_
  have hco : x.cost = x.fData.length := rfl
  refine W_seq (?_)
  apply W_regS
  · intro K hK
    simp
    repeat' (first | with_reducible exact hK | (with_reducible refine goL_split (fun _ => ?_) (fun _ => ?_) <;> simp) | with_reducible refine And.intro ?_ ?_ | with_reducible exact okay_rfl rfl | with_reducible assumption | omega)
  refine W_seq (?_)
  apply W_regS
  · intro K hK
    simp
    repeat' (first | with_reducible exact hK | (with_reducible refine goL_split (fun _ => ?_) (fun _ => ?_) <;> simp) | with_reducible refine And.intro ?_ ?_ | with_reducible exact okay_rfl rfl | with_reducible assumption | omega)
  refine W_seq (?_)
  apply W_regS
  · intro K hK
    simp
    repeat' (first | with_reducible exact hK | (with_reducible refine goL_split (fun _ => ?_) (fun _ => ?_) <;> simp) | with_reducible refine And.intro ?_ ?_ | with_reducible exact okay_rfl rfl | with_reducible assumption | omega)
  refine W_seq (?_)
  apply W_regS
  · intro K hK
    simp
    repeat' (first | with_reducible exact hK | (with_reducible refine callQ (toByteS_ok x.fData (by omega)) ?_; simp) | (with_reducible refine goL_split (fun _ => ?_) (fun _ => ?_) <;> simp) | with_reducible refine And.intro ?_ ?_ | with_reducible exact okay_rfl rfl | with_reducible assumption | omega)
  refine W_seq (?_)
  apply W_regS
  · intro K hK
    simp
    repeat' (first | with_reducible exact hK | (with_reducible refine goL_split (fun _ => ?_) (fun _ => ?_) <;> simp) | with_reducible refine And.intro ?_ ?_ | with_reducible exact okay_rfl rfl | with_reducible assumption | omega)
  refine W_seq (?_)
  apply W_regS
  · intro K hK
    simp
    repeat' (first | with_reducible exact hK | (with_reducible refine goL_split (fun _ => ?_) (fun _ => ?_) <;> simp) | with_reducible refine And.intro ?_ ?_ | with_reducible exact okay_rfl rfl | with_reducible assumption | omega)
  refine W_ret ?_
  simp [Fin]
  all_goals omega

theorem eqBox_g (x y : GBox) (hx : x.cost ≤ 1099511627776) (hy : y.cost ≤ 1099511627776) : Valid PP GG F_L_eqBox [.agg x.c, .agg y.c] (.d (.bool (decide (x = y)))) [none, none] := by
  refine v_L_eqBox [.d (.bool (decide (x = y)))] rfl rfl ?_
  have hcx : x.cost = x.fData.length := rfl
  have hcy : y.cost = y.fData.length := rfl
  refine W_seq (?_)
  apply W_regS
  · intro K hK
    simp
    repeat' (first | with_reducible exact hK | (with_reducible refine goL_split (fun _ => ?_) (fun _ => ?_) <;> simp) | with_reducible refine And.intro ?_ ?_ | with_reducible exact okay_rfl rfl | with_reducible assumption | omega)
  refine W_seq (W_seq (?_))
  apply W_regS
  · intro K hK
    simp
    repeat' (first | with_reducible exact hK | (with_reducible refine goL_split (fun _ => ?_) (fun _ => ?_) <;> simp) | with_reducible refine And.intro ?_ ?_ | with_reducible exact okay_rfl rfl | with_reducible assumption | omega)
  refine W_cond rfl (fun h => W_seq ?_) (fun h0 => W_skip ?_)
  · apply W_regS
    · intro K hK
      simp
      repeat' (first | with_reducible exact hK | (with_reducible refine goL_split (fun _ => ?_) (fun _ => ?_) <;> simp) | with_reducible refine And.intro ?_ ?_ | with_reducible exact okay_rfl rfl | with_reducible assumption | omega)
    have : decide (x = y) = false := by rw [decide_eq_false_iff_not]; intro e; rw [e] at h; simp at h
    refine W_ret ?_
    simp [Fin, this]
    all_goals omega
  refine W_seq (W_seq (?_))
  apply W_regS
  · intro K hK
    simp
    repeat' (first | with_reducible exact hK | (with_reducible refine callQ (eqByteS_ok x.fData y.fData (by omega)) ?_; simp) | (with_reducible refine goL_split (fun _ => ?_) (fun _ => ?_) <;> simp) | with_reducible refine And.intro ?_ ?_ | with_reducible exact okay_rfl rfl | with_reducible assumption | omega)
  refine W_cond rfl (fun h => W_seq ?_) (fun h1 => W_skip ?_)
  · apply W_regS
    · intro K hK
      simp
      repeat' (first | with_reducible exact hK | (with_reducible refine goL_split (fun _ => ?_) (fun _ => ?_) <;> simp) | with_reducible refine And.intro ?_ ?_ | with_reducible exact okay_rfl rfl | with_reducible assumption | omega)
    have : decide (x = y) = false := by rw [decide_eq_false_iff_not]; intro e; rw [e] at h; simp at h
    refine W_ret ?_
    simp [Fin, this]
    all_goals omega
  refine W_seq (W_seq (?_))
  apply W_regS
  · intro K hK
    simp
    repeat' (first | with_reducible exact hK | (with_reducible refine goL_split (fun _ => ?_) (fun _ => ?_) <;> simp) | with_reducible refine And.intro ?_ ?_ | with_reducible exact okay_rfl rfl | with_reducible assumption | omega)
  refine W_cond rfl (fun h => W_seq ?_) (fun h2 => W_skip ?_)
  · apply W_regS
    · intro K hK
      simp
      repeat' (first | with_reducible exact hK | (with_reducible refine goL_split (fun _ => ?_) (fun _ => ?_) <;> simp) | with_reducible refine And.intro ?_ ?_ | with_reducible exact okay_rfl rfl | with_reducible assumption | omega)
    have : decide (x = y) = false := by rw [decide_eq_false_iff_not]; intro e; rw [e] at h; simp at h
    refine W_ret ?_
    simp [Fin, this]
    all_goals omega
  refine W_seq (?_)
  apply W_regS
  · intro K hK
    simp
    repeat' (first | with_reducible exact hK | (with_reducible refine goL_split (fun _ => ?_) (fun _ => ?_) <;> simp) | with_reducible refine And.intro ?_ ?_ | with_reducible exact okay_rfl rfl | with_reducible assumption | omega)
  have : decide (x = y) = true := by
    rw [decide_eq_true_iff]
    cases x; cases y
    simp at h0 h1 h2
    simp_all
  refine W_ret ?_
  simp [Fin, this]
  all_goals omega

theorem szWrap_g (x : GWrap) (l : Int) (hx : x.ok) (h0 : 0 ≤ l ∧ l ≤ 1048576) : Valid PP GG F_L_szWrap [.agg x.c, .d (.int .i64 l)] (.d (.int .i64 (leftR x.cost l))) [none, none] := by
  refine v_L_szWrap [.d (.int .i64 (leftR x.cost l))] rfl rfl ?_
  have hco : x.cost = x.fKind.length + x.fBox.cost := rfl
  unfold GWrap.ok maxLen at hx
  obtain ⟨okId0, okEnds0, okKind0, okBox0⟩ := hx
  generalize x.cost = co at hco
  refine W_seq (?_)
  apply W_regS
  · intro K hK
    simp
    repeat' (first | with_reducible exact hK | (with_reducible refine goL_split (fun _ => ?_) (fun _ => ?_) <;> simp) | with_reducible refine And.intro ?_ ?_ | with_reducible exact okay_rfl rfl | with_reducible assumption | omega)
  obtain ⟨l1, el1⟩ : ∃ z : Int, l - x.fKind.length = z := ⟨_, rfl⟩
  have wl1 : IntKind.i64.wrap (l - x.fKind.length) = l1 := by rw [wrap_id (by omega) (by omega)]; exact el1
  refine W_seq (?_)
  apply W_regS
  · intro K hK
    simp [wl1]
    repeat' (first | with_reducible exact hK | (with_reducible refine goL_split (fun _ => ?_) (fun _ => ?_) <;> simp [wl1]) | with_reducible refine And.intro ?_ ?_ | with_reducible exact okay_rfl rfl | with_reducible assumption | omega)
  refine W_seq (W_seq (?_))
  apply W_regS
  · intro K hK
    simp
    repeat' (first | with_reducible exact hK | (with_reducible refine goL_split (fun _ => ?_) (fun _ => ?_) <;> simp) | with_reducible refine And.intro ?_ ?_ | with_reducible exact okay_rfl rfl | with_reducible assumption | omega)
  refine W_cond rfl (fun hh0 => W_seq ?_) (fun hh0 => W_skip ?_)
  · apply W_regS
    · intro K hK
      simp
      repeat' (first | with_reducible exact hK | (with_reducible refine goL_split (fun _ => ?_) (fun _ => ?_) <;> simp) | with_reducible refine And.intro ?_ ?_ | with_reducible exact okay_rfl rfl | with_reducible assumption | omega)
    simp at hh0
    have : leftR co l = -1 := leftR_no (by omega)
    refine W_ret ?_
    simp [Fin, this]
    all_goals omega
  simp at hh0
  have ct := szBox_g (GG := GG) x.fBox l1 okBox0 ⟨by omega, by omega⟩
  obtain ⟨l2, el2⟩ : ∃ z : Int, leftR x.fBox.cost l1 = z := ⟨_, rfl⟩
  rw [el2] at ct
  refine W_seq (?_)
  apply W_regS
  · intro K hK
    simp
    repeat' (first | with_reducible exact hK | (with_reducible refine callQ (ct) ?_; simp) | (with_reducible refine goL_split (fun _ => ?_) (fun _ => ?_) <;> simp) | with_reducible refine And.intro ?_ ?_ | with_reducible exact okay_rfl rfl | with_reducible assumption | omega)
  clear ct
  refine W_seq (W_seq (?_))
  apply W_regS
  · intro K hK
    simp
    repeat' (first | with_reducible exact hK | (with_reducible refine goL_split (fun _ => ?_) (fun _ => ?_) <;> simp) | with_reducible refine And.intro ?_ ?_ | with_reducible exact okay_rfl rfl | with_reducible assumption | omega)
  refine W_cond rfl (fun hh1 => W_seq ?_) (fun hh1 => W_skip ?_)
  · apply W_regS
    · intro K hK
      simp
      repeat' (first | with_reducible exact hK | (with_reducible refine goL_split (fun _ => ?_) (fun _ => ?_) <;> simp) | with_reducible refine And.intro ?_ ?_ | with_reducible exact okay_rfl rfl | with_reducible assumption | omega)
    simp at hh1
    rw [← el2] at hh1
    have hn := leftR_neg (by omega) hh1
    have : leftR co l = -1 := leftR_no (by omega)
    refine W_ret ?_
    simp [Fin, this]
    all_goals omega
  simp at hh1
  rw [← el2] at hh1
  obtain ⟨gl2, jl2⟩ := leftR_pos (Int.not_lt.2 hh1)
  rw [el2] at jl2 hh1
  refine W_seq (?_)
  apply W_regS
  · intro K hK
    simp
    repeat' (first | with_reducible exact hK | (with_reducible refine goL_split (fun _ => ?_) (fun _ => ?_) <;> simp) | with_reducible refine And.intro ?_ ?_ | with_reducible exact okay_rfl rfl | with_reducible assumption | omega)
  have : leftR co l = l2 := by rw [leftR_yes (by omega)]; omega
  refine W_ret ?_
  simp [Fin, this]
  all_goals omega

theorem szWrapS_g (a : List GWrap) (l : Int) (hlen : a.length ≤ maxLen) (hx : ∀ x, x ∈ a → x.ok) (h0 : 0 ≤ l ∧ l ≤ 1048576) :
    Valid PP GG F_L_szWrapS [.d (.slc 6 (rWrap a)), .d (.int .i64 l)] (.d (.int .i64 (leftR (a.length + sumBy GWrap.cost a) l))) [none, none] := by
  refine v_L_szWrapS [.d (.int .i64 (leftR (a.length + sumBy GWrap.cost a) l))] rfl rfl ?_
  unfold maxLen at hlen
  obtain ⟨m, hm⟩ : ∃ z : Int, l - a.length = z := ⟨_, rfl⟩
  have hw : IntKind.i64.wrap (l - a.length) = m := by rw [wrap_id (by omega) (by omega)]; exact hm
  refine W_seq (?_)
  apply W_regS
  · intro K hK
    simp
    repeat' (first | with_reducible exact hK | (with_reducible refine goL_split (fun _ => ?_) (fun _ => ?_) <;> simp) | with_reducible refine And.intro ?_ ?_ | with_reducible exact okay_rfl rfl | with_reducible assumption | omega)
  refine W_seq (?_)
  apply W_regS
  · intro K hK
    simp [hw]
    repeat' (first | with_reducible exact hK | (with_reducible refine goL_split (fun _ => ?_) (fun _ => ?_) <;> simp [hw]) | with_reducible refine And.intro ?_ ?_ | with_reducible exact okay_rfl rfl | with_reducible assumption | omega)
  refine W_seq (W_seq (?_))
  apply W_regS
  · intro K hK
    simp
    repeat' (first | with_reducible exact hK | (with_reducible refine goL_split (fun _ => ?_) (fun _ => ?_) <;> simp) | with_reducible refine And.intro ?_ ?_ | with_reducible exact okay_rfl rfl | with_reducible assumption | omega)
  refine W_cond rfl (fun h => W_seq ?_) (fun h => W_skip ?_)
  · apply W_regS
    · intro K hK
      simp
      repeat' (first | with_reducible exact hK | (with_reducible refine goL_split (fun _ => ?_) (fun _ => ?_) <;> simp) | with_reducible refine And.intro ?_ ?_ | with_reducible exact okay_rfl rfl | with_reducible assumption | omega)
    simp at h
    have : leftR (a.length + sumBy GWrap.cost a) l = -1 := leftR_no (by omega)
    refine W_ret ?_
    simp [Fin, this]
    all_goals omega
  simp at h
  refine W_seq (W_seq (?_))
  apply W_regS
  · intro K hK
    simp
    repeat' (first | with_reducible exact hK | (with_reducible refine goL_split (fun _ => ?_) (fun _ => ?_) <;> simp) | with_reducible refine And.intro ?_ ?_ | with_reducible exact okay_rfl rfl | with_reducible assumption | omega)
  refine W_block (W_loop (fun n st => ∃ (i : Nat) (v : Int), n = a.length - i ∧ i ≤ a.length ∧ 0 ≤ v ∧ v = m - (sumBy GWrap.cost (a.take i) : Nat) ∧
    st = ⟨[], [(0, .d (.slc 6 (rWrap a))), (1, .d (.int .i64 v)), (5, .d (.int .i64 i))], [], 0⟩) _ ⟨0, m, rfl, by omega, h, by simp [sumBy], rfl⟩ ?_)
  rintro n st ⟨i, v, rfl, hi, hv, he, rfl⟩
  refine W_seq (W_seq (?_))
  apply W_regS
  · intro K hK
    simp
    repeat' (first | with_reducible exact hK | (with_reducible refine goL_split (fun _ => ?_) (fun _ => ?_) <;> simp) | with_reducible refine And.intro ?_ ?_ | with_reducible exact okay_rfl rfl | with_reducible assumption | omega)
  refine W_cond rfl (fun h2 => W_skip ?_) (fun h2 => W_exit ?_)
  · simp at h2
    have ha := List.getElem?_eq_getElem h2
    generalize a[i] = x at ha
    have hs := sumBy_succ (f := GWrap.cost) ha
    have ht := sumBy_take GWrap.cost a (i + 1)
    have ct := szWrap_g (GG := GG) x v (hx x (List.mem_of_getElem? ha)) ⟨hv, by omega⟩
    obtain ⟨v2, hv2⟩ : ∃ z : Int, leftR x.cost v = z := ⟨_, rfl⟩
    rw [hv2] at ct
    refine W_seq (W_block (W_seq ?_))
    apply W_regS
    · intro K hK
      simp [ha]
      repeat' (first | with_reducible exact hK | (with_reducible refine callQ (ct) ?_; simp [ha]) | (with_reducible refine goL_split (fun _ => ?_) (fun _ => ?_) <;> simp [ha]) | with_reducible refine And.intro ?_ ?_ | with_reducible exact okay_rfl rfl | with_reducible assumption | omega)
    refine W_seq (?_)
    apply W_regS
    · intro K hK
      simp
      repeat' (first | with_reducible exact hK | (with_reducible refine goL_split (fun _ => ?_) (fun _ => ?_) <;> simp) | with_reducible refine And.intro ?_ ?_ | with_reducible exact okay_rfl rfl | with_reducible assumption | omega)
    refine W_cond rfl (fun h3 => W_seq ?_) (fun h3 => W_skip ?_)
    · apply W_regS
      · intro K hK
        simp
        repeat' (first | with_reducible exact hK | (with_reducible refine goL_split (fun _ => ?_) (fun _ => ?_) <;> simp) | with_reducible refine And.intro ?_ ?_ | with_reducible exact okay_rfl rfl | with_reducible assumption | omega)
      simp at h3
      rw [← hv2] at h3
      have hn := leftR_neg (by omega) h3
      have : leftR (a.length + sumBy GWrap.cost a) l = -1 := leftR_no (by omega)
      refine W_ret ?_
      simp [Fin, this]
      all_goals omega
    simp at h3
    rw [← hv2] at h3
    obtain ⟨g1, g2⟩ := leftR_pos (Int.not_lt.2 h3)
    rw [hv2] at g2
    apply W_regS
    · intro K hK
      simp
      repeat' (first | with_reducible exact hK | (with_reducible refine goL_split (fun _ => ?_) (fun _ => ?_) <;> simp) | with_reducible refine And.intro ?_ ?_ | with_reducible exact okay_rfl rfl | with_reducible assumption | omega)
    exact ⟨a.length - (i + 1), by omega, i + 1, v2, rfl, h2, by omega, by omega, by simp [gc, closeN, liveA, gcV, gcO, renA, namesAs, namesA]; rw [wrap_id (by omega) (by omega)]⟩
  · simp at h2
    rw [if_pos rfl]
    rw [List.take_of_length_le h2] at he
    refine W_seq (?_)
    apply W_regS
    · intro K hK
      simp
      repeat' (first | with_reducible exact hK | (with_reducible refine goL_split (fun _ => ?_) (fun _ => ?_) <;> simp) | with_reducible refine And.intro ?_ ?_ | with_reducible exact okay_rfl rfl | with_reducible assumption | omega)
    have : leftR (a.length + sumBy GWrap.cost a) l = v := by rw [leftR_yes (by omega)]; omega
    refine W_ret ?_
    simp [Fin, this]
    all_goals omega

theorem toWrap_g (x : GWrap) (hx : x.cost ≤ 1099511627776) : Valid PP GG F_L_toWrap [.agg x.c] (.agg x.o) [none] := by
  refine v_L_toWrap [.agg x.o] rfl rfl ?_
  have hco : x.cost = x.fKind.length + x.fBox.cost := rfl
  refine W_seq (?_)
  apply W_regS
  · intro K hK
    simp
    repeat' (first | with_reducible exact hK | (with_reducible refine goL_split (fun _ => ?_) (fun _ => ?_) <;> simp) | with_reducible refine And.intro ?_ ?_ | with_reducible exact okay_rfl rfl | with_reducible assumption | omega)
  refine W_seq (?_)
  apply W_regS
  · intro K hK
    simp
    repeat' (first | with_reducible exact hK | (with_reducible refine goL_split (fun _ => ?_) (fun _ => ?_) <;> simp) | with_reducible refine And.intro ?_ ?_ | with_reducible exact okay_rfl rfl | with_reducible assumption | omega)
  refine W_seq (?_)
  apply W_regS
  · intro K hK
    simp
    repeat' (first | with_reducible exact hK | (with_reducible refine goL_split (fun _ => ?_) (fun _ => ?_) <;> simp) | with_reducible refine And.intro ?_ ?_ | with_reducible exact okay_rfl rfl | with_reducible assumption | omega)
  refine W_seq (?_)
  apply W_regS
  · intro K hK
    simp
    repeat' (first | with_reducible exact hK | (with_reducible refine goL_split (fun _ => ?_) (fun _ => ?_) <;> simp) | with_reducible refine And.intro ?_ ?_ | with_reducible exact okay_rfl rfl | with_reducible assumption | omega)
  refine W_seq (?_)
  apply W_regS
  · intro K hK
    simp
    repeat' (first | with_reducible exact hK | (with_reducible refine goL_split (fun _ => ?_) (fun _ => ?_) <;> simp) | with_reducible refine And.intro ?_ ?_ | with_reducible exact okay_rfl rfl | with_reducible assumption | omega)
  refine W_seq (?_)
  apply W_regS
  · intro K hK
    simp
    repeat' (first | with_reducible exact hK | (with_reducible refine callQ (toBox_g x.fBox (by omega)) ?_; simp) | (with_reducible refine goL_split (fun _ => ?_) (fun _ => ?_) <;> simp) | with_reducible refine And.intro ?_ ?_ | with_reducible exact okay_rfl rfl | with_reducible assumption | omega)
  refine W_seq (?_)
  apply W_regS
  · intro K hK
    simp
    repeat' (first | with_reducible exact hK | (with_reducible refine goL_split (fun _ => ?_) (fun _ => ?_) <;> simp) | with_reducible refine And.intro ?_ ?_ | with_reducible exact okay_rfl rfl | with_reducible assumption | omega)
  refine W_ret ?_
  simp [Fin]
  all_goals omega

theorem rows6 {R : List (List D)} {i : Nat} (h : ∀ r, r ∈ R → r.length = 6) (hi : i < R.length) : ∃ y0 y1 y2 y3 y4 y5, R[i]? = some [y0, y1, y2, y3, y4, y5] := by
  have h1 := h _ (List.getElem_mem hi)
  have h2 := List.getElem?_eq_getElem hi
  generalize R[i] = r at h1 h2
  match r, h1 with
  | [y0, y1, y2, y3, y4, y5], _ => exact ⟨y0, y1, y2, y3, y4, y5, h2⟩

theorem set6 {R : List (List D)} {i : Nat} {row : List D} (h : ∀ r, r ∈ R → r.length = 6) (hr : row.length = 6) : ∀ r, r ∈ R.set i row → r.length = 6 := by
  intro r hm
  rcases List.mem_or_eq_of_mem_set hm with hm | rfl
  · exact h r hm
  · exact hr

theorem toWrapS_g (a : List GWrap) (hx : a.length + sumBy GWrap.cost a ≤ 1099511627776) : Valid PP GG F_L_toWrapS [.d (.slc 6 (rWrap a))] (.own 1 6 (rWrap a)) [none] := by
  refine v_L_toWrapS [.own 1 6 (rWrap a)] rfl rfl ?_
  refine W_seq (?_)
  apply W_regS
  · intro K hK
    simp
    repeat' (first | with_reducible exact hK | (with_reducible refine goL_split (fun _ => ?_) (fun _ => ?_) <;> simp) | with_reducible refine And.intro ?_ ?_ | with_reducible exact okay_rfl rfl | with_reducible assumption | omega)
  refine W_seq (?_)
  apply W_regS
  · intro K hK
    simp [mkA, limit]
    repeat' (first | with_reducible exact hK | (with_reducible refine goL_split (fun _ => ?_) (fun _ => ?_) <;> simp [mkA, limit]) | with_reducible refine And.intro ?_ ?_ | with_reducible exact okay_rfl rfl | with_reducible assumption | omega)
  refine W_seq (W_seq (?_))
  apply W_regS
  · intro K hK
    simp
    repeat' (first | with_reducible exact hK | (with_reducible refine goL_split (fun _ => ?_) (fun _ => ?_) <;> simp) | with_reducible refine And.intro ?_ ?_ | with_reducible exact okay_rfl rfl | with_reducible assumption | omega)
  refine W_block (W_loop (fun n st => ∃ (i : Nat) (R : List (List D)), n = a.length - i ∧ i ≤ a.length ∧ R.length = a.length ∧ (∀ r, r ∈ R → r.length = 6) ∧ R.take i = rWrap (a.take i) ∧
    st = ⟨[], [(0, .d (.slc 6 (rWrap a))), (3, .sl 0), (4, .d (.int .i64 i))], [(0, .arr 0 1 6 R)], 1⟩) _ ⟨0, List.replicate a.length [.int .i64 0, .int .i64 0, .str [], .int .i64 0, .slc 1 [], .int .i64 0], rfl, by omega, by simp, by intro r hr; rw [List.eq_of_mem_replicate hr]; rfl, rfl, rfl⟩ ?_)
  rintro n st ⟨i, R, rfl, hi, hl, h1, hR, rfl⟩
  refine W_seq (W_seq (?_))
  apply W_regS
  · intro K hK
    simp
    repeat' (first | with_reducible exact hK | (with_reducible refine goL_split (fun _ => ?_) (fun _ => ?_) <;> simp) | with_reducible refine And.intro ?_ ?_ | with_reducible exact okay_rfl rfl | with_reducible assumption | omega)
  refine W_cond rfl (fun h => W_skip ?_) (fun h => W_exit ?_)
  · simp at h
    have ha := List.getElem?_eq_getElem h
    generalize a[i] = x at ha
    have hg := sumBy_get (f := GWrap.cost) ha
    obtain ⟨y0, y1, y2, y3, y4, y5, hd⟩ := rows6 h1 (show i < R.length by omega)
    refine W_seq (W_block ?_)
    apply W_regS
    · intro K hK
      simp [ha, hd, hl]
      repeat' (first | with_reducible exact hK | (with_reducible refine callQ (toWrap_g x (by omega)) ?_; simp [ha, hd, hl]) | (with_reducible refine goL_split (fun _ => ?_) (fun _ => ?_) <;> simp [ha, hd, hl]) | with_reducible refine And.intro ?_ ?_ | with_reducible exact okay_rfl rfl | with_reducible assumption | omega)
    apply W_regS
    · intro K hK
      simp
      repeat' (first | with_reducible exact hK | (with_reducible refine goL_split (fun _ => ?_) (fun _ => ?_) <;> simp) | with_reducible refine And.intro ?_ ?_ | with_reducible exact okay_rfl rfl | with_reducible assumption | omega)
    exact ⟨a.length - (i + 1), by omega, i + 1, R.set i x.row, rfl, h, by simpa using hl, set6 h1 rfl, by rw [take_set_succ (by omega), hR, List.take_add_one, ha, rWrap_app]; rfl,
      by simp [gc, closeN, liveA, gcV, gcO, renA, renO, namesAs, namesA, namesO, posn]; rw [wrap_id (by omega) (by omega)]⟩
  · simp at h
    have e : R = rWrap a := by rwa [List.take_of_length_le (by omega), List.take_of_length_le (by omega)] at hR
    subst e
    rw [if_pos rfl]
    refine W_seq (?_)
    apply W_regS
    · intro K hK
      simp
      repeat' (first | with_reducible exact hK | (with_reducible refine goL_split (fun _ => ?_) (fun _ => ?_) <;> simp) | with_reducible refine And.intro ?_ ?_ | with_reducible exact okay_rfl rfl | with_reducible assumption | omega)
    refine W_ret ?_
    simp [Fin]
    all_goals omega

theorem eqWrap_g (x y : GWrap) (hx : x.cost ≤ 1099511627776) (hy : y.cost ≤ 1099511627776) : Valid PP GG F_L_eqWrap [.agg x.c, .agg y.c] (.d (.bool (decide (x = y)))) [none, none] := by
  refine v_L_eqWrap [.d (.bool (decide (x = y)))] rfl rfl ?_
  have hcx : x.cost = x.fKind.length + x.fBox.cost := rfl
  have hcy : y.cost = y.fKind.length + y.fBox.cost := rfl
  refine W_seq (?_)
  apply W_regS
  · intro K hK
    simp
    repeat' (first | with_reducible exact hK | (with_reducible refine goL_split (fun _ => ?_) (fun _ => ?_) <;> simp) | with_reducible refine And.intro ?_ ?_ | with_reducible exact okay_rfl rfl | with_reducible assumption | omega)
  refine W_seq (W_seq (?_))
  apply W_regS
  · intro K hK
    simp
    repeat' (first | with_reducible exact hK | (with_reducible refine goL_split (fun _ => ?_) (fun _ => ?_) <;> simp) | with_reducible refine And.intro ?_ ?_ | with_reducible exact okay_rfl rfl | with_reducible assumption | omega)
  refine W_cond rfl (fun h => W_seq ?_) (fun h0 => W_skip ?_)
  · apply W_regS
    · intro K hK
      simp
      repeat' (first | with_reducible exact hK | (with_reducible refine goL_split (fun _ => ?_) (fun _ => ?_) <;> simp) | with_reducible refine And.intro ?_ ?_ | with_reducible exact okay_rfl rfl | with_reducible assumption | omega)
    have : decide (x = y) = false := by rw [decide_eq_false_iff_not]; intro e; rw [e] at h; simp at h
    refine W_ret ?_
    simp [Fin, this]
    all_goals omega
  refine W_seq (W_seq (?_))
  apply W_regS
  · intro K hK
    simp
    repeat' (first | with_reducible exact hK | (with_reducible refine goL_split (fun _ => ?_) (fun _ => ?_) <;> simp) | with_reducible refine And.intro ?_ ?_ | with_reducible exact okay_rfl rfl | with_reducible assumption | omega)
  refine W_cond rfl (fun h => W_seq ?_) (fun h1 => W_skip ?_)
  · apply W_regS
    · intro K hK
      simp
      repeat' (first | with_reducible exact hK | (with_reducible refine goL_split (fun _ => ?_) (fun _ => ?_) <;> simp) | with_reducible refine And.intro ?_ ?_ | with_reducible exact okay_rfl rfl | with_reducible assumption | omega)
    have : decide (x = y) = false := by rw [decide_eq_false_iff_not]; intro e; rw [e] at h; simp at h
    refine W_ret ?_
    simp [Fin, this]
    all_goals omega
  refine W_seq (W_seq (?_))
  apply W_regS
  · intro K hK
    simp
    repeat' (first | with_reducible exact hK | (with_reducible refine goL_split (fun _ => ?_) (fun _ => ?_) <;> simp) | with_reducible refine And.intro ?_ ?_ | with_reducible exact okay_rfl rfl | with_reducible assumption | omega)
  refine W_cond rfl (fun h => W_seq ?_) (fun h2 => W_skip ?_)
  · apply W_regS
    · intro K hK
      simp
      repeat' (first | with_reducible exact hK | (with_reducible refine goL_split (fun _ => ?_) (fun _ => ?_) <;> simp) | with_reducible refine And.intro ?_ ?_ | with_reducible exact okay_rfl rfl | with_reducible assumption | omega)
    have : decide (x = y) = false := by rw [decide_eq_false_iff_not]; intro e; rw [e] at h; simp at h
    refine W_ret ?_
    simp [Fin, this]
    all_goals omega
  refine W_seq (W_seq (?_))
  apply W_regS
  · intro K hK
    simp
    repeat' (first | with_reducible exact hK | (with_reducible refine callQ (eqBox_g x.fBox y.fBox (by omega) (by omega)) ?_; simp) | (with_reducible refine goL_split (fun _ => ?_) (fun _ => ?_) <;> simp) | with_reducible refine And.intro ?_ ?_ | with_reducible exact okay_rfl rfl | with_reducible assumption | omega)
  refine W_cond rfl (fun h => W_seq ?_) (fun h3 => W_skip ?_)
  · apply W_regS
    · intro K hK
      simp
      repeat' (first | with_reducible exact hK | (with_reducible refine goL_split (fun _ => ?_) (fun _ => ?_) <;> simp) | with_reducible refine And.intro ?_ ?_ | with_reducible exact okay_rfl rfl | with_reducible assumption | omega)
    have : decide (x = y) = false := by rw [decide_eq_false_iff_not]; intro e; rw [e] at h; simp at h
    refine W_ret ?_
    simp [Fin, this]
    all_goals omega
  refine W_seq (?_)
  apply W_regS
  · intro K hK
    simp
    repeat' (first | with_reducible exact hK | (with_reducible refine goL_split (fun _ => ?_) (fun _ => ?_) <;> simp) | with_reducible refine And.intro ?_ ?_ | with_reducible exact okay_rfl rfl | with_reducible assumption | omega)
  have : decide (x = y) = true := by
    rw [decide_eq_true_iff]
    cases x; cases y
    simp at h0 h1 h2 h3
    simp_all
  refine W_ret ?_
  simp [Fin, this]
  all_goals omega

theorem eqWrapS_g (a b : List GWrap) (hx : a.length + sumBy GWrap.cost a ≤ 1099511627776) (hy : b.length + sumBy GWrap.cost b ≤ 1099511627776) : Valid PP GG F_L_eqWrapS [.d (.slc 6 (rWrap a)), .d (.slc 6 (rWrap b))] (.d (.bool (decide (a = b)))) [none, none] := by
  refine v_L_eqWrapS [.d (.bool (decide (a = b)))] rfl rfl ?_
  refine W_seq (?_)
  apply W_regS
  · intro K hK
    simp
    repeat' (first | with_reducible exact hK | (with_reducible refine goL_split (fun _ => ?_) (fun _ => ?_) <;> simp) | with_reducible refine And.intro ?_ ?_ | with_reducible exact okay_rfl rfl | with_reducible assumption | omega)
  refine W_seq (W_seq (?_))
  apply W_regS
  · intro K hK
    simp
    repeat' (first | with_reducible exact hK | (with_reducible refine goL_split (fun _ => ?_) (fun _ => ?_) <;> simp) | with_reducible refine And.intro ?_ ?_ | with_reducible exact okay_rfl rfl | with_reducible assumption | omega)
  refine W_cond rfl (fun h => W_seq ?_) (fun hlen => W_skip ?_)
  · apply W_regS
    · intro K hK
      simp
      repeat' (first | with_reducible exact hK | (with_reducible refine goL_split (fun _ => ?_) (fun _ => ?_) <;> simp) | with_reducible refine And.intro ?_ ?_ | with_reducible exact okay_rfl rfl | with_reducible assumption | omega)
    have : decide (a = b) = false := by rw [decide_eq_false_iff_not]; intro e; subst e; simp at h
    refine W_ret ?_
    simp [Fin, this]
    all_goals omega
  refine W_seq (W_seq (?_))
  simp at hlen
  apply W_regS
  · intro K hK
    simp
    repeat' (first | with_reducible exact hK | (with_reducible refine goL_split (fun _ => ?_) (fun _ => ?_) <;> simp) | with_reducible refine And.intro ?_ ?_ | with_reducible exact okay_rfl rfl | with_reducible assumption | omega)
  refine W_block (W_loop (fun n st => ∃ i : Nat, n = a.length - i ∧ i ≤ a.length ∧ a.take i = b.take i ∧ st = ⟨[], [(0, .d (.slc 6 (rWrap a))), (1, .d (.slc 6 (rWrap b))), (5, .d (.int .i64 i))], [], 0⟩) _ ⟨0, rfl, by omega, rfl, rfl⟩ ?_)
  rintro n st ⟨i, rfl, hi, he, rfl⟩
  refine W_seq (W_seq (?_))
  apply W_regS
  · intro K hK
    simp
    repeat' (first | with_reducible exact hK | (with_reducible refine goL_split (fun _ => ?_) (fun _ => ?_) <;> simp) | with_reducible refine And.intro ?_ ?_ | with_reducible exact okay_rfl rfl | with_reducible assumption | omega)
  refine W_cond rfl (fun h => W_skip ?_) (fun h => W_exit ?_)
  · simp at h
    have ha := List.getElem?_eq_getElem h
    have hb := List.getElem?_eq_getElem (show i < b.length by omega)
    generalize a[i] = x at ha
    generalize b[i]'_ = y at hb
    have ga := sumBy_get (f := GWrap.cost) ha
    have gb := sumBy_get (f := GWrap.cost) hb
    refine W_seq (W_block (W_seq ?_))
    apply W_regD
    · intro K hK
      simp [ha, hb]
      repeat' (first | with_reducible exact hK | (with_reducible refine callQ (eqWrap_g x y (by omega) (by omega)) ?_; simp [ha, hb]) | (with_reducible refine goL_split (fun _ => ?_) (fun _ => ?_) <;> simp [ha, hb]) | with_reducible refine And.intro ?_ ?_ | with_reducible exact okay_rfl rfl | with_reducible assumption | omega)
    refine W_cond rfl (fun h2 => W_seq ?_) (fun h2 => W_skip ?_)
    · apply W_regS
      · intro K hK
        simp
        repeat' (first | with_reducible exact hK | (with_reducible refine goL_split (fun _ => ?_) (fun _ => ?_) <;> simp) | with_reducible refine And.intro ?_ ?_ | with_reducible exact okay_rfl rfl | with_reducible assumption | omega)
      have : decide (a = b) = false := by rw [decide_eq_false_iff_not]; intro e; subst e; rw [ha] at hb; cases hb; simp at h2
      refine W_ret ?_
      simp [Fin, this]
      all_goals omega
    apply W_regS
    · intro K hK
      simp
      repeat' (first | with_reducible exact hK | (with_reducible refine goL_split (fun _ => ?_) (fun _ => ?_) <;> simp) | with_reducible refine And.intro ?_ ?_ | with_reducible exact okay_rfl rfl | with_reducible assumption | omega)
    have hxy : x = y := by simpa using h2
    subst hxy
    exact ⟨a.length - (i + 1), by omega, i + 1, rfl, h, take_succ_eq he ha hb, by simp [gc, closeN, liveA, gcV, gcO, renA, namesAs, namesA]; rw [wrap_id (by omega) (by omega)]⟩
  · simp at h
    rw [if_pos rfl]
    refine W_seq (?_)
    apply W_regS
    · intro K hK
      simp
      repeat' (first | with_reducible exact hK | (with_reducible refine goL_split (fun _ => ?_) (fun _ => ?_) <;> simp) | with_reducible refine And.intro ?_ ?_ | with_reducible exact okay_rfl rfl | with_reducible assumption | omega)
    have : decide (a = b) = true := by
      rw [decide_eq_true_iff]
      rwa [List.take_of_length_le h, List.take_of_length_le (by omega)] at he
    refine W_ret ?_
    simp [Fin, this]
    all_goals omega

theorem markWrapS_g (a : List GWrap) (k : Int) (hx : a.length + sumBy GWrap.cost a ≤ 1099511627776) (hk : 0 ≤ k ∧ k + (sumBy GWrap.marks a : Nat) ≤ 140737488355328) :
    Valid PP GG F_L_markWrapS [.own 1 6 (rWrap a), .d (.int .i64 k)] (.d (.int .i64 (k + (sumBy GWrap.marks a : Nat)))) [some (.own 1 6 (rWrap (markL GWrap.mark GWrap.marks a k))), none] := by
  refine v_L_markWrapS [.d (.int .i64 (k + (sumBy GWrap.marks a : Nat)))] rfl rfl ?_
  have hml := sumBy_le GWrap.marks_le a
  refine W_seq (?_)
  apply W_regS
  · intro K hK
    simp
    repeat' (first | with_reducible exact hK | (with_reducible refine goL_split (fun _ => ?_) (fun _ => ?_) <;> simp) | with_reducible refine And.intro ?_ ?_ | with_reducible exact okay_rfl rfl | with_reducible assumption | omega)
  refine W_seq (W_seq (?_))
  apply W_regS
  · intro K hK
    simp
    repeat' (first | with_reducible exact hK | (with_reducible refine goL_split (fun _ => ?_) (fun _ => ?_) <;> simp) | with_reducible refine And.intro ?_ ?_ | with_reducible exact okay_rfl rfl | with_reducible assumption | omega)
  refine W_block (W_loop (fun n st => ∃ (i : Nat) (R : List (List D)) (q : Int), n = a.length - i ∧ i ≤ a.length ∧ R = rWrap (markL GWrap.mark GWrap.marks (a.take i) k ++ a.drop i) ∧ q = k + (sumBy GWrap.marks (a.take i) : Nat) ∧
    st = ⟨[], [(0, .sl 0), (1, .d (.int .i64 q)), (5, .d (.int .i64 i))], [(0, .arr 0 1 6 R)], 1⟩) _ ⟨0, rWrap a, k, rfl, by omega, rfl, by simp [sumBy], by simp [gc, closeN, liveA, gcV, gcO, renA, renO, namesAs, namesA, namesO, posn]⟩ ?_)
  rintro n st ⟨i, R, q, rfl, hi, hR, hq, rfl⟩
  have hl : R.length = a.length := by rw [hR]; simp [markL_len]; omega
  refine W_seq (W_seq (?_))
  apply W_regS
  · intro K hK
    simp
    repeat' (first | with_reducible exact hK | (with_reducible refine goL_split (fun _ => ?_) (fun _ => ?_) <;> simp) | with_reducible refine And.intro ?_ ?_ | with_reducible exact okay_rfl rfl | with_reducible assumption | omega)
  refine W_cond rfl (fun h => W_skip ?_) (fun h => W_exit ?_)
  · simp [hl] at h
    have ha := List.getElem?_eq_getElem h
    generalize a[i] = x at ha
    have hg := sumBy_get (f := GWrap.cost) ha
    have hs := sumBy_succ (f := GWrap.marks) ha
    have ht := sumBy_take GWrap.marks a (i + 1)
    have hsucc : R.set i (x.mark q).row = rWrap (markL GWrap.mark GWrap.marks (a.take (i + 1)) k ++ a.drop (i + 1)) := by
      rw [hR, drop_get ha, rWrap_app]
      show (rWrap (markL GWrap.mark GWrap.marks (a.take i) k) ++ x.row :: rWrap (a.drop (i + 1))).set i (x.mark q).row = _
      rw [set_mid (by simp [markL_len]; omega), markL_succ k ha, rWrap_app, rWrap_app, hq]; rfl
    have hd : R[i]? = some x.row := by
      rw [hR, drop_get ha, rWrap_app]
      exact mid_get (by simp [markL_len]; omega)
    have hset := fun y => set_get hd y
    have hme : x.mark q = { fId := q, fEnds := q + 1, fKind := markT (q + 1 + 1), fBox := x.fBox.mark (q + 1 + 1 + 1) } := rfl
    have hms : x.marks = 1 + 1 + 1 + x.fBox.marks := rfl
    have hco : x.cost = x.fKind.length + x.fBox.cost := rfl
    have hcox_fBox : x.fBox.cost = x.fBox.fData.length := rfl
    have hmsx_fBox : x.fBox.marks = 1 + x.fBox.fData.length + 1 := rfl
    have hmex_fBox : ∀ z, x.fBox.mark z = { fNonce := z, fData := marksByte (z + 1) x.fBox.fData.length, fTag := z + 1 + ((x.fBox.fData.length : Nat) : Int) } := fun _ => rfl
    clear hR
    refine W_seq (W_block (W_seq ?_))
    simp only [GWrap.row] at hd
    apply W_regS
    · intro K hK
      simp [hd, hset, hl]
      repeat' (first | with_reducible exact hK | (with_reducible refine goL_split (fun _ => ?_) (fun _ => ?_) <;> simp [hd, hset, hl]) | with_reducible refine And.intro ?_ ?_ | with_reducible exact okay_rfl rfl | with_reducible assumption | omega)
    obtain ⟨q1, hq1⟩ : ∃ z : Int, q + 1 = z := ⟨_, rfl⟩
    have wq1 : IntKind.i64.wrap (q + 1) = q1 := by rw [wrap_id (by omega) (by omega)]; exact hq1
    refine W_seq (?_)
    apply W_regS
    · intro K hK
      simp [wq1]
      repeat' (first | with_reducible exact hK | (with_reducible refine goL_split (fun _ => ?_) (fun _ => ?_) <;> simp [wq1]) | with_reducible refine And.intro ?_ ?_ | with_reducible exact okay_rfl rfl | with_reducible assumption | omega)
    refine W_seq (?_)
    apply W_regS
    · intro K hK
      simp [hd, hset, hl]
      repeat' (first | with_reducible exact hK | (with_reducible refine goL_split (fun _ => ?_) (fun _ => ?_) <;> simp [hd, hset, hl]) | with_reducible refine And.intro ?_ ?_ | with_reducible exact okay_rfl rfl | with_reducible assumption | omega)
    obtain ⟨q2, hq2⟩ : ∃ z : Int, q1 + 1 = z := ⟨_, rfl⟩
    have wq2 : IntKind.i64.wrap (q1 + 1) = q2 := by rw [wrap_id (by omega) (by omega)]; exact hq2
    refine W_seq (?_)
    apply W_regS
    · intro K hK
      simp [wq2]
      repeat' (first | with_reducible exact hK | (with_reducible refine goL_split (fun _ => ?_) (fun _ => ?_) <;> simp [wq2]) | with_reducible refine And.intro ?_ ?_ | with_reducible exact okay_rfl rfl | with_reducible assumption | omega)
    refine W_seq (?_)
    apply W_regS
    · intro K hK
      simp [hd, hset, hl]
      repeat' (first | with_reducible exact hK | (with_reducible refine callQ (markText_ok q2 (by omega)) ?_; simp [hd, hset, hl]) | (with_reducible refine goL_split (fun _ => ?_) (fun _ => ?_) <;> simp [hd, hset, hl]) | with_reducible refine And.intro ?_ ?_ | with_reducible exact okay_rfl rfl | with_reducible assumption | omega)
    obtain ⟨q3, hq3⟩ : ∃ z : Int, q2 + 1 = z := ⟨_, rfl⟩
    have wq3 : IntKind.i64.wrap (q2 + 1) = q3 := by rw [wrap_id (by omega) (by omega)]; exact hq3
    refine W_seq (?_)
    apply W_regS
    · intro K hK
      simp [wq3]
      repeat' (first | with_reducible exact hK | (with_reducible refine goL_split (fun _ => ?_) (fun _ => ?_) <;> simp [wq3]) | with_reducible refine And.intro ?_ ?_ | with_reducible exact okay_rfl rfl | with_reducible assumption | omega)
    refine W_seq (?_)
    apply W_regS
    · intro K hK
      simp [hd, hset, hl]
      repeat' (first | with_reducible exact hK | (with_reducible refine goL_split (fun _ => ?_) (fun _ => ?_) <;> simp [hd, hset, hl]) | with_reducible refine And.intro ?_ ?_ | with_reducible exact okay_rfl rfl | with_reducible assumption | omega)
    obtain ⟨q4, hq4⟩ : ∃ z : Int, q3 + 1 = z := ⟨_, rfl⟩
    have wq4 : IntKind.i64.wrap (q3 + 1) = q4 := by rw [wrap_id (by omega) (by omega)]; exact hq4
    refine W_seq (?_)
    apply W_regS
    · intro K hK
      simp [wq4]
      repeat' (first | with_reducible exact hK | (with_reducible refine goL_split (fun _ => ?_) (fun _ => ?_) <;> simp [wq4]) | with_reducible refine And.intro ?_ ?_ | with_reducible exact okay_rfl rfl | with_reducible assumption | omega)
    have ct := markByteS_ok (GG := GG) (bytesD x.fBox.fData) q4 (by simp [bytesD]) (by simp; omega) (by omega)
    simp only [bytesD_len] at ct
    obtain ⟨q5, hq5⟩ : ∃ z : Int, q4 + x.fBox.fData.length = z := ⟨_, rfl⟩
    rw [hq5] at ct
    refine W_seq (?_)
    apply W_regS
    · intro K hK
      simp [hd, hset, hl]
      repeat' (first | with_reducible exact hK | (with_reducible refine callQ (ct) ?_; simp [hd, hset, hl]) | (with_reducible refine goL_split (fun _ => ?_) (fun _ => ?_) <;> simp [hd, hset, hl]) | with_reducible refine And.intro ?_ ?_ | with_reducible exact okay_rfl rfl | with_reducible assumption | omega)
    clear ct
    refine W_seq (?_)
    apply W_regS
    · intro K hK
      simp [hd, hset, hl]
      repeat' (first | with_reducible exact hK | (with_reducible refine goL_split (fun _ => ?_) (fun _ => ?_) <;> simp [hd, hset, hl]) | with_reducible refine And.intro ?_ ?_ | with_reducible exact okay_rfl rfl | with_reducible assumption | omega)
    obtain ⟨q6, hq6⟩ : ∃ z : Int, q5 + 1 = z := ⟨_, rfl⟩
    have wq6 : IntKind.i64.wrap (q5 + 1) = q6 := by rw [wrap_id (by omega) (by omega)]; exact hq6
    apply W_regS
    · intro K hK
      simp [wq6]
      repeat' (first | with_reducible exact hK | (with_reducible refine goL_split (fun _ => ?_) (fun _ => ?_) <;> simp [wq6]) | with_reducible refine And.intro ?_ ?_ | with_reducible exact okay_rfl rfl | with_reducible assumption | omega)
    apply W_regS
    · intro K hK
      simp
      repeat' (first | with_reducible exact hK | (with_reducible refine goL_split (fun _ => ?_) (fun _ => ?_) <;> simp) | with_reducible refine And.intro ?_ ?_ | with_reducible exact okay_rfl rfl | with_reducible assumption | omega)
    refine ⟨a.length - (i + 1), by omega, i + 1, R.set i (x.mark q).row, q6, rfl, h, hsucc, by omega, ?_⟩
    simp [gc, closeN, liveA, gcV, gcO, renA, renO, namesAs, namesA, namesO, posn]
    refine ⟨wrap_id (by omega) (by omega), ?_⟩
    simp only [hme, hmex_fBox, hq1, hq2, hq3, hq4, hq5, hq6]
  · simp [hl] at h
    have e : R = rWrap (markL GWrap.mark GWrap.marks a k) := by
      rw [List.take_of_length_le h, List.drop_eq_nil_of_le h] at hR; simpa using hR
    rw [List.take_of_length_le h] at hq
    subst e
    rw [if_pos rfl]
    refine W_seq (?_)
    apply W_regS
    · intro K hK
      simp
      repeat' (first | with_reducible exact hK | (with_reducible refine goL_split (fun _ => ?_) (fun _ => ?_) <;> simp) | with_reducible refine And.intro ?_ ?_ | with_reducible exact okay_rfl rfl | with_reducible assumption | omega)
    subst hq
    refine W_ret ?_
    simp [Fin]
    all_goals omega

theorem heldWrapS_g (a : List GWrap) (k : Int) (hx : a.length + sumBy GWrap.cost a ≤ 1099511627776) (hk : 0 ≤ k ∧ k + (sumBy GWrap.marks a : Nat) ≤ 140737488355328) :
    Valid PP GG F_L_heldWrapS [.d (.slc 6 (rWrap (markL GWrap.mark GWrap.marks a k))), .d (.int .i64 k)] (.d (.int .i64 (k + (sumBy GWrap.marks a : Nat)))) [none, none] := by
  refine v_L_heldWrapS [.d (.int .i64 (k + (sumBy GWrap.marks a : Nat)))] rfl rfl ?_
  have hl : (rWrap (markL GWrap.mark GWrap.marks a k)).length = a.length := by simp [markL_len]
  have hget : ∀ (i : Nat) x, a[i]? = some x → (rWrap (markL GWrap.mark GWrap.marks a k))[i]? = some (x.mark (k + (sumBy GWrap.marks (a.take i) : Nat))).row := fun i x h => by rw [rWrap_get, markL_get k h]; rfl
  generalize rWrap (markL GWrap.mark GWrap.marks a k) = B at hl hget ⊢
  refine W_seq (?_)
  apply W_regS
  · intro K hK
    simp
    repeat' (first | with_reducible exact hK | (with_reducible refine goL_split (fun _ => ?_) (fun _ => ?_) <;> simp) | with_reducible refine And.intro ?_ ?_ | with_reducible exact okay_rfl rfl | with_reducible assumption | omega)
  refine W_seq (W_seq (?_))
  apply W_regS
  · intro K hK
    simp
    repeat' (first | with_reducible exact hK | (with_reducible refine goL_split (fun _ => ?_) (fun _ => ?_) <;> simp) | with_reducible refine And.intro ?_ ?_ | with_reducible exact okay_rfl rfl | with_reducible assumption | omega)
  refine W_block (W_loop (fun n st => ∃ (i : Nat) (q : Int), n = a.length - i ∧ i ≤ a.length ∧ q = k + (sumBy GWrap.marks (a.take i) : Nat) ∧
    st = ⟨[], [(0, .d (.slc 6 B)), (1, .d (.int .i64 q)), (5, .d (.int .i64 i))], [], 0⟩) _ ⟨0, k, rfl, by omega, by simp [sumBy], by simp [gc, closeN, liveA, gcV, gcO, renA, renO, namesAs, namesA, namesO, posn]⟩ ?_)
  rintro n st ⟨i, q, rfl, hi, hq, rfl⟩
  refine W_seq (W_seq (?_))
  apply W_regS
  · intro K hK
    simp
    repeat' (first | with_reducible exact hK | (with_reducible refine goL_split (fun _ => ?_) (fun _ => ?_) <;> simp) | with_reducible refine And.intro ?_ ?_ | with_reducible exact okay_rfl rfl | with_reducible assumption | omega)
  refine W_cond rfl (fun h => W_skip ?_) (fun h => W_exit ?_)
  · simp [hl] at h
    have ha := List.getElem?_eq_getElem h
    generalize a[i] = x at ha
    have hg := sumBy_get (f := GWrap.cost) ha
    have hs := sumBy_succ (f := GWrap.marks) ha
    have ht := sumBy_take GWrap.marks a (i + 1)
    have hd := hget i x ha
    rw [← hq] at hd
    have hco : x.cost = x.fKind.length + x.fBox.cost := rfl
    have hms : x.marks = 1 + 1 + 1 + x.fBox.marks := rfl
    have hcox_fBox : x.fBox.cost = x.fBox.fData.length := rfl
    have hmsx_fBox : x.fBox.marks = 1 + x.fBox.fData.length + 1 := rfl
    have hmex_fBox : ∀ z, x.fBox.mark z = { fNonce := z, fData := marksByte (z + 1) x.fBox.fData.length, fTag := z + 1 + ((x.fBox.fData.length : Nat) : Int) } := fun _ => rfl
    simp only [GWrap.row, GWrap.mark, GBox.mark] at hd
    refine W_seq (W_block ?_)
    refine W_seq (W_seq (?_))
    apply W_regS
    · intro K hK
      simp [hd, hl]
      repeat' (first | with_reducible exact hK | (with_reducible refine goL_split (fun _ => ?_) (fun _ => ?_) <;> simp [hd, hl]) | with_reducible refine And.intro ?_ ?_ | with_reducible exact okay_rfl rfl | with_reducible assumption | omega)
    refine W_cond rfl (fun h4 => ?_) (fun h4 => W_skip ?_)
    · simp at h4
    obtain ⟨q1, hq1⟩ : ∃ z : Int, q + 1 = z := ⟨_, rfl⟩
    have wq1 : IntKind.i64.wrap (q + 1) = q1 := by rw [wrap_id (by omega) (by omega)]; exact hq1
    refine W_seq (?_)
    apply W_regS
    · intro K hK
      simp [wq1]
      repeat' (first | with_reducible exact hK | (with_reducible refine goL_split (fun _ => ?_) (fun _ => ?_) <;> simp [wq1]) | with_reducible refine And.intro ?_ ?_ | with_reducible exact okay_rfl rfl | with_reducible assumption | omega)
    simp only [hq1] at hd
    refine W_seq (W_seq (?_))
    apply W_regS
    · intro K hK
      simp [hd, hl]
      repeat' (first | with_reducible exact hK | (with_reducible refine goL_split (fun _ => ?_) (fun _ => ?_) <;> simp [hd, hl]) | with_reducible refine And.intro ?_ ?_ | with_reducible exact okay_rfl rfl | with_reducible assumption | omega)
    refine W_cond rfl (fun h4 => ?_) (fun h4 => W_skip ?_)
    · simp at h4
    obtain ⟨q2, hq2⟩ : ∃ z : Int, q1 + 1 = z := ⟨_, rfl⟩
    have wq2 : IntKind.i64.wrap (q1 + 1) = q2 := by rw [wrap_id (by omega) (by omega)]; exact hq2
    refine W_seq (?_)
    apply W_regS
    · intro K hK
      simp [wq2]
      repeat' (first | with_reducible exact hK | (with_reducible refine goL_split (fun _ => ?_) (fun _ => ?_) <;> simp [wq2]) | with_reducible refine And.intro ?_ ?_ | with_reducible exact okay_rfl rfl | with_reducible assumption | omega)
    simp only [hq2] at hd
    refine W_seq (W_seq (?_))
    apply W_regD
    · intro K hK
      simp [hd, hl]
      repeat' (first | with_reducible exact hK | (with_reducible refine callQ (markText_ok q2 (by omega)) ?_; simp [hd, hl]) | (with_reducible refine goL_split (fun _ => ?_) (fun _ => ?_) <;> simp [hd, hl]) | with_reducible refine And.intro ?_ ?_ | with_reducible exact okay_rfl rfl | with_reducible assumption | omega)
    refine W_cond rfl (fun h4 => ?_) (fun h4 => W_skip ?_)
    · simp at h4
    obtain ⟨q3, hq3⟩ : ∃ z : Int, q2 + 1 = z := ⟨_, rfl⟩
    have wq3 : IntKind.i64.wrap (q2 + 1) = q3 := by rw [wrap_id (by omega) (by omega)]; exact hq3
    refine W_seq (?_)
    apply W_regS
    · intro K hK
      simp [wq3]
      repeat' (first | with_reducible exact hK | (with_reducible refine goL_split (fun _ => ?_) (fun _ => ?_) <;> simp [wq3]) | with_reducible refine And.intro ?_ ?_ | with_reducible exact okay_rfl rfl | with_reducible assumption | omega)
    simp only [hq3] at hd
    refine W_seq (W_seq (?_))
    apply W_regS
    · intro K hK
      simp [hd, hl]
      repeat' (first | with_reducible exact hK | (with_reducible refine goL_split (fun _ => ?_) (fun _ => ?_) <;> simp [hd, hl]) | with_reducible refine And.intro ?_ ?_ | with_reducible exact okay_rfl rfl | with_reducible assumption | omega)
    refine W_cond rfl (fun h4 => ?_) (fun h4 => W_skip ?_)
    · simp at h4
    obtain ⟨q4, hq4⟩ : ∃ z : Int, q3 + 1 = z := ⟨_, rfl⟩
    have wq4 : IntKind.i64.wrap (q3 + 1) = q4 := by rw [wrap_id (by omega) (by omega)]; exact hq4
    refine W_seq (?_)
    apply W_regS
    · intro K hK
      simp [wq4]
      repeat' (first | with_reducible exact hK | (with_reducible refine goL_split (fun _ => ?_) (fun _ => ?_) <;> simp [wq4]) | with_reducible refine And.intro ?_ ?_ | with_reducible exact okay_rfl rfl | with_reducible assumption | omega)
    simp only [hq4] at hd
    have ct := heldByteS_ok (GG := GG) x.fBox.fData.length q4 (by omega) (by omega)
    obtain ⟨q5, hq5⟩ : ∃ z : Int, q4 + x.fBox.fData.length = z := ⟨_, rfl⟩
    rw [hq5] at ct
    refine W_seq (?_)
    apply W_regS
    · intro K hK
      simp [hd, hl]
      repeat' (first | with_reducible exact hK | (with_reducible refine callQ (ct) ?_; simp [hd, hl]) | (with_reducible refine goL_split (fun _ => ?_) (fun _ => ?_) <;> simp [hd, hl]) | with_reducible refine And.intro ?_ ?_ | with_reducible exact okay_rfl rfl | with_reducible assumption | omega)
    clear ct
    simp only [hq5] at hd
    refine W_seq (W_seq (?_))
    apply W_regS
    · intro K hK
      simp
      repeat' (first | with_reducible exact hK | (with_reducible refine goL_split (fun _ => ?_) (fun _ => ?_) <;> simp) | with_reducible refine And.intro ?_ ?_ | with_reducible exact okay_rfl rfl | with_reducible assumption | omega)
    refine W_cond rfl (fun h4 => ?_) (fun h4 => W_skip ?_)
    · simp at h4; omega
    refine W_seq (W_seq (?_))
    apply W_regS
    · intro K hK
      simp [hd, hl]
      repeat' (first | with_reducible exact hK | (with_reducible refine goL_split (fun _ => ?_) (fun _ => ?_) <;> simp [hd, hl]) | with_reducible refine And.intro ?_ ?_ | with_reducible exact okay_rfl rfl | with_reducible assumption | omega)
    refine W_cond rfl (fun h4 => ?_) (fun h4 => W_skip ?_)
    · simp at h4
    obtain ⟨q6, hq6⟩ : ∃ z : Int, q5 + 1 = z := ⟨_, rfl⟩
    have wq6 : IntKind.i64.wrap (q5 + 1) = q6 := by rw [wrap_id (by omega) (by omega)]; exact hq6
    apply W_regS
    · intro K hK
      simp [wq6]
      repeat' (first | with_reducible exact hK | (with_reducible refine goL_split (fun _ => ?_) (fun _ => ?_) <;> simp [wq6]) | with_reducible refine And.intro ?_ ?_ | with_reducible exact okay_rfl rfl | with_reducible assumption | omega)
    apply W_regS
    · intro K hK
      simp
      repeat' (first | with_reducible exact hK | (with_reducible refine goL_split (fun _ => ?_) (fun _ => ?_) <;> simp) | with_reducible refine And.intro ?_ ?_ | with_reducible exact okay_rfl rfl | with_reducible assumption | omega)
    refine ⟨a.length - (i + 1), by omega, i + 1, q6, rfl, h, by omega, ?_⟩
    simp [gc, closeN, liveA, gcV, gcO, renA, renO, namesAs, namesA, namesO, posn]
    rw [wrap_id (by omega) (by omega)]
  · simp [hl] at h
    rw [List.take_of_length_le h] at hq
    rw [if_pos rfl]
    refine W_seq (?_)
    apply W_regS
    · intro K hK
      simp
      repeat' (first | with_reducible exact hK | (with_reducible refine goL_split (fun _ => ?_) (fun _ => ?_) <;> simp) | with_reducible refine And.intro ?_ ?_ | with_reducible exact okay_rfl rfl | with_reducible assumption | omega)
    subst hq
    refine W_ret ?_
    simp [Fin]
    all_goals omega

theorem szRack_g (x : GRack) (l : Int) (hx : x.ok) (h0 : 0 ≤ l ∧ l ≤ 1048576) : Valid PP GG F_L_szRack [.agg x.c, .d (.int .i64 l)] (.d (.int .i64 (leftR x.cost l))) [none, none] := by
  refine v_L_szRack [.d (.int .i64 (leftR x.cost l))] rfl rfl ?_
  have hco : x.cost = (x.fWraps.length + sumBy GWrap.cost x.fWraps) := rfl
  unfold GRack.ok maxLen at hx
  obtain ⟨okKey0, okNext0, okWraps0, okWraps1⟩ := hx
  generalize x.cost = co at hco
  refine W_seq (?_)
  apply W_regS
  · intro K hK
    simp
    repeat' (first | with_reducible exact hK | (with_reducible refine goL_split (fun _ => ?_) (fun _ => ?_) <;> simp) | with_reducible refine And.intro ?_ ?_ | with_reducible exact okay_rfl rfl | with_reducible assumption | omega)
  have ct := szWrapS_g (GG := GG) x.fWraps l (by unfold maxLen; omega) okWraps1 ⟨by omega, by omega⟩
  obtain ⟨l1, el1⟩ : ∃ z : Int, leftR (x.fWraps.length + sumBy GWrap.cost x.fWraps) l = z := ⟨_, rfl⟩
  rw [el1] at ct
  refine W_seq (?_)
  apply W_regS
  · intro K hK
    simp
    repeat' (first | with_reducible exact hK | (with_reducible refine callQ (ct) ?_; simp) | (with_reducible refine goL_split (fun _ => ?_) (fun _ => ?_) <;> simp) | with_reducible refine And.intro ?_ ?_ | with_reducible exact okay_rfl rfl | with_reducible assumption | omega)
  clear ct
  refine W_seq (W_seq (?_))
  apply W_regS
  · intro K hK
    simp
    repeat' (first | with_reducible exact hK | (with_reducible refine goL_split (fun _ => ?_) (fun _ => ?_) <;> simp) | with_reducible refine And.intro ?_ ?_ | with_reducible exact okay_rfl rfl | with_reducible assumption | omega)
  refine W_cond rfl (fun hh0 => W_seq ?_) (fun hh0 => W_skip ?_)
  · apply W_regS
    · intro K hK
      simp
      repeat' (first | with_reducible exact hK | (with_reducible refine goL_split (fun _ => ?_) (fun _ => ?_) <;> simp) | with_reducible refine And.intro ?_ ?_ | with_reducible exact okay_rfl rfl | with_reducible assumption | omega)
    simp at hh0
    rw [← el1] at hh0
    have hn := leftR_neg (by omega) hh0
    have : leftR co l = -1 := leftR_no (by omega)
    refine W_ret ?_
    simp [Fin, this]
    all_goals omega
  simp at hh0
  rw [← el1] at hh0
  obtain ⟨gl1, jl1⟩ := leftR_pos (Int.not_lt.2 hh0)
  rw [el1] at jl1 hh0
  refine W_seq (?_)
  apply W_regS
  · intro K hK
    simp
    repeat' (first | with_reducible exact hK | (with_reducible refine goL_split (fun _ => ?_) (fun _ => ?_) <;> simp) | with_reducible refine And.intro ?_ ?_ | with_reducible exact okay_rfl rfl | with_reducible assumption | omega)
  have : leftR co l = l1 := by rw [leftR_yes (by omega)]; omega
  refine W_ret ?_
  simp [Fin, this]
  all_goals omega

theorem toRack_g (x : GRack) (hx : x.cost ≤ 1099511627776) : Valid PP GG F_L_toRack [.agg x.c] (.agg x.o) [none] := by
  refine v_L_toRack [.agg x.o] rfl rfl ?_
  have hco : x.cost = (x.fWraps.length + sumBy GWrap.cost x.fWraps) := rfl
  refine W_seq (?_)
  apply W_regS
  · intro K hK
    simp
    repeat' (first | with_reducible exact hK | (with_reducible refine goL_split (fun _ => ?_) (fun _ => ?_) <;> simp) | with_reducible refine And.intro ?_ ?_ | with_reducible exact okay_rfl rfl | with_reducible assumption | omega)
  refine W_seq (?_)
  apply W_regS
  · intro K hK
    simp
    repeat' (first | with_reducible exact hK | (with_reducible refine goL_split (fun _ => ?_) (fun _ => ?_) <;> simp) | with_reducible refine And.intro ?_ ?_ | with_reducible exact okay_rfl rfl | with_reducible assumption | omega)
  refine W_seq (?_)
  apply W_regS
  · intro K hK
    simp
    repeat' (first | with_reducible exact hK | (with_reducible refine goL_split (fun _ => ?_) (fun _ => ?_) <;> simp) | with_reducible refine And.intro ?_ ?_ | with_reducible exact okay_rfl rfl | with_reducible assumption | omega)
  refine W_seq (?_)
  apply W_regS
  · intro K hK
    simp
    repeat' (first | with_reducible exact hK | (with_reducible refine goL_split (fun _ => ?_) (fun _ => ?_) <;> simp) | with_reducible refine And.intro ?_ ?_ | with_reducible exact okay_rfl rfl | with_reducible assumption | omega)
  refine W_seq (?_)
  apply W_regS
  · intro K hK
    simp
    repeat' (first | with_reducible exact hK | (with_reducible refine callQ (toWrapS_g x.fWraps (by omega)) ?_; simp) | (with_reducible refine goL_split (fun _ => ?_) (fun _ => ?_) <;> simp) | with_reducible refine And.intro ?_ ?_ | with_reducible exact okay_rfl rfl | with_reducible assumption | omega)
  refine W_seq (?_)
  apply W_regS
  · intro K hK
    simp
    repeat' (first | with_reducible exact hK | (with_reducible refine goL_split (fun _ => ?_) (fun _ => ?_) <;> simp) | with_reducible refine And.intro ?_ ?_ | with_reducible exact okay_rfl rfl | with_reducible assumption | omega)
  refine W_ret ?_
  simp [Fin]
  all_goals omega

theorem eqRack_g (x y : GRack) (hx : x.cost ≤ 1099511627776) (hy : y.cost ≤ 1099511627776) : Valid PP GG F_L_eqRack [.agg x.c, .agg y.c] (.d (.bool (decide (x = y)))) [none, none] := by
  refine v_L_eqRack [.d (.bool (decide (x = y)))] rfl rfl ?_
  have hcx : x.cost = (x.fWraps.length + sumBy GWrap.cost x.fWraps) := rfl
  have hcy : y.cost = (y.fWraps.length + sumBy GWrap.cost y.fWraps) := rfl
  refine W_seq (?_)
  apply W_regS
  · intro K hK
    simp
    repeat' (first | with_reducible exact hK | (with_reducible refine goL_split (fun _ => ?_) (fun _ => ?_) <;> simp) | with_reducible refine And.intro ?_ ?_ | with_reducible exact okay_rfl rfl | with_reducible assumption | omega)
  refine W_seq (W_seq (?_))
  apply W_regS
  · intro K hK
    simp
    repeat' (first | with_reducible exact hK | (with_reducible refine goL_split (fun _ => ?_) (fun _ => ?_) <;> simp) | with_reducible refine And.intro ?_ ?_ | with_reducible exact okay_rfl rfl | with_reducible assumption | omega)
  refine W_cond rfl (fun h => W_seq ?_) (fun h0 => W_skip ?_)
  · apply W_regS
    · intro K hK
      simp
      repeat' (first | with_reducible exact hK | (with_reducible refine goL_split (fun _ => ?_) (fun _ => ?_) <;> simp) | with_reducible refine And.intro ?_ ?_ | with_reducible exact okay_rfl rfl | with_reducible assumption | omega)
    have : decide (x = y) = false := by rw [decide_eq_false_iff_not]; intro e; rw [e] at h; simp at h
    refine W_ret ?_
    simp [Fin, this]
    all_goals omega
  refine W_seq (W_seq (?_))
  apply W_regS
  · intro K hK
    simp
    repeat' (first | with_reducible exact hK | (with_reducible refine goL_split (fun _ => ?_) (fun _ => ?_) <;> simp) | with_reducible refine And.intro ?_ ?_ | with_reducible exact okay_rfl rfl | with_reducible assumption | omega)
  refine W_cond rfl (fun h => W_seq ?_) (fun h1 => W_skip ?_)
  · apply W_regS
    · intro K hK
      simp
      repeat' (first | with_reducible exact hK | (with_reducible refine goL_split (fun _ => ?_) (fun _ => ?_) <;> simp) | with_reducible refine And.intro ?_ ?_ | with_reducible exact okay_rfl rfl | with_reducible assumption | omega)
    have : decide (x = y) = false := by rw [decide_eq_false_iff_not]; intro e; rw [e] at h; simp at h
    refine W_ret ?_
    simp [Fin, this]
    all_goals omega
  refine W_seq (W_seq (?_))
  apply W_regS
  · intro K hK
    simp
    repeat' (first | with_reducible exact hK | (with_reducible refine callQ (eqWrapS_g x.fWraps y.fWraps (by omega) (by omega)) ?_; simp) | (with_reducible refine goL_split (fun _ => ?_) (fun _ => ?_) <;> simp) | with_reducible refine And.intro ?_ ?_ | with_reducible exact okay_rfl rfl | with_reducible assumption | omega)
  refine W_cond rfl (fun h => W_seq ?_) (fun h2 => W_skip ?_)
  · apply W_regS
    · intro K hK
      simp
      repeat' (first | with_reducible exact hK | (with_reducible refine goL_split (fun _ => ?_) (fun _ => ?_) <;> simp) | with_reducible refine And.intro ?_ ?_ | with_reducible exact okay_rfl rfl | with_reducible assumption | omega)
    have : decide (x = y) = false := by rw [decide_eq_false_iff_not]; intro e; rw [e] at h; simp at h
    refine W_ret ?_
    simp [Fin, this]
    all_goals omega
  refine W_seq (?_)
  apply W_regS
  · intro K hK
    simp
    repeat' (first | with_reducible exact hK | (with_reducible refine goL_split (fun _ => ?_) (fun _ => ?_) <;> simp) | with_reducible refine And.intro ?_ ?_ | with_reducible exact okay_rfl rfl | with_reducible assumption | omega)
  have : decide (x = y) = true := by
    rw [decide_eq_true_iff]
    cases x; cases y
    simp at h0 h1 h2
    simp_all
  refine W_ret ?_
  simp [Fin, this]
  all_goals omega

theorem markRack_g (x : GRack) (k : Int) (hx : x.cost ≤ 1099511627776) (hk : 0 ≤ k ∧ k + (x.marksIn : Nat) ≤ 140737488355328) :
    Valid PP GG F_L_markRack [.agg x.o, .d (.int .i64 k)] (.d (.int .i64 (k + (x.marksIn : Nat)))) [some (.agg (x.markIn k).o), none] := by
  refine v_L_markRack [.d (.int .i64 (k + (x.marksIn : Nat)))] rfl rfl ?_
  have hco : x.cost = (x.fWraps.length + sumBy GWrap.cost x.fWraps) := rfl
  have hms : x.marksIn = sumBy GWrap.marks x.fWraps := rfl
  refine W_seq (?_)
  apply W_regS
  · intro K hK
    simp
    repeat' (first | with_reducible exact hK | (with_reducible refine goL_split (fun _ => ?_) (fun _ => ?_) <;> simp) | with_reducible refine And.intro ?_ ?_ | with_reducible exact okay_rfl rfl | with_reducible assumption | omega)
  have ct := markWrapS_g (GG := GG) x.fWraps k (by omega) (by omega)
  refine W_seq (?_)
  apply W_regS
  · intro K hK
    simp
    repeat' (first | with_reducible exact hK | (with_reducible refine callQ (ct) ?_; simp) | (with_reducible refine goL_split (fun _ => ?_) (fun _ => ?_) <;> simp) | with_reducible refine And.intro ?_ ?_ | with_reducible exact okay_rfl rfl | with_reducible assumption | omega)
  refine W_seq (?_)
  apply W_regS
  · intro K hK
    simp
    repeat' (first | with_reducible exact hK | (with_reducible refine goL_split (fun _ => ?_) (fun _ => ?_) <;> simp) | with_reducible refine And.intro ?_ ?_ | with_reducible exact okay_rfl rfl | with_reducible assumption | omega)
  have hfin : (k + ((sumBy GWrap.marks x.fWraps : Nat) : Int)) = k + (x.marksIn : Nat) := by omega
  simp only [GRack.markIn]
  refine W_ret ?_
  simp [Fin, hfin]
  all_goals omega

theorem heldRack_g (x : GRack) (k : Int) (hx : x.cost ≤ 1099511627776) (hk : 0 ≤ k ∧ k + (x.marksIn : Nat) ≤ 140737488355328) :
    Valid PP GG F_L_heldRack [.agg (x.markIn k).c, .d (.int .i64 k)] (.d (.int .i64 (k + (x.marksIn : Nat)))) [none, none] := by
  refine v_L_heldRack [.d (.int .i64 (k + (x.marksIn : Nat)))] rfl rfl ?_
  have hco : x.cost = (x.fWraps.length + sumBy GWrap.cost x.fWraps) := rfl
  have hms : x.marksIn = sumBy GWrap.marks x.fWraps := rfl
  simp only [GRack.markIn]
  refine W_seq (?_)
  apply W_regS
  · intro K hK
    simp
    repeat' (first | with_reducible exact hK | (with_reducible refine goL_split (fun _ => ?_) (fun _ => ?_) <;> simp) | with_reducible refine And.intro ?_ ?_ | with_reducible exact okay_rfl rfl | with_reducible assumption | omega)
  have ct := heldWrapS_g (GG := GG) x.fWraps k (by omega) (by omega)
  refine W_seq (?_)
  apply W_regS
  · intro K hK
    simp
    repeat' (first | with_reducible exact hK | (with_reducible refine callQ (ct) ?_; simp) | (with_reducible refine goL_split (fun _ => ?_) (fun _ => ?_) <;> simp) | with_reducible refine And.intro ?_ ?_ | with_reducible exact okay_rfl rfl | with_reducible assumption | omega)
  refine W_seq (W_seq (?_))
  apply W_regS
  · intro K hK
    simp
    repeat' (first | with_reducible exact hK | (with_reducible refine goL_split (fun _ => ?_) (fun _ => ?_) <;> simp) | with_reducible refine And.intro ?_ ?_ | with_reducible exact okay_rfl rfl | with_reducible assumption | omega)
  refine W_cond rfl (fun h => ?_) (fun h => W_skip ?_)
  · simp at h; omega
  refine W_seq (?_)
  apply W_regS
  · intro K hK
    simp
    repeat' (first | with_reducible exact hK | (with_reducible refine goL_split (fun _ => ?_) (fun _ => ?_) <;> simp) | with_reducible refine And.intro ?_ ?_ | with_reducible exact okay_rfl rfl | with_reducible assumption | omega)
  have hfin : (k + ((sumBy GWrap.marks x.fWraps : Nat) : Int)) = k + (x.marksIn : Nat) := by omega

  refine W_ret ?_
  simp [Fin, hfin]
  all_goals omega

structure GReq where
  fKind : Int
  fToken : Int
  fName : List UInt8
  fPath : List UInt8
  fData : List UInt8
  fNum : Int
  deriving DecidableEq

@[simp] abbrev GReq.row (x : GReq) : List D := [.int .i64 x.fKind, .int .i64 x.fToken, .str x.fName, .str x.fPath, .str x.fData, .int .i64 x.fNum]

@[simp] abbrev GReq.c (x : GReq) : List C := [.d (.int .i64 x.fKind), .d (.int .i64 x.fToken), .d (.str x.fName), .d (.str x.fPath), .d (.str x.fData), .d (.int .i64 x.fNum)]

@[simp] abbrev GReq.o (x : GReq) : List C := [.d (.int .i64 x.fKind), .d (.int .i64 x.fToken), .d (.str x.fName), .d (.str x.fPath), .d (.str x.fData), .d (.int .i64 x.fNum)]

def GReq.cost (x : GReq) : Nat := x.fName.length + x.fPath.length + x.fData.length

def GReq.ok (x : GReq) : Prop := int64 x.fKind ∧ int64 x.fToken ∧ x.fName.length ≤ maxLen ∧ x.fPath.length ≤ maxLen ∧ x.fData.length ≤ maxLen ∧ int64 x.fNum

def segB (b : UInt8) : Bool := decide ((97 ≤ b.toNat ∧ b.toNat ≤ 122 ∨ 48 ≤ b.toNat ∧ b.toNat ≤ 57) ∨ b.toNat = 45)

def segOk (s : List UInt8) : Bool := decide (1 ≤ s.length ∧ s.length ≤ 16) && s.all segB

def headCons (b : UInt8) : List (List UInt8) → List (List UInt8)
  | [] => []
  | p :: ps => (b :: p) :: ps

def headApp (c : List UInt8) : List (List UInt8) → List (List UInt8)
  | [] => []
  | p :: ps => (c ++ p) :: ps

/-- A text cut at each byte c. -/
def cutAt (c : UInt8) : List UInt8 → List (List UInt8)
  | [] => [[]]
  | b :: r => if b = c then [] :: cutAt c r else headCons b (cutAt c r)

theorem cutAt_ne (c : UInt8) (s : List UInt8) : ∃ p ps, cutAt c s = p :: ps := by
  induction s with
  | nil => exact ⟨_, _, rfl⟩
  | cons b r ih =>
    obtain ⟨p, ps, h⟩ := ih
    unfold cutAt
    split
    · exact ⟨_, _, rfl⟩
    · rw [h]; exact ⟨_, _, rfl⟩

theorem headApp_nil (c : UInt8) (s : List UInt8) : headApp [] (cutAt c s) = cutAt c s := by
  obtain ⟨p, ps, h⟩ := cutAt_ne c s
  rw [h]; rfl

theorem headApp_hit (c : UInt8) (cur r : List UInt8) : headApp cur (cutAt c (c :: r)) = cur :: headApp [] (cutAt c r) := by
  rw [headApp_nil, cutAt, if_pos rfl]; simp [headApp]

theorem headApp_miss {c b : UInt8} (h : b ≠ c) (cur r : List UInt8) : headApp cur (cutAt c (b :: r)) = headApp (cur ++ [b]) (cutAt c r) := by
  obtain ⟨p, ps, e⟩ := cutAt_ne c r
  rw [cutAt, if_neg h, e]; simp [headCons, headApp]

theorem cutAt_len (c : UInt8) (s : List UInt8) : (cutAt c s).length ≤ s.length + 1 := by
  induction s with
  | nil => simp [cutAt]
  | cons b r ih =>
    unfold cutAt
    split
    · simp; exact ih
    · obtain ⟨p, ps, e⟩ := cutAt_ne c r
      rw [e] at ih ⊢
      simp [headCons] at ih ⊢; omega

theorem cutAt_mem {c : UInt8} : ∀ (s : List UInt8) {p : List UInt8}, p ∈ cutAt c s → p.length ≤ s.length := by
  intro s
  induction s with
  | nil => intro p h; simp [cutAt] at h; subst h; simp
  | cons b r ih =>
    intro p h
    unfold cutAt at h
    split at h
    · rcases List.mem_cons.1 h with rfl | h
      · simp
      · have := ih h; simp; omega
    · obtain ⟨q, qs, e⟩ := cutAt_ne c r
      rw [e] at h ih
      simp only [headCons] at h
      rcases List.mem_cons.1 h with rfl | h
      · have := ih (List.mem_cons_self ..); simp; omega
      · have := ih (List.mem_cons_of_mem _ h); simp; omega

/-- What is in a text is in one of its pieces, or is the cutting byte. -/
theorem cutAt_all {c : UInt8} {P : UInt8 → Prop} (hc : P c) : ∀ (s : List UInt8), (∀ p, p ∈ cutAt c s → ∀ b, b ∈ p → P b) → ∀ b, b ∈ s → P b := by
  intro s
  induction s with
  | nil => intro _ b h; simp at h
  | cons x r ih =>
    intro h b hb
    unfold cutAt at h
    split at h
    · rename_i e
      rcases List.mem_cons.1 hb with rfl | hb
      · rw [e]; exact hc
      · exact ih (fun p hp => h p (by simp [hp])) b hb
    · obtain ⟨q, qs, e⟩ := cutAt_ne c r
      rw [e] at h ih
      simp only [headCons] at h
      rcases List.mem_cons.1 hb with rfl | hb
      · exact h _ (List.mem_cons_self ..) _ (by simp)
      · refine ih (fun p hp b' hb' => ?_) b hb
        rcases List.mem_cons.1 hp with rfl | hp
        · exact h _ (List.mem_cons_self ..) b' (by simp [hb'])
        · exact h p (by simp [hp]) b' hb'

def segAt (l : List (List UInt8)) (i : Nat) : Bool := match l[i]? with | some s => segOk s || (s == [43]) || (s == [42] && decide (i + 1 = l.length)) | none => true

def globOk (s : List UInt8) : Bool := decide (s.length ≤ 120) && ((List.range (cutAt 47 s).length).all (segAt (cutAt 47 s)) && decide ((cutAt 47 s).length ≤ 8))

def starB (b : UInt8) : Bool := decide (b.toNat = 43 ∨ b.toNat = 42)

def pathOk (s : List UInt8) : Bool := globOk s && !s.any starB

theorem globOk_ascii {s : List UInt8} (h : globOk s = true) : ∀ b, b ∈ s → b.toNat < 128 := by
  simp only [globOk, Bool.and_eq_true, List.all_eq_true, List.mem_range] at h
  refine cutAt_all (c := 47) (P := fun b => b.toNat < 128) (by decide) s fun p hp b hb => ?_
  obtain ⟨i, hi, he⟩ := List.mem_iff_getElem.1 hp
  have := h.2.1 i hi
  unfold segAt at this
  rw [List.getElem?_eq_getElem hi, he] at this
  simp only [Bool.or_eq_true, Bool.and_eq_true, beq_iff_eq] at this
  rcases this with (h1 | h1) | h1
  · unfold segOk at h1
    simp only [Bool.and_eq_true, List.all_eq_true] at h1
    have := h1.2 b hb
    unfold segB at this
    simp at this
    omega
  · subst h1; simp at hb; subst hb; decide
  · obtain ⟨h1, _⟩ := h1; subst h1; simp at hb; subst hb; decide

theorem all_no {α : Type} {p : α → Bool} {l : List α} {i : Nat} {x : α} (h : l[i]? = some x) (hx : p x = false) : l.all p = false := by
  rw [List.all_eq_false]; exact ⟨x, List.mem_of_getElem? h, by simp [hx]⟩

theorem any_yes {α : Type} {p : α → Bool} {l : List α} {i : Nat} {x : α} (h : l[i]? = some x) (hx : p x = true) : l.any p = true := by
  rw [List.any_eq_true]; exact ⟨x, List.mem_of_getElem? h, hx⟩

theorem take_all {α : Type} {p : α → Prop} {l : List α} {i : Nat} {x : α} (ha : l[i]? = some x) (hn : ∀ y, y ∈ l.take i → p y) (hx : p x) : ∀ y, y ∈ l.take (i + 1) → p y := by
  intro y hy
  rw [List.take_add_one, ha] at hy
  rcases List.mem_append.1 hy with hy | hy
  · exact hn y hy
  · simp at hy; subst hy; exact hx

theorem getD_of {s : List UInt8} {i : Nat} {x : UInt8} (h : s[i]? = some x) : s[i]?.getD 0 = x := by rw [h]; rfl

theorem l01Segment_ok (s : List UInt8) (hs : s.length ≤ 281474976710656) : Valid PP GG F_S_l01Segment [.d (.str s)] (.d (.bool (segOk s))) [none] := by
  refine v_S_l01Segment [.d (.bool (segOk s))] rfl rfl ?_
  have cl := l01In_ok (GG := GG) s.length 1 16
  obtain ⟨p, hp⟩ : ∃ p, (decide (1 ≤ (s.length : Int)) && decide ((s.length : Int) ≤ 16)) = p := ⟨_, rfl⟩
  have hp2 : segOk s = (p && s.all segB) := by
    unfold segOk
    rw [← hp]
    congr 1
    rw [Bool.eq_iff_iff]; simp; omega
  rw [hp] at cl
  refine W_seq (?_)
  apply W_regS
  · intro K hK
    simp
    repeat' (first | with_reducible exact hK | (with_reducible refine goL_split (fun _ => ?_) (fun _ => ?_) <;> simp) | with_reducible refine And.intro ?_ ?_ | with_reducible exact okay_rfl rfl | with_reducible assumption | omega)
  refine W_seq (W_seq (?_))
  apply W_regS
  · intro K hK
    simp
    repeat' (first | with_reducible exact hK | (with_reducible refine callQ (cl) ?_; simp) | (with_reducible refine goL_split (fun _ => ?_) (fun _ => ?_) <;> simp) | with_reducible refine And.intro ?_ ?_ | with_reducible exact okay_rfl rfl | with_reducible assumption | omega)
  refine W_cond rfl (fun h => W_seq ?_) (fun h => W_skip ?_)
  · simp at h
    subst h
    apply W_regS
    · intro K hK
      simp
      repeat' (first | with_reducible exact hK | (with_reducible refine goL_split (fun _ => ?_) (fun _ => ?_) <;> simp) | with_reducible refine And.intro ?_ ?_ | with_reducible exact okay_rfl rfl | with_reducible assumption | omega)
    refine W_ret ?_
    simp [Fin, hp2]
    all_goals omega
  simp at h
  subst h
  refine W_seq (W_seq (?_))
  apply W_regS
  · intro K hK
    simp
    repeat' (first | with_reducible exact hK | (with_reducible refine goL_split (fun _ => ?_) (fun _ => ?_) <;> simp) | with_reducible refine And.intro ?_ ?_ | with_reducible exact okay_rfl rfl | with_reducible assumption | omega)
  refine W_block (W_loop (fun n st => ∃ i : Nat, n = s.length - i ∧ i ≤ s.length ∧ (∀ y, y ∈ s.take i → segB y = true) ∧ st = ⟨[], [(0, .d (.str s)), (3, .d (.int .i64 i))], [], 0⟩) _ ⟨0, rfl, by omega, fun y h => by simp at h, rfl⟩ ?_)
  rintro n st ⟨i, rfl, hi, hn, rfl⟩
  refine W_seq (W_seq (?_))
  apply W_regS
  · intro K hK
    simp
    repeat' (first | with_reducible exact hK | (with_reducible refine goL_split (fun _ => ?_) (fun _ => ?_) <;> simp) | with_reducible refine And.intro ?_ ?_ | with_reducible exact okay_rfl rfl | with_reducible assumption | omega)
  refine W_cond rfl (fun h => W_skip ?_) (fun h => W_exit ?_)
  · simp at h
    have ha := List.getElem?_eq_getElem h
    generalize s[i] = x at ha
    have hd := getD_of ha
    refine W_seq (W_block (W_seq ?_))
    apply W_regS
    · intro K hK
      simp [hd]
      repeat' (first | with_reducible exact hK | (with_reducible refine goL_split (fun _ => ?_) (fun _ => ?_) <;> simp [hd]) | with_reducible refine And.intro ?_ ?_ | with_reducible exact okay_rfl rfl | with_reducible assumption | omega)
    obtain ⟨v, hv⟩ : ∃ v, x.toNat = v := ⟨_, rfl⟩
    have hnb : segB x = decide ((97 ≤ v ∧ v ≤ 122 ∨ 48 ≤ v ∧ v ≤ 57) ∨ v = 45) := by rw [← hv]; rfl
    rw [hv]
    refine W_seq (?_)
    refine W_regB 37 (decide (¬ ((97 ≤ v ∧ v ≤ 122 ∨ 48 ≤ v ∧ v ≤ 57) ∨ v = 45))) (fun K hK => ?_) ?_
    · simp
      repeat' (first | exact hK _ _ (by clear hK; first | omega | (exact decide_eq_false (by omega)) | (exact decide_eq_true (by omega)) | (exact (decide_eq_true (by omega)).symm) | (exact (decide_eq_false (by omega)).symm) | (exact decide_eq_decide.2 (by omega)) | (simp only [← decide_not]; exact decide_eq_decide.2 (by omega)) | (simp [*]; done) | (simp [*]; omega) | (simp_all; done) | (simp_all; omega) | (rw [Bool.eq_iff_iff]; simp at *; omega)) | (with_reducible refine goL_split (fun _ => ?_) (fun _ => ?_) <;> simp) | with_reducible refine And.intro ?_ ?_ | with_reducible exact okay_rfl rfl | with_reducible assumption | omega)
    refine W_cond rfl (fun h2 => W_seq ?_) (fun h2 => W_skip ?_)
    · rw [h2]
      apply W_regS
      · intro K hK
        simp
        repeat' (first | with_reducible exact hK | (with_reducible refine goL_split (fun _ => ?_) (fun _ => ?_) <;> simp) | with_reducible refine And.intro ?_ ?_ | with_reducible exact okay_rfl rfl | with_reducible assumption | omega)
      have : segOk s = false := by
        rw [hp2, all_no ha (by rw [hnb]; exact decide_eq_false (of_decide_eq_true h2)), Bool.and_false]
      refine W_ret ?_
      simp [Fin, this]
      all_goals omega
    rw [h2]
    apply W_regS
    · intro K hK
      simp
      repeat' (first | with_reducible exact hK | (with_reducible refine goL_split (fun _ => ?_) (fun _ => ?_) <;> simp) | with_reducible refine And.intro ?_ ?_ | with_reducible exact okay_rfl rfl | with_reducible assumption | omega)
    exact ⟨s.length - (i + 1), by omega, i + 1, rfl, h, take_all ha hn (by rw [hnb]; exact decide_eq_true (Decidable.not_not.1 (of_decide_eq_false h2))), by simp [gc, closeN, liveA, gcV, gcO, renA, namesAs, namesA]; rw [wrap_id (by omega) (by omega)]⟩
  · simp at h
    rw [if_pos rfl]
    rw [List.take_of_length_le h] at hn
    refine W_seq (?_)
    apply W_regS
    · intro K hK
      simp
      repeat' (first | with_reducible exact hK | (with_reducible refine goL_split (fun _ => ?_) (fun _ => ?_) <;> simp) | with_reducible refine And.intro ?_ ?_ | with_reducible exact okay_rfl rfl | with_reducible assumption | omega)
    have : segOk s = true := by rw [hp2, List.all_eq_true.2 hn]; rfl
    refine W_ret ?_
    simp [Fin, this]
    all_goals omega

theorem take_drop_snoc {s : List UInt8} {a i : Nat} {x : UInt8} (h : s[i]? = some x) (ha : a ≤ i) : (s.take (i + 1)).drop a = (s.take i).drop a ++ [x] := by
  have hl := (List.getElem?_eq_some_iff.1 h).1
  rw [List.take_add_one, h, List.drop_append_of_le_length (by rw [List.length_take]; omega)]; rfl

end Go.Proofs.YtmihpclfdicfkaaDoor.Ab

