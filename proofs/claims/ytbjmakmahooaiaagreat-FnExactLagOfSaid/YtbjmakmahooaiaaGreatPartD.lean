/-
  A part of a proof about the given program; what is proved is said where each theorem stands.
-/
import Derived.Test.YtbjmakmahooaiaaGreatFrameA
import Derived.Test.YtbjmakmahooaiaaGreatFrameB
import Derived.Test.YtbjmakmahooaiaaGreatFrameC
import Derived.Test.YtbjmakmahooaiaaGreatFrameD
import Derived.Test.YtbjmakmahooaiaaGreatHead
import Derived.Test.YtbjmakmahooaiaaGreatShelf
import Derived.Test.YtbjmakmahooaiaaGreatPartA
import Derived.Test.YtbjmakmahooaiaaGreatPartB
import Derived.Test.YtbjmakmahooaiaaGreatPartC
namespace Go.Proofs
end Go.Proofs
set_option linter.unusedSimpArgs false
set_option linter.unusedVariables false
set_option maxRecDepth 100000
set_option maxHeartbeats 2000000
namespace Go.Proofs.YtbjmakmahooaiaaGreat.Ab
open Go.Proofs
variable {GG : GV}
theorem szPolicyS_g (a : List GPolicy) (l : Int) (hlen : a.length ≤ maxLen) (hx : ∀ x, x ∈ a → x.ok) (h0 : 0 ≤ l ∧ l ≤ 1048576) :
    Valid PP GG 17 [.d (.slc 2 (rPolicy a)), .d (.int .i64 l)] (.d (.int .i64 (leftR (a.length + sumBy GPolicy.cost a) l))) [none, none] := by
  refine cv Tryz.func17 [.d (.int .i64 (leftR (a.length + sumBy GPolicy.cost a) l))] ?_
  unfold maxLen at hlen
  obtain ⟨m, hm⟩ : ∃ z : Int, l - a.length = z := ⟨_, rfl⟩
  have hw : IntKind.i64.wrap (l - a.length) = m := by rw [wrap_id (by omega) (by omega)]; exact hm
  refine W_seq (?_)
  apply W_regS
  · intro K hK
    simp
    repeat' (first | with_reducible exact hK | (with_reducible refine goL_split (fun _ => ?_) (fun _ => ?_) <;> simp) | with_reducible refine And.intro ?_ ?_ | with_reducible exact okay_rfl rfl | with_reducible assumption | omega)
  refine W_seq (?_)
  apply W_regS
  · intro K hK
    simp [hw]
    repeat' (first | with_reducible exact hK | (with_reducible refine goL_split (fun _ => ?_) (fun _ => ?_) <;> simp [hw]) | with_reducible refine And.intro ?_ ?_ | with_reducible exact okay_rfl rfl | with_reducible assumption | omega)
  refine W_seq (W_seq (?_))
  apply W_regS
  · intro K hK
    simp
    repeat' (first | with_reducible exact hK | (with_reducible refine goL_split (fun _ => ?_) (fun _ => ?_) <;> simp) | with_reducible refine And.intro ?_ ?_ | with_reducible exact okay_rfl rfl | with_reducible assumption | omega)
  refine W_cond rfl (fun h => W_seq ?_) (fun h => W_skip ?_)
  · apply W_regS
    · intro K hK
      simp
      repeat' (first | with_reducible exact hK | (with_reducible refine goL_split (fun _ => ?_) (fun _ => ?_) <;> simp) | with_reducible refine And.intro ?_ ?_ | with_reducible exact okay_rfl rfl | with_reducible assumption | omega)
    simp at h
    have : leftR (a.length + sumBy GPolicy.cost a) l = -1 := leftR_no (by omega)
    refine W_ret ?_
    simp [Fin, this]
    all_goals omega
  simp at h
  refine W_seq (W_seq (?_))
  apply W_regS
  · intro K hK
    simp
    repeat' (first | with_reducible exact hK | (with_reducible refine goL_split (fun _ => ?_) (fun _ => ?_) <;> simp) | with_reducible refine And.intro ?_ ?_ | with_reducible exact okay_rfl rfl | with_reducible assumption | omega)
  refine W_block (W_loop (fun n st => ∃ (i : Nat) (v : Int), n = a.length - i ∧ i ≤ a.length ∧ 0 ≤ v ∧ v = m - (sumBy GPolicy.cost (a.take i) : Nat) ∧
    st = ⟨[], [(0, .d (.slc 2 (rPolicy a))), (1, .d (.int .i64 v)), (5, .d (.int .i64 i))], [], 0⟩) _ ⟨0, m, rfl, by omega, h, by simp [sumBy], rfl⟩ ?_)
  rintro n st ⟨i, v, rfl, hi, hv, he, rfl⟩
  refine W_seq (W_seq (?_))
  apply W_regS
  · intro K hK
    simp
    repeat' (first | with_reducible exact hK | (with_reducible refine goL_split (fun _ => ?_) (fun _ => ?_) <;> simp) | with_reducible refine And.intro ?_ ?_ | with_reducible exact okay_rfl rfl | with_reducible assumption | omega)
  refine W_cond rfl (fun h2 => W_skip ?_) (fun h2 => W_exit ?_)
  · simp at h2
    have ha := List.getElem?_eq_getElem h2
    generalize a[i] = x at ha
    have hs := sumBy_succ (f := GPolicy.cost) ha
    have ht := sumBy_take GPolicy.cost a (i + 1)
    have ct := szPolicy_g (GG := GG) x v (hx x (List.mem_of_getElem? ha)) ⟨hv, by omega⟩
    obtain ⟨v2, hv2⟩ : ∃ z : Int, leftR x.cost v = z := ⟨_, rfl⟩
    rw [hv2] at ct
    refine W_seq (W_block (W_seq ?_))
    apply W_regS
    · intro K hK
      simp [ha]
      repeat' (first | with_reducible exact hK | (with_reducible refine callQ (ct) ?_; simp [ha]) | (with_reducible refine goL_split (fun _ => ?_) (fun _ => ?_) <;> simp [ha]) | with_reducible refine And.intro ?_ ?_ | with_reducible exact okay_rfl rfl | with_reducible assumption | omega)
    refine W_seq (?_)
    apply W_regS
    · intro K hK
      simp
      repeat' (first | with_reducible exact hK | (with_reducible refine goL_split (fun _ => ?_) (fun _ => ?_) <;> simp) | with_reducible refine And.intro ?_ ?_ | with_reducible exact okay_rfl rfl | with_reducible assumption | omega)
    refine W_cond rfl (fun h3 => W_seq ?_) (fun h3 => W_skip ?_)
    · apply W_regS
      · intro K hK
        simp
        repeat' (first | with_reducible exact hK | (with_reducible refine goL_split (fun _ => ?_) (fun _ => ?_) <;> simp) | with_reducible refine And.intro ?_ ?_ | with_reducible exact okay_rfl rfl | with_reducible assumption | omega)
      simp at h3
      rw [← hv2] at h3
      have hn := leftR_neg (by omega) h3
      have : leftR (a.length + sumBy GPolicy.cost a) l = -1 := leftR_no (by omega)
      refine W_ret ?_
      simp [Fin, this]
      all_goals omega
    simp at h3
    rw [← hv2] at h3
    obtain ⟨g1, g2⟩ := leftR_pos (Int.not_lt.2 h3)
    rw [hv2] at g2
    apply W_regS
    · intro K hK
      simp
      repeat' (first | with_reducible exact hK | (with_reducible refine goL_split (fun _ => ?_) (fun _ => ?_) <;> simp) | with_reducible refine And.intro ?_ ?_ | with_reducible exact okay_rfl rfl | with_reducible assumption | omega)
    exact ⟨a.length - (i + 1), by omega, i + 1, v2, rfl, h2, by omega, by omega, by simp [gc, closeN, liveA, gcV, gcO, renA, namesAs, namesA]; rw [wrap_id (by omega) (by omega)]⟩
  · simp at h2
    rw [if_pos rfl]
    rw [List.take_of_length_le h2] at he
    refine W_seq (?_)
    apply W_regS
    · intro K hK
      simp
      repeat' (first | with_reducible exact hK | (with_reducible refine goL_split (fun _ => ?_) (fun _ => ?_) <;> simp) | with_reducible refine And.intro ?_ ?_ | with_reducible exact okay_rfl rfl | with_reducible assumption | omega)
    have : leftR (a.length + sumBy GPolicy.cost a) l = v := by rw [leftR_yes (by omega)]; omega
    refine W_ret ?_
    simp [Fin, this]
    all_goals omega
theorem toPolicy_g (x : GPolicy) (hx : x.cost ≤ 1099511627776) : Valid PP GG 64 [.agg x.c] (.agg x.o) [none] := by
  refine cv Tryz.func64 [.agg x.o] ?_
  have hco : x.cost = x.fName.length + (x.fRules.length + sumBy GRule.cost x.fRules) := rfl
  refine W_seq (?_)
  apply W_regS
  · intro K hK
    simp
    repeat' (first | with_reducible exact hK | (with_reducible refine goL_split (fun _ => ?_) (fun _ => ?_) <;> simp) | with_reducible refine And.intro ?_ ?_ | with_reducible exact okay_rfl rfl | with_reducible assumption | omega)
  refine W_seq (?_)
  apply W_regS
  · intro K hK
    simp
    repeat' (first | with_reducible exact hK | (with_reducible refine goL_split (fun _ => ?_) (fun _ => ?_) <;> simp) | with_reducible refine And.intro ?_ ?_ | with_reducible exact okay_rfl rfl | with_reducible assumption | omega)
  refine W_seq (?_)
  apply W_regS
  · intro K hK
    simp
    repeat' (first | with_reducible exact hK | (with_reducible refine goL_split (fun _ => ?_) (fun _ => ?_) <;> simp) | with_reducible refine And.intro ?_ ?_ | with_reducible exact okay_rfl rfl | with_reducible assumption | omega)
  refine W_seq (?_)
  apply W_regS
  · intro K hK
    simp
    repeat' (first | with_reducible exact hK | (with_reducible refine callQ (toRuleS_g x.fRules (by omega)) ?_; simp) | (with_reducible refine goL_split (fun _ => ?_) (fun _ => ?_) <;> simp) | with_reducible refine And.intro ?_ ?_ | with_reducible exact okay_rfl rfl | with_reducible assumption | omega)
  refine W_seq (?_)
  apply W_regS
  · intro K hK
    simp
    repeat' (first | with_reducible exact hK | (with_reducible refine goL_split (fun _ => ?_) (fun _ => ?_) <;> simp) | with_reducible refine And.intro ?_ ?_ | with_reducible exact okay_rfl rfl | with_reducible assumption | omega)
  refine W_ret ?_
  simp [Fin]
  all_goals omega
theorem toPolicyS_g (a : List GPolicy) (hx : a.length + sumBy GPolicy.cost a ≤ 1099511627776) : Valid PP GG 27 [.d (.slc 2 (rPolicy a))] (.own 1 2 (rPolicy a)) [none] := by
  refine cv Tryz.func27 [.own 1 2 (rPolicy a)] ?_
  refine W_seq (?_)
  apply W_regS
  · intro K hK
    simp
    repeat' (first | with_reducible exact hK | (with_reducible refine goL_split (fun _ => ?_) (fun _ => ?_) <;> simp) | with_reducible refine And.intro ?_ ?_ | with_reducible exact okay_rfl rfl | with_reducible assumption | omega)
  refine W_seq (?_)
  apply W_regS
  · intro K hK
    simp [mkA, limit]
    repeat' (first | with_reducible exact hK | (with_reducible refine goL_split (fun _ => ?_) (fun _ => ?_) <;> simp [mkA, limit]) | with_reducible refine And.intro ?_ ?_ | with_reducible exact okay_rfl rfl | with_reducible assumption | omega)
  refine W_seq (W_seq (?_))
  apply W_regS
  · intro K hK
    simp
    repeat' (first | with_reducible exact hK | (with_reducible refine goL_split (fun _ => ?_) (fun _ => ?_) <;> simp) | with_reducible refine And.intro ?_ ?_ | with_reducible exact okay_rfl rfl | with_reducible assumption | omega)
  refine W_block (W_loop (fun n st => ∃ (i : Nat) (R : List (List D)), n = a.length - i ∧ i ≤ a.length ∧ R.length = a.length ∧ (∀ r, r ∈ R → r.length = 2) ∧ R.take i = rPolicy (a.take i) ∧
    st = ⟨[], [(0, .d (.slc 2 (rPolicy a))), (3, .sl 0), (4, .d (.int .i64 i))], [(0, .arr 0 1 2 R)], 1⟩) _ ⟨0, List.replicate a.length [.str [], .slc 2 []], rfl, by omega, by simp, by intro r hr; rw [List.eq_of_mem_replicate hr]; rfl, rfl, rfl⟩ ?_)
  rintro n st ⟨i, R, rfl, hi, hl, h1, hR, rfl⟩
  refine W_seq (W_seq (?_))
  apply W_regS
  · intro K hK
    simp
    repeat' (first | with_reducible exact hK | (with_reducible refine goL_split (fun _ => ?_) (fun _ => ?_) <;> simp) | with_reducible refine And.intro ?_ ?_ | with_reducible exact okay_rfl rfl | with_reducible assumption | omega)
  refine W_cond rfl (fun h => W_skip ?_) (fun h => W_exit ?_)
  · simp at h
    have ha := List.getElem?_eq_getElem h
    generalize a[i] = x at ha
    have hg := sumBy_get (f := GPolicy.cost) ha
    obtain ⟨y0, y1, hd⟩ := rows2 h1 (show i < R.length by omega)
    refine W_seq (W_block ?_)
    apply W_regS
    · intro K hK
      simp [ha, hd, hl]
      repeat' (first | with_reducible exact hK | (with_reducible refine callQ (toPolicy_g x (by omega)) ?_; simp [ha, hd, hl]) | (with_reducible refine goL_split (fun _ => ?_) (fun _ => ?_) <;> simp [ha, hd, hl]) | with_reducible refine And.intro ?_ ?_ | with_reducible exact okay_rfl rfl | with_reducible assumption | omega)
    apply W_regS
    · intro K hK
      simp
      repeat' (first | with_reducible exact hK | (with_reducible refine goL_split (fun _ => ?_) (fun _ => ?_) <;> simp) | with_reducible refine And.intro ?_ ?_ | with_reducible exact okay_rfl rfl | with_reducible assumption | omega)
    exact ⟨a.length - (i + 1), by omega, i + 1, R.set i x.row, rfl, h, by simpa using hl, set2 h1 rfl, by rw [take_set_succ (by omega), hR, List.take_add_one, ha, rPolicy_app]; rfl,
      by simp [gc, closeN, liveA, gcV, gcO, renA, renO, namesAs, namesA, namesO, posn]; rw [wrap_id (by omega) (by omega)]⟩
  · simp at h
    have e : R = rPolicy a := by rwa [List.take_of_length_le (by omega), List.take_of_length_le (by omega)] at hR
    subst e
    rw [if_pos rfl]
    refine W_seq (?_)
    apply W_regS
    · intro K hK
      simp
      repeat' (first | with_reducible exact hK | (with_reducible refine goL_split (fun _ => ?_) (fun _ => ?_) <;> simp) | with_reducible refine And.intro ?_ ?_ | with_reducible exact okay_rfl rfl | with_reducible assumption | omega)
    refine W_ret ?_
    simp [Fin]
    all_goals omega
theorem eqPolicy_g (x y : GPolicy) (hx : x.cost ≤ 1099511627776) (hy : y.cost ≤ 1099511627776) : Valid PP GG 80 [.agg x.c, .agg y.c] (.d (.bool (decide (x = y)))) [none, none] := by
  refine cv Tryz.func80 [.d (.bool (decide (x = y)))] ?_
  have hcx : x.cost = x.fName.length + (x.fRules.length + sumBy GRule.cost x.fRules) := rfl
  have hcy : y.cost = y.fName.length + (y.fRules.length + sumBy GRule.cost y.fRules) := rfl
  refine W_seq (?_)
  apply W_regS
  · intro K hK
    simp
    repeat' (first | with_reducible exact hK | (with_reducible refine goL_split (fun _ => ?_) (fun _ => ?_) <;> simp) | with_reducible refine And.intro ?_ ?_ | with_reducible exact okay_rfl rfl | with_reducible assumption | omega)
  refine W_seq (W_seq (?_))
  apply W_regS
  · intro K hK
    simp
    repeat' (first | with_reducible exact hK | (with_reducible refine goL_split (fun _ => ?_) (fun _ => ?_) <;> simp) | with_reducible refine And.intro ?_ ?_ | with_reducible exact okay_rfl rfl | with_reducible assumption | omega)
  refine W_cond rfl (fun h => W_seq ?_) (fun h0 => W_skip ?_)
  · apply W_regS
    · intro K hK
      simp
      repeat' (first | with_reducible exact hK | (with_reducible refine goL_split (fun _ => ?_) (fun _ => ?_) <;> simp) | with_reducible refine And.intro ?_ ?_ | with_reducible exact okay_rfl rfl | with_reducible assumption | omega)
    have : decide (x = y) = false := by rw [decide_eq_false_iff_not]; intro e; rw [e] at h; simp at h
    refine W_ret ?_
    simp [Fin, this]
    all_goals omega
  refine W_seq (W_seq (?_))
  apply W_regS
  · intro K hK
    simp
    repeat' (first | with_reducible exact hK | (with_reducible refine callQ (eqRuleS_g x.fRules y.fRules (by omega) (by omega)) ?_; simp) | (with_reducible refine goL_split (fun _ => ?_) (fun _ => ?_) <;> simp) | with_reducible refine And.intro ?_ ?_ | with_reducible exact okay_rfl rfl | with_reducible assumption | omega)
  refine W_cond rfl (fun h => W_seq ?_) (fun h1 => W_skip ?_)
  · apply W_regS
    · intro K hK
      simp
      repeat' (first | with_reducible exact hK | (with_reducible refine goL_split (fun _ => ?_) (fun _ => ?_) <;> simp) | with_reducible refine And.intro ?_ ?_ | with_reducible exact okay_rfl rfl | with_reducible assumption | omega)
    have : decide (x = y) = false := by rw [decide_eq_false_iff_not]; intro e; rw [e] at h; simp at h
    refine W_ret ?_
    simp [Fin, this]
    all_goals omega
  refine W_seq (?_)
  apply W_regS
  · intro K hK
    simp
    repeat' (first | with_reducible exact hK | (with_reducible refine goL_split (fun _ => ?_) (fun _ => ?_) <;> simp) | with_reducible refine And.intro ?_ ?_ | with_reducible exact okay_rfl rfl | with_reducible assumption | omega)
  have : decide (x = y) = true := by
    rw [decide_eq_true_iff]
    cases x; cases y
    simp at h0 h1
    simp_all
  refine W_ret ?_
  simp [Fin, this]
  all_goals omega
theorem eqPolicyS_g (a b : List GPolicy) (hx : a.length + sumBy GPolicy.cost a ≤ 1099511627776) (hy : b.length + sumBy GPolicy.cost b ≤ 1099511627776) : Valid PP GG 37 [.d (.slc 2 (rPolicy a)), .d (.slc 2 (rPolicy b))] (.d (.bool (decide (a = b)))) [none, none] := by
  refine cv Tryz.func37 [.d (.bool (decide (a = b)))] ?_
  refine W_seq (?_)
  apply W_regS
  · intro K hK
    simp
    repeat' (first | with_reducible exact hK | (with_reducible refine goL_split (fun _ => ?_) (fun _ => ?_) <;> simp) | with_reducible refine And.intro ?_ ?_ | with_reducible exact okay_rfl rfl | with_reducible assumption | omega)
  refine W_seq (W_seq (?_))
  apply W_regS
  · intro K hK
    simp
    repeat' (first | with_reducible exact hK | (with_reducible refine goL_split (fun _ => ?_) (fun _ => ?_) <;> simp) | with_reducible refine And.intro ?_ ?_ | with_reducible exact okay_rfl rfl | with_reducible assumption | omega)
  refine W_cond rfl (fun h => W_seq ?_) (fun hlen => W_skip ?_)
  · apply W_regS
    · intro K hK
      simp
      repeat' (first | with_reducible exact hK | (with_reducible refine goL_split (fun _ => ?_) (fun _ => ?_) <;> simp) | with_reducible refine And.intro ?_ ?_ | with_reducible exact okay_rfl rfl | with_reducible assumption | omega)
    have : decide (a = b) = false := by rw [decide_eq_false_iff_not]; intro e; subst e; simp at h
    refine W_ret ?_
    simp [Fin, this]
    all_goals omega
  refine W_seq (W_seq (?_))
  simp at hlen
  apply W_regS
  · intro K hK
    simp
    repeat' (first | with_reducible exact hK | (with_reducible refine goL_split (fun _ => ?_) (fun _ => ?_) <;> simp) | with_reducible refine And.intro ?_ ?_ | with_reducible exact okay_rfl rfl | with_reducible assumption | omega)
  refine W_block (W_loop (fun n st => ∃ i : Nat, n = a.length - i ∧ i ≤ a.length ∧ a.take i = b.take i ∧ st = ⟨[], [(0, .d (.slc 2 (rPolicy a))), (1, .d (.slc 2 (rPolicy b))), (5, .d (.int .i64 i))], [], 0⟩) _ ⟨0, rfl, by omega, rfl, rfl⟩ ?_)
  rintro n st ⟨i, rfl, hi, he, rfl⟩
  refine W_seq (W_seq (?_))
  apply W_regS
  · intro K hK
    simp
    repeat' (first | with_reducible exact hK | (with_reducible refine goL_split (fun _ => ?_) (fun _ => ?_) <;> simp) | with_reducible refine And.intro ?_ ?_ | with_reducible exact okay_rfl rfl | with_reducible assumption | omega)
  refine W_cond rfl (fun h => W_skip ?_) (fun h => W_exit ?_)
  · simp at h
    have ha := List.getElem?_eq_getElem h
    have hb := List.getElem?_eq_getElem (show i < b.length by omega)
    generalize a[i] = x at ha
    generalize b[i]'_ = y at hb
    have ga := sumBy_get (f := GPolicy.cost) ha
    have gb := sumBy_get (f := GPolicy.cost) hb
    refine W_seq (W_block (W_seq ?_))
    apply W_regD
    · intro K hK
      simp [ha, hb]
      repeat' (first | with_reducible exact hK | (with_reducible refine callQ (eqPolicy_g x y (by omega) (by omega)) ?_; simp [ha, hb]) | (with_reducible refine goL_split (fun _ => ?_) (fun _ => ?_) <;> simp [ha, hb]) | with_reducible refine And.intro ?_ ?_ | with_reducible exact okay_rfl rfl | with_reducible assumption | omega)
    refine W_cond rfl (fun h2 => W_seq ?_) (fun h2 => W_skip ?_)
    · apply W_regS
      · intro K hK
        simp
        repeat' (first | with_reducible exact hK | (with_reducible refine goL_split (fun _ => ?_) (fun _ => ?_) <;> simp) | with_reducible refine And.intro ?_ ?_ | with_reducible exact okay_rfl rfl | with_reducible assumption | omega)
      have : decide (a = b) = false := by rw [decide_eq_false_iff_not]; intro e; subst e; rw [ha] at hb; cases hb; simp at h2
      refine W_ret ?_
      simp [Fin, this]
      all_goals omega
    apply W_regS
    · intro K hK
      simp
      repeat' (first | with_reducible exact hK | (with_reducible refine goL_split (fun _ => ?_) (fun _ => ?_) <;> simp) | with_reducible refine And.intro ?_ ?_ | with_reducible exact okay_rfl rfl | with_reducible assumption | omega)
    have hxy : x = y := by simpa using h2
    subst hxy
    exact ⟨a.length - (i + 1), by omega, i + 1, rfl, h, take_succ_eq he ha hb, by simp [gc, closeN, liveA, gcV, gcO, renA, namesAs, namesA]; rw [wrap_id (by omega) (by omega)]⟩
  · simp at h
    rw [if_pos rfl]
    refine W_seq (?_)
    apply W_regS
    · intro K hK
      simp
      repeat' (first | with_reducible exact hK | (with_reducible refine goL_split (fun _ => ?_) (fun _ => ?_) <;> simp) | with_reducible refine And.intro ?_ ?_ | with_reducible exact okay_rfl rfl | with_reducible assumption | omega)
    have : decide (a = b) = true := by
      rw [decide_eq_true_iff]
      rwa [List.take_of_length_le h, List.take_of_length_le (by omega)] at he
    refine W_ret ?_
    simp [Fin, this]
    all_goals omega
theorem szVersion_g (x : GVersion) (l : Int) (hx : x.ok) (h0 : 0 ≤ l ∧ l ≤ 1048576) : Valid PP GG 143 [.agg x.c, .d (.int .i64 l)] (.d (.int .i64 (leftR x.cost l))) [none, none] := by
  refine cv Tryz.func143 [.d (.int .i64 (leftR x.cost l))] ?_
  have hco : x.cost = x.fData.length := rfl
  unfold GVersion.ok maxLen at hx
  obtain ⟨okData0, okMade0⟩ := hx
  generalize x.cost = co at hco
  refine W_seq (?_)
  apply W_regS
  · intro K hK
    simp
    repeat' (first | with_reducible exact hK | (with_reducible refine goL_split (fun _ => ?_) (fun _ => ?_) <;> simp) | with_reducible refine And.intro ?_ ?_ | with_reducible exact okay_rfl rfl | with_reducible assumption | omega)
  have ct := szByteS_g (GG := GG) x.fData l (by unfold maxLen; omega) ⟨by omega, by omega⟩
  obtain ⟨l1, el1⟩ : ∃ z : Int, leftR x.fData.length l = z := ⟨_, rfl⟩
  rw [el1] at ct
  refine W_seq (?_)
  apply W_regS
  · intro K hK
    simp
    repeat' (first | with_reducible exact hK | (with_reducible refine callQ (ct) ?_; simp) | (with_reducible refine goL_split (fun _ => ?_) (fun _ => ?_) <;> simp) | with_reducible refine And.intro ?_ ?_ | with_reducible exact okay_rfl rfl | with_reducible assumption | omega)
  clear ct
  refine W_seq (W_seq (?_))
  apply W_regS
  · intro K hK
    simp
    repeat' (first | with_reducible exact hK | (with_reducible refine goL_split (fun _ => ?_) (fun _ => ?_) <;> simp) | with_reducible refine And.intro ?_ ?_ | with_reducible exact okay_rfl rfl | with_reducible assumption | omega)
  refine W_cond rfl (fun hh0 => W_seq ?_) (fun hh0 => W_skip ?_)
  · apply W_regS
    · intro K hK
      simp
      repeat' (first | with_reducible exact hK | (with_reducible refine goL_split (fun _ => ?_) (fun _ => ?_) <;> simp) | with_reducible refine And.intro ?_ ?_ | with_reducible exact okay_rfl rfl | with_reducible assumption | omega)
    simp at hh0
    rw [← el1] at hh0
    have hn := leftR_neg (by omega) hh0
    have : leftR co l = -1 := leftR_no (by omega)
    refine W_ret ?_
    simp [Fin, this]
    all_goals omega
  simp at hh0
  rw [← el1] at hh0
  obtain ⟨gl1, jl1⟩ := leftR_pos (Int.not_lt.2 hh0)
  rw [el1] at jl1 hh0
  refine W_seq (?_)
  apply W_regS
  · intro K hK
    simp
    repeat' (first | with_reducible exact hK | (with_reducible refine goL_split (fun _ => ?_) (fun _ => ?_) <;> simp) | with_reducible refine And.intro ?_ ?_ | with_reducible exact okay_rfl rfl | with_reducible assumption | omega)
  have : leftR co l = l1 := by rw [leftR_yes (by omega)]; omega
  refine W_ret ?_
  simp [Fin, this]
  all_goals omega
theorem szVersionS_g (a : List GVersion) (l : Int) (hlen : a.length ≤ maxLen) (hx : ∀ x, x ∈ a → x.ok) (h0 : 0 ≤ l ∧ l ≤ 1048576) :
    Valid PP GG 123 [.d (.slc 4 (rVersion a)), .d (.int .i64 l)] (.d (.int .i64 (leftR (a.length + sumBy GVersion.cost a) l))) [none, none] := by
  refine cv Tryz.func123 [.d (.int .i64 (leftR (a.length + sumBy GVersion.cost a) l))] ?_
  unfold maxLen at hlen
  obtain ⟨m, hm⟩ : ∃ z : Int, l - a.length = z := ⟨_, rfl⟩
  have hw : IntKind.i64.wrap (l - a.length) = m := by rw [wrap_id (by omega) (by omega)]; exact hm
  refine W_seq (?_)
  apply W_regS
  · intro K hK
    simp
    repeat' (first | with_reducible exact hK | (with_reducible refine goL_split (fun _ => ?_) (fun _ => ?_) <;> simp) | with_reducible refine And.intro ?_ ?_ | with_reducible exact okay_rfl rfl | with_reducible assumption | omega)
  refine W_seq (?_)
  apply W_regS
  · intro K hK
    simp [hw]
    repeat' (first | with_reducible exact hK | (with_reducible refine goL_split (fun _ => ?_) (fun _ => ?_) <;> simp [hw]) | with_reducible refine And.intro ?_ ?_ | with_reducible exact okay_rfl rfl | with_reducible assumption | omega)
  refine W_seq (W_seq (?_))
  apply W_regS
  · intro K hK
    simp
    repeat' (first | with_reducible exact hK | (with_reducible refine goL_split (fun _ => ?_) (fun _ => ?_) <;> simp) | with_reducible refine And.intro ?_ ?_ | with_reducible exact okay_rfl rfl | with_reducible assumption | omega)
  refine W_cond rfl (fun h => W_seq ?_) (fun h => W_skip ?_)
  · apply W_regS
    · intro K hK
      simp
      repeat' (first | with_reducible exact hK | (with_reducible refine goL_split (fun _ => ?_) (fun _ => ?_) <;> simp) | with_reducible refine And.intro ?_ ?_ | with_reducible exact okay_rfl rfl | with_reducible assumption | omega)
    simp at h
    have : leftR (a.length + sumBy GVersion.cost a) l = -1 := leftR_no (by omega)
    refine W_ret ?_
    simp [Fin, this]
    all_goals omega
  simp at h
  refine W_seq (W_seq (?_))
  apply W_regS
  · intro K hK
    simp
    repeat' (first | with_reducible exact hK | (with_reducible refine goL_split (fun _ => ?_) (fun _ => ?_) <;> simp) | with_reducible refine And.intro ?_ ?_ | with_reducible exact okay_rfl rfl | with_reducible assumption | omega)
  refine W_block (W_loop (fun n st => ∃ (i : Nat) (v : Int), n = a.length - i ∧ i ≤ a.length ∧ 0 ≤ v ∧ v = m - (sumBy GVersion.cost (a.take i) : Nat) ∧
    st = ⟨[], [(0, .d (.slc 4 (rVersion a))), (1, .d (.int .i64 v)), (5, .d (.int .i64 i))], [], 0⟩) _ ⟨0, m, rfl, by omega, h, by simp [sumBy], rfl⟩ ?_)
  rintro n st ⟨i, v, rfl, hi, hv, he, rfl⟩
  refine W_seq (W_seq (?_))
  apply W_regS
  · intro K hK
    simp
    repeat' (first | with_reducible exact hK | (with_reducible refine goL_split (fun _ => ?_) (fun _ => ?_) <;> simp) | with_reducible refine And.intro ?_ ?_ | with_reducible exact okay_rfl rfl | with_reducible assumption | omega)
  refine W_cond rfl (fun h2 => W_skip ?_) (fun h2 => W_exit ?_)
  · simp at h2
    have ha := List.getElem?_eq_getElem h2
    generalize a[i] = x at ha
    have hs := sumBy_succ (f := GVersion.cost) ha
    have ht := sumBy_take GVersion.cost a (i + 1)
    have ct := szVersion_g (GG := GG) x v (hx x (List.mem_of_getElem? ha)) ⟨hv, by omega⟩
    obtain ⟨v2, hv2⟩ : ∃ z : Int, leftR x.cost v = z := ⟨_, rfl⟩
    rw [hv2] at ct
    refine W_seq (W_block (W_seq ?_))
    apply W_regS
    · intro K hK
      simp [ha]
      repeat' (first | with_reducible exact hK | (with_reducible refine callQ (ct) ?_; simp [ha]) | (with_reducible refine goL_split (fun _ => ?_) (fun _ => ?_) <;> simp [ha]) | with_reducible refine And.intro ?_ ?_ | with_reducible exact okay_rfl rfl | with_reducible assumption | omega)
    refine W_seq (?_)
    apply W_regS
    · intro K hK
      simp
      repeat' (first | with_reducible exact hK | (with_reducible refine goL_split (fun _ => ?_) (fun _ => ?_) <;> simp) | with_reducible refine And.intro ?_ ?_ | with_reducible exact okay_rfl rfl | with_reducible assumption | omega)
    refine W_cond rfl (fun h3 => W_seq ?_) (fun h3 => W_skip ?_)
    · apply W_regS
      · intro K hK
        simp
        repeat' (first | with_reducible exact hK | (with_reducible refine goL_split (fun _ => ?_) (fun _ => ?_) <;> simp) | with_reducible refine And.intro ?_ ?_ | with_reducible exact okay_rfl rfl | with_reducible assumption | omega)
      simp at h3
      rw [← hv2] at h3
      have hn := leftR_neg (by omega) h3
      have : leftR (a.length + sumBy GVersion.cost a) l = -1 := leftR_no (by omega)
      refine W_ret ?_
      simp [Fin, this]
      all_goals omega
    simp at h3
    rw [← hv2] at h3
    obtain ⟨g1, g2⟩ := leftR_pos (Int.not_lt.2 h3)
    rw [hv2] at g2
    apply W_regS
    · intro K hK
      simp
      repeat' (first | with_reducible exact hK | (with_reducible refine goL_split (fun _ => ?_) (fun _ => ?_) <;> simp) | with_reducible refine And.intro ?_ ?_ | with_reducible exact okay_rfl rfl | with_reducible assumption | omega)
    exact ⟨a.length - (i + 1), by omega, i + 1, v2, rfl, h2, by omega, by omega, by simp [gc, closeN, liveA, gcV, gcO, renA, namesAs, namesA]; rw [wrap_id (by omega) (by omega)]⟩
  · simp at h2
    rw [if_pos rfl]
    rw [List.take_of_length_le h2] at he
    refine W_seq (?_)
    apply W_regS
    · intro K hK
      simp
      repeat' (first | with_reducible exact hK | (with_reducible refine goL_split (fun _ => ?_) (fun _ => ?_) <;> simp) | with_reducible refine And.intro ?_ ?_ | with_reducible exact okay_rfl rfl | with_reducible assumption | omega)
    have : leftR (a.length + sumBy GVersion.cost a) l = v := by rw [leftR_yes (by omega)]; omega
    refine W_ret ?_
    simp [Fin, this]
    all_goals omega
theorem toVersion_g (x : GVersion) (hx : x.cost ≤ 1099511627776) : Valid PP GG 145 [.agg x.c] (.agg x.o) [none] := by
  refine cv Tryz.func145 [.agg x.o] ?_
  have hco : x.cost = x.fData.length := rfl
  refine W_seq (?_)
  apply W_regS
  · intro K hK
    simp
    repeat' (first | with_reducible exact hK | (with_reducible refine goL_split (fun _ => ?_) (fun _ => ?_) <;> simp) | with_reducible refine And.intro ?_ ?_ | with_reducible exact okay_rfl rfl | with_reducible assumption | omega)
  refine W_seq (?_)
  apply W_regS
  · intro K hK
    simp
    repeat' (first | with_reducible exact hK | (with_reducible refine goL_split (fun _ => ?_) (fun _ => ?_) <;> simp) | with_reducible refine And.intro ?_ ?_ | with_reducible exact okay_rfl rfl | with_reducible assumption | omega)
  refine W_seq (?_)
  apply W_regS
  · intro K hK
    simp
    repeat' (first | with_reducible exact hK | (with_reducible refine callQ (toByteS_ok x.fData (by omega)) ?_; simp) | (with_reducible refine goL_split (fun _ => ?_) (fun _ => ?_) <;> simp) | with_reducible refine And.intro ?_ ?_ | with_reducible exact okay_rfl rfl | with_reducible assumption | omega)
  refine W_seq (?_)
  apply W_regS
  · intro K hK
    simp
    repeat' (first | with_reducible exact hK | (with_reducible refine goL_split (fun _ => ?_) (fun _ => ?_) <;> simp) | with_reducible refine And.intro ?_ ?_ | with_reducible exact okay_rfl rfl | with_reducible assumption | omega)
  refine W_seq (?_)
  apply W_regS
  · intro K hK
    simp
    repeat' (first | with_reducible exact hK | (with_reducible refine goL_split (fun _ => ?_) (fun _ => ?_) <;> simp) | with_reducible refine And.intro ?_ ?_ | with_reducible exact okay_rfl rfl | with_reducible assumption | omega)
  refine W_seq (?_)
  apply W_regS
  · intro K hK
    simp
    repeat' (first | with_reducible exact hK | (with_reducible refine goL_split (fun _ => ?_) (fun _ => ?_) <;> simp) | with_reducible refine And.intro ?_ ?_ | with_reducible exact okay_rfl rfl | with_reducible assumption | omega)
  refine W_seq (?_)
  apply W_regS
  · intro K hK
    simp
    repeat' (first | with_reducible exact hK | (with_reducible refine goL_split (fun _ => ?_) (fun _ => ?_) <;> simp) | with_reducible refine And.intro ?_ ?_ | with_reducible exact okay_rfl rfl | with_reducible assumption | omega)
  refine W_ret ?_
  simp [Fin]
  all_goals omega
theorem toVersionS_g (a : List GVersion) (hx : a.length + sumBy GVersion.cost a ≤ 1099511627776) : Valid PP GG 131 [.d (.slc 4 (rVersion a))] (.own 1 4 (rVersion a)) [none] := by
  refine cv Tryz.func131 [.own 1 4 (rVersion a)] ?_
  refine W_seq (?_)
  apply W_regS
  · intro K hK
    simp
    repeat' (first | with_reducible exact hK | (with_reducible refine goL_split (fun _ => ?_) (fun _ => ?_) <;> simp) | with_reducible refine And.intro ?_ ?_ | with_reducible exact okay_rfl rfl | with_reducible assumption | omega)
  refine W_seq (?_)
  apply W_regS
  · intro K hK
    simp [mkA, limit]
    repeat' (first | with_reducible exact hK | (with_reducible refine goL_split (fun _ => ?_) (fun _ => ?_) <;> simp [mkA, limit]) | with_reducible refine And.intro ?_ ?_ | with_reducible exact okay_rfl rfl | with_reducible assumption | omega)
  refine W_seq (W_seq (?_))
  apply W_regS
  · intro K hK
    simp
    repeat' (first | with_reducible exact hK | (with_reducible refine goL_split (fun _ => ?_) (fun _ => ?_) <;> simp) | with_reducible refine And.intro ?_ ?_ | with_reducible exact okay_rfl rfl | with_reducible assumption | omega)
  refine W_block (W_loop (fun n st => ∃ (i : Nat) (R : List (List D)), n = a.length - i ∧ i ≤ a.length ∧ R.length = a.length ∧ (∀ r, r ∈ R → r.length = 4) ∧ R.take i = rVersion (a.take i) ∧
    st = ⟨[], [(0, .d (.slc 4 (rVersion a))), (3, .sl 0), (4, .d (.int .i64 i))], [(0, .arr 0 1 4 R)], 1⟩) _ ⟨0, List.replicate a.length [.slc 1 [], .int .i64 0, .bool false, .bool false], rfl, by omega, by simp, by intro r hr; rw [List.eq_of_mem_replicate hr]; rfl, rfl, rfl⟩ ?_)
  rintro n st ⟨i, R, rfl, hi, hl, h1, hR, rfl⟩
  refine W_seq (W_seq (?_))
  apply W_regS
  · intro K hK
    simp
    repeat' (first | with_reducible exact hK | (with_reducible refine goL_split (fun _ => ?_) (fun _ => ?_) <;> simp) | with_reducible refine And.intro ?_ ?_ | with_reducible exact okay_rfl rfl | with_reducible assumption | omega)
  refine W_cond rfl (fun h => W_skip ?_) (fun h => W_exit ?_)
  · simp at h
    have ha := List.getElem?_eq_getElem h
    generalize a[i] = x at ha
    have hg := sumBy_get (f := GVersion.cost) ha
    obtain ⟨y0, y1, y2, y3, hd⟩ := rows4 h1 (show i < R.length by omega)
    refine W_seq (W_block ?_)
    apply W_regS
    · intro K hK
      simp [ha, hd, hl]
      repeat' (first | with_reducible exact hK | (with_reducible refine callQ (toVersion_g x (by omega)) ?_; simp [ha, hd, hl]) | (with_reducible refine goL_split (fun _ => ?_) (fun _ => ?_) <;> simp [ha, hd, hl]) | with_reducible refine And.intro ?_ ?_ | with_reducible exact okay_rfl rfl | with_reducible assumption | omega)
    apply W_regS
    · intro K hK
      simp
      repeat' (first | with_reducible exact hK | (with_reducible refine goL_split (fun _ => ?_) (fun _ => ?_) <;> simp) | with_reducible refine And.intro ?_ ?_ | with_reducible exact okay_rfl rfl | with_reducible assumption | omega)
    exact ⟨a.length - (i + 1), by omega, i + 1, R.set i x.row, rfl, h, by simpa using hl, set4 h1 rfl, by rw [take_set_succ (by omega), hR, List.take_add_one, ha, rVersion_app]; rfl,
      by simp [gc, closeN, liveA, gcV, gcO, renA, renO, namesAs, namesA, namesO, posn]; rw [wrap_id (by omega) (by omega)]⟩
  · simp at h
    have e : R = rVersion a := by rwa [List.take_of_length_le (by omega), List.take_of_length_le (by omega)] at hR
    subst e
    rw [if_pos rfl]
    refine W_seq (?_)
    apply W_regS
    · intro K hK
      simp
      repeat' (first | with_reducible exact hK | (with_reducible refine goL_split (fun _ => ?_) (fun _ => ?_) <;> simp) | with_reducible refine And.intro ?_ ?_ | with_reducible exact okay_rfl rfl | with_reducible assumption | omega)
    refine W_ret ?_
    simp [Fin]
    all_goals omega
theorem eqVersion_g (x y : GVersion) (hx : x.cost ≤ 1099511627776) (hy : y.cost ≤ 1099511627776) : Valid PP GG 151 [.agg x.c, .agg y.c] (.d (.bool (decide (x = y)))) [none, none] := by
  refine cv Tryz.func151 [.d (.bool (decide (x = y)))] ?_
  have hcx : x.cost = x.fData.length := rfl
  have hcy : y.cost = y.fData.length := rfl
  refine W_seq (?_)
  apply W_regS
  · intro K hK
    simp
    repeat' (first | with_reducible exact hK | (with_reducible refine goL_split (fun _ => ?_) (fun _ => ?_) <;> simp) | with_reducible refine And.intro ?_ ?_ | with_reducible exact okay_rfl rfl | with_reducible assumption | omega)
  refine W_seq (W_seq (?_))
  apply W_regS
  · intro K hK
    simp
    repeat' (first | with_reducible exact hK | (with_reducible refine callQ (eqByteS_ok x.fData y.fData (by omega)) ?_; simp) | (with_reducible refine goL_split (fun _ => ?_) (fun _ => ?_) <;> simp) | with_reducible refine And.intro ?_ ?_ | with_reducible exact okay_rfl rfl | with_reducible assumption | omega)
  refine W_cond rfl (fun h => W_seq ?_) (fun h0 => W_skip ?_)
  · apply W_regS
    · intro K hK
      simp
      repeat' (first | with_reducible exact hK | (with_reducible refine goL_split (fun _ => ?_) (fun _ => ?_) <;> simp) | with_reducible refine And.intro ?_ ?_ | with_reducible exact okay_rfl rfl | with_reducible assumption | omega)
    have : decide (x = y) = false := by rw [decide_eq_false_iff_not]; intro e; rw [e] at h; simp at h
    refine W_ret ?_
    simp [Fin, this]
    all_goals omega
  refine W_seq (W_seq (?_))
  apply W_regS
  · intro K hK
    simp
    repeat' (first | with_reducible exact hK | (with_reducible refine goL_split (fun _ => ?_) (fun _ => ?_) <;> simp) | with_reducible refine And.intro ?_ ?_ | with_reducible exact okay_rfl rfl | with_reducible assumption | omega)
  refine W_cond rfl (fun h => W_seq ?_) (fun h1 => W_skip ?_)
  · apply W_regS
    · intro K hK
      simp
      repeat' (first | with_reducible exact hK | (with_reducible refine goL_split (fun _ => ?_) (fun _ => ?_) <;> simp) | with_reducible refine And.intro ?_ ?_ | with_reducible exact okay_rfl rfl | with_reducible assumption | omega)
    have : decide (x = y) = false := by rw [decide_eq_false_iff_not]; intro e; rw [e] at h; simp at h
    refine W_ret ?_
    simp [Fin, this]
    all_goals omega
  refine W_seq (W_seq (?_))
  apply W_regS
  · intro K hK
    simp
    repeat' (first | with_reducible exact hK | (with_reducible refine goL_split (fun _ => ?_) (fun _ => ?_) <;> simp) | with_reducible refine And.intro ?_ ?_ | with_reducible exact okay_rfl rfl | with_reducible assumption | omega)
  refine W_cond rfl (fun h => W_seq ?_) (fun h2 => W_skip ?_)
  · apply W_regS
    · intro K hK
      simp
      repeat' (first | with_reducible exact hK | (with_reducible refine goL_split (fun _ => ?_) (fun _ => ?_) <;> simp) | with_reducible refine And.intro ?_ ?_ | with_reducible exact okay_rfl rfl | with_reducible assumption | omega)
    have : decide (x = y) = false := by rw [decide_eq_false_iff_not]; intro e; rw [e] at h; simp at h
    refine W_ret ?_
    simp [Fin, this]
    all_goals omega
  refine W_seq (W_seq (?_))
  apply W_regS
  · intro K hK
    simp
    repeat' (first | with_reducible exact hK | (with_reducible refine goL_split (fun _ => ?_) (fun _ => ?_) <;> simp) | with_reducible refine And.intro ?_ ?_ | with_reducible exact okay_rfl rfl | with_reducible assumption | omega)
  refine W_cond rfl (fun h => W_seq ?_) (fun h3 => W_skip ?_)
  · apply W_regS
    · intro K hK
      simp
      repeat' (first | with_reducible exact hK | (with_reducible refine goL_split (fun _ => ?_) (fun _ => ?_) <;> simp) | with_reducible refine And.intro ?_ ?_ | with_reducible exact okay_rfl rfl | with_reducible assumption | omega)
    have : decide (x = y) = false := by rw [decide_eq_false_iff_not]; intro e; rw [e] at h; simp at h
    refine W_ret ?_
    simp [Fin, this]
    all_goals omega
  refine W_seq (?_)
  apply W_regS
  · intro K hK
    simp
    repeat' (first | with_reducible exact hK | (with_reducible refine goL_split (fun _ => ?_) (fun _ => ?_) <;> simp) | with_reducible refine And.intro ?_ ?_ | with_reducible exact okay_rfl rfl | with_reducible assumption | omega)
  have : decide (x = y) = true := by
    rw [decide_eq_true_iff]
    cases x; cases y
    simp at h0 h1 h2 h3
    simp_all
  refine W_ret ?_
  simp [Fin, this]
  all_goals omega
theorem eqVersionS_g (a b : List GVersion) (hx : a.length + sumBy GVersion.cost a ≤ 1099511627776) (hy : b.length + sumBy GVersion.cost b ≤ 1099511627776) : Valid PP GG 140 [.d (.slc 4 (rVersion a)), .d (.slc 4 (rVersion b))] (.d (.bool (decide (a = b)))) [none, none] := by
  refine cv Tryz.func140 [.d (.bool (decide (a = b)))] ?_
  refine W_seq (?_)
  apply W_regS
  · intro K hK
    simp
    repeat' (first | with_reducible exact hK | (with_reducible refine goL_split (fun _ => ?_) (fun _ => ?_) <;> simp) | with_reducible refine And.intro ?_ ?_ | with_reducible exact okay_rfl rfl | with_reducible assumption | omega)
  refine W_seq (W_seq (?_))
  apply W_regS
  · intro K hK
    simp
    repeat' (first | with_reducible exact hK | (with_reducible refine goL_split (fun _ => ?_) (fun _ => ?_) <;> simp) | with_reducible refine And.intro ?_ ?_ | with_reducible exact okay_rfl rfl | with_reducible assumption | omega)
  refine W_cond rfl (fun h => W_seq ?_) (fun hlen => W_skip ?_)
  · apply W_regS
    · intro K hK
      simp
      repeat' (first | with_reducible exact hK | (with_reducible refine goL_split (fun _ => ?_) (fun _ => ?_) <;> simp) | with_reducible refine And.intro ?_ ?_ | with_reducible exact okay_rfl rfl | with_reducible assumption | omega)
    have : decide (a = b) = false := by rw [decide_eq_false_iff_not]; intro e; subst e; simp at h
    refine W_ret ?_
    simp [Fin, this]
    all_goals omega
  refine W_seq (W_seq (?_))
  simp at hlen
  apply W_regS
  · intro K hK
    simp
    repeat' (first | with_reducible exact hK | (with_reducible refine goL_split (fun _ => ?_) (fun _ => ?_) <;> simp) | with_reducible refine And.intro ?_ ?_ | with_reducible exact okay_rfl rfl | with_reducible assumption | omega)
  refine W_block (W_loop (fun n st => ∃ i : Nat, n = a.length - i ∧ i ≤ a.length ∧ a.take i = b.take i ∧ st = ⟨[], [(0, .d (.slc 4 (rVersion a))), (1, .d (.slc 4 (rVersion b))), (5, .d (.int .i64 i))], [], 0⟩) _ ⟨0, rfl, by omega, rfl, rfl⟩ ?_)
  rintro n st ⟨i, rfl, hi, he, rfl⟩
  refine W_seq (W_seq (?_))
  apply W_regS
  · intro K hK
    simp
    repeat' (first | with_reducible exact hK | (with_reducible refine goL_split (fun _ => ?_) (fun _ => ?_) <;> simp) | with_reducible refine And.intro ?_ ?_ | with_reducible exact okay_rfl rfl | with_reducible assumption | omega)
  refine W_cond rfl (fun h => W_skip ?_) (fun h => W_exit ?_)
  · simp at h
    have ha := List.getElem?_eq_getElem h
    have hb := List.getElem?_eq_getElem (show i < b.length by omega)
    generalize a[i] = x at ha
    generalize b[i]'_ = y at hb
    have ga := sumBy_get (f := GVersion.cost) ha
    have gb := sumBy_get (f := GVersion.cost) hb
    refine W_seq (W_block (W_seq ?_))
    apply W_regD
    · intro K hK
      simp [ha, hb]
      repeat' (first | with_reducible exact hK | (with_reducible refine callQ (eqVersion_g x y (by omega) (by omega)) ?_; simp [ha, hb]) | (with_reducible refine goL_split (fun _ => ?_) (fun _ => ?_) <;> simp [ha, hb]) | with_reducible refine And.intro ?_ ?_ | with_reducible exact okay_rfl rfl | with_reducible assumption | omega)
    refine W_cond rfl (fun h2 => W_seq ?_) (fun h2 => W_skip ?_)
    · apply W_regS
      · intro K hK
        simp
        repeat' (first | with_reducible exact hK | (with_reducible refine goL_split (fun _ => ?_) (fun _ => ?_) <;> simp) | with_reducible refine And.intro ?_ ?_ | with_reducible exact okay_rfl rfl | with_reducible assumption | omega)
      have : decide (a = b) = false := by rw [decide_eq_false_iff_not]; intro e; subst e; rw [ha] at hb; cases hb; simp at h2
      refine W_ret ?_
      simp [Fin, this]
      all_goals omega
    apply W_regS
    · intro K hK
      simp
      repeat' (first | with_reducible exact hK | (with_reducible refine goL_split (fun _ => ?_) (fun _ => ?_) <;> simp) | with_reducible refine And.intro ?_ ?_ | with_reducible exact okay_rfl rfl | with_reducible assumption | omega)
    have hxy : x = y := by simpa using h2
    subst hxy
    exact ⟨a.length - (i + 1), by omega, i + 1, rfl, h, take_succ_eq he ha hb, by simp [gc, closeN, liveA, gcV, gcO, renA, namesAs, namesA]; rw [wrap_id (by omega) (by omega)]⟩
  · simp at h
    rw [if_pos rfl]
    refine W_seq (?_)
    apply W_regS
    · intro K hK
      simp
      repeat' (first | with_reducible exact hK | (with_reducible refine goL_split (fun _ => ?_) (fun _ => ?_) <;> simp) | with_reducible refine And.intro ?_ ?_ | with_reducible exact okay_rfl rfl | with_reducible assumption | omega)
    have : decide (a = b) = true := by
      rw [decide_eq_true_iff]
      rwa [List.take_of_length_le h, List.take_of_length_le (by omega)] at he
    refine W_ret ?_
    simp [Fin, this]
    all_goals omega
theorem szEntry_g (x : GEntry) (l : Int) (hx : x.ok) (h0 : 0 ≤ l ∧ l ≤ 1048576) : Valid PP GG 92 [.agg x.c, .d (.int .i64 l)] (.d (.int .i64 (leftR x.cost l))) [none, none] := by
  refine cv Tryz.func92 [.d (.int .i64 (leftR x.cost l))] ?_
  have hco : x.cost = x.fPath.length + (x.fVersions.length + sumBy GVersion.cost x.fVersions) := rfl
  unfold GEntry.ok maxLen at hx
  obtain ⟨okPath0, okFirst0, okVersions0, okVersions1⟩ := hx
  generalize x.cost = co at hco
  refine W_seq (?_)
  apply W_regS
  · intro K hK
    simp
    repeat' (first | with_reducible exact hK | (with_reducible refine goL_split (fun _ => ?_) (fun _ => ?_) <;> simp) | with_reducible refine And.intro ?_ ?_ | with_reducible exact okay_rfl rfl | with_reducible assumption | omega)
  obtain ⟨l1, el1⟩ : ∃ z : Int, l - x.fPath.length = z := ⟨_, rfl⟩
  have wl1 : IntKind.i64.wrap (l - x.fPath.length) = l1 := by rw [wrap_id (by omega) (by omega)]; exact el1
  refine W_seq (?_)
  apply W_regS
  · intro K hK
    simp [wl1]
    repeat' (first | with_reducible exact hK | (with_reducible refine goL_split (fun _ => ?_) (fun _ => ?_) <;> simp [wl1]) | with_reducible refine And.intro ?_ ?_ | with_reducible exact okay_rfl rfl | with_reducible assumption | omega)
  refine W_seq (W_seq (?_))
  apply W_regS
  · intro K hK
    simp
    repeat' (first | with_reducible exact hK | (with_reducible refine goL_split (fun _ => ?_) (fun _ => ?_) <;> simp) | with_reducible refine And.intro ?_ ?_ | with_reducible exact okay_rfl rfl | with_reducible assumption | omega)
  refine W_cond rfl (fun hh0 => W_seq ?_) (fun hh0 => W_skip ?_)
  · apply W_regS
    · intro K hK
      simp
      repeat' (first | with_reducible exact hK | (with_reducible refine goL_split (fun _ => ?_) (fun _ => ?_) <;> simp) | with_reducible refine And.intro ?_ ?_ | with_reducible exact okay_rfl rfl | with_reducible assumption | omega)
    simp at hh0
    have : leftR co l = -1 := leftR_no (by omega)
    refine W_ret ?_
    simp [Fin, this]
    all_goals omega
  simp at hh0
  have ct := szVersionS_g (GG := GG) x.fVersions l1 (by unfold maxLen; omega) okVersions1 ⟨by omega, by omega⟩
  obtain ⟨l2, el2⟩ : ∃ z : Int, leftR (x.fVersions.length + sumBy GVersion.cost x.fVersions) l1 = z := ⟨_, rfl⟩
  rw [el2] at ct
  refine W_seq (?_)
  apply W_regS
  · intro K hK
    simp
    repeat' (first | with_reducible exact hK | (with_reducible refine callQ (ct) ?_; simp) | (with_reducible refine goL_split (fun _ => ?_) (fun _ => ?_) <;> simp) | with_reducible refine And.intro ?_ ?_ | with_reducible exact okay_rfl rfl | with_reducible assumption | omega)
  clear ct
  refine W_seq (W_seq (?_))
  apply W_regS
  · intro K hK
    simp
    repeat' (first | with_reducible exact hK | (with_reducible refine goL_split (fun _ => ?_) (fun _ => ?_) <;> simp) | with_reducible refine And.intro ?_ ?_ | with_reducible exact okay_rfl rfl | with_reducible assumption | omega)
  refine W_cond rfl (fun hh1 => W_seq ?_) (fun hh1 => W_skip ?_)
  · apply W_regS
    · intro K hK
      simp
      repeat' (first | with_reducible exact hK | (with_reducible refine goL_split (fun _ => ?_) (fun _ => ?_) <;> simp) | with_reducible refine And.intro ?_ ?_ | with_reducible exact okay_rfl rfl | with_reducible assumption | omega)
    simp at hh1
    rw [← el2] at hh1
    have hn := leftR_neg (by omega) hh1
    have : leftR co l = -1 := leftR_no (by omega)
    refine W_ret ?_
    simp [Fin, this]
    all_goals omega
  simp at hh1
  rw [← el2] at hh1
  obtain ⟨gl2, jl2⟩ := leftR_pos (Int.not_lt.2 hh1)
  rw [el2] at jl2 hh1
  refine W_seq (?_)
  apply W_regS
  · intro K hK
    simp
    repeat' (first | with_reducible exact hK | (with_reducible refine goL_split (fun _ => ?_) (fun _ => ?_) <;> simp) | with_reducible refine And.intro ?_ ?_ | with_reducible exact okay_rfl rfl | with_reducible assumption | omega)
  have : leftR co l = l2 := by rw [leftR_yes (by omega)]; omega
  refine W_ret ?_
  simp [Fin, this]
  all_goals omega
theorem szEntryS_g (a : List GEntry) (l : Int) (hlen : a.length ≤ maxLen) (hx : ∀ x, x ∈ a → x.ok) (h0 : 0 ≤ l ∧ l ≤ 1048576) :
    Valid PP GG 50 [.d (.slc 3 (rEntry a)), .d (.int .i64 l)] (.d (.int .i64 (leftR (a.length + sumBy GEntry.cost a) l))) [none, none] := by
  refine cv Tryz.func50 [.d (.int .i64 (leftR (a.length + sumBy GEntry.cost a) l))] ?_
  unfold maxLen at hlen
  obtain ⟨m, hm⟩ : ∃ z : Int, l - a.length = z := ⟨_, rfl⟩
  have hw : IntKind.i64.wrap (l - a.length) = m := by rw [wrap_id (by omega) (by omega)]; exact hm
  refine W_seq (?_)
  apply W_regS
  · intro K hK
    simp
    repeat' (first | with_reducible exact hK | (with_reducible refine goL_split (fun _ => ?_) (fun _ => ?_) <;> simp) | with_reducible refine And.intro ?_ ?_ | with_reducible exact okay_rfl rfl | with_reducible assumption | omega)
  refine W_seq (?_)
  apply W_regS
  · intro K hK
    simp [hw]
    repeat' (first | with_reducible exact hK | (with_reducible refine goL_split (fun _ => ?_) (fun _ => ?_) <;> simp [hw]) | with_reducible refine And.intro ?_ ?_ | with_reducible exact okay_rfl rfl | with_reducible assumption | omega)
  refine W_seq (W_seq (?_))
  apply W_regS
  · intro K hK
    simp
    repeat' (first | with_reducible exact hK | (with_reducible refine goL_split (fun _ => ?_) (fun _ => ?_) <;> simp) | with_reducible refine And.intro ?_ ?_ | with_reducible exact okay_rfl rfl | with_reducible assumption | omega)
  refine W_cond rfl (fun h => W_seq ?_) (fun h => W_skip ?_)
  · apply W_regS
    · intro K hK
      simp
      repeat' (first | with_reducible exact hK | (with_reducible refine goL_split (fun _ => ?_) (fun _ => ?_) <;> simp) | with_reducible refine And.intro ?_ ?_ | with_reducible exact okay_rfl rfl | with_reducible assumption | omega)
    simp at h
    have : leftR (a.length + sumBy GEntry.cost a) l = -1 := leftR_no (by omega)
    refine W_ret ?_
    simp [Fin, this]
    all_goals omega
  simp at h
  refine W_seq (W_seq (?_))
  apply W_regS
  · intro K hK
    simp
    repeat' (first | with_reducible exact hK | (with_reducible refine goL_split (fun _ => ?_) (fun _ => ?_) <;> simp) | with_reducible refine And.intro ?_ ?_ | with_reducible exact okay_rfl rfl | with_reducible assumption | omega)
  refine W_block (W_loop (fun n st => ∃ (i : Nat) (v : Int), n = a.length - i ∧ i ≤ a.length ∧ 0 ≤ v ∧ v = m - (sumBy GEntry.cost (a.take i) : Nat) ∧
    st = ⟨[], [(0, .d (.slc 3 (rEntry a))), (1, .d (.int .i64 v)), (5, .d (.int .i64 i))], [], 0⟩) _ ⟨0, m, rfl, by omega, h, by simp [sumBy], rfl⟩ ?_)
  rintro n st ⟨i, v, rfl, hi, hv, he, rfl⟩
  refine W_seq (W_seq (?_))
  apply W_regS
  · intro K hK
    simp
    repeat' (first | with_reducible exact hK | (with_reducible refine goL_split (fun _ => ?_) (fun _ => ?_) <;> simp) | with_reducible refine And.intro ?_ ?_ | with_reducible exact okay_rfl rfl | with_reducible assumption | omega)
  refine W_cond rfl (fun h2 => W_skip ?_) (fun h2 => W_exit ?_)
  · simp at h2
    have ha := List.getElem?_eq_getElem h2
    generalize a[i] = x at ha
    have hs := sumBy_succ (f := GEntry.cost) ha
    have ht := sumBy_take GEntry.cost a (i + 1)
    have ct := szEntry_g (GG := GG) x v (hx x (List.mem_of_getElem? ha)) ⟨hv, by omega⟩
    obtain ⟨v2, hv2⟩ : ∃ z : Int, leftR x.cost v = z := ⟨_, rfl⟩
    rw [hv2] at ct
    refine W_seq (W_block (W_seq ?_))
    apply W_regS
    · intro K hK
      simp [ha]
      repeat' (first | with_reducible exact hK | (with_reducible refine callQ (ct) ?_; simp [ha]) | (with_reducible refine goL_split (fun _ => ?_) (fun _ => ?_) <;> simp [ha]) | with_reducible refine And.intro ?_ ?_ | with_reducible exact okay_rfl rfl | with_reducible assumption | omega)
    refine W_seq (?_)
    apply W_regS
    · intro K hK
      simp
      repeat' (first | with_reducible exact hK | (with_reducible refine goL_split (fun _ => ?_) (fun _ => ?_) <;> simp) | with_reducible refine And.intro ?_ ?_ | with_reducible exact okay_rfl rfl | with_reducible assumption | omega)
    refine W_cond rfl (fun h3 => W_seq ?_) (fun h3 => W_skip ?_)
    · apply W_regS
      · intro K hK
        simp
        repeat' (first | with_reducible exact hK | (with_reducible refine goL_split (fun _ => ?_) (fun _ => ?_) <;> simp) | with_reducible refine And.intro ?_ ?_ | with_reducible exact okay_rfl rfl | with_reducible assumption | omega)
      simp at h3
      rw [← hv2] at h3
      have hn := leftR_neg (by omega) h3
      have : leftR (a.length + sumBy GEntry.cost a) l = -1 := leftR_no (by omega)
      refine W_ret ?_
      simp [Fin, this]
      all_goals omega
    simp at h3
    rw [← hv2] at h3
    obtain ⟨g1, g2⟩ := leftR_pos (Int.not_lt.2 h3)
    rw [hv2] at g2
    apply W_regS
    · intro K hK
      simp
      repeat' (first | with_reducible exact hK | (with_reducible refine goL_split (fun _ => ?_) (fun _ => ?_) <;> simp) | with_reducible refine And.intro ?_ ?_ | with_reducible exact okay_rfl rfl | with_reducible assumption | omega)
    exact ⟨a.length - (i + 1), by omega, i + 1, v2, rfl, h2, by omega, by omega, by simp [gc, closeN, liveA, gcV, gcO, renA, namesAs, namesA]; rw [wrap_id (by omega) (by omega)]⟩
  · simp at h2
    rw [if_pos rfl]
    rw [List.take_of_length_le h2] at he
    refine W_seq (?_)
    apply W_regS
    · intro K hK
      simp
      repeat' (first | with_reducible exact hK | (with_reducible refine goL_split (fun _ => ?_) (fun _ => ?_) <;> simp) | with_reducible refine And.intro ?_ ?_ | with_reducible exact okay_rfl rfl | with_reducible assumption | omega)
    have : leftR (a.length + sumBy GEntry.cost a) l = v := by rw [leftR_yes (by omega)]; omega
    refine W_ret ?_
    simp [Fin, this]
    all_goals omega
theorem toEntry_g (x : GEntry) (hx : x.cost ≤ 1099511627776) : Valid PP GG 103 [.agg x.c] (.agg x.o) [none] := by
  refine cv Tryz.func103 [.agg x.o] ?_
  have hco : x.cost = x.fPath.length + (x.fVersions.length + sumBy GVersion.cost x.fVersions) := rfl
  refine W_seq (?_)
  apply W_regS
  · intro K hK
    simp
    repeat' (first | with_reducible exact hK | (with_reducible refine goL_split (fun _ => ?_) (fun _ => ?_) <;> simp) | with_reducible refine And.intro ?_ ?_ | with_reducible exact okay_rfl rfl | with_reducible assumption | omega)
  refine W_seq (?_)
  apply W_regS
  · intro K hK
    simp
    repeat' (first | with_reducible exact hK | (with_reducible refine goL_split (fun _ => ?_) (fun _ => ?_) <;> simp) | with_reducible refine And.intro ?_ ?_ | with_reducible exact okay_rfl rfl | with_reducible assumption | omega)
  refine W_seq (?_)
  apply W_regS
  · intro K hK
    simp
    repeat' (first | with_reducible exact hK | (with_reducible refine goL_split (fun _ => ?_) (fun _ => ?_) <;> simp) | with_reducible refine And.intro ?_ ?_ | with_reducible exact okay_rfl rfl | with_reducible assumption | omega)
  refine W_seq (?_)
  apply W_regS
  · intro K hK
    simp
    repeat' (first | with_reducible exact hK | (with_reducible refine goL_split (fun _ => ?_) (fun _ => ?_) <;> simp) | with_reducible refine And.intro ?_ ?_ | with_reducible exact okay_rfl rfl | with_reducible assumption | omega)
  refine W_seq (?_)
  apply W_regS
  · intro K hK
    simp
    repeat' (first | with_reducible exact hK | (with_reducible refine callQ (toVersionS_g x.fVersions (by omega)) ?_; simp) | (with_reducible refine goL_split (fun _ => ?_) (fun _ => ?_) <;> simp) | with_reducible refine And.intro ?_ ?_ | with_reducible exact okay_rfl rfl | with_reducible assumption | omega)
  refine W_seq (?_)
  apply W_regS
  · intro K hK
    simp
    repeat' (first | with_reducible exact hK | (with_reducible refine goL_split (fun _ => ?_) (fun _ => ?_) <;> simp) | with_reducible refine And.intro ?_ ?_ | with_reducible exact okay_rfl rfl | with_reducible assumption | omega)
  refine W_ret ?_
  simp [Fin]
  all_goals omega
theorem toEntryS_g (a : List GEntry) (hx : a.length + sumBy GEntry.cost a ≤ 1099511627776) : Valid PP GG 66 [.d (.slc 3 (rEntry a))] (.own 2 3 (rEntry a)) [none] := by
  refine cv Tryz.func66 [.own 2 3 (rEntry a)] ?_
  refine W_seq (?_)
  apply W_regS
  · intro K hK
    simp
    repeat' (first | with_reducible exact hK | (with_reducible refine goL_split (fun _ => ?_) (fun _ => ?_) <;> simp) | with_reducible refine And.intro ?_ ?_ | with_reducible exact okay_rfl rfl | with_reducible assumption | omega)
  refine W_seq (?_)
  apply W_regS
  · intro K hK
    simp [mkA, limit]
    repeat' (first | with_reducible exact hK | (with_reducible refine goL_split (fun _ => ?_) (fun _ => ?_) <;> simp [mkA, limit]) | with_reducible refine And.intro ?_ ?_ | with_reducible exact okay_rfl rfl | with_reducible assumption | omega)
  refine W_seq (W_seq (?_))
  apply W_regS
  · intro K hK
    simp
    repeat' (first | with_reducible exact hK | (with_reducible refine goL_split (fun _ => ?_) (fun _ => ?_) <;> simp) | with_reducible refine And.intro ?_ ?_ | with_reducible exact okay_rfl rfl | with_reducible assumption | omega)
  refine W_block (W_loop (fun n st => ∃ (i : Nat) (R : List (List D)), n = a.length - i ∧ i ≤ a.length ∧ R.length = a.length ∧ (∀ r, r ∈ R → r.length = 3) ∧ R.take i = rEntry (a.take i) ∧
    st = ⟨[], [(0, .d (.slc 3 (rEntry a))), (3, .sl 0), (4, .d (.int .i64 i))], [(0, .arr 0 2 3 R)], 1⟩) _ ⟨0, List.replicate a.length [.str [], .int .i64 0, .slc 4 []], rfl, by omega, by simp, by intro r hr; rw [List.eq_of_mem_replicate hr]; rfl, rfl, rfl⟩ ?_)
  rintro n st ⟨i, R, rfl, hi, hl, h1, hR, rfl⟩
  refine W_seq (W_seq (?_))
  apply W_regS
  · intro K hK
    simp
    repeat' (first | with_reducible exact hK | (with_reducible refine goL_split (fun _ => ?_) (fun _ => ?_) <;> simp) | with_reducible refine And.intro ?_ ?_ | with_reducible exact okay_rfl rfl | with_reducible assumption | omega)
  refine W_cond rfl (fun h => W_skip ?_) (fun h => W_exit ?_)
  · simp at h
    have ha := List.getElem?_eq_getElem h
    generalize a[i] = x at ha
    have hg := sumBy_get (f := GEntry.cost) ha
    obtain ⟨y0, y1, y2, hd⟩ := rows3 h1 (show i < R.length by omega)
    refine W_seq (W_block ?_)
    apply W_regS
    · intro K hK
      simp [ha, hd, hl]
      repeat' (first | with_reducible exact hK | (with_reducible refine callQ (toEntry_g x (by omega)) ?_; simp [ha, hd, hl]) | (with_reducible refine goL_split (fun _ => ?_) (fun _ => ?_) <;> simp [ha, hd, hl]) | with_reducible refine And.intro ?_ ?_ | with_reducible exact okay_rfl rfl | with_reducible assumption | omega)
    apply W_regS
    · intro K hK
      simp
      repeat' (first | with_reducible exact hK | (with_reducible refine goL_split (fun _ => ?_) (fun _ => ?_) <;> simp) | with_reducible refine And.intro ?_ ?_ | with_reducible exact okay_rfl rfl | with_reducible assumption | omega)
    exact ⟨a.length - (i + 1), by omega, i + 1, R.set i x.row, rfl, h, by simpa using hl, set3 h1 rfl, by rw [take_set_succ (by omega), hR, List.take_add_one, ha, rEntry_app]; rfl,
      by simp [gc, closeN, liveA, gcV, gcO, renA, renO, namesAs, namesA, namesO, posn]; rw [wrap_id (by omega) (by omega)]⟩
  · simp at h
    have e : R = rEntry a := by rwa [List.take_of_length_le (by omega), List.take_of_length_le (by omega)] at hR
    subst e
    rw [if_pos rfl]
    refine W_seq (?_)
    apply W_regS
    · intro K hK
      simp
      repeat' (first | with_reducible exact hK | (with_reducible refine goL_split (fun _ => ?_) (fun _ => ?_) <;> simp) | with_reducible refine And.intro ?_ ?_ | with_reducible exact okay_rfl rfl | with_reducible assumption | omega)
    refine W_ret ?_
    simp [Fin]
    all_goals omega
theorem eqEntry_g (x y : GEntry) (hx : x.cost ≤ 1099511627776) (hy : y.cost ≤ 1099511627776) : Valid PP GG 115 [.agg x.c, .agg y.c] (.d (.bool (decide (x = y)))) [none, none] := by
  refine cv Tryz.func115 [.d (.bool (decide (x = y)))] ?_
  have hcx : x.cost = x.fPath.length + (x.fVersions.length + sumBy GVersion.cost x.fVersions) := rfl
  have hcy : y.cost = y.fPath.length + (y.fVersions.length + sumBy GVersion.cost y.fVersions) := rfl
  refine W_seq (?_)
  apply W_regS
  · intro K hK
    simp
    repeat' (first | with_reducible exact hK | (with_reducible refine goL_split (fun _ => ?_) (fun _ => ?_) <;> simp) | with_reducible refine And.intro ?_ ?_ | with_reducible exact okay_rfl rfl | with_reducible assumption | omega)
  refine W_seq (W_seq (?_))
  apply W_regS
  · intro K hK
    simp
    repeat' (first | with_reducible exact hK | (with_reducible refine goL_split (fun _ => ?_) (fun _ => ?_) <;> simp) | with_reducible refine And.intro ?_ ?_ | with_reducible exact okay_rfl rfl | with_reducible assumption | omega)
  refine W_cond rfl (fun h => W_seq ?_) (fun h0 => W_skip ?_)
  · apply W_regS
    · intro K hK
      simp
      repeat' (first | with_reducible exact hK | (with_reducible refine goL_split (fun _ => ?_) (fun _ => ?_) <;> simp) | with_reducible refine And.intro ?_ ?_ | with_reducible exact okay_rfl rfl | with_reducible assumption | omega)
    have : decide (x = y) = false := by rw [decide_eq_false_iff_not]; intro e; rw [e] at h; simp at h
    refine W_ret ?_
    simp [Fin, this]
    all_goals omega
  refine W_seq (W_seq (?_))
  apply W_regS
  · intro K hK
    simp
    repeat' (first | with_reducible exact hK | (with_reducible refine goL_split (fun _ => ?_) (fun _ => ?_) <;> simp) | with_reducible refine And.intro ?_ ?_ | with_reducible exact okay_rfl rfl | with_reducible assumption | omega)
  refine W_cond rfl (fun h => W_seq ?_) (fun h1 => W_skip ?_)
  · apply W_regS
    · intro K hK
      simp
      repeat' (first | with_reducible exact hK | (with_reducible refine goL_split (fun _ => ?_) (fun _ => ?_) <;> simp) | with_reducible refine And.intro ?_ ?_ | with_reducible exact okay_rfl rfl | with_reducible assumption | omega)
    have : decide (x = y) = false := by rw [decide_eq_false_iff_not]; intro e; rw [e] at h; simp at h
    refine W_ret ?_
    simp [Fin, this]
    all_goals omega
  refine W_seq (W_seq (?_))
  apply W_regS
  · intro K hK
    simp
    repeat' (first | with_reducible exact hK | (with_reducible refine callQ (eqVersionS_g x.fVersions y.fVersions (by omega) (by omega)) ?_; simp) | (with_reducible refine goL_split (fun _ => ?_) (fun _ => ?_) <;> simp) | with_reducible refine And.intro ?_ ?_ | with_reducible exact okay_rfl rfl | with_reducible assumption | omega)
  refine W_cond rfl (fun h => W_seq ?_) (fun h2 => W_skip ?_)
  · apply W_regS
    · intro K hK
      simp
      repeat' (first | with_reducible exact hK | (with_reducible refine goL_split (fun _ => ?_) (fun _ => ?_) <;> simp) | with_reducible refine And.intro ?_ ?_ | with_reducible exact okay_rfl rfl | with_reducible assumption | omega)
    have : decide (x = y) = false := by rw [decide_eq_false_iff_not]; intro e; rw [e] at h; simp at h
    refine W_ret ?_
    simp [Fin, this]
    all_goals omega
  refine W_seq (?_)
  apply W_regS
  · intro K hK
    simp
    repeat' (first | with_reducible exact hK | (with_reducible refine goL_split (fun _ => ?_) (fun _ => ?_) <;> simp) | with_reducible refine And.intro ?_ ?_ | with_reducible exact okay_rfl rfl | with_reducible assumption | omega)
  have : decide (x = y) = true := by
    rw [decide_eq_true_iff]
    cases x; cases y
    simp at h0 h1 h2
    simp_all
  refine W_ret ?_
  simp [Fin, this]
  all_goals omega
theorem eqEntryS_g (a b : List GEntry) (hx : a.length + sumBy GEntry.cost a ≤ 1099511627776) (hy : b.length + sumBy GEntry.cost b ≤ 1099511627776) : Valid PP GG 82 [.d (.slc 3 (rEntry a)), .d (.slc 3 (rEntry b))] (.d (.bool (decide (a = b)))) [none, none] := by
  refine cv Tryz.func82 [.d (.bool (decide (a = b)))] ?_
  refine W_seq (?_)
  apply W_regS
  · intro K hK
    simp
    repeat' (first | with_reducible exact hK | (with_reducible refine goL_split (fun _ => ?_) (fun _ => ?_) <;> simp) | with_reducible refine And.intro ?_ ?_ | with_reducible exact okay_rfl rfl | with_reducible assumption | omega)
  refine W_seq (W_seq (?_))
  apply W_regS
  · intro K hK
    simp
    repeat' (first | with_reducible exact hK | (with_reducible refine goL_split (fun _ => ?_) (fun _ => ?_) <;> simp) | with_reducible refine And.intro ?_ ?_ | with_reducible exact okay_rfl rfl | with_reducible assumption | omega)
  refine W_cond rfl (fun h => W_seq ?_) (fun hlen => W_skip ?_)
  · apply W_regS
    · intro K hK
      simp
      repeat' (first | with_reducible exact hK | (with_reducible refine goL_split (fun _ => ?_) (fun _ => ?_) <;> simp) | with_reducible refine And.intro ?_ ?_ | with_reducible exact okay_rfl rfl | with_reducible assumption | omega)
    have : decide (a = b) = false := by rw [decide_eq_false_iff_not]; intro e; subst e; simp at h
    refine W_ret ?_
    simp [Fin, this]
    all_goals omega
  refine W_seq (W_seq (?_))
  simp at hlen
  apply W_regS
  · intro K hK
    simp
    repeat' (first | with_reducible exact hK | (with_reducible refine goL_split (fun _ => ?_) (fun _ => ?_) <;> simp) | with_reducible refine And.intro ?_ ?_ | with_reducible exact okay_rfl rfl | with_reducible assumption | omega)
  refine W_block (W_loop (fun n st => ∃ i : Nat, n = a.length - i ∧ i ≤ a.length ∧ a.take i = b.take i ∧ st = ⟨[], [(0, .d (.slc 3 (rEntry a))), (1, .d (.slc 3 (rEntry b))), (5, .d (.int .i64 i))], [], 0⟩) _ ⟨0, rfl, by omega, rfl, rfl⟩ ?_)
  rintro n st ⟨i, rfl, hi, he, rfl⟩
  refine W_seq (W_seq (?_))
  apply W_regS
  · intro K hK
    simp
    repeat' (first | with_reducible exact hK | (with_reducible refine goL_split (fun _ => ?_) (fun _ => ?_) <;> simp) | with_reducible refine And.intro ?_ ?_ | with_reducible exact okay_rfl rfl | with_reducible assumption | omega)
  refine W_cond rfl (fun h => W_skip ?_) (fun h => W_exit ?_)
  · simp at h
    have ha := List.getElem?_eq_getElem h
    have hb := List.getElem?_eq_getElem (show i < b.length by omega)
    generalize a[i] = x at ha
    generalize b[i]'_ = y at hb
    have ga := sumBy_get (f := GEntry.cost) ha
    have gb := sumBy_get (f := GEntry.cost) hb
    refine W_seq (W_block (W_seq ?_))
    apply W_regD
    · intro K hK
      simp [ha, hb]
      repeat' (first | with_reducible exact hK | (with_reducible refine callQ (eqEntry_g x y (by omega) (by omega)) ?_; simp [ha, hb]) | (with_reducible refine goL_split (fun _ => ?_) (fun _ => ?_) <;> simp [ha, hb]) | with_reducible refine And.intro ?_ ?_ | with_reducible exact okay_rfl rfl | with_reducible assumption | omega)
    refine W_cond rfl (fun h2 => W_seq ?_) (fun h2 => W_skip ?_)
    · apply W_regS
      · intro K hK
        simp
        repeat' (first | with_reducible exact hK | (with_reducible refine goL_split (fun _ => ?_) (fun _ => ?_) <;> simp) | with_reducible refine And.intro ?_ ?_ | with_reducible exact okay_rfl rfl | with_reducible assumption | omega)
      have : decide (a = b) = false := by rw [decide_eq_false_iff_not]; intro e; subst e; rw [ha] at hb; cases hb; simp at h2
      refine W_ret ?_
      simp [Fin, this]
      all_goals omega
    apply W_regS
    · intro K hK
      simp
      repeat' (first | with_reducible exact hK | (with_reducible refine goL_split (fun _ => ?_) (fun _ => ?_) <;> simp) | with_reducible refine And.intro ?_ ?_ | with_reducible exact okay_rfl rfl | with_reducible assumption | omega)
    have hxy : x = y := by simpa using h2
    subst hxy
    exact ⟨a.length - (i + 1), by omega, i + 1, rfl, h, take_succ_eq he ha hb, by simp [gc, closeN, liveA, gcV, gcO, renA, namesAs, namesA]; rw [wrap_id (by omega) (by omega)]⟩
  · simp at h
    rw [if_pos rfl]
    refine W_seq (?_)
    apply W_regS
    · intro K hK
      simp
      repeat' (first | with_reducible exact hK | (with_reducible refine goL_split (fun _ => ?_) (fun _ => ?_) <;> simp) | with_reducible refine And.intro ?_ ?_ | with_reducible exact okay_rfl rfl | with_reducible assumption | omega)
    have : decide (a = b) = true := by
      rw [decide_eq_true_iff]
      rwa [List.take_of_length_le h, List.take_of_length_le (by omega)] at he
    refine W_ret ?_
    simp [Fin, this]
    all_goals omega
theorem szStore_g (x : GStore) (l : Int) (hx : x.ok) (h0 : 0 ≤ l ∧ l ≤ 1048576) : Valid PP GG 19 [.agg x.c, .d (.int .i64 l)] (.d (.int .i64 (leftR x.cost l))) [none, none] := by
  refine cv Tryz.func19 [.d (.int .i64 (leftR x.cost l))] ?_
  have hco : x.cost = (x.fEntries.length + sumBy GEntry.cost x.fEntries) := rfl
  unfold GStore.ok maxLen at hx
  obtain ⟨okEntries0, okEntries1⟩ := hx
  generalize x.cost = co at hco
  refine W_seq (?_)
  apply W_regS
  · intro K hK
    simp
    repeat' (first | with_reducible exact hK | (with_reducible refine goL_split (fun _ => ?_) (fun _ => ?_) <;> simp) | with_reducible refine And.intro ?_ ?_ | with_reducible exact okay_rfl rfl | with_reducible assumption | omega)
  have ct := szEntryS_g (GG := GG) x.fEntries l (by unfold maxLen; omega) okEntries1 ⟨by omega, by omega⟩
  obtain ⟨l1, el1⟩ : ∃ z : Int, leftR (x.fEntries.length + sumBy GEntry.cost x.fEntries) l = z := ⟨_, rfl⟩
  rw [el1] at ct
  refine W_seq (?_)
  apply W_regS
  · intro K hK
    simp
    repeat' (first | with_reducible exact hK | (with_reducible refine callQ (ct) ?_; simp) | (with_reducible refine goL_split (fun _ => ?_) (fun _ => ?_) <;> simp) | with_reducible refine And.intro ?_ ?_ | with_reducible exact okay_rfl rfl | with_reducible assumption | omega)
  clear ct
  refine W_seq (W_seq (?_))
  apply W_regS
  · intro K hK
    simp
    repeat' (first | with_reducible exact hK | (with_reducible refine goL_split (fun _ => ?_) (fun _ => ?_) <;> simp) | with_reducible refine And.intro ?_ ?_ | with_reducible exact okay_rfl rfl | with_reducible assumption | omega)
  refine W_cond rfl (fun hh0 => W_seq ?_) (fun hh0 => W_skip ?_)
  · apply W_regS
    · intro K hK
      simp
      repeat' (first | with_reducible exact hK | (with_reducible refine goL_split (fun _ => ?_) (fun _ => ?_) <;> simp) | with_reducible refine And.intro ?_ ?_ | with_reducible exact okay_rfl rfl | with_reducible assumption | omega)
    simp at hh0
    rw [← el1] at hh0
    have hn := leftR_neg (by omega) hh0
    have : leftR co l = -1 := leftR_no (by omega)
    refine W_ret ?_
    simp [Fin, this]
    all_goals omega
  simp at hh0
  rw [← el1] at hh0
  obtain ⟨gl1, jl1⟩ := leftR_pos (Int.not_lt.2 hh0)
  rw [el1] at jl1 hh0
  refine W_seq (?_)
  apply W_regS
  · intro K hK
    simp
    repeat' (first | with_reducible exact hK | (with_reducible refine goL_split (fun _ => ?_) (fun _ => ?_) <;> simp) | with_reducible refine And.intro ?_ ?_ | with_reducible exact okay_rfl rfl | with_reducible assumption | omega)
  have : leftR co l = l1 := by rw [leftR_yes (by omega)]; omega
  refine W_ret ?_
  simp [Fin, this]
  all_goals omega
theorem toStore_g (x : GStore) (hx : x.cost ≤ 1099511627776) : Valid PP GG 29 [.agg x.c] (.agg x.o) [none] := by
  refine cv Tryz.func29 [.agg x.o] ?_
  have hco : x.cost = (x.fEntries.length + sumBy GEntry.cost x.fEntries) := rfl
  refine W_seq (?_)
  apply W_regS
  · intro K hK
    simp
    repeat' (first | with_reducible exact hK | (with_reducible refine goL_split (fun _ => ?_) (fun _ => ?_) <;> simp) | with_reducible refine And.intro ?_ ?_ | with_reducible exact okay_rfl rfl | with_reducible assumption | omega)
  refine W_seq (?_)
  apply W_regS
  · intro K hK
    simp
    repeat' (first | with_reducible exact hK | (with_reducible refine goL_split (fun _ => ?_) (fun _ => ?_) <;> simp) | with_reducible refine And.intro ?_ ?_ | with_reducible exact okay_rfl rfl | with_reducible assumption | omega)
  refine W_seq (?_)
  apply W_regS
  · intro K hK
    simp
    repeat' (first | with_reducible exact hK | (with_reducible refine callQ (toEntryS_g x.fEntries (by omega)) ?_; simp) | (with_reducible refine goL_split (fun _ => ?_) (fun _ => ?_) <;> simp) | with_reducible refine And.intro ?_ ?_ | with_reducible exact okay_rfl rfl | with_reducible assumption | omega)
  refine W_seq (?_)
  apply W_regS
  · intro K hK
    simp
    repeat' (first | with_reducible exact hK | (with_reducible refine goL_split (fun _ => ?_) (fun _ => ?_) <;> simp) | with_reducible refine And.intro ?_ ?_ | with_reducible exact okay_rfl rfl | with_reducible assumption | omega)
  refine W_ret ?_
  simp [Fin]
  all_goals omega
theorem eqStore_g (x y : GStore) (hx : x.cost ≤ 1099511627776) (hy : y.cost ≤ 1099511627776) : Valid PP GG 39 [.agg x.c, .agg y.c] (.d (.bool (decide (x = y)))) [none, none] := by
  refine cv Tryz.func39 [.d (.bool (decide (x = y)))] ?_
  have hcx : x.cost = (x.fEntries.length + sumBy GEntry.cost x.fEntries) := rfl
  have hcy : y.cost = (y.fEntries.length + sumBy GEntry.cost y.fEntries) := rfl
  refine W_seq (?_)
  apply W_regS
  · intro K hK
    simp
    repeat' (first | with_reducible exact hK | (with_reducible refine goL_split (fun _ => ?_) (fun _ => ?_) <;> simp) | with_reducible refine And.intro ?_ ?_ | with_reducible exact okay_rfl rfl | with_reducible assumption | omega)
  refine W_seq (W_seq (?_))
  apply W_regS
  · intro K hK
    simp
    repeat' (first | with_reducible exact hK | (with_reducible refine callQ (eqEntryS_g x.fEntries y.fEntries (by omega) (by omega)) ?_; simp) | (with_reducible refine goL_split (fun _ => ?_) (fun _ => ?_) <;> simp) | with_reducible refine And.intro ?_ ?_ | with_reducible exact okay_rfl rfl | with_reducible assumption | omega)
  refine W_cond rfl (fun h => W_seq ?_) (fun h0 => W_skip ?_)
  · apply W_regS
    · intro K hK
      simp
      repeat' (first | with_reducible exact hK | (with_reducible refine goL_split (fun _ => ?_) (fun _ => ?_) <;> simp) | with_reducible refine And.intro ?_ ?_ | with_reducible exact okay_rfl rfl | with_reducible assumption | omega)
    have : decide (x = y) = false := by rw [decide_eq_false_iff_not]; intro e; rw [e] at h; simp at h
    refine W_ret ?_
    simp [Fin, this]
    all_goals omega
  refine W_seq (?_)
  apply W_regS
  · intro K hK
    simp
    repeat' (first | with_reducible exact hK | (with_reducible refine goL_split (fun _ => ?_) (fun _ => ?_) <;> simp) | with_reducible refine And.intro ?_ ?_ | with_reducible exact okay_rfl rfl | with_reducible assumption | omega)
  have : decide (x = y) = true := by
    rw [decide_eq_true_iff]
    cases x; cases y
    simp at h0
    simp_all
  refine W_ret ?_
  simp [Fin, this]
  all_goals omega
theorem szDisk_g (x : GDisk) (l : Int) (hx : x.ok) (h0 : 0 ≤ l ∧ l ≤ 1048576) : Valid PP GG 22 [.agg x.c, .d (.int .i64 l)] (.d (.int .i64 (leftR x.cost l))) [none, none] := by
  refine cv Tryz.func22 [.d (.int .i64 (leftR x.cost l))] ?_
  have hco : x.cost = x.fSafe.length + x.fLoose.length := rfl
  unfold GDisk.ok maxLen at hx
  obtain ⟨okSafe0, okLoose0⟩ := hx
  generalize x.cost = co at hco
  refine W_seq (?_)
  apply W_regS
  · intro K hK
    simp
    repeat' (first | with_reducible exact hK | (with_reducible refine goL_split (fun _ => ?_) (fun _ => ?_) <;> simp) | with_reducible refine And.intro ?_ ?_ | with_reducible exact okay_rfl rfl | with_reducible assumption | omega)
  have ct := szByteS_g (GG := GG) x.fSafe l (by unfold maxLen; omega) ⟨by omega, by omega⟩
  obtain ⟨l1, el1⟩ : ∃ z : Int, leftR x.fSafe.length l = z := ⟨_, rfl⟩
  rw [el1] at ct
  refine W_seq (?_)
  apply W_regS
  · intro K hK
    simp
    repeat' (first | with_reducible exact hK | (with_reducible refine callQ (ct) ?_; simp) | (with_reducible refine goL_split (fun _ => ?_) (fun _ => ?_) <;> simp) | with_reducible refine And.intro ?_ ?_ | with_reducible exact okay_rfl rfl | with_reducible assumption | omega)
  clear ct
  refine W_seq (W_seq (?_))
  apply W_regS
  · intro K hK
    simp
    repeat' (first | with_reducible exact hK | (with_reducible refine goL_split (fun _ => ?_) (fun _ => ?_) <;> simp) | with_reducible refine And.intro ?_ ?_ | with_reducible exact okay_rfl rfl | with_reducible assumption | omega)
  refine W_cond rfl (fun hh0 => W_seq ?_) (fun hh0 => W_skip ?_)
  · apply W_regS
    · intro K hK
      simp
      repeat' (first | with_reducible exact hK | (with_reducible refine goL_split (fun _ => ?_) (fun _ => ?_) <;> simp) | with_reducible refine And.intro ?_ ?_ | with_reducible exact okay_rfl rfl | with_reducible assumption | omega)
    simp at hh0
    rw [← el1] at hh0
    have hn := leftR_neg (by omega) hh0
    have : leftR co l = -1 := leftR_no (by omega)
    refine W_ret ?_
    simp [Fin, this]
    all_goals omega
  simp at hh0
  rw [← el1] at hh0
  obtain ⟨gl1, jl1⟩ := leftR_pos (Int.not_lt.2 hh0)
  rw [el1] at jl1 hh0
  have ct := szByteS_g (GG := GG) x.fLoose l1 (by unfold maxLen; omega) ⟨by omega, by omega⟩
  obtain ⟨l2, el2⟩ : ∃ z : Int, leftR x.fLoose.length l1 = z := ⟨_, rfl⟩
  rw [el2] at ct
  refine W_seq (?_)
  apply W_regS
  · intro K hK
    simp
    repeat' (first | with_reducible exact hK | (with_reducible refine callQ (ct) ?_; simp) | (with_reducible refine goL_split (fun _ => ?_) (fun _ => ?_) <;> simp) | with_reducible refine And.intro ?_ ?_ | with_reducible exact okay_rfl rfl | with_reducible assumption | omega)
  clear ct
  refine W_seq (W_seq (?_))
  apply W_regS
  · intro K hK
    simp
    repeat' (first | with_reducible exact hK | (with_reducible refine goL_split (fun _ => ?_) (fun _ => ?_) <;> simp) | with_reducible refine And.intro ?_ ?_ | with_reducible exact okay_rfl rfl | with_reducible assumption | omega)
  refine W_cond rfl (fun hh1 => W_seq ?_) (fun hh1 => W_skip ?_)
  · apply W_regS
    · intro K hK
      simp
      repeat' (first | with_reducible exact hK | (with_reducible refine goL_split (fun _ => ?_) (fun _ => ?_) <;> simp) | with_reducible refine And.intro ?_ ?_ | with_reducible exact okay_rfl rfl | with_reducible assumption | omega)
    simp at hh1
    rw [← el2] at hh1
    have hn := leftR_neg (by omega) hh1
    have : leftR co l = -1 := leftR_no (by omega)
    refine W_ret ?_
    simp [Fin, this]
    all_goals omega
  simp at hh1
  rw [← el2] at hh1
  obtain ⟨gl2, jl2⟩ := leftR_pos (Int.not_lt.2 hh1)
  rw [el2] at jl2 hh1
  refine W_seq (?_)
  apply W_regS
  · intro K hK
    simp
    repeat' (first | with_reducible exact hK | (with_reducible refine goL_split (fun _ => ?_) (fun _ => ?_) <;> simp) | with_reducible refine And.intro ?_ ?_ | with_reducible exact okay_rfl rfl | with_reducible assumption | omega)
  have : leftR co l = l2 := by rw [leftR_yes (by omega)]; omega
  refine W_ret ?_
  simp [Fin, this]
  all_goals omega
theorem toDisk_g (x : GDisk) (hx : x.cost ≤ 1099511627776) : Valid PP GG 32 [.agg x.c] (.agg x.o) [none] := by
  refine cv Tryz.func32 [.agg x.o] ?_
  have hco : x.cost = x.fSafe.length + x.fLoose.length := rfl
  refine W_seq (?_)
  apply W_regS
  · intro K hK
    simp
    repeat' (first | with_reducible exact hK | (with_reducible refine goL_split (fun _ => ?_) (fun _ => ?_) <;> simp) | with_reducible refine And.intro ?_ ?_ | with_reducible exact okay_rfl rfl | with_reducible assumption | omega)
  refine W_seq (?_)
  apply W_regS
  · intro K hK
    simp
    repeat' (first | with_reducible exact hK | (with_reducible refine goL_split (fun _ => ?_) (fun _ => ?_) <;> simp) | with_reducible refine And.intro ?_ ?_ | with_reducible exact okay_rfl rfl | with_reducible assumption | omega)
  refine W_seq (?_)
  apply W_regS
  · intro K hK
    simp
    repeat' (first | with_reducible exact hK | (with_reducible refine callQ (toByteS_ok x.fSafe (by omega)) ?_; simp) | (with_reducible refine goL_split (fun _ => ?_) (fun _ => ?_) <;> simp) | with_reducible refine And.intro ?_ ?_ | with_reducible exact okay_rfl rfl | with_reducible assumption | omega)
  refine W_seq (?_)
  apply W_regS
  · intro K hK
    simp
    repeat' (first | with_reducible exact hK | (with_reducible refine callQ (toByteS_ok x.fLoose (by omega)) ?_; simp) | (with_reducible refine goL_split (fun _ => ?_) (fun _ => ?_) <;> simp) | with_reducible refine And.intro ?_ ?_ | with_reducible exact okay_rfl rfl | with_reducible assumption | omega)
  refine W_seq (?_)
  apply W_regS
  · intro K hK
    simp
    repeat' (first | with_reducible exact hK | (with_reducible refine goL_split (fun _ => ?_) (fun _ => ?_) <;> simp) | with_reducible refine And.intro ?_ ?_ | with_reducible exact okay_rfl rfl | with_reducible assumption | omega)
  refine W_ret ?_
  simp [Fin]
  all_goals omega
theorem eqDisk_g (x y : GDisk) (hx : x.cost ≤ 1099511627776) (hy : y.cost ≤ 1099511627776) : Valid PP GG 42 [.agg x.c, .agg y.c] (.d (.bool (decide (x = y)))) [none, none] := by
  refine cv Tryz.func42 [.d (.bool (decide (x = y)))] ?_
  have hcx : x.cost = x.fSafe.length + x.fLoose.length := rfl
  have hcy : y.cost = y.fSafe.length + y.fLoose.length := rfl
  refine W_seq (?_)
  apply W_regS
  · intro K hK
    simp
    repeat' (first | with_reducible exact hK | (with_reducible refine goL_split (fun _ => ?_) (fun _ => ?_) <;> simp) | with_reducible refine And.intro ?_ ?_ | with_reducible exact okay_rfl rfl | with_reducible assumption | omega)
  refine W_seq (W_seq (?_))
  apply W_regS
  · intro K hK
    simp
    repeat' (first | with_reducible exact hK | (with_reducible refine callQ (eqByteS_ok x.fSafe y.fSafe (by omega)) ?_; simp) | (with_reducible refine goL_split (fun _ => ?_) (fun _ => ?_) <;> simp) | with_reducible refine And.intro ?_ ?_ | with_reducible exact okay_rfl rfl | with_reducible assumption | omega)
  refine W_cond rfl (fun h => W_seq ?_) (fun h0 => W_skip ?_)
  · apply W_regS
    · intro K hK
      simp
      repeat' (first | with_reducible exact hK | (with_reducible refine goL_split (fun _ => ?_) (fun _ => ?_) <;> simp) | with_reducible refine And.intro ?_ ?_ | with_reducible exact okay_rfl rfl | with_reducible assumption | omega)
    have : decide (x = y) = false := by rw [decide_eq_false_iff_not]; intro e; rw [e] at h; simp at h
    refine W_ret ?_
    simp [Fin, this]
    all_goals omega
  refine W_seq (W_seq (?_))
  apply W_regS
  · intro K hK
    simp
    repeat' (first | with_reducible exact hK | (with_reducible refine callQ (eqByteS_ok x.fLoose y.fLoose (by omega)) ?_; simp) | (with_reducible refine goL_split (fun _ => ?_) (fun _ => ?_) <;> simp) | with_reducible refine And.intro ?_ ?_ | with_reducible exact okay_rfl rfl | with_reducible assumption | omega)
  refine W_cond rfl (fun h => W_seq ?_) (fun h1 => W_skip ?_)
  · apply W_regS
    · intro K hK
      simp
      repeat' (first | with_reducible exact hK | (with_reducible refine goL_split (fun _ => ?_) (fun _ => ?_) <;> simp) | with_reducible refine And.intro ?_ ?_ | with_reducible exact okay_rfl rfl | with_reducible assumption | omega)
    have : decide (x = y) = false := by rw [decide_eq_false_iff_not]; intro e; rw [e] at h; simp at h
    refine W_ret ?_
    simp [Fin, this]
    all_goals omega
  refine W_seq (?_)
  apply W_regS
  · intro K hK
    simp
    repeat' (first | with_reducible exact hK | (with_reducible refine goL_split (fun _ => ?_) (fun _ => ?_) <;> simp) | with_reducible refine And.intro ?_ ?_ | with_reducible exact okay_rfl rfl | with_reducible assumption | omega)
  have : decide (x = y) = true := by
    rw [decide_eq_true_iff]
    cases x; cases y
    simp at h0 h1
    simp_all
  refine W_ret ?_
  simp [Fin, this]
  all_goals omega
theorem szState_g (x : GState) (l : Int) (hx : x.ok) (h0 : 0 ≤ l ∧ l ≤ 1048576) : Valid PP GG 9 [.agg x.c, .d (.int .i64 l)] (.d (.int .i64 (leftR x.cost l))) [none, none] := by
  refine cv Tryz.func9 [.d (.int .i64 (leftR x.cost l))] ?_
  have hco : x.cost = x.fWorld.cost + (x.fPolicies.length + sumBy GPolicy.cost x.fPolicies) + (x.fRoles.length + sumBy GRole.cost x.fRoles) + x.fStore.cost + x.fRack.cost + x.fChain.cost + x.fDisk.cost := rfl
  unfold GState.ok maxLen at hx
  obtain ⟨okWorld0, okPolicies0, okPolicies1, okRoles0, okRoles1, okStore0, okRack0, okChain0, okDisk0, okKey0⟩ := hx
  generalize x.cost = co at hco
  refine W_seq (?_)
  apply W_regS
  · intro K hK
    simp
    repeat' (first | with_reducible exact hK | (with_reducible refine goL_split (fun _ => ?_) (fun _ => ?_) <;> simp) | with_reducible refine And.intro ?_ ?_ | with_reducible exact okay_rfl rfl | with_reducible assumption | omega)
  have ct := szWorld_g (GG := GG) x.fWorld l okWorld0 ⟨by omega, by omega⟩
  obtain ⟨l1, el1⟩ : ∃ z : Int, leftR x.fWorld.cost l = z := ⟨_, rfl⟩
  rw [el1] at ct
  refine W_seq (?_)
  apply W_regS
  · intro K hK
    simp
    repeat' (first | with_reducible exact hK | (with_reducible refine callQ (ct) ?_; simp) | (with_reducible refine goL_split (fun _ => ?_) (fun _ => ?_) <;> simp) | with_reducible refine And.intro ?_ ?_ | with_reducible exact okay_rfl rfl | with_reducible assumption | omega)
  clear ct
  refine W_seq (W_seq (?_))
  apply W_regS
  · intro K hK
    simp
    repeat' (first | with_reducible exact hK | (with_reducible refine goL_split (fun _ => ?_) (fun _ => ?_) <;> simp) | with_reducible refine And.intro ?_ ?_ | with_reducible exact okay_rfl rfl | with_reducible assumption | omega)
  refine W_cond rfl (fun hh0 => W_seq ?_) (fun hh0 => W_skip ?_)
  · apply W_regS
    · intro K hK
      simp
      repeat' (first | with_reducible exact hK | (with_reducible refine goL_split (fun _ => ?_) (fun _ => ?_) <;> simp) | with_reducible refine And.intro ?_ ?_ | with_reducible exact okay_rfl rfl | with_reducible assumption | omega)
    simp at hh0
    rw [← el1] at hh0
    have hn := leftR_neg (by omega) hh0
    have : leftR co l = -1 := leftR_no (by omega)
    refine W_ret ?_
    simp [Fin, this]
    all_goals omega
  simp at hh0
  rw [← el1] at hh0
  obtain ⟨gl1, jl1⟩ := leftR_pos (Int.not_lt.2 hh0)
  rw [el1] at jl1 hh0
  have ct := szPolicyS_g (GG := GG) x.fPolicies l1 (by unfold maxLen; omega) okPolicies1 ⟨by omega, by omega⟩
  obtain ⟨l2, el2⟩ : ∃ z : Int, leftR (x.fPolicies.length + sumBy GPolicy.cost x.fPolicies) l1 = z := ⟨_, rfl⟩
  rw [el2] at ct
  refine W_seq (?_)
  apply W_regS
  · intro K hK
    simp
    repeat' (first | with_reducible exact hK | (with_reducible refine callQ (ct) ?_; simp) | (with_reducible refine goL_split (fun _ => ?_) (fun _ => ?_) <;> simp) | with_reducible refine And.intro ?_ ?_ | with_reducible exact okay_rfl rfl | with_reducible assumption | omega)
  clear ct
  refine W_seq (W_seq (?_))
  apply W_regS
  · intro K hK
    simp
    repeat' (first | with_reducible exact hK | (with_reducible refine goL_split (fun _ => ?_) (fun _ => ?_) <;> simp) | with_reducible refine And.intro ?_ ?_ | with_reducible exact okay_rfl rfl | with_reducible assumption | omega)
  refine W_cond rfl (fun hh1 => W_seq ?_) (fun hh1 => W_skip ?_)
  · apply W_regS
    · intro K hK
      simp
      repeat' (first | with_reducible exact hK | (with_reducible refine goL_split (fun _ => ?_) (fun _ => ?_) <;> simp) | with_reducible refine And.intro ?_ ?_ | with_reducible exact okay_rfl rfl | with_reducible assumption | omega)
    simp at hh1
    rw [← el2] at hh1
    have hn := leftR_neg (by omega) hh1
    have : leftR co l = -1 := leftR_no (by omega)
    refine W_ret ?_
    simp [Fin, this]
    all_goals omega
  simp at hh1
  rw [← el2] at hh1
  obtain ⟨gl2, jl2⟩ := leftR_pos (Int.not_lt.2 hh1)
  rw [el2] at jl2 hh1
  have ct := szRoleS_g (GG := GG) x.fRoles l2 (by unfold maxLen; omega) okRoles1 ⟨by omega, by omega⟩
  obtain ⟨l3, el3⟩ : ∃ z : Int, leftR (x.fRoles.length + sumBy GRole.cost x.fRoles) l2 = z := ⟨_, rfl⟩
  rw [el3] at ct
  refine W_seq (?_)
  apply W_regS
  · intro K hK
    simp
    repeat' (first | with_reducible exact hK | (with_reducible refine callQ (ct) ?_; simp) | (with_reducible refine goL_split (fun _ => ?_) (fun _ => ?_) <;> simp) | with_reducible refine And.intro ?_ ?_ | with_reducible exact okay_rfl rfl | with_reducible assumption | omega)
  clear ct
  refine W_seq (W_seq (?_))
  apply W_regS
  · intro K hK
    simp
    repeat' (first | with_reducible exact hK | (with_reducible refine goL_split (fun _ => ?_) (fun _ => ?_) <;> simp) | with_reducible refine And.intro ?_ ?_ | with_reducible exact okay_rfl rfl | with_reducible assumption | omega)
  refine W_cond rfl (fun hh2 => W_seq ?_) (fun hh2 => W_skip ?_)
  · apply W_regS
    · intro K hK
      simp
      repeat' (first | with_reducible exact hK | (with_reducible refine goL_split (fun _ => ?_) (fun _ => ?_) <;> simp) | with_reducible refine And.intro ?_ ?_ | with_reducible exact okay_rfl rfl | with_reducible assumption | omega)
    simp at hh2
    rw [← el3] at hh2
    have hn := leftR_neg (by omega) hh2
    have : leftR co l = -1 := leftR_no (by omega)
    refine W_ret ?_
    simp [Fin, this]
    all_goals omega
  simp at hh2
  rw [← el3] at hh2
  obtain ⟨gl3, jl3⟩ := leftR_pos (Int.not_lt.2 hh2)
  rw [el3] at jl3 hh2
  have ct := szStore_g (GG := GG) x.fStore l3 okStore0 ⟨by omega, by omega⟩
  obtain ⟨l4, el4⟩ : ∃ z : Int, leftR x.fStore.cost l3 = z := ⟨_, rfl⟩
  rw [el4] at ct
  refine W_seq (?_)
  apply W_regS
  · intro K hK
    simp
    repeat' (first | with_reducible exact hK | (with_reducible refine callQ (ct) ?_; simp) | (with_reducible refine goL_split (fun _ => ?_) (fun _ => ?_) <;> simp) | with_reducible refine And.intro ?_ ?_ | with_reducible exact okay_rfl rfl | with_reducible assumption | omega)
  clear ct
  refine W_seq (W_seq (?_))
  apply W_regS
  · intro K hK
    simp
    repeat' (first | with_reducible exact hK | (with_reducible refine goL_split (fun _ => ?_) (fun _ => ?_) <;> simp) | with_reducible refine And.intro ?_ ?_ | with_reducible exact okay_rfl rfl | with_reducible assumption | omega)
  refine W_cond rfl (fun hh3 => W_seq ?_) (fun hh3 => W_skip ?_)
  · apply W_regS
    · intro K hK
      simp
      repeat' (first | with_reducible exact hK | (with_reducible refine goL_split (fun _ => ?_) (fun _ => ?_) <;> simp) | with_reducible refine And.intro ?_ ?_ | with_reducible exact okay_rfl rfl | with_reducible assumption | omega)
    simp at hh3
    rw [← el4] at hh3
    have hn := leftR_neg (by omega) hh3
    have : leftR co l = -1 := leftR_no (by omega)
    refine W_ret ?_
    simp [Fin, this]
    all_goals omega
  simp at hh3
  rw [← el4] at hh3
  obtain ⟨gl4, jl4⟩ := leftR_pos (Int.not_lt.2 hh3)
  rw [el4] at jl4 hh3
  have ct := szRack_g (GG := GG) x.fRack l4 okRack0 ⟨by omega, by omega⟩
  obtain ⟨l5, el5⟩ : ∃ z : Int, leftR x.fRack.cost l4 = z := ⟨_, rfl⟩
  rw [el5] at ct
  refine W_seq (?_)
  apply W_regS
  · intro K hK
    simp
    repeat' (first | with_reducible exact hK | (with_reducible refine callQ (ct) ?_; simp) | (with_reducible refine goL_split (fun _ => ?_) (fun _ => ?_) <;> simp) | with_reducible refine And.intro ?_ ?_ | with_reducible exact okay_rfl rfl | with_reducible assumption | omega)
  clear ct
  refine W_seq (W_seq (?_))
  apply W_regS
  · intro K hK
    simp
    repeat' (first | with_reducible exact hK | (with_reducible refine goL_split (fun _ => ?_) (fun _ => ?_) <;> simp) | with_reducible refine And.intro ?_ ?_ | with_reducible exact okay_rfl rfl | with_reducible assumption | omega)
  refine W_cond rfl (fun hh4 => W_seq ?_) (fun hh4 => W_skip ?_)
  · apply W_regS
    · intro K hK
      simp
      repeat' (first | with_reducible exact hK | (with_reducible refine goL_split (fun _ => ?_) (fun _ => ?_) <;> simp) | with_reducible refine And.intro ?_ ?_ | with_reducible exact okay_rfl rfl | with_reducible assumption | omega)
    simp at hh4
    rw [← el5] at hh4
    have hn := leftR_neg (by omega) hh4
    have : leftR co l = -1 := leftR_no (by omega)
    refine W_ret ?_
    simp [Fin, this]
    all_goals omega
  simp at hh4
  rw [← el5] at hh4
  obtain ⟨gl5, jl5⟩ := leftR_pos (Int.not_lt.2 hh4)
  rw [el5] at jl5 hh4
  have ct := szChain_g (GG := GG) x.fChain l5 okChain0 ⟨by omega, by omega⟩
  obtain ⟨l6, el6⟩ : ∃ z : Int, leftR x.fChain.cost l5 = z := ⟨_, rfl⟩
  rw [el6] at ct
  refine W_seq (?_)
  apply W_regS
  · intro K hK
    simp
    repeat' (first | with_reducible exact hK | (with_reducible refine callQ (ct) ?_; simp) | (with_reducible refine goL_split (fun _ => ?_) (fun _ => ?_) <;> simp) | with_reducible refine And.intro ?_ ?_ | with_reducible exact okay_rfl rfl | with_reducible assumption | omega)
  clear ct
  refine W_seq (W_seq (?_))
  apply W_regS
  · intro K hK
    simp
    repeat' (first | with_reducible exact hK | (with_reducible refine goL_split (fun _ => ?_) (fun _ => ?_) <;> simp) | with_reducible refine And.intro ?_ ?_ | with_reducible exact okay_rfl rfl | with_reducible assumption | omega)
  refine W_cond rfl (fun hh5 => W_seq ?_) (fun hh5 => W_skip ?_)
  · apply W_regS
    · intro K hK
      simp
      repeat' (first | with_reducible exact hK | (with_reducible refine goL_split (fun _ => ?_) (fun _ => ?_) <;> simp) | with_reducible refine And.intro ?_ ?_ | with_reducible exact okay_rfl rfl | with_reducible assumption | omega)
    simp at hh5
    rw [← el6] at hh5
    have hn := leftR_neg (by omega) hh5
    have : leftR co l = -1 := leftR_no (by omega)
    refine W_ret ?_
    simp [Fin, this]
    all_goals omega
  simp at hh5
  rw [← el6] at hh5
  obtain ⟨gl6, jl6⟩ := leftR_pos (Int.not_lt.2 hh5)
  rw [el6] at jl6 hh5
  have ct := szDisk_g (GG := GG) x.fDisk l6 okDisk0 ⟨by omega, by omega⟩
  obtain ⟨l7, el7⟩ : ∃ z : Int, leftR x.fDisk.cost l6 = z := ⟨_, rfl⟩
  rw [el7] at ct
  refine W_seq (?_)
  apply W_regS
  · intro K hK
    simp
    repeat' (first | with_reducible exact hK | (with_reducible refine callQ (ct) ?_; simp) | (with_reducible refine goL_split (fun _ => ?_) (fun _ => ?_) <;> simp) | with_reducible refine And.intro ?_ ?_ | with_reducible exact okay_rfl rfl | with_reducible assumption | omega)
  clear ct
  refine W_seq (W_seq (?_))
  apply W_regS
  · intro K hK
    simp
    repeat' (first | with_reducible exact hK | (with_reducible refine goL_split (fun _ => ?_) (fun _ => ?_) <;> simp) | with_reducible refine And.intro ?_ ?_ | with_reducible exact okay_rfl rfl | with_reducible assumption | omega)
  refine W_cond rfl (fun hh6 => W_seq ?_) (fun hh6 => W_skip ?_)
  · apply W_regS
    · intro K hK
      simp
      repeat' (first | with_reducible exact hK | (with_reducible refine goL_split (fun _ => ?_) (fun _ => ?_) <;> simp) | with_reducible refine And.intro ?_ ?_ | with_reducible exact okay_rfl rfl | with_reducible assumption | omega)
    simp at hh6
    rw [← el7] at hh6
    have hn := leftR_neg (by omega) hh6
    have : leftR co l = -1 := leftR_no (by omega)
    refine W_ret ?_
    simp [Fin, this]
    all_goals omega
  simp at hh6
  rw [← el7] at hh6
  obtain ⟨gl7, jl7⟩ := leftR_pos (Int.not_lt.2 hh6)
  rw [el7] at jl7 hh6
  refine W_seq (?_)
  apply W_regS
  · intro K hK
    simp
    repeat' (first | with_reducible exact hK | (with_reducible refine goL_split (fun _ => ?_) (fun _ => ?_) <;> simp) | with_reducible refine And.intro ?_ ?_ | with_reducible exact okay_rfl rfl | with_reducible assumption | omega)
  have : leftR co l = l7 := by rw [leftR_yes (by omega)]; omega
  refine W_ret ?_
  simp [Fin, this]
  all_goals omega
theorem toState_g (x : GState) (hx : x.cost ≤ 1099511627776) : Valid PP GG 12 [.agg x.c] (.agg x.o) [none] := by
  refine cv Tryz.func12 [.agg x.o] ?_
  have hco : x.cost = x.fWorld.cost + (x.fPolicies.length + sumBy GPolicy.cost x.fPolicies) + (x.fRoles.length + sumBy GRole.cost x.fRoles) + x.fStore.cost + x.fRack.cost + x.fChain.cost + x.fDisk.cost := rfl
  refine W_seq (?_)
  apply W_regS
  · intro K hK
    simp
    repeat' (first | with_reducible exact hK | (with_reducible refine goL_split (fun _ => ?_) (fun _ => ?_) <;> simp) | with_reducible refine And.intro ?_ ?_ | with_reducible exact okay_rfl rfl | with_reducible assumption | omega)
  refine W_seq (?_)
  apply W_regS
  · intro K hK
    simp
    repeat' (first | with_reducible exact hK | (with_reducible refine goL_split (fun _ => ?_) (fun _ => ?_) <;> simp) | with_reducible refine And.intro ?_ ?_ | with_reducible exact okay_rfl rfl | with_reducible assumption | omega)
  refine W_seq (?_)
  apply W_regS
  · intro K hK
    simp
    repeat' (first | with_reducible exact hK | (with_reducible refine callQ (toWorld_g x.fWorld (by omega)) ?_; simp) | (with_reducible refine goL_split (fun _ => ?_) (fun _ => ?_) <;> simp) | with_reducible refine And.intro ?_ ?_ | with_reducible exact okay_rfl rfl | with_reducible assumption | omega)
  refine W_seq (?_)
  apply W_regS
  · intro K hK
    simp
    repeat' (first | with_reducible exact hK | (with_reducible refine callQ (toPolicyS_g x.fPolicies (by omega)) ?_; simp) | (with_reducible refine goL_split (fun _ => ?_) (fun _ => ?_) <;> simp) | with_reducible refine And.intro ?_ ?_ | with_reducible exact okay_rfl rfl | with_reducible assumption | omega)
  refine W_seq (?_)
  apply W_regS
  · intro K hK
    simp
    repeat' (first | with_reducible exact hK | (with_reducible refine callQ (toRoleS_g x.fRoles (by omega)) ?_; simp) | (with_reducible refine goL_split (fun _ => ?_) (fun _ => ?_) <;> simp) | with_reducible refine And.intro ?_ ?_ | with_reducible exact okay_rfl rfl | with_reducible assumption | omega)
  refine W_seq (?_)
  apply W_regS
  · intro K hK
    simp
    repeat' (first | with_reducible exact hK | (with_reducible refine callQ (toStore_g x.fStore (by omega)) ?_; simp) | (with_reducible refine goL_split (fun _ => ?_) (fun _ => ?_) <;> simp) | with_reducible refine And.intro ?_ ?_ | with_reducible exact okay_rfl rfl | with_reducible assumption | omega)
  refine W_seq (?_)
  apply W_regS
  · intro K hK
    simp
    repeat' (first | with_reducible exact hK | (with_reducible refine callQ (toRack_g x.fRack (by omega)) ?_; simp) | (with_reducible refine goL_split (fun _ => ?_) (fun _ => ?_) <;> simp) | with_reducible refine And.intro ?_ ?_ | with_reducible exact okay_rfl rfl | with_reducible assumption | omega)
  refine W_seq (?_)
  apply W_regS
  · intro K hK
    simp
    repeat' (first | with_reducible exact hK | (with_reducible refine callQ (toChain_g x.fChain (by omega)) ?_; simp) | (with_reducible refine goL_split (fun _ => ?_) (fun _ => ?_) <;> simp) | with_reducible refine And.intro ?_ ?_ | with_reducible exact okay_rfl rfl | with_reducible assumption | omega)
  refine W_seq (?_)
  apply W_regS
  · intro K hK
    simp
    repeat' (first | with_reducible exact hK | (with_reducible refine callQ (toDisk_g x.fDisk (by omega)) ?_; simp) | (with_reducible refine goL_split (fun _ => ?_) (fun _ => ?_) <;> simp) | with_reducible refine And.intro ?_ ?_ | with_reducible exact okay_rfl rfl | with_reducible assumption | omega)
  refine W_seq (?_)
  apply W_regS
  · intro K hK
    simp
    repeat' (first | with_reducible exact hK | (with_reducible refine goL_split (fun _ => ?_) (fun _ => ?_) <;> simp) | with_reducible refine And.intro ?_ ?_ | with_reducible exact okay_rfl rfl | with_reducible assumption | omega)
  refine W_seq (?_)
  apply W_regS
  · intro K hK
    simp
    repeat' (first | with_reducible exact hK | (with_reducible refine goL_split (fun _ => ?_) (fun _ => ?_) <;> simp) | with_reducible refine And.intro ?_ ?_ | with_reducible exact okay_rfl rfl | with_reducible assumption | omega)
  refine W_ret ?_
  simp [Fin]
  all_goals omega
theorem eqState_g (x y : GState) (hx : x.cost ≤ 1099511627776) (hy : y.cost ≤ 1099511627776) : Valid PP GG 15 [.agg x.c, .agg y.c] (.d (.bool (decide (x = y)))) [none, none] := by
  refine cv Tryz.func15 [.d (.bool (decide (x = y)))] ?_
  have hcx : x.cost = x.fWorld.cost + (x.fPolicies.length + sumBy GPolicy.cost x.fPolicies) + (x.fRoles.length + sumBy GRole.cost x.fRoles) + x.fStore.cost + x.fRack.cost + x.fChain.cost + x.fDisk.cost := rfl
  have hcy : y.cost = y.fWorld.cost + (y.fPolicies.length + sumBy GPolicy.cost y.fPolicies) + (y.fRoles.length + sumBy GRole.cost y.fRoles) + y.fStore.cost + y.fRack.cost + y.fChain.cost + y.fDisk.cost := rfl
  refine W_seq (?_)
  apply W_regS
  · intro K hK
    simp
    repeat' (first | with_reducible exact hK | (with_reducible refine goL_split (fun _ => ?_) (fun _ => ?_) <;> simp) | with_reducible refine And.intro ?_ ?_ | with_reducible exact okay_rfl rfl | with_reducible assumption | omega)
  refine W_seq (W_seq (?_))
  apply W_regS
  · intro K hK
    simp
    repeat' (first | with_reducible exact hK | (with_reducible refine callQ (eqWorld_g x.fWorld y.fWorld (by omega) (by omega)) ?_; simp) | (with_reducible refine goL_split (fun _ => ?_) (fun _ => ?_) <;> simp) | with_reducible refine And.intro ?_ ?_ | with_reducible exact okay_rfl rfl | with_reducible assumption | omega)
  refine W_cond rfl (fun h => W_seq ?_) (fun h0 => W_skip ?_)
  · apply W_regS
    · intro K hK
      simp
      repeat' (first | with_reducible exact hK | (with_reducible refine goL_split (fun _ => ?_) (fun _ => ?_) <;> simp) | with_reducible refine And.intro ?_ ?_ | with_reducible exact okay_rfl rfl | with_reducible assumption | omega)
    have : decide (x = y) = false := by rw [decide_eq_false_iff_not]; intro e; rw [e] at h; simp at h
    refine W_ret ?_
    simp [Fin, this]
    all_goals omega
  refine W_seq (W_seq (?_))
  apply W_regS
  · intro K hK
    simp
    repeat' (first | with_reducible exact hK | (with_reducible refine callQ (eqPolicyS_g x.fPolicies y.fPolicies (by omega) (by omega)) ?_; simp) | (with_reducible refine goL_split (fun _ => ?_) (fun _ => ?_) <;> simp) | with_reducible refine And.intro ?_ ?_ | with_reducible exact okay_rfl rfl | with_reducible assumption | omega)
  refine W_cond rfl (fun h => W_seq ?_) (fun h1 => W_skip ?_)
  · apply W_regS
    · intro K hK
      simp
      repeat' (first | with_reducible exact hK | (with_reducible refine goL_split (fun _ => ?_) (fun _ => ?_) <;> simp) | with_reducible refine And.intro ?_ ?_ | with_reducible exact okay_rfl rfl | with_reducible assumption | omega)
    have : decide (x = y) = false := by rw [decide_eq_false_iff_not]; intro e; rw [e] at h; simp at h
    refine W_ret ?_
    simp [Fin, this]
    all_goals omega
  refine W_seq (W_seq (?_))
  apply W_regS
  · intro K hK
    simp
    repeat' (first | with_reducible exact hK | (with_reducible refine callQ (eqRoleS_g x.fRoles y.fRoles (by omega) (by omega)) ?_; simp) | (with_reducible refine goL_split (fun _ => ?_) (fun _ => ?_) <;> simp) | with_reducible refine And.intro ?_ ?_ | with_reducible exact okay_rfl rfl | with_reducible assumption | omega)
  refine W_cond rfl (fun h => W_seq ?_) (fun h2 => W_skip ?_)
  · apply W_regS
    · intro K hK
      simp
      repeat' (first | with_reducible exact hK | (with_reducible refine goL_split (fun _ => ?_) (fun _ => ?_) <;> simp) | with_reducible refine And.intro ?_ ?_ | with_reducible exact okay_rfl rfl | with_reducible assumption | omega)
    have : decide (x = y) = false := by rw [decide_eq_false_iff_not]; intro e; rw [e] at h; simp at h
    refine W_ret ?_
    simp [Fin, this]
    all_goals omega
  refine W_seq (W_seq (?_))
  apply W_regS
  · intro K hK
    simp
    repeat' (first | with_reducible exact hK | (with_reducible refine callQ (eqStore_g x.fStore y.fStore (by omega) (by omega)) ?_; simp) | (with_reducible refine goL_split (fun _ => ?_) (fun _ => ?_) <;> simp) | with_reducible refine And.intro ?_ ?_ | with_reducible exact okay_rfl rfl | with_reducible assumption | omega)
  refine W_cond rfl (fun h => W_seq ?_) (fun h3 => W_skip ?_)
  · apply W_regS
    · intro K hK
      simp
      repeat' (first | with_reducible exact hK | (with_reducible refine goL_split (fun _ => ?_) (fun _ => ?_) <;> simp) | with_reducible refine And.intro ?_ ?_ | with_reducible exact okay_rfl rfl | with_reducible assumption | omega)
    have : decide (x = y) = false := by rw [decide_eq_false_iff_not]; intro e; rw [e] at h; simp at h
    refine W_ret ?_
    simp [Fin, this]
    all_goals omega
  refine W_seq (W_seq (?_))
  apply W_regS
  · intro K hK
    simp
    repeat' (first | with_reducible exact hK | (with_reducible refine callQ (eqRack_g x.fRack y.fRack (by omega) (by omega)) ?_; simp) | (with_reducible refine goL_split (fun _ => ?_) (fun _ => ?_) <;> simp) | with_reducible refine And.intro ?_ ?_ | with_reducible exact okay_rfl rfl | with_reducible assumption | omega)
  refine W_cond rfl (fun h => W_seq ?_) (fun h4 => W_skip ?_)
  · apply W_regS
    · intro K hK
      simp
      repeat' (first | with_reducible exact hK | (with_reducible refine goL_split (fun _ => ?_) (fun _ => ?_) <;> simp) | with_reducible refine And.intro ?_ ?_ | with_reducible exact okay_rfl rfl | with_reducible assumption | omega)
    have : decide (x = y) = false := by rw [decide_eq_false_iff_not]; intro e; rw [e] at h; simp at h
    refine W_ret ?_
    simp [Fin, this]
    all_goals omega
  refine W_seq (W_seq (?_))
  apply W_regS
  · intro K hK
    simp
    repeat' (first | with_reducible exact hK | (with_reducible refine callQ (eqChain_g x.fChain y.fChain (by omega) (by omega)) ?_; simp) | (with_reducible refine goL_split (fun _ => ?_) (fun _ => ?_) <;> simp) | with_reducible refine And.intro ?_ ?_ | with_reducible exact okay_rfl rfl | with_reducible assumption | omega)
  refine W_cond rfl (fun h => W_seq ?_) (fun h5 => W_skip ?_)
  · apply W_regS
    · intro K hK
      simp
      repeat' (first | with_reducible exact hK | (with_reducible refine goL_split (fun _ => ?_) (fun _ => ?_) <;> simp) | with_reducible refine And.intro ?_ ?_ | with_reducible exact okay_rfl rfl | with_reducible assumption | omega)
    have : decide (x = y) = false := by rw [decide_eq_false_iff_not]; intro e; rw [e] at h; simp at h
    refine W_ret ?_
    simp [Fin, this]
    all_goals omega
  refine W_seq (W_seq (?_))
  apply W_regS
  · intro K hK
    simp
    repeat' (first | with_reducible exact hK | (with_reducible refine callQ (eqDisk_g x.fDisk y.fDisk (by omega) (by omega)) ?_; simp) | (with_reducible refine goL_split (fun _ => ?_) (fun _ => ?_) <;> simp) | with_reducible refine And.intro ?_ ?_ | with_reducible exact okay_rfl rfl | with_reducible assumption | omega)
  refine W_cond rfl (fun h => W_seq ?_) (fun h6 => W_skip ?_)
  · apply W_regS
    · intro K hK
      simp
      repeat' (first | with_reducible exact hK | (with_reducible refine goL_split (fun _ => ?_) (fun _ => ?_) <;> simp) | with_reducible refine And.intro ?_ ?_ | with_reducible exact okay_rfl rfl | with_reducible assumption | omega)
    have : decide (x = y) = false := by rw [decide_eq_false_iff_not]; intro e; rw [e] at h; simp at h
    refine W_ret ?_
    simp [Fin, this]
    all_goals omega
  refine W_seq (W_seq (?_))
  apply W_regS
  · intro K hK
    simp
    repeat' (first | with_reducible exact hK | (with_reducible refine goL_split (fun _ => ?_) (fun _ => ?_) <;> simp) | with_reducible refine And.intro ?_ ?_ | with_reducible exact okay_rfl rfl | with_reducible assumption | omega)
  refine W_cond rfl (fun h => W_seq ?_) (fun h7 => W_skip ?_)
  · apply W_regS
    · intro K hK
      simp
      repeat' (first | with_reducible exact hK | (with_reducible refine goL_split (fun _ => ?_) (fun _ => ?_) <;> simp) | with_reducible refine And.intro ?_ ?_ | with_reducible exact okay_rfl rfl | with_reducible assumption | omega)
    have : decide (x = y) = false := by rw [decide_eq_false_iff_not]; intro e; rw [e] at h; simp at h
    refine W_ret ?_
    simp [Fin, this]
    all_goals omega
  refine W_seq (?_)
  apply W_regS
  · intro K hK
    simp
    repeat' (first | with_reducible exact hK | (with_reducible refine goL_split (fun _ => ?_) (fun _ => ?_) <;> simp) | with_reducible refine And.intro ?_ ?_ | with_reducible exact okay_rfl rfl | with_reducible assumption | omega)
  have : decide (x = y) = true := by
    rw [decide_eq_true_iff]
    cases x; cases y
    simp at h0 h1 h2 h3 h4 h5 h6 h7
    simp_all
  refine W_ret ?_
  simp [Fin, this]
  all_goals omega
theorem szPair_g (x : GPair) (l : Int) (hx : x.ok) (h0 : 0 ≤ l ∧ l ≤ 1048576) : Valid PP GG 4 [.agg x.c, .d (.int .i64 l)] (.d (.int .i64 (leftR x.cost l))) [none, none] := by
  refine cv Tryz.func4 [.d (.int .i64 (leftR x.cost l))] ?_
  have hco : x.cost = x.fLead.cost + x.fBack.cost := rfl
  unfold GPair.ok at hx
  obtain ⟨okLead0, okBack0, okSame0, okGen0⟩ := hx
  generalize x.cost = co at hco
  refine W_seq (?_)
  apply W_regS
  · intro K hK
    simp
    repeat' (first | with_reducible exact hK | (with_reducible refine goL_split (fun _ => ?_) (fun _ => ?_) <;> simp) | with_reducible refine And.intro ?_ ?_ | with_reducible exact okay_rfl rfl | with_reducible assumption | omega)
  have ct := szState_g (GG := GG) x.fLead l okLead0 ⟨by omega, by omega⟩
  obtain ⟨l1, el1⟩ : ∃ z : Int, leftR x.fLead.cost l = z := ⟨_, rfl⟩
  rw [el1] at ct
  refine W_seq (?_)
  apply W_regS
  · intro K hK
    simp
    repeat' (first | with_reducible exact hK | (with_reducible refine callQ (ct) ?_; simp) | (with_reducible refine goL_split (fun _ => ?_) (fun _ => ?_) <;> simp) | with_reducible refine And.intro ?_ ?_ | with_reducible exact okay_rfl rfl | with_reducible assumption | omega)
  clear ct
  refine W_seq (W_seq (?_))
  apply W_regS
  · intro K hK
    simp
    repeat' (first | with_reducible exact hK | (with_reducible refine goL_split (fun _ => ?_) (fun _ => ?_) <;> simp) | with_reducible refine And.intro ?_ ?_ | with_reducible exact okay_rfl rfl | with_reducible assumption | omega)
  refine W_cond rfl (fun hh0 => W_seq ?_) (fun hh0 => W_skip ?_)
  · apply W_regS
    · intro K hK
      simp
      repeat' (first | with_reducible exact hK | (with_reducible refine goL_split (fun _ => ?_) (fun _ => ?_) <;> simp) | with_reducible refine And.intro ?_ ?_ | with_reducible exact okay_rfl rfl | with_reducible assumption | omega)
    simp at hh0
    rw [← el1] at hh0
    have hn := leftR_neg (by omega) hh0
    have : leftR co l = -1 := leftR_no (by omega)
    refine W_ret ?_
    simp [Fin, this]
    all_goals omega
  simp at hh0
  rw [← el1] at hh0
  obtain ⟨gl1, jl1⟩ := leftR_pos (Int.not_lt.2 hh0)
  rw [el1] at jl1 hh0
  have ct := szState_g (GG := GG) x.fBack l1 okBack0 ⟨by omega, by omega⟩
  obtain ⟨l2, el2⟩ : ∃ z : Int, leftR x.fBack.cost l1 = z := ⟨_, rfl⟩
  rw [el2] at ct
  refine W_seq (?_)
  apply W_regS
  · intro K hK
    simp
    repeat' (first | with_reducible exact hK | (with_reducible refine callQ (ct) ?_; simp) | (with_reducible refine goL_split (fun _ => ?_) (fun _ => ?_) <;> simp) | with_reducible refine And.intro ?_ ?_ | with_reducible exact okay_rfl rfl | with_reducible assumption | omega)
  clear ct
  refine W_seq (W_seq (?_))
  apply W_regS
  · intro K hK
    simp
    repeat' (first | with_reducible exact hK | (with_reducible refine goL_split (fun _ => ?_) (fun _ => ?_) <;> simp) | with_reducible refine And.intro ?_ ?_ | with_reducible exact okay_rfl rfl | with_reducible assumption | omega)
  refine W_cond rfl (fun hh1 => W_seq ?_) (fun hh1 => W_skip ?_)
  · apply W_regS
    · intro K hK
      simp
      repeat' (first | with_reducible exact hK | (with_reducible refine goL_split (fun _ => ?_) (fun _ => ?_) <;> simp) | with_reducible refine And.intro ?_ ?_ | with_reducible exact okay_rfl rfl | with_reducible assumption | omega)
    simp at hh1
    rw [← el2] at hh1
    have hn := leftR_neg (by omega) hh1
    have : leftR co l = -1 := leftR_no (by omega)
    refine W_ret ?_
    simp [Fin, this]
    all_goals omega
  simp at hh1
  rw [← el2] at hh1
  obtain ⟨gl2, jl2⟩ := leftR_pos (Int.not_lt.2 hh1)
  rw [el2] at jl2 hh1
  refine W_seq (?_)
  apply W_regS
  · intro K hK
    simp
    repeat' (first | with_reducible exact hK | (with_reducible refine goL_split (fun _ => ?_) (fun _ => ?_) <;> simp) | with_reducible refine And.intro ?_ ?_ | with_reducible exact okay_rfl rfl | with_reducible assumption | omega)
  have : leftR co l = l2 := by rw [leftR_yes (by omega)]; omega
  refine W_ret ?_
  simp [Fin, this]
  all_goals omega
theorem toPair_g (x : GPair) (hx : x.cost ≤ 1099511627776) : Valid PP GG 6 [.agg x.c] (.agg x.o) [none] := by
  refine cv Tryz.func6 [.agg x.o] ?_
  have hco : x.cost = x.fLead.cost + x.fBack.cost := rfl
  refine W_seq (?_)
  apply W_regS
  · intro K hK
    simp
    repeat' (first | with_reducible exact hK | (with_reducible refine goL_split (fun _ => ?_) (fun _ => ?_) <;> simp) | with_reducible refine And.intro ?_ ?_ | with_reducible exact okay_rfl rfl | with_reducible assumption | omega)
  refine W_seq (?_)
  apply W_regS
  · intro K hK
    simp
    repeat' (first | with_reducible exact hK | (with_reducible refine goL_split (fun _ => ?_) (fun _ => ?_) <;> simp) | with_reducible refine And.intro ?_ ?_ | with_reducible exact okay_rfl rfl | with_reducible assumption | omega)
  refine W_seq (?_)
  apply W_regS
  · intro K hK
    simp
    repeat' (first | with_reducible exact hK | (with_reducible refine callQ (toState_g x.fLead (by omega)) ?_; simp) | (with_reducible refine goL_split (fun _ => ?_) (fun _ => ?_) <;> simp) | with_reducible refine And.intro ?_ ?_ | with_reducible exact okay_rfl rfl | with_reducible assumption | omega)
  refine W_seq (?_)
  apply W_regS
  · intro K hK
    simp
    repeat' (first | with_reducible exact hK | (with_reducible refine callQ (toState_g x.fBack (by omega)) ?_; simp) | (with_reducible refine goL_split (fun _ => ?_) (fun _ => ?_) <;> simp) | with_reducible refine And.intro ?_ ?_ | with_reducible exact okay_rfl rfl | with_reducible assumption | omega)
  refine W_seq (?_)
  apply W_regS
  · intro K hK
    simp
    repeat' (first | with_reducible exact hK | (with_reducible refine goL_split (fun _ => ?_) (fun _ => ?_) <;> simp) | with_reducible refine And.intro ?_ ?_ | with_reducible exact okay_rfl rfl | with_reducible assumption | omega)
  refine W_seq (?_)
  apply W_regS
  · intro K hK
    simp
    repeat' (first | with_reducible exact hK | (with_reducible refine goL_split (fun _ => ?_) (fun _ => ?_) <;> simp) | with_reducible refine And.intro ?_ ?_ | with_reducible exact okay_rfl rfl | with_reducible assumption | omega)
  refine W_seq (?_)
  apply W_regS
  · intro K hK
    simp
    repeat' (first | with_reducible exact hK | (with_reducible refine goL_split (fun _ => ?_) (fun _ => ?_) <;> simp) | with_reducible refine And.intro ?_ ?_ | with_reducible exact okay_rfl rfl | with_reducible assumption | omega)
  refine W_seq (?_)
  apply W_regS
  · intro K hK
    simp
    repeat' (first | with_reducible exact hK | (with_reducible refine goL_split (fun _ => ?_) (fun _ => ?_) <;> simp) | with_reducible refine And.intro ?_ ?_ | with_reducible exact okay_rfl rfl | with_reducible assumption | omega)
  refine W_ret ?_
  simp [Fin]
  all_goals omega
theorem eqPair_g (x y : GPair) (hx : x.cost ≤ 1099511627776) (hy : y.cost ≤ 1099511627776) : Valid PP GG 8 [.agg x.c, .agg y.c] (.d (.bool (decide (x = y)))) [none, none] := by
  refine cv Tryz.func8 [.d (.bool (decide (x = y)))] ?_
  have hcx : x.cost = x.fLead.cost + x.fBack.cost := rfl
  have hcy : y.cost = y.fLead.cost + y.fBack.cost := rfl
  refine W_seq (?_)
  apply W_regS
  · intro K hK
    simp
    repeat' (first | with_reducible exact hK | (with_reducible refine goL_split (fun _ => ?_) (fun _ => ?_) <;> simp) | with_reducible refine And.intro ?_ ?_ | with_reducible exact okay_rfl rfl | with_reducible assumption | omega)
  refine W_seq (W_seq (?_))
  apply W_regS
  · intro K hK
    simp
    repeat' (first | with_reducible exact hK | (with_reducible refine callQ (eqState_g x.fLead y.fLead (by omega) (by omega)) ?_; simp) | (with_reducible refine goL_split (fun _ => ?_) (fun _ => ?_) <;> simp) | with_reducible refine And.intro ?_ ?_ | with_reducible exact okay_rfl rfl | with_reducible assumption | omega)
  refine W_cond rfl (fun h => W_seq ?_) (fun h0 => W_skip ?_)
  · apply W_regS
    · intro K hK
      simp
      repeat' (first | with_reducible exact hK | (with_reducible refine goL_split (fun _ => ?_) (fun _ => ?_) <;> simp) | with_reducible refine And.intro ?_ ?_ | with_reducible exact okay_rfl rfl | with_reducible assumption | omega)
    have : decide (x = y) = false := by rw [decide_eq_false_iff_not]; intro e; rw [e] at h; simp at h
    refine W_ret ?_
    simp [Fin, this]
    all_goals omega
  refine W_seq (W_seq (?_))
  apply W_regS
  · intro K hK
    simp
    repeat' (first | with_reducible exact hK | (with_reducible refine callQ (eqState_g x.fBack y.fBack (by omega) (by omega)) ?_; simp) | (with_reducible refine goL_split (fun _ => ?_) (fun _ => ?_) <;> simp) | with_reducible refine And.intro ?_ ?_ | with_reducible exact okay_rfl rfl | with_reducible assumption | omega)
  refine W_cond rfl (fun h => W_seq ?_) (fun h1 => W_skip ?_)
  · apply W_regS
    · intro K hK
      simp
      repeat' (first | with_reducible exact hK | (with_reducible refine goL_split (fun _ => ?_) (fun _ => ?_) <;> simp) | with_reducible refine And.intro ?_ ?_ | with_reducible exact okay_rfl rfl | with_reducible assumption | omega)
    have : decide (x = y) = false := by rw [decide_eq_false_iff_not]; intro e; rw [e] at h; simp at h
    refine W_ret ?_
    simp [Fin, this]
    all_goals omega
  refine W_seq (W_seq (?_))
  apply W_regS
  · intro K hK
    simp
    repeat' (first | with_reducible exact hK | (with_reducible refine goL_split (fun _ => ?_) (fun _ => ?_) <;> simp) | with_reducible refine And.intro ?_ ?_ | with_reducible exact okay_rfl rfl | with_reducible assumption | omega)
  refine W_cond rfl (fun h => W_seq ?_) (fun h2 => W_skip ?_)
  · apply W_regS
    · intro K hK
      simp
      repeat' (first | with_reducible exact hK | (with_reducible refine goL_split (fun _ => ?_) (fun _ => ?_) <;> simp) | with_reducible refine And.intro ?_ ?_ | with_reducible exact okay_rfl rfl | with_reducible assumption | omega)
    have : decide (x = y) = false := by rw [decide_eq_false_iff_not]; intro e; rw [e] at h; simp at h
    refine W_ret ?_
    simp [Fin, this]
    all_goals omega
  refine W_seq (W_seq (?_))
  apply W_regS
  · intro K hK
    simp
    repeat' (first | with_reducible exact hK | (with_reducible refine goL_split (fun _ => ?_) (fun _ => ?_) <;> simp) | with_reducible refine And.intro ?_ ?_ | with_reducible exact okay_rfl rfl | with_reducible assumption | omega)
  refine W_cond rfl (fun h => W_seq ?_) (fun h3 => W_skip ?_)
  · apply W_regS
    · intro K hK
      simp
      repeat' (first | with_reducible exact hK | (with_reducible refine goL_split (fun _ => ?_) (fun _ => ?_) <;> simp) | with_reducible refine And.intro ?_ ?_ | with_reducible exact okay_rfl rfl | with_reducible assumption | omega)
    have : decide (x = y) = false := by rw [decide_eq_false_iff_not]; intro e; rw [e] at h; simp at h
    refine W_ret ?_
    simp [Fin, this]
    all_goals omega
  refine W_seq (W_seq (?_))
  apply W_regS
  · intro K hK
    simp
    repeat' (first | with_reducible exact hK | (with_reducible refine goL_split (fun _ => ?_) (fun _ => ?_) <;> simp) | with_reducible refine And.intro ?_ ?_ | with_reducible exact okay_rfl rfl | with_reducible assumption | omega)
  refine W_cond rfl (fun h => W_seq ?_) (fun h4 => W_skip ?_)
  · apply W_regS
    · intro K hK
      simp
      repeat' (first | with_reducible exact hK | (with_reducible refine goL_split (fun _ => ?_) (fun _ => ?_) <;> simp) | with_reducible refine And.intro ?_ ?_ | with_reducible exact okay_rfl rfl | with_reducible assumption | omega)
    have : decide (x = y) = false := by rw [decide_eq_false_iff_not]; intro e; rw [e] at h; simp at h
    refine W_ret ?_
    simp [Fin, this]
    all_goals omega
  refine W_seq (?_)
  apply W_regS
  · intro K hK
    simp
    repeat' (first | with_reducible exact hK | (with_reducible refine goL_split (fun _ => ?_) (fun _ => ?_) <;> simp) | with_reducible refine And.intro ?_ ?_ | with_reducible exact okay_rfl rfl | with_reducible assumption | omega)
  have : decide (x = y) = true := by
    rw [decide_eq_true_iff]
    cases x; cases y
    simp at h0 h1 h2 h3 h4
    simp_all
  refine W_ret ?_
  simp [Fin, this]
  all_goals omega
def uval : List UInt8 → Nat
  | [] => 0
  | x :: t => x.toNat % 128 + 128 * uval t
def putU (u : Nat) : List UInt8 := if u < 128 then [UInt8.ofNat u] else UInt8.ofNat (128 + u % 128) :: putU (u / 128)
termination_by u
decreasing_by omega
def zig (x : Int) : Nat := if x < 0 then (-2 * x - 1).toNat else (2 * x).toNat
def unzig (u : Nat) : Int := if u % 2 = 1 then -((u / 2 : Nat) : Int) - 1 else ((u / 2 : Nat) : Int)
def putN (x : Int) : List UInt8 := putU (zig x)
theorem zig_unzig (u : Nat) : zig (unzig u) = u := by
  unfold zig unzig
  split <;> split <;> omega
theorem uval_snoc (a : List UInt8) (x : UInt8) : uval (a ++ [x]) = uval a + (x.toNat % 128) * 128 ^ a.length := by
  induction a with
  | nil => simp [uval]
  | cons y a ih => simp only [List.cons_append, uval, ih, List.length_cons, Nat.pow_succ, Nat.mul_add]; rw [Nat.mul_comm 128 (_ * _), Nat.mul_assoc]; omega
theorem uval_lt (a : List UInt8) : uval a < 128 ^ a.length := by
  induction a with
  | nil => simp [uval]
  | cons y a ih => simp only [uval, List.length_cons, Nat.pow_succ]; omega
theorem uval_take {l : List UInt8} {i : Nat} {x : UInt8} (h : l[i]? = some x) : uval (l.take (i + 1)) = uval (l.take i) + (x.toNat % 128) * 128 ^ i := by
  have hi := (List.getElem?_eq_some_iff.1 h).1
  rw [List.take_add_one, h, Option.toList_some, uval_snoc, List.length_take, Nat.min_eq_left (by omega)]
theorem putU_uval : ∀ (a : List UInt8) (x : UInt8), (∀ y, y ∈ a → 128 ≤ y.toNat) → x.toNat < 128 → (putU (uval (a ++ [x])) = a ++ [x] ↔ (a = [] ∨ x.toNat ≠ 0))
  | [], x, _, hx => by
    have : uval [x] = x.toNat := by simp only [uval]; omega
    simp only [List.nil_append, this, true_or, iff_true]
    rw [putU, if_pos hx]
    simp
  | y :: a, x, hy, hx => by
    have h1 := hy y (by simp)
    have ih := putU_uval a x (fun z hz => hy z (by simp [hz])) hx
    have hyl := y.toNat_lt
    have hv : uval (y :: a ++ [x]) = y.toNat % 128 + 128 * uval (a ++ [x]) := rfl
    have hm : (y.toNat % 128 + 128 * uval (a ++ [x])) % 128 = y.toNat % 128 := by omega
    have hd : (y.toNat % 128 + 128 * uval (a ++ [x])) / 128 = uval (a ++ [x]) := by omega
    have hs := uval_snoc a x
    have hb : UInt8.ofNat (128 + y.toNat % 128) = y := by
      have : 128 + y.toNat % 128 = y.toNat := by omega
      rw [this]; simp
    rw [hv]
    by_cases hx0 : x.toNat = 0
    · have hne : ¬ (y :: a = [] ∨ x.toNat ≠ 0) := by simp [hx0]
      simp only [hne, iff_false]
      intro he
      rw [putU] at he
      split at he
      · have := congrArg List.length he; simp at this
      · rw [hm, hd, hb] at he
        have he2 : putU (uval (a ++ [x])) = a ++ [x] := by simpa using he
        rcases ih.1 he2 with rfl | h
        · rename_i hge
          simp only [List.nil_append, uval] at hge; omega
        · exact h hx0
    · have hpos : 0 < uval (a ++ [x]) := by
        rw [hs]
        have : 0 < x.toNat % 128 * 128 ^ a.length := Nat.mul_pos (by omega) (Nat.pow_pos (by omega))
        omega
      rw [putU, if_neg (by omega), hm, hd, hb, ih.2 (.inr hx0)]
      simp [hx0]
def takeV (l : List UInt8) : Option (Int × Nat) :=
  match (l.take 6).findIdx? (fun x => decide (x.toNat < 128)) with
  | none => none
  | some i =>
    let p := l.take (i + 1)
    let x := unzig (uval p)
    if putN x = p ∧ -1099511627776 ≤ x ∧ x ≤ 1099511627776 then some (x, i + 1) else none
theorem intBin_andI (a b : Int) : intBin .and .i64 a b = some (.int .i64 (IntKind.i64.wrap ((BitVec.ofInt 64 a &&& BitVec.ofInt 64 b).toNat))) := id rfl
theorem intBin_orI (a b : Int) : intBin .or .i64 a b = some (.int .i64 (IntKind.i64.wrap ((BitVec.ofInt 64 a ||| BitVec.ofInt 64 b).toNat))) := id rfl
theorem bitvec_nat {a : Nat} (h : a < 18446744073709551616) : (BitVec.ofInt 64 (a : Int)).toNat = a := by
  rw [BitVec.toNat_ofInt]; omega
theorem and_num {a b c : Nat} (ha : a < 9223372036854775808) (hb : b < 9223372036854775808) (h : a &&& b = c) : IntKind.i64.wrap ((BitVec.ofInt 64 (a : Int) &&& BitVec.ofInt 64 (b : Int)).toNat) = (c : Int) := by
  rw [BitVec.toNat_and, bitvec_nat (by omega), bitvec_nat (by omega), h]
  have : a &&& b ≤ a := Nat.and_le_left
  exact wrap_id (by omega) (by omega)
theorem or_num {a b c : Nat} (ha : a < 9223372036854775808) (hb : b < 9223372036854775808) (h : a ||| b = c) (hc : c < 9223372036854775808) : IntKind.i64.wrap ((BitVec.ofInt 64 (a : Int) ||| BitVec.ofInt 64 (b : Int)).toNat) = (c : Int) := by
  rw [BitVec.toNat_or, bitvec_nat (by omega), bitvec_nat (by omega), h]
  exact wrap_id (by omega) (by omega)
theorem and_127 (a : Nat) : a &&& 127 = a % 128 := Nat.and_two_pow_sub_one_eq_mod a 7
theorem or_add {a k : Nat} (b : Nat) (h : a < 2 ^ k) : a ||| b * 2 ^ k = a + b * 2 ^ k := by
  rw [Nat.or_comm, Nat.mul_comm b, ← Nat.two_pow_add_eq_or_of_lt h, Nat.add_comm]
theorem shr_num (x : Nat) {k : Nat} (h : k ≤ 64) : (x : Int).fdiv (2 ^ (min k 64)) = ((x / 2 ^ k : Nat) : Int) := by
  rw [Nat.min_eq_left h, Int.fdiv_eq_ediv_of_nonneg _ (by exact Int.le_of_lt (Int.pow_pos (by omega)))]
  rw [show ((2 : Int) ^ k) = ((2 ^ k : Nat) : Int) by simp]
  exact (Int.natCast_ediv _ _).symm
theorem same_step {a b : List UInt8} {i : Nat} {x y : UInt8} (hx : a[i]? = some x) (hy : b[i]? = some y) (h : a.take i = b.take i) : (x = y → a.take (i + 1) = b.take (i + 1)) ∧ (x ≠ y → a ≠ b) := by
  constructor
  · intro e
    rw [List.take_add_one, List.take_add_one, hx, hy, h, e]
  · intro e e2
    subst e2
    rw [hx] at hy
    exact e (Option.some.inj hy)
theorem l01Same_ok (a b : List UInt8) (ha : a.length ≤ 70368744177664) (hb : b.length ≤ 70368744177664) : Valid PP GG 55 [.d (.slc 1 (bytesD a)), .d (.slc 1 (bytesD b))] (.d (.bool (decide (a = b)))) [none, none] := by
  refine cv Tryz.func55 [.d (.bool (decide (a = b)))] ?_
  refine W_seq (?_)
  apply W_regS
  · intro K hK
    simp
    repeat' (first | with_reducible exact hK | (with_reducible refine goL_split (fun _ => ?_) (fun _ => ?_) <;> simp) | with_reducible refine And.intro ?_ ?_ | with_reducible exact okay_rfl rfl | with_reducible assumption | omega)
  refine W_seq (W_seq (?_))
  refine W_regB 10 (decide (a.length ≠ b.length)) (fun K hK => ?_) ?_
  · simp
    repeat' (first | exact hK _ _ (by clear hK; first | omega | (exact decide_eq_false (by omega)) | (exact decide_eq_true (by omega)) | (exact (decide_eq_true (by omega)).symm) | (exact (decide_eq_false (by omega)).symm) | (exact decide_eq_decide.2 (by omega)) | (simp only [← decide_not]; exact decide_eq_decide.2 (by omega)) | (simp [*]; done) | (simp [*]; omega) | (simp_all; done) | (simp_all; omega) | (rw [Bool.eq_iff_iff]; simp at *; omega)) | (with_reducible refine goL_split (fun _ => ?_) (fun _ => ?_) <;> simp) | with_reducible refine And.intro ?_ ?_ | with_reducible exact okay_rfl rfl | with_reducible assumption | omega)
  refine W_cond rfl (fun h => W_seq ?_) (fun h => W_skip ?_)
  · apply W_regS
    · intro K hK
      simp
      repeat' (first | with_reducible exact hK | (with_reducible refine goL_split (fun _ => ?_) (fun _ => ?_) <;> simp) | with_reducible refine And.intro ?_ ?_ | with_reducible exact okay_rfl rfl | with_reducible assumption | omega)
    simp at h
    have : decide (a = b) = false := decide_eq_false fun e => h (e ▸ rfl)
    refine W_ret ?_
    simp [Fin, this]
    all_goals omega
  simp at h
  refine W_seq (W_seq (?_))
  apply W_regS
  · intro K hK
    simp
    repeat' (first | with_reducible exact hK | (with_reducible refine goL_split (fun _ => ?_) (fun _ => ?_) <;> simp) | with_reducible refine And.intro ?_ ?_ | with_reducible exact okay_rfl rfl | with_reducible assumption | omega)
  refine W_block (W_loop (fun n st => ∃ i : Nat, n = a.length - i ∧ i ≤ a.length ∧ a.take i = b.take i ∧
    st = ⟨[], [(0, .d (.slc 1 (bytesD a))), (1, .d (.slc 1 (bytesD b))), (5, .d (.int .i64 i))], [], 0⟩) _ ⟨0, rfl, by omega, rfl, rfl⟩ ?_)
  rintro n st ⟨i, rfl, hi, ht, rfl⟩
  refine W_seq (W_seq (?_))
  apply W_regS
  · intro K hK
    simp
    repeat' (first | with_reducible exact hK | (with_reducible refine goL_split (fun _ => ?_) (fun _ => ?_) <;> simp) | with_reducible refine And.intro ?_ ?_ | with_reducible exact okay_rfl rfl | with_reducible assumption | omega)
  refine W_cond rfl (fun h2 => W_skip ?_) (fun h2 => W_exit ?_)
  · simp at h2
    have hx := List.getElem?_eq_getElem h2
    have hy := List.getElem?_eq_getElem (show i < b.length by omega)
    generalize a[i] = x at hx
    generalize b[i]'_ = y at hy
    have hst := same_step hx hy ht
    refine W_seq (W_block (W_seq ?_))
    have he : ((x.toNat : Int) != (y.toNat : Int)) = !decide (x = y) := by
      rw [Bool.eq_iff_iff]; simp only [bne_iff_ne, ne_eq, Bool.not_eq_true', decide_eq_false_iff_not]
      exact not_congr ⟨fun h => UInt8.toNat_inj.1 (by omega), fun h => by rw [h]⟩
    refine W_regBD 25 (!decide (x = y)) (fun K hK => ?_) ?_
    · simp [hx, hy, he]
      repeat' (first | exact hK _ _ (by clear hK; first | omega | (exact decide_eq_false (by omega)) | (exact decide_eq_true (by omega)) | (exact (decide_eq_true (by omega)).symm) | (exact (decide_eq_false (by omega)).symm) | (exact decide_eq_decide.2 (by omega)) | (simp only [← decide_not]; exact decide_eq_decide.2 (by omega)) | (simp [*]; done) | (simp [*]; omega) | (simp_all; done) | (simp_all; omega) | (rw [Bool.eq_iff_iff]; simp at *; omega)) | (with_reducible refine goL_split (fun _ => ?_) (fun _ => ?_) <;> simp [hx, hy, he]) | with_reducible refine And.intro ?_ ?_ | with_reducible exact okay_rfl rfl | with_reducible assumption | omega)
    refine W_cond rfl (fun h3 => W_seq ?_) (fun h3 => W_skip ?_)
    · simp at h3
      apply W_regS
      · intro K hK
        simp
        repeat' (first | with_reducible exact hK | (with_reducible refine goL_split (fun _ => ?_) (fun _ => ?_) <;> simp) | with_reducible refine And.intro ?_ ?_ | with_reducible exact okay_rfl rfl | with_reducible assumption | omega)
      have : decide (a = b) = false := decide_eq_false (hst.2 h3)
      refine W_ret ?_
      simp [Fin, this]
      all_goals omega
    simp at h3
    apply W_regS
    · intro K hK
      simp
      repeat' (first | with_reducible exact hK | (with_reducible refine goL_split (fun _ => ?_) (fun _ => ?_) <;> simp) | with_reducible refine And.intro ?_ ?_ | with_reducible exact okay_rfl rfl | with_reducible assumption | omega)
    exact ⟨a.length - (i + 1), by omega, i + 1, rfl, h2, hst.1 h3, by simp [gc, closeN, liveA, gcV, gcO, renA, renAs, renO, namesAs, namesA, namesO, posn]; exact wrap_id (by omega) (by omega)⟩
  · simp at h2
    rw [List.take_of_length_le h2, List.take_of_length_le (by omega)] at ht
    rw [if_pos rfl]
    refine W_seq (?_)
    apply W_regS
    · intro K hK
      simp
      repeat' (first | with_reducible exact hK | (with_reducible refine goL_split (fun _ => ?_) (fun _ => ?_) <;> simp) | with_reducible refine And.intro ?_ ?_ | with_reducible exact okay_rfl rfl | with_reducible assumption | omega)
    have : decide (a = b) = true := decide_eq_true ht
    refine W_ret ?_
    simp [Fin, this]
    all_goals omega
theorem bytes_Equal_ok (a b : List UInt8) : Valid PP GG 71 [.d (.slc 1 (bytesD a)), .d (.slc 1 (bytesD b))] (.d (.bool (decide (a = b)))) [none, none] := by
  refine cv Tryz.func71 [.d (.bool (decide (a = b)))] ?_
  refine W_seq (?_)
  apply W_regS
  · intro K hK
    simp
    repeat' (first | with_reducible exact hK | (with_reducible refine goL_split (fun _ => ?_) (fun _ => ?_) <;> simp) | with_reducible refine And.intro ?_ ?_ | with_reducible exact okay_rfl rfl | with_reducible assumption | omega)
  refine W_seq (?_)
  have he : (a == b) = decide (a = b) := by rw [Bool.eq_iff_iff]; simp
  apply W_regS
  · intro K hK
    simp [strOf_bytesD, he]
    repeat' (first | with_reducible exact hK | (with_reducible refine goL_split (fun _ => ?_) (fun _ => ?_) <;> simp [strOf_bytesD, he]) | with_reducible refine And.intro ?_ ?_ | with_reducible exact okay_rfl rfl | with_reducible assumption | omega)
  refine W_ret ?_
  simp [Fin]
  all_goals omega
def beN (x : Nat) : Nat → List UInt8
  | 0 => []
  | n + 1 => UInt8.ofNat (x / 2 ^ (8 * n)) :: beN x n
theorem be_u8 (q : Nat) : IntKind.u8.wrap (q : Int) = ((UInt8.ofNat q).toNat : Int) := by
  rw [IntKind.wrap_u8, UInt8.toNat_ofNat']; omega
theorem bigEndian_ok (x n : Nat) (o : List UInt8) (hx : x < 9223372036854775808) (hn : n ≤ 8) (ho : o.length ≤ 1000000) :
    Valid PP GG 72 [.own 0 1 (bytesD o), .d (.int .i64 x), .d (.int .i64 n)] (.own 0 1 (bytesD (o ++ beN x n))) [none, none, none] := by
  refine cv Tryz.func72 [.own 0 1 (bytesD (o ++ beN x n))] ?_
  have hw0 : IntKind.i64.wrap ((n : Int) - 1) = (n : Int) - 1 := wrap_id (by omega) (by omega)
  refine W_seq (?_)
  apply W_regS
  · intro K hK
    simp
    repeat' (first | with_reducible exact hK | (with_reducible refine goL_split (fun _ => ?_) (fun _ => ?_) <;> simp) | with_reducible refine And.intro ?_ ?_ | with_reducible exact okay_rfl rfl | with_reducible assumption | omega)
  refine W_seq (W_seq (?_))
  apply W_regS
  · intro K hK
    simp [hw0]
    repeat' (first | with_reducible exact hK | (with_reducible refine goL_split (fun _ => ?_) (fun _ => ?_) <;> simp [hw0]) | with_reducible refine And.intro ?_ ?_ | with_reducible exact okay_rfl rfl | with_reducible assumption | omega)
  refine W_block (W_loop (fun m st => ∃ (i : Nat) (p : List UInt8), m = i ∧ i ≤ n ∧ p ++ beN x i = o ++ beN x n ∧ p.length = o.length + (n - i) ∧
    st = ⟨[], [(0, .sl 0), (1, .d (.int .i64 x)), (7, .d (.int .i64 ((i : Int) - 1)))], [(0, .arr 0 0 1 (bytesD p))], 1⟩) _ ⟨n, o, rfl, by omega, rfl, by omega, by simp [gc, closeN, liveA, gcV, gcO, renA, renAs, renO, namesAs, namesA, namesO, posn]⟩ ?_)
  rintro m st ⟨i, p, rfl, hi, hp, hpl, rfl⟩
  refine W_seq (W_seq (?_))
  refine W_regB 11 (decide (0 < m)) (fun K hK => ?_) ?_
  · simp
    repeat' (first | exact hK _ _ (by clear hK; first | omega | (exact decide_eq_false (by omega)) | (exact decide_eq_true (by omega)) | (exact (decide_eq_true (by omega)).symm) | (exact (decide_eq_false (by omega)).symm) | (exact decide_eq_decide.2 (by omega)) | (simp only [← decide_not]; exact decide_eq_decide.2 (by omega)) | (simp [*]; done) | (simp [*]; omega) | (simp_all; done) | (simp_all; omega) | (rw [Bool.eq_iff_iff]; simp at *; omega)) | (with_reducible refine goL_split (fun _ => ?_) (fun _ => ?_) <;> simp) | with_reducible refine And.intro ?_ ?_ | with_reducible exact okay_rfl rfl | with_reducible assumption | omega)
  refine W_cond rfl (fun h2 => W_skip ?_) (fun h2 => W_exit ?_)
  · simp at h2
    obtain ⟨k, rfl⟩ : ∃ k, m = k + 1 := ⟨m - 1, by omega⟩
    obtain ⟨q, hq⟩ : ∃ q : Nat, x / 2 ^ (8 * k) = q := ⟨_, rfl⟩
    have f0 : ((k + 1 : Nat) : Int) - 1 = k := by omega
    have f4 : IntKind.i64.wrap (8 * (k : Int)) = 8 * k := wrap_id (by omega) (by omega)
    have f5 : (8 * (k : Int)).toNat = 8 * k := by omega
    have f8 : (0 : Int) ≤ 8 * (k : Int) := by omega
    have f1 := shr_num x (show 8 * k ≤ 64 by omega)
    rw [hq] at f1
    have f3 := be_u8 q
    have f6 : IntKind.i64.wrap ((k : Int) - 1) = (k : Int) - 1 := wrap_id (by omega) (by omega)
    have hp2 : p ++ [UInt8.ofNat q] ++ beN x k = o ++ beN x n := by rw [← hp]; simp [beN, hq]
    generalize UInt8.ofNat q = b at f3 hp2
    rw [f0]
    refine W_seq (W_block ?_)
    apply W_regS
    · intro K hK
      simp [f4, f8, f5, f1, f3, limit]
      repeat' (first | with_reducible exact hK | (with_reducible refine goL_split (fun _ => ?_) (fun _ => ?_) <;> simp [f4, f8, f5, f1, f3, limit]) | with_reducible refine And.intro ?_ ?_ | with_reducible exact okay_rfl rfl | with_reducible assumption | omega)
    apply W_regS
    · intro K hK
      simp [f6]
      repeat' (first | with_reducible exact hK | (with_reducible refine goL_split (fun _ => ?_) (fun _ => ?_) <;> simp [f6]) | with_reducible refine And.intro ?_ ?_ | with_reducible exact okay_rfl rfl | with_reducible assumption | omega)
    exact ⟨k, by omega, k, p ++ [b], rfl, by omega, hp2, by simp; omega, by simp [gc, closeN, liveA, gcV, gcO, renA, renAs, renO, namesAs, namesA, namesO, posn, bytesD]⟩
  · simp at h2
    subst h2
    rw [if_pos rfl]
    have e : p = o ++ beN x n := by simpa [beN] using hp
    subst e
    refine W_seq (?_)
    apply W_regS
    · intro K hK
      simp
      repeat' (first | with_reducible exact hK | (with_reducible refine goL_split (fun _ => ?_) (fun _ => ?_) <;> simp) | with_reducible refine And.intro ?_ ?_ | with_reducible exact okay_rfl rfl | with_reducible assumption | omega)
    refine W_ret ?_
    simp [Fin]
    all_goals omega
theorem l05Wide_ok (x n : Nat) (hx : x < 9223372036854775808) (hn : n ≤ 8) :
    Valid PP GG 56 [.d (.int .i64 x), .d (.int .i64 n)] (.own 0 1 (bytesD (beN x n))) [none, none] := by
  refine cv Tryz.func56 [.own 0 1 (bytesD (beN x n))] ?_
  have hw0 : IntKind.i64.wrap ((n : Int) - 1) = (n : Int) - 1 := wrap_id (by omega) (by omega)
  refine W_seq (?_)
  apply W_regS
  · intro K hK
    simp
    repeat' (first | with_reducible exact hK | (with_reducible refine goL_split (fun _ => ?_) (fun _ => ?_) <;> simp) | with_reducible refine And.intro ?_ ?_ | with_reducible exact okay_rfl rfl | with_reducible assumption | omega)
  refine W_seq (?_)
  apply W_regS
  · intro K hK
    simp [litA]
    repeat' (first | with_reducible exact hK | (with_reducible refine goL_split (fun _ => ?_) (fun _ => ?_) <;> simp [litA]) | with_reducible refine And.intro ?_ ?_ | with_reducible exact okay_rfl rfl | with_reducible assumption | omega)
  refine W_seq (W_seq (?_))
  apply W_regS
  · intro K hK
    simp [hw0]
    repeat' (first | with_reducible exact hK | (with_reducible refine goL_split (fun _ => ?_) (fun _ => ?_) <;> simp [hw0]) | with_reducible refine And.intro ?_ ?_ | with_reducible exact okay_rfl rfl | with_reducible assumption | omega)
  refine W_block (W_loop (fun m st => ∃ (i : Nat) (p : List UInt8), m = i ∧ i ≤ n ∧ p ++ beN x i = beN x n ∧ p.length = n - i ∧
    st = ⟨[], [(0, .d (.int .i64 x)), (5, .sl 0), (6, .d (.int .i64 ((i : Int) - 1)))], [(0, .arr 0 0 1 (bytesD p))], 1⟩) _ ⟨n, [], rfl, by omega, rfl, by simp, by simp [gc, closeN, liveA, gcV, gcO, renA, renAs, renO, namesAs, namesA, namesO, posn, bytesD]⟩ ?_)
  rintro m st ⟨i, p, rfl, hi, hp, hpl, rfl⟩
  refine W_seq (W_seq (?_))
  refine W_regB 11 (decide (0 < m)) (fun K hK => ?_) ?_
  · simp
    repeat' (first | exact hK _ _ (by clear hK; first | omega | (exact decide_eq_false (by omega)) | (exact decide_eq_true (by omega)) | (exact (decide_eq_true (by omega)).symm) | (exact (decide_eq_false (by omega)).symm) | (exact decide_eq_decide.2 (by omega)) | (simp only [← decide_not]; exact decide_eq_decide.2 (by omega)) | (simp [*]; done) | (simp [*]; omega) | (simp_all; done) | (simp_all; omega) | (rw [Bool.eq_iff_iff]; simp at *; omega)) | (with_reducible refine goL_split (fun _ => ?_) (fun _ => ?_) <;> simp) | with_reducible refine And.intro ?_ ?_ | with_reducible exact okay_rfl rfl | with_reducible assumption | omega)
  refine W_cond rfl (fun h2 => W_skip ?_) (fun h2 => W_exit ?_)
  · simp at h2
    obtain ⟨k, rfl⟩ : ∃ k, m = k + 1 := ⟨m - 1, by omega⟩
    obtain ⟨q, hq⟩ : ∃ q : Nat, x / 2 ^ (8 * k) = q := ⟨_, rfl⟩
    have hql : q < 9223372036854775808 := by rw [← hq]; exact Nat.lt_of_le_of_lt (Nat.div_le_self _ _) hx
    have f0 : ((k + 1 : Nat) : Int) - 1 = k := by omega
    have f4 : IntKind.i64.wrap (8 * (k : Int)) = 8 * k := wrap_id (by omega) (by omega)
    have f4b : IntKind.u64.wrap (8 * (k : Int)) = 8 * k := by rw [IntKind.wrap_u64]; omega
    have f5 : (8 * (k : Int)).toNat = 8 * k := by omega
    have f8 : (0 : Int) ≤ 8 * (k : Int) := by omega
    have f1 := shr_num x (show 8 * k ≤ 64 by omega)
    rw [hq] at f1
    have f7 := wide_and q
    have f3 : IntKind.u8.wrap ((q : Int) % 256) = ((UInt8.ofNat q).toNat : Int) := by rw [IntKind.wrap_u8, UInt8.toNat_ofNat']; omega
    have f6 : IntKind.i64.wrap ((k : Int) - 1) = (k : Int) - 1 := wrap_id (by omega) (by omega)
    have hp2 : p ++ [UInt8.ofNat q] ++ beN x k = beN x n := by rw [← hp]; simp [beN, hq]
    generalize UInt8.ofNat q = b at f3 hp2
    rw [f0]
    refine W_seq (W_block ?_)
    apply W_regS
    · intro K hK
      simp [f4, f4b, f8, f5, f1, f7, f3, limit]
      repeat' (first | with_reducible exact hK | (with_reducible refine goL_split (fun _ => ?_) (fun _ => ?_) <;> simp [f4, f4b, f8, f5, f1, f7, f3, limit]) | with_reducible refine And.intro ?_ ?_ | with_reducible exact okay_rfl rfl | with_reducible assumption | omega)
    apply W_regS
    · intro K hK
      simp [f6]
      repeat' (first | with_reducible exact hK | (with_reducible refine goL_split (fun _ => ?_) (fun _ => ?_) <;> simp [f6]) | with_reducible refine And.intro ?_ ?_ | with_reducible exact okay_rfl rfl | with_reducible assumption | omega)
    exact ⟨k, by omega, k, p ++ [b], rfl, by omega, hp2, by simp; omega, by simp [gc, closeN, liveA, gcV, gcO, renA, renAs, renO, namesAs, namesA, namesO, posn, bytesD]⟩
  · simp at h2
    subst h2
    rw [if_pos rfl]
    have e : p = beN x n := by simpa [beN] using hp
    subst e
    refine W_seq (?_)
    apply W_regS
    · intro K hK
      simp
      repeat' (first | with_reducible exact hK | (with_reducible refine goL_split (fun _ => ?_) (fun _ => ?_) <;> simp) | with_reducible refine And.intro ?_ ?_ | with_reducible exact okay_rfl rfl | with_reducible assumption | omega)
    refine W_ret ?_
    simp [Fin]
    all_goals omega
end Go.Proofs.YtbjmakmahooaiaaGreat.Ab
