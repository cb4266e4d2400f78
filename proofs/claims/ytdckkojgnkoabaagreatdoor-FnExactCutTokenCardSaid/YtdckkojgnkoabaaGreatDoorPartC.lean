/-
  A part of a proof about the given program; what is proved is said where each theorem stands.
-/
import Derived.Test.YtdckkojgnkoabaaGreatDoorFrameA
import Derived.Test.YtdckkojgnkoabaaGreatDoorFrameB
import Derived.Test.YtdckkojgnkoabaaGreatDoorFrameC
import Derived.Test.YtdckkojgnkoabaaGreatDoorFrameD
import Derived.Test.YtdckkojgnkoabaaGreatDoorFrameE
import Derived.Test.YtdckkojgnkoabaaGreatDoorCodesA
import Derived.Test.YtdckkojgnkoabaaGreatDoorCodesB
import Derived.Test.YtdckkojgnkoabaaGreatDoorShelf
import Derived.Test.YtdckkojgnkoabaaGreatDoorPartA
import Derived.Test.YtdckkojgnkoabaaGreatDoorPartB
namespace Go.Proofs
end Go.Proofs
set_option linter.unusedSimpArgs false
set_option linter.unusedVariables false
set_option maxRecDepth 100000
set_option maxHeartbeats 2000000
namespace Go.Proofs.YtdckkojgnkoabaaGreatDoor.Ab
open Go.Proofs
variable {GG : GV}
theorem szWorld_g (x : GWorld) (l : Int) (hx : x.ok) (h0 : 0 ≤ l ∧ l ≤ 1048576) : Valid PP GG F_L_szWorld [.agg x.c, .d (.int .i64 l)] (.d (.int .i64 (leftR x.cost l))) [none, none] := by
  refine v_L_szWorld [.d (.int .i64 (leftR x.cost l))] rfl rfl ?_
  have hco : x.cost = x.fForest.cost + x.fBook.cost + x.fFar.cost + x.fQueue.cost + (x.fOwned.length + sumBy GOwned.cost x.fOwned) := rfl
  unfold GWorld.ok maxLen at hx
  obtain ⟨okNow0, okNext0, okLost0, okForest0, okBook0, okFar0, okQueue0, okOwned0, okOwned1⟩ := hx
  generalize x.cost = co at hco
  refine W_seq (?_)
  apply W_regS
  · intro K hK
    simp
    repeat' (first | with_reducible exact hK | (with_reducible refine goL_split (fun _ => ?_) (fun _ => ?_) <;> simp) | with_reducible refine And.intro ?_ ?_ | with_reducible exact okay_rfl rfl | with_reducible assumption | omega)
  have ct := szForest_g (GG := GG) x.fForest l okForest0 ⟨by omega, by omega⟩
  obtain ⟨l1, el1⟩ : ∃ z : Int, leftR x.fForest.cost l = z := ⟨_, rfl⟩
  rw [el1] at ct
  refine W_seq (?_)
  apply W_regS
  · intro K hK
    simp
    repeat' (first | with_reducible exact hK | (with_reducible refine callQ (ct) ?_; simp) | (with_reducible refine goL_split (fun _ => ?_) (fun _ => ?_) <;> simp) | with_reducible refine And.intro ?_ ?_ | with_reducible exact okay_rfl rfl | with_reducible assumption | omega)
  clear ct
  refine W_seq (W_seq (?_))
  apply W_regS
  · intro K hK
    simp
    repeat' (first | with_reducible exact hK | (with_reducible refine goL_split (fun _ => ?_) (fun _ => ?_) <;> simp) | with_reducible refine And.intro ?_ ?_ | with_reducible exact okay_rfl rfl | with_reducible assumption | omega)
  refine W_cond rfl (fun hh0 => W_seq ?_) (fun hh0 => W_skip ?_)
  · apply W_regS
    · intro K hK
      simp
      repeat' (first | with_reducible exact hK | (with_reducible refine goL_split (fun _ => ?_) (fun _ => ?_) <;> simp) | with_reducible refine And.intro ?_ ?_ | with_reducible exact okay_rfl rfl | with_reducible assumption | omega)
    simp at hh0
    rw [← el1] at hh0
    have hn := leftR_neg (by omega) hh0
    have : leftR co l = -1 := leftR_no (by omega)
    refine W_ret ?_
    simp [Fin, this]
    all_goals omega
  simp at hh0
  rw [← el1] at hh0
  obtain ⟨gl1, jl1⟩ := leftR_pos (Int.not_lt.2 hh0)
  rw [el1] at jl1 hh0
  have ct := szBook_g (GG := GG) x.fBook l1 okBook0 ⟨by omega, by omega⟩
  obtain ⟨l2, el2⟩ : ∃ z : Int, leftR x.fBook.cost l1 = z := ⟨_, rfl⟩
  rw [el2] at ct
  refine W_seq (?_)
  apply W_regS
  · intro K hK
    simp
    repeat' (first | with_reducible exact hK | (with_reducible refine callQ (ct) ?_; simp) | (with_reducible refine goL_split (fun _ => ?_) (fun _ => ?_) <;> simp) | with_reducible refine And.intro ?_ ?_ | with_reducible exact okay_rfl rfl | with_reducible assumption | omega)
  clear ct
  refine W_seq (W_seq (?_))
  apply W_regS
  · intro K hK
    simp
    repeat' (first | with_reducible exact hK | (with_reducible refine goL_split (fun _ => ?_) (fun _ => ?_) <;> simp) | with_reducible refine And.intro ?_ ?_ | with_reducible exact okay_rfl rfl | with_reducible assumption | omega)
  refine W_cond rfl (fun hh1 => W_seq ?_) (fun hh1 => W_skip ?_)
  · apply W_regS
    · intro K hK
      simp
      repeat' (first | with_reducible exact hK | (with_reducible refine goL_split (fun _ => ?_) (fun _ => ?_) <;> simp) | with_reducible refine And.intro ?_ ?_ | with_reducible exact okay_rfl rfl | with_reducible assumption | omega)
    simp at hh1
    rw [← el2] at hh1
    have hn := leftR_neg (by omega) hh1
    have : leftR co l = -1 := leftR_no (by omega)
    refine W_ret ?_
    simp [Fin, this]
    all_goals omega
  simp at hh1
  rw [← el2] at hh1
  obtain ⟨gl2, jl2⟩ := leftR_pos (Int.not_lt.2 hh1)
  rw [el2] at jl2 hh1
  have ct := szFar_g (GG := GG) x.fFar l2 okFar0 ⟨by omega, by omega⟩
  obtain ⟨l3, el3⟩ : ∃ z : Int, leftR x.fFar.cost l2 = z := ⟨_, rfl⟩
  rw [el3] at ct
  refine W_seq (?_)
  apply W_regS
  · intro K hK
    simp
    repeat' (first | with_reducible exact hK | (with_reducible refine callQ (ct) ?_; simp) | (with_reducible refine goL_split (fun _ => ?_) (fun _ => ?_) <;> simp) | with_reducible refine And.intro ?_ ?_ | with_reducible exact okay_rfl rfl | with_reducible assumption | omega)
  clear ct
  refine W_seq (W_seq (?_))
  apply W_regS
  · intro K hK
    simp
    repeat' (first | with_reducible exact hK | (with_reducible refine goL_split (fun _ => ?_) (fun _ => ?_) <;> simp) | with_reducible refine And.intro ?_ ?_ | with_reducible exact okay_rfl rfl | with_reducible assumption | omega)
  refine W_cond rfl (fun hh2 => W_seq ?_) (fun hh2 => W_skip ?_)
  · apply W_regS
    · intro K hK
      simp
      repeat' (first | with_reducible exact hK | (with_reducible refine goL_split (fun _ => ?_) (fun _ => ?_) <;> simp) | with_reducible refine And.intro ?_ ?_ | with_reducible exact okay_rfl rfl | with_reducible assumption | omega)
    simp at hh2
    rw [← el3] at hh2
    have hn := leftR_neg (by omega) hh2
    have : leftR co l = -1 := leftR_no (by omega)
    refine W_ret ?_
    simp [Fin, this]
    all_goals omega
  simp at hh2
  rw [← el3] at hh2
  obtain ⟨gl3, jl3⟩ := leftR_pos (Int.not_lt.2 hh2)
  rw [el3] at jl3 hh2
  have ct := szQueue_g (GG := GG) x.fQueue l3 okQueue0 ⟨by omega, by omega⟩
  obtain ⟨l4, el4⟩ : ∃ z : Int, leftR x.fQueue.cost l3 = z := ⟨_, rfl⟩
  rw [el4] at ct
  refine W_seq (?_)
  apply W_regS
  · intro K hK
    simp
    repeat' (first | with_reducible exact hK | (with_reducible refine callQ (ct) ?_; simp) | (with_reducible refine goL_split (fun _ => ?_) (fun _ => ?_) <;> simp) | with_reducible refine And.intro ?_ ?_ | with_reducible exact okay_rfl rfl | with_reducible assumption | omega)
  clear ct
  refine W_seq (W_seq (?_))
  apply W_regS
  · intro K hK
    simp
    repeat' (first | with_reducible exact hK | (with_reducible refine goL_split (fun _ => ?_) (fun _ => ?_) <;> simp) | with_reducible refine And.intro ?_ ?_ | with_reducible exact okay_rfl rfl | with_reducible assumption | omega)
  refine W_cond rfl (fun hh3 => W_seq ?_) (fun hh3 => W_skip ?_)
  · apply W_regS
    · intro K hK
      simp
      repeat' (first | with_reducible exact hK | (with_reducible refine goL_split (fun _ => ?_) (fun _ => ?_) <;> simp) | with_reducible refine And.intro ?_ ?_ | with_reducible exact okay_rfl rfl | with_reducible assumption | omega)
    simp at hh3
    rw [← el4] at hh3
    have hn := leftR_neg (by omega) hh3
    have : leftR co l = -1 := leftR_no (by omega)
    refine W_ret ?_
    simp [Fin, this]
    all_goals omega
  simp at hh3
  rw [← el4] at hh3
  obtain ⟨gl4, jl4⟩ := leftR_pos (Int.not_lt.2 hh3)
  rw [el4] at jl4 hh3
  have ct := szOwnedS_g (GG := GG) x.fOwned l4 (by unfold maxLen; omega) okOwned1 ⟨by omega, by omega⟩
  obtain ⟨l5, el5⟩ : ∃ z : Int, leftR (x.fOwned.length + sumBy GOwned.cost x.fOwned) l4 = z := ⟨_, rfl⟩
  rw [el5] at ct
  refine W_seq (?_)
  apply W_regS
  · intro K hK
    simp
    repeat' (first | with_reducible exact hK | (with_reducible refine callQ (ct) ?_; simp) | (with_reducible refine goL_split (fun _ => ?_) (fun _ => ?_) <;> simp) | with_reducible refine And.intro ?_ ?_ | with_reducible exact okay_rfl rfl | with_reducible assumption | omega)
  clear ct
  refine W_seq (W_seq (?_))
  apply W_regS
  · intro K hK
    simp
    repeat' (first | with_reducible exact hK | (with_reducible refine goL_split (fun _ => ?_) (fun _ => ?_) <;> simp) | with_reducible refine And.intro ?_ ?_ | with_reducible exact okay_rfl rfl | with_reducible assumption | omega)
  refine W_cond rfl (fun hh4 => W_seq ?_) (fun hh4 => W_skip ?_)
  · apply W_regS
    · intro K hK
      simp
      repeat' (first | with_reducible exact hK | (with_reducible refine goL_split (fun _ => ?_) (fun _ => ?_) <;> simp) | with_reducible refine And.intro ?_ ?_ | with_reducible exact okay_rfl rfl | with_reducible assumption | omega)
    simp at hh4
    rw [← el5] at hh4
    have hn := leftR_neg (by omega) hh4
    have : leftR co l = -1 := leftR_no (by omega)
    refine W_ret ?_
    simp [Fin, this]
    all_goals omega
  simp at hh4
  rw [← el5] at hh4
  obtain ⟨gl5, jl5⟩ := leftR_pos (Int.not_lt.2 hh4)
  rw [el5] at jl5 hh4
  refine W_seq (?_)
  apply W_regS
  · intro K hK
    simp
    repeat' (first | with_reducible exact hK | (with_reducible refine goL_split (fun _ => ?_) (fun _ => ?_) <;> simp) | with_reducible refine And.intro ?_ ?_ | with_reducible exact okay_rfl rfl | with_reducible assumption | omega)
  have : leftR co l = l5 := by rw [leftR_yes (by omega)]; omega
  refine W_ret ?_
  simp [Fin, this]
  all_goals omega
theorem toWorld_g (x : GWorld) (hx : x.cost ≤ 1099511627776) : Valid PP GG F_L_toWorld [.agg x.c] (.agg x.o) [none] := by
  refine v_L_toWorld [.agg x.o] rfl rfl ?_
  have hco : x.cost = x.fForest.cost + x.fBook.cost + x.fFar.cost + x.fQueue.cost + (x.fOwned.length + sumBy GOwned.cost x.fOwned) := rfl
  refine W_seq (?_)
  apply W_regS
  · intro K hK
    simp
    repeat' (first | with_reducible exact hK | (with_reducible refine goL_split (fun _ => ?_) (fun _ => ?_) <;> simp) | with_reducible refine And.intro ?_ ?_ | with_reducible exact okay_rfl rfl | with_reducible assumption | omega)
  refine W_seq (?_)
  apply W_regS
  · intro K hK
    simp
    repeat' (first | with_reducible exact hK | (with_reducible refine goL_split (fun _ => ?_) (fun _ => ?_) <;> simp) | with_reducible refine And.intro ?_ ?_ | with_reducible exact okay_rfl rfl | with_reducible assumption | omega)
  refine W_seq (?_)
  apply W_regS
  · intro K hK
    simp
    repeat' (first | with_reducible exact hK | (with_reducible refine goL_split (fun _ => ?_) (fun _ => ?_) <;> simp) | with_reducible refine And.intro ?_ ?_ | with_reducible exact okay_rfl rfl | with_reducible assumption | omega)
  refine W_seq (?_)
  apply W_regS
  · intro K hK
    simp
    repeat' (first | with_reducible exact hK | (with_reducible refine goL_split (fun _ => ?_) (fun _ => ?_) <;> simp) | with_reducible refine And.intro ?_ ?_ | with_reducible exact okay_rfl rfl | with_reducible assumption | omega)
  refine W_seq (?_)
  apply W_regS
  · intro K hK
    simp
    repeat' (first | with_reducible exact hK | (with_reducible refine goL_split (fun _ => ?_) (fun _ => ?_) <;> simp) | with_reducible refine And.intro ?_ ?_ | with_reducible exact okay_rfl rfl | with_reducible assumption | omega)
  refine W_seq (?_)
  apply W_regS
  · intro K hK
    simp
    repeat' (first | with_reducible exact hK | (with_reducible refine callQ (toForest_g x.fForest (by omega)) ?_; simp) | (with_reducible refine goL_split (fun _ => ?_) (fun _ => ?_) <;> simp) | with_reducible refine And.intro ?_ ?_ | with_reducible exact okay_rfl rfl | with_reducible assumption | omega)
  refine W_seq (?_)
  apply W_regS
  · intro K hK
    simp
    repeat' (first | with_reducible exact hK | (with_reducible refine callQ (toBook_g x.fBook (by omega)) ?_; simp) | (with_reducible refine goL_split (fun _ => ?_) (fun _ => ?_) <;> simp) | with_reducible refine And.intro ?_ ?_ | with_reducible exact okay_rfl rfl | with_reducible assumption | omega)
  refine W_seq (?_)
  apply W_regS
  · intro K hK
    simp
    repeat' (first | with_reducible exact hK | (with_reducible refine callQ (toFar_g x.fFar (by omega)) ?_; simp) | (with_reducible refine goL_split (fun _ => ?_) (fun _ => ?_) <;> simp) | with_reducible refine And.intro ?_ ?_ | with_reducible exact okay_rfl rfl | with_reducible assumption | omega)
  refine W_seq (?_)
  apply W_regS
  · intro K hK
    simp
    repeat' (first | with_reducible exact hK | (with_reducible refine callQ (toQueue_g x.fQueue (by omega)) ?_; simp) | (with_reducible refine goL_split (fun _ => ?_) (fun _ => ?_) <;> simp) | with_reducible refine And.intro ?_ ?_ | with_reducible exact okay_rfl rfl | with_reducible assumption | omega)
  refine W_seq (?_)
  apply W_regS
  · intro K hK
    simp
    repeat' (first | with_reducible exact hK | (with_reducible refine callQ (toOwnedS_g x.fOwned (by omega)) ?_; simp) | (with_reducible refine goL_split (fun _ => ?_) (fun _ => ?_) <;> simp) | with_reducible refine And.intro ?_ ?_ | with_reducible exact okay_rfl rfl | with_reducible assumption | omega)
  refine W_seq (?_)
  apply W_regS
  · intro K hK
    simp
    repeat' (first | with_reducible exact hK | (with_reducible refine goL_split (fun _ => ?_) (fun _ => ?_) <;> simp) | with_reducible refine And.intro ?_ ?_ | with_reducible exact okay_rfl rfl | with_reducible assumption | omega)
  refine W_ret ?_
  simp [Fin]
  all_goals omega
theorem eqWorld_g (x y : GWorld) (hx : x.cost ≤ 1099511627776) (hy : y.cost ≤ 1099511627776) : Valid PP GG F_L_eqWorld [.agg x.c, .agg y.c] (.d (.bool (decide (x = y)))) [none, none] := by
  refine v_L_eqWorld [.d (.bool (decide (x = y)))] rfl rfl ?_
  have hcx : x.cost = x.fForest.cost + x.fBook.cost + x.fFar.cost + x.fQueue.cost + (x.fOwned.length + sumBy GOwned.cost x.fOwned) := rfl
  have hcy : y.cost = y.fForest.cost + y.fBook.cost + y.fFar.cost + y.fQueue.cost + (y.fOwned.length + sumBy GOwned.cost y.fOwned) := rfl
  refine W_seq (?_)
  apply W_regS
  · intro K hK
    simp
    repeat' (first | with_reducible exact hK | (with_reducible refine goL_split (fun _ => ?_) (fun _ => ?_) <;> simp) | with_reducible refine And.intro ?_ ?_ | with_reducible exact okay_rfl rfl | with_reducible assumption | omega)
  refine W_seq (W_seq (?_))
  apply W_regS
  · intro K hK
    simp
    repeat' (first | with_reducible exact hK | (with_reducible refine goL_split (fun _ => ?_) (fun _ => ?_) <;> simp) | with_reducible refine And.intro ?_ ?_ | with_reducible exact okay_rfl rfl | with_reducible assumption | omega)
  refine W_cond rfl (fun h => W_seq ?_) (fun h0 => W_skip ?_)
  · apply W_regS
    · intro K hK
      simp
      repeat' (first | with_reducible exact hK | (with_reducible refine goL_split (fun _ => ?_) (fun _ => ?_) <;> simp) | with_reducible refine And.intro ?_ ?_ | with_reducible exact okay_rfl rfl | with_reducible assumption | omega)
    have : decide (x = y) = false := by rw [decide_eq_false_iff_not]; intro e; rw [e] at h; simp at h
    refine W_ret ?_
    simp [Fin, this]
    all_goals omega
  refine W_seq (W_seq (?_))
  apply W_regS
  · intro K hK
    simp
    repeat' (first | with_reducible exact hK | (with_reducible refine goL_split (fun _ => ?_) (fun _ => ?_) <;> simp) | with_reducible refine And.intro ?_ ?_ | with_reducible exact okay_rfl rfl | with_reducible assumption | omega)
  refine W_cond rfl (fun h => W_seq ?_) (fun h1 => W_skip ?_)
  · apply W_regS
    · intro K hK
      simp
      repeat' (first | with_reducible exact hK | (with_reducible refine goL_split (fun _ => ?_) (fun _ => ?_) <;> simp) | with_reducible refine And.intro ?_ ?_ | with_reducible exact okay_rfl rfl | with_reducible assumption | omega)
    have : decide (x = y) = false := by rw [decide_eq_false_iff_not]; intro e; rw [e] at h; simp at h
    refine W_ret ?_
    simp [Fin, this]
    all_goals omega
  refine W_seq (W_seq (?_))
  apply W_regS
  · intro K hK
    simp
    repeat' (first | with_reducible exact hK | (with_reducible refine goL_split (fun _ => ?_) (fun _ => ?_) <;> simp) | with_reducible refine And.intro ?_ ?_ | with_reducible exact okay_rfl rfl | with_reducible assumption | omega)
  refine W_cond rfl (fun h => W_seq ?_) (fun h2 => W_skip ?_)
  · apply W_regS
    · intro K hK
      simp
      repeat' (first | with_reducible exact hK | (with_reducible refine goL_split (fun _ => ?_) (fun _ => ?_) <;> simp) | with_reducible refine And.intro ?_ ?_ | with_reducible exact okay_rfl rfl | with_reducible assumption | omega)
    have : decide (x = y) = false := by rw [decide_eq_false_iff_not]; intro e; rw [e] at h; simp at h
    refine W_ret ?_
    simp [Fin, this]
    all_goals omega
  refine W_seq (W_seq (?_))
  apply W_regS
  · intro K hK
    simp
    repeat' (first | with_reducible exact hK | (with_reducible refine callQ (eqForest_g x.fForest y.fForest (by omega) (by omega)) ?_; simp) | (with_reducible refine goL_split (fun _ => ?_) (fun _ => ?_) <;> simp) | with_reducible refine And.intro ?_ ?_ | with_reducible exact okay_rfl rfl | with_reducible assumption | omega)
  refine W_cond rfl (fun h => W_seq ?_) (fun h3 => W_skip ?_)
  · apply W_regS
    · intro K hK
      simp
      repeat' (first | with_reducible exact hK | (with_reducible refine goL_split (fun _ => ?_) (fun _ => ?_) <;> simp) | with_reducible refine And.intro ?_ ?_ | with_reducible exact okay_rfl rfl | with_reducible assumption | omega)
    have : decide (x = y) = false := by rw [decide_eq_false_iff_not]; intro e; rw [e] at h; simp at h
    refine W_ret ?_
    simp [Fin, this]
    all_goals omega
  refine W_seq (W_seq (?_))
  apply W_regS
  · intro K hK
    simp
    repeat' (first | with_reducible exact hK | (with_reducible refine callQ (eqBook_g x.fBook y.fBook (by omega) (by omega)) ?_; simp) | (with_reducible refine goL_split (fun _ => ?_) (fun _ => ?_) <;> simp) | with_reducible refine And.intro ?_ ?_ | with_reducible exact okay_rfl rfl | with_reducible assumption | omega)
  refine W_cond rfl (fun h => W_seq ?_) (fun h4 => W_skip ?_)
  · apply W_regS
    · intro K hK
      simp
      repeat' (first | with_reducible exact hK | (with_reducible refine goL_split (fun _ => ?_) (fun _ => ?_) <;> simp) | with_reducible refine And.intro ?_ ?_ | with_reducible exact okay_rfl rfl | with_reducible assumption | omega)
    have : decide (x = y) = false := by rw [decide_eq_false_iff_not]; intro e; rw [e] at h; simp at h
    refine W_ret ?_
    simp [Fin, this]
    all_goals omega
  refine W_seq (W_seq (?_))
  apply W_regS
  · intro K hK
    simp
    repeat' (first | with_reducible exact hK | (with_reducible refine callQ (eqFar_g x.fFar y.fFar (by omega) (by omega)) ?_; simp) | (with_reducible refine goL_split (fun _ => ?_) (fun _ => ?_) <;> simp) | with_reducible refine And.intro ?_ ?_ | with_reducible exact okay_rfl rfl | with_reducible assumption | omega)
  refine W_cond rfl (fun h => W_seq ?_) (fun h5 => W_skip ?_)
  · apply W_regS
    · intro K hK
      simp
      repeat' (first | with_reducible exact hK | (with_reducible refine goL_split (fun _ => ?_) (fun _ => ?_) <;> simp) | with_reducible refine And.intro ?_ ?_ | with_reducible exact okay_rfl rfl | with_reducible assumption | omega)
    have : decide (x = y) = false := by rw [decide_eq_false_iff_not]; intro e; rw [e] at h; simp at h
    refine W_ret ?_
    simp [Fin, this]
    all_goals omega
  refine W_seq (W_seq (?_))
  apply W_regS
  · intro K hK
    simp
    repeat' (first | with_reducible exact hK | (with_reducible refine callQ (eqQueue_g x.fQueue y.fQueue (by omega) (by omega)) ?_; simp) | (with_reducible refine goL_split (fun _ => ?_) (fun _ => ?_) <;> simp) | with_reducible refine And.intro ?_ ?_ | with_reducible exact okay_rfl rfl | with_reducible assumption | omega)
  refine W_cond rfl (fun h => W_seq ?_) (fun h6 => W_skip ?_)
  · apply W_regS
    · intro K hK
      simp
      repeat' (first | with_reducible exact hK | (with_reducible refine goL_split (fun _ => ?_) (fun _ => ?_) <;> simp) | with_reducible refine And.intro ?_ ?_ | with_reducible exact okay_rfl rfl | with_reducible assumption | omega)
    have : decide (x = y) = false := by rw [decide_eq_false_iff_not]; intro e; rw [e] at h; simp at h
    refine W_ret ?_
    simp [Fin, this]
    all_goals omega
  refine W_seq (W_seq (?_))
  apply W_regS
  · intro K hK
    simp
    repeat' (first | with_reducible exact hK | (with_reducible refine callQ (eqOwnedS_g x.fOwned y.fOwned (by omega) (by omega)) ?_; simp) | (with_reducible refine goL_split (fun _ => ?_) (fun _ => ?_) <;> simp) | with_reducible refine And.intro ?_ ?_ | with_reducible exact okay_rfl rfl | with_reducible assumption | omega)
  refine W_cond rfl (fun h => W_seq ?_) (fun h7 => W_skip ?_)
  · apply W_regS
    · intro K hK
      simp
      repeat' (first | with_reducible exact hK | (with_reducible refine goL_split (fun _ => ?_) (fun _ => ?_) <;> simp) | with_reducible refine And.intro ?_ ?_ | with_reducible exact okay_rfl rfl | with_reducible assumption | omega)
    have : decide (x = y) = false := by rw [decide_eq_false_iff_not]; intro e; rw [e] at h; simp at h
    refine W_ret ?_
    simp [Fin, this]
    all_goals omega
  refine W_seq (?_)
  apply W_regS
  · intro K hK
    simp
    repeat' (first | with_reducible exact hK | (with_reducible refine goL_split (fun _ => ?_) (fun _ => ?_) <;> simp) | with_reducible refine And.intro ?_ ?_ | with_reducible exact okay_rfl rfl | with_reducible assumption | omega)
  have : decide (x = y) = true := by
    rw [decide_eq_true_iff]
    cases x; cases y
    simp at h0 h1 h2 h3 h4 h5 h6 h7
    simp_all
  refine W_ret ?_
  simp [Fin, this]
  all_goals omega
theorem markWorld_g (x : GWorld) (k : Int) (hx : x.cost ≤ 1099511627776) (hk : 0 ≤ k ∧ k + (x.marksIn : Nat) ≤ 140737488355328) :
    Valid PP GG F_L_markWorld [.agg x.o, .d (.int .i64 k)] (.d (.int .i64 (k + (x.marksIn : Nat)))) [some (.agg (x.markIn k).o), none] := by
  refine v_L_markWorld [.d (.int .i64 (k + (x.marksIn : Nat)))] rfl rfl ?_
  have hco : x.cost = x.fForest.cost + x.fBook.cost + x.fFar.cost + x.fQueue.cost + (x.fOwned.length + sumBy GOwned.cost x.fOwned) := rfl
  have hms : x.marksIn = x.fForest.marksIn + x.fBook.marksIn + x.fFar.marksIn + x.fQueue.marksIn + sumBy GOwned.marks x.fOwned := rfl
  refine W_seq (?_)
  apply W_regS
  · intro K hK
    simp
    repeat' (first | with_reducible exact hK | (with_reducible refine goL_split (fun _ => ?_) (fun _ => ?_) <;> simp) | with_reducible refine And.intro ?_ ?_ | with_reducible exact okay_rfl rfl | with_reducible assumption | omega)
  have ct := markForest_g (GG := GG) x.fForest k (by omega) (by omega)
  refine W_seq (?_)
  apply W_regS
  · intro K hK
    simp
    repeat' (first | with_reducible exact hK | (with_reducible refine callQ (ct) ?_; simp) | (with_reducible refine goL_split (fun _ => ?_) (fun _ => ?_) <;> simp) | with_reducible refine And.intro ?_ ?_ | with_reducible exact okay_rfl rfl | with_reducible assumption | omega)
  have ct := markBook_g (GG := GG) x.fBook (k + ((x.fForest.marksIn : Nat) : Int)) (by omega) (by omega)
  refine W_seq (?_)
  apply W_regS
  · intro K hK
    simp
    repeat' (first | with_reducible exact hK | (with_reducible refine callQ (ct) ?_; simp) | (with_reducible refine goL_split (fun _ => ?_) (fun _ => ?_) <;> simp) | with_reducible refine And.intro ?_ ?_ | with_reducible exact okay_rfl rfl | with_reducible assumption | omega)
  have ct := markFar_g (GG := GG) x.fFar ((k + ((x.fForest.marksIn : Nat) : Int)) + ((x.fBook.marksIn : Nat) : Int)) (by omega) (by omega)
  refine W_seq (?_)
  apply W_regS
  · intro K hK
    simp
    repeat' (first | with_reducible exact hK | (with_reducible refine callQ (ct) ?_; simp) | (with_reducible refine goL_split (fun _ => ?_) (fun _ => ?_) <;> simp) | with_reducible refine And.intro ?_ ?_ | with_reducible exact okay_rfl rfl | with_reducible assumption | omega)
  have ct := markQueue_g (GG := GG) x.fQueue (((k + ((x.fForest.marksIn : Nat) : Int)) + ((x.fBook.marksIn : Nat) : Int)) + ((x.fFar.marksIn : Nat) : Int)) (by omega) (by omega)
  refine W_seq (?_)
  apply W_regS
  · intro K hK
    simp
    repeat' (first | with_reducible exact hK | (with_reducible refine callQ (ct) ?_; simp) | (with_reducible refine goL_split (fun _ => ?_) (fun _ => ?_) <;> simp) | with_reducible refine And.intro ?_ ?_ | with_reducible exact okay_rfl rfl | with_reducible assumption | omega)
  have ct := markOwnedS_g (GG := GG) x.fOwned ((((k + ((x.fForest.marksIn : Nat) : Int)) + ((x.fBook.marksIn : Nat) : Int)) + ((x.fFar.marksIn : Nat) : Int)) + ((x.fQueue.marksIn : Nat) : Int)) (by omega) (by omega)
  refine W_seq (?_)
  apply W_regS
  · intro K hK
    simp
    repeat' (first | with_reducible exact hK | (with_reducible refine callQ (ct) ?_; simp) | (with_reducible refine goL_split (fun _ => ?_) (fun _ => ?_) <;> simp) | with_reducible refine And.intro ?_ ?_ | with_reducible exact okay_rfl rfl | with_reducible assumption | omega)
  refine W_seq (?_)
  apply W_regS
  · intro K hK
    simp
    repeat' (first | with_reducible exact hK | (with_reducible refine goL_split (fun _ => ?_) (fun _ => ?_) <;> simp) | with_reducible refine And.intro ?_ ?_ | with_reducible exact okay_rfl rfl | with_reducible assumption | omega)
  have hfin : (((((k + ((x.fForest.marksIn : Nat) : Int)) + ((x.fBook.marksIn : Nat) : Int)) + ((x.fFar.marksIn : Nat) : Int)) + ((x.fQueue.marksIn : Nat) : Int)) + ((sumBy GOwned.marks x.fOwned : Nat) : Int)) = k + (x.marksIn : Nat) := by omega
  simp only [GWorld.markIn, GForest.markIn, GBook.markIn, GFar.markIn, GQueue.markIn]
  refine W_ret ?_
  simp [Fin, hfin]
  all_goals omega
theorem heldWorld_g (x : GWorld) (k : Int) (hx : x.cost ≤ 1099511627776) (hk : 0 ≤ k ∧ k + (x.marksIn : Nat) ≤ 140737488355328) :
    Valid PP GG F_L_heldWorld [.agg (x.markIn k).c, .d (.int .i64 k)] (.d (.int .i64 (k + (x.marksIn : Nat)))) [none, none] := by
  refine v_L_heldWorld [.d (.int .i64 (k + (x.marksIn : Nat)))] rfl rfl ?_
  have hco : x.cost = x.fForest.cost + x.fBook.cost + x.fFar.cost + x.fQueue.cost + (x.fOwned.length + sumBy GOwned.cost x.fOwned) := rfl
  have hms : x.marksIn = x.fForest.marksIn + x.fBook.marksIn + x.fFar.marksIn + x.fQueue.marksIn + sumBy GOwned.marks x.fOwned := rfl
  simp only [GWorld.markIn, GForest.markIn, GBook.markIn, GFar.markIn, GQueue.markIn]
  refine W_seq (?_)
  apply W_regS
  · intro K hK
    simp
    repeat' (first | with_reducible exact hK | (with_reducible refine goL_split (fun _ => ?_) (fun _ => ?_) <;> simp) | with_reducible refine And.intro ?_ ?_ | with_reducible exact okay_rfl rfl | with_reducible assumption | omega)
  have ct := heldForest_g (GG := GG) x.fForest k (by omega) (by omega)
  simp only [GForest.markIn] at ct
  refine W_seq (?_)
  apply W_regS
  · intro K hK
    simp
    repeat' (first | with_reducible exact hK | (with_reducible refine callQ (ct) ?_; simp) | (with_reducible refine goL_split (fun _ => ?_) (fun _ => ?_) <;> simp) | with_reducible refine And.intro ?_ ?_ | with_reducible exact okay_rfl rfl | with_reducible assumption | omega)
  refine W_seq (W_seq (?_))
  apply W_regS
  · intro K hK
    simp
    repeat' (first | with_reducible exact hK | (with_reducible refine goL_split (fun _ => ?_) (fun _ => ?_) <;> simp) | with_reducible refine And.intro ?_ ?_ | with_reducible exact okay_rfl rfl | with_reducible assumption | omega)
  refine W_cond rfl (fun h => ?_) (fun h => W_skip ?_)
  · simp at h; omega
  have ct := heldBook_g (GG := GG) x.fBook (k + ((x.fForest.marksIn : Nat) : Int)) (by omega) (by omega)
  simp only [GBook.markIn] at ct
  refine W_seq (?_)
  apply W_regS
  · intro K hK
    simp
    repeat' (first | with_reducible exact hK | (with_reducible refine callQ (ct) ?_; simp) | (with_reducible refine goL_split (fun _ => ?_) (fun _ => ?_) <;> simp) | with_reducible refine And.intro ?_ ?_ | with_reducible exact okay_rfl rfl | with_reducible assumption | omega)
  refine W_seq (W_seq (?_))
  apply W_regS
  · intro K hK
    simp
    repeat' (first | with_reducible exact hK | (with_reducible refine goL_split (fun _ => ?_) (fun _ => ?_) <;> simp) | with_reducible refine And.intro ?_ ?_ | with_reducible exact okay_rfl rfl | with_reducible assumption | omega)
  refine W_cond rfl (fun h => ?_) (fun h => W_skip ?_)
  · simp at h; omega
  have ct := heldFar_g (GG := GG) x.fFar ((k + ((x.fForest.marksIn : Nat) : Int)) + ((x.fBook.marksIn : Nat) : Int)) (by omega) (by omega)
  simp only [GFar.markIn] at ct
  refine W_seq (?_)
  apply W_regS
  · intro K hK
    simp
    repeat' (first | with_reducible exact hK | (with_reducible refine callQ (ct) ?_; simp) | (with_reducible refine goL_split (fun _ => ?_) (fun _ => ?_) <;> simp) | with_reducible refine And.intro ?_ ?_ | with_reducible exact okay_rfl rfl | with_reducible assumption | omega)
  refine W_seq (W_seq (?_))
  apply W_regS
  · intro K hK
    simp
    repeat' (first | with_reducible exact hK | (with_reducible refine goL_split (fun _ => ?_) (fun _ => ?_) <;> simp) | with_reducible refine And.intro ?_ ?_ | with_reducible exact okay_rfl rfl | with_reducible assumption | omega)
  refine W_cond rfl (fun h => ?_) (fun h => W_skip ?_)
  · simp at h; omega
  have ct := heldQueue_g (GG := GG) x.fQueue (((k + ((x.fForest.marksIn : Nat) : Int)) + ((x.fBook.marksIn : Nat) : Int)) + ((x.fFar.marksIn : Nat) : Int)) (by omega) (by omega)
  simp only [GQueue.markIn] at ct
  refine W_seq (?_)
  apply W_regS
  · intro K hK
    simp
    repeat' (first | with_reducible exact hK | (with_reducible refine callQ (ct) ?_; simp) | (with_reducible refine goL_split (fun _ => ?_) (fun _ => ?_) <;> simp) | with_reducible refine And.intro ?_ ?_ | with_reducible exact okay_rfl rfl | with_reducible assumption | omega)
  refine W_seq (W_seq (?_))
  apply W_regS
  · intro K hK
    simp
    repeat' (first | with_reducible exact hK | (with_reducible refine goL_split (fun _ => ?_) (fun _ => ?_) <;> simp) | with_reducible refine And.intro ?_ ?_ | with_reducible exact okay_rfl rfl | with_reducible assumption | omega)
  refine W_cond rfl (fun h => ?_) (fun h => W_skip ?_)
  · simp at h; omega
  have ct := heldOwnedS_g (GG := GG) x.fOwned ((((k + ((x.fForest.marksIn : Nat) : Int)) + ((x.fBook.marksIn : Nat) : Int)) + ((x.fFar.marksIn : Nat) : Int)) + ((x.fQueue.marksIn : Nat) : Int)) (by omega) (by omega)
  refine W_seq (?_)
  apply W_regS
  · intro K hK
    simp
    repeat' (first | with_reducible exact hK | (with_reducible refine callQ (ct) ?_; simp) | (with_reducible refine goL_split (fun _ => ?_) (fun _ => ?_) <;> simp) | with_reducible refine And.intro ?_ ?_ | with_reducible exact okay_rfl rfl | with_reducible assumption | omega)
  refine W_seq (W_seq (?_))
  apply W_regS
  · intro K hK
    simp
    repeat' (first | with_reducible exact hK | (with_reducible refine goL_split (fun _ => ?_) (fun _ => ?_) <;> simp) | with_reducible refine And.intro ?_ ?_ | with_reducible exact okay_rfl rfl | with_reducible assumption | omega)
  refine W_cond rfl (fun h => ?_) (fun h => W_skip ?_)
  · simp at h; omega
  refine W_seq (?_)
  apply W_regS
  · intro K hK
    simp
    repeat' (first | with_reducible exact hK | (with_reducible refine goL_split (fun _ => ?_) (fun _ => ?_) <;> simp) | with_reducible refine And.intro ?_ ?_ | with_reducible exact okay_rfl rfl | with_reducible assumption | omega)
  have hfin : (((((k + ((x.fForest.marksIn : Nat) : Int)) + ((x.fBook.marksIn : Nat) : Int)) + ((x.fFar.marksIn : Nat) : Int)) + ((x.fQueue.marksIn : Nat) : Int)) + ((sumBy GOwned.marks x.fOwned : Nat) : Int)) = k + (x.marksIn : Nat) := by omega
  refine W_ret ?_
  simp [Fin, hfin]
  all_goals omega
@[simp] theorem binA_strgeq (s t : List UInt8) : binA .str .geq (.d (.str s)) (.d (.str t)) = out (.d (.bool (!(Go.Op.bytesLess s t)))) := id rfl
@[simp] theorem binA_strlss (s t : List UInt8) : binA .str .lss (.d (.str s)) (.d (.str t)) = out (.d (.bool (Go.Op.bytesLess s t))) := id rfl
@[simp] theorem binA_strleq (s t : List UInt8) : binA .str .leq (.d (.str s)) (.d (.str t)) = out (.d (.bool (Go.Op.bytesLess s t || s == t))) := id rfl
@[simp] theorem binA_strgtr (s t : List UInt8) : binA .str .gtr (.d (.str s)) (.d (.str t)) = out (.d (.bool (!(Go.Op.bytesLess s t || s == t)))) := id rfl
def okP {α : Type} (q : List α → α → Bool) : List α → List α → Bool
  | _, [] => true
  | pre, x :: r => q pre x && okP q (pre ++ [x]) r
theorem okP_app {α : Type} (q : List α → α → Bool) (b : List α) : ∀ (a pre : List α), okP q pre (a ++ b) = (okP q pre a && okP q (pre ++ a) b) := by
  intro a
  induction a with
  | nil => intro pre; simp [okP]
  | cons x a ih => intro pre; simp [okP, ih, Bool.and_assoc]
theorem okP_step {α : Type} {q : List α → α → Bool} {l : List α} {i : Nat} {x : α} (h : l[i]? = some x) : okP q [] (l.take (i + 1)) = (okP q [] (l.take i) && q (l.take i) x) := by
  rw [List.take_add_one, h, okP_app]
  simp [okP]
theorem okP_bad {α : Type} {q : List α → α → Bool} {l : List α} {i : Nat} {x : α} (h : l[i]? = some x) (hq : q (l.take i) x = false) : okP q [] l = false := by
  have e : l = l.take i ++ (x :: l.drop (i + 1)) := by rw [← drop_get h, List.take_append_drop]
  rw [e, okP_app]
  simp only [okP, List.nil_append, hq, Bool.false_and, Bool.and_false]
def adjB {α : Type} (lt : α → α → Bool) (pre : List α) (x : α) : Bool := match pre.getLast? with | none => true | some p => lt p x
theorem adj_zero {α : Type} (lt : α → α → Bool) (l : List α) (x : α) : adjB lt (l.take 0) x = true := by simp [adjB]
theorem adj_succ {α : Type} (lt : α → α → Bool) {l : List α} {j : Nat} {p : α} (h : l[j]? = some p) (x : α) : adjB lt (l.take (j + 1)) x = lt p x := by
  unfold adjB
  rw [List.take_add_one, h]
  simp
theorem adj_pos {α : Type} (lt : α → α → Bool) {l : List α} {i : Nat} {p : α} (h0 : 0 < i) (h : l[i - 1]? = some p) (x : α) : adjB lt (l.take i) x = lt p x := by
  obtain ⟨j, rfl⟩ : ∃ j, i = j + 1 := ⟨i - 1, by omega⟩
  exact adj_succ lt h x
def nameQ (pre : List (List UInt8)) (x : List UInt8) : Bool := nameOk x && adjB (fun p x => Go.Op.bytesLess p x) pre x
def namesOk (l : List (List UInt8)) : Bool := decide (l.length ≤ 6) && okP nameQ [] l
theorem strs_get (l : List (List UInt8)) (i : Nat) : (strsD l)[i]? = (l[i]?).map fun s => [.str s] := by simp [strsD]
theorem areNames_ok (l : List (List UInt8)) (hl : l.length ≤ 1048576) (hs : ∀ s, s ∈ l → s.length ≤ 1048576) : Valid PP GG F_I_areNames [.d (.slc 1 (strsD l))] (.d (.bool (namesOk l))) [none] := by
  refine v_I_areNames [.d (.bool (namesOk l))] rfl rfl ?_
  have hind := ind_strs l
  have hsl : (strsD l).length = l.length := by simp [strsD]
  refine u_24 hsl ?_
  refine W_loop (fun n st => ∃ i : Nat, n = l.length - i ∧ i ≤ l.length ∧ okP nameQ [] (l.take i) = true ∧ st = ⟨[], [(0, .d (.slc 1 (strsD l))), (5, .d (.slc 1 (strsD l))), (6, .d (.int .i64 l.length)), (7, .d (.int .i64 i))], [], 0⟩) _ ⟨0, rfl, by omega, rfl, ?_⟩ ?_
  · simp [gc, closeN, liveA, gcV, gcO, renA, renAs, renO, namesAs, namesA, namesO, posn]
  rintro n st ⟨i, rfl, hi, hok, rfl⟩
  by_cases hlt : i < l.length
  · have ha := List.getElem?_eq_getElem hlt
    generalize l[i] = x at ha
    have cn := isName_ok (GG := GG) x (by have := hs x (List.mem_of_getElem? ha); omega)
    have hst := okP_step (q := nameQ) ha
    have hbad := fun h => okP_bad (q := nameQ) ha h
    rw [hok, Bool.true_and] at hst
    unfold nameQ at hst hbad
    cases hnx : nameOk x with
    | false =>
      rw [hnx] at cn hbad
      have hb : namesOk l = false := by unfold namesOk nameQ; rw [hbad rfl]; simp
      rw [hb]
      repeat' (first | refine W_seq ?_ | refine W_skip ?_ | refine W_block ?_ | refine W_exit ?_ | refine pick_pos rfl ?_ | refine pick_neg rfl ?_ | ((first | refine W_regP fun K hK => ?_ | refine W_regPD fun K hK => ?_ | refine W_ret ?_ | with_reducible refine callQ (cn) ?_); simp [Fin, ha, strs_get]) | (with_reducible refine hK _ ?_; clear hK K) | (with_reducible refine goL_split (fun h => ?_) (fun h => ?_) <;> first | (exfalso; simp at h; first | done | omega | contradiction) | ((try simp at h); simp [ha, strs_get])) | with_reducible refine And.intro ?_ ?_ | with_reducible exact okay_rfl rfl | with_reducible assumption | (refine W_cond rfl (fun h => ?_) (fun h => ?_) <;> first | (exfalso; simp at h; first | done | omega | contradiction) | (exfalso; simp_all; done) | (try simp at h)) | omega)
    | true =>
      rw [hnx] at cn hst hbad
      simp only [Bool.true_and] at hst hbad
      by_cases h0 : i = 0
      · subst h0
        rw [adj_zero] at hst
        repeat' (first | refine W_seq ?_ | refine W_skip ?_ | refine W_block ?_ | refine W_exit ?_ | refine pick_pos rfl ?_ | refine pick_neg rfl ?_ | ((first | refine W_regP fun K hK => ?_ | refine W_regPD fun K hK => ?_ | refine W_ret ?_ | with_reducible refine callQ (cn) ?_); simp [Fin, ha, strs_get]) | (with_reducible refine hK _ ?_; clear hK K) | (with_reducible refine goL_split (fun h => ?_) (fun h => ?_) <;> first | (exfalso; simp at h; first | done | omega | contradiction) | ((try simp at h); simp [ha, strs_get])) | with_reducible refine And.intro ?_ ?_ | with_reducible exact okay_rfl rfl | with_reducible assumption | (refine W_cond rfl (fun h => ?_) (fun h => ?_) <;> first | (exfalso; simp at h; first | done | omega | contradiction) | (exfalso; simp_all; done) | (try simp at h)) | omega)
        refine ⟨l.length - (0 + 1), by omega, 1, rfl, by omega, hst, ?_⟩
        simp [gc, closeN, liveA, gcV, gcO, renA, renAs, renO, namesAs, namesA, namesO, posn]
        exact wrap_id (by omega) (by omega)
      · have hp := List.getElem?_eq_getElem (show i - 1 < l.length by omega)
        generalize l[i - 1]'_ = p at hp
        rw [adj_pos _ (by omega) hp] at hst hbad
        have hpi : 0 < i := by omega
        have hw1 : IntKind.i64.wrap ((i : Int) - 1) = ((i - 1 : Nat) : Int) := by rw [wrap_id (by omega) (by omega)]; omega
        cases hb : Go.Op.bytesLess p x with
        | true =>
          rw [hb] at hst
          repeat' (first | refine W_seq ?_ | refine W_skip ?_ | refine W_block ?_ | refine W_exit ?_ | refine pick_pos rfl ?_ | refine pick_neg rfl ?_ | ((first | refine W_regP fun K hK => ?_ | refine W_regPD fun K hK => ?_ | refine W_ret ?_ | with_reducible refine callQ (cn) ?_); simp [Fin, ha, hp, strs_get, hpi, hw1, hb]) | (with_reducible refine hK _ ?_; clear hK K) | (with_reducible refine goL_split (fun h => ?_) (fun h => ?_) <;> first | (exfalso; simp at h; first | done | omega | contradiction) | ((try simp at h); simp [ha, hp, strs_get, hpi, hw1, hb])) | with_reducible refine And.intro ?_ ?_ | with_reducible exact okay_rfl rfl | with_reducible assumption | (refine W_cond rfl (fun h => ?_) (fun h => ?_) <;> first | (exfalso; simp at h; first | done | omega | contradiction) | (exfalso; simp_all; done) | (try simp at h)) | omega)
          refine ⟨l.length - (i + 1), by omega, i + 1, rfl, by omega, hst, ?_⟩
          simp [gc, closeN, liveA, gcV, gcO, renA, renAs, renO, namesAs, namesA, namesO, posn]
          exact wrap_id (by omega) (by omega)
        | false =>
          have hbf : namesOk l = false := by unfold namesOk nameQ; rw [hbad hb]; simp
          rw [hbf]
          repeat' (first | refine W_seq ?_ | refine W_skip ?_ | refine W_block ?_ | refine W_exit ?_ | refine pick_pos rfl ?_ | refine pick_neg rfl ?_ | ((first | refine W_regP fun K hK => ?_ | refine W_regPD fun K hK => ?_ | refine W_ret ?_ | with_reducible refine callQ (cn) ?_); simp [Fin, ha, hp, strs_get, hpi, hw1, hb]) | (with_reducible refine hK _ ?_; clear hK K) | (with_reducible refine goL_split (fun h => ?_) (fun h => ?_) <;> first | (exfalso; simp at h; first | done | omega | contradiction) | ((try simp at h); simp [ha, hp, strs_get, hpi, hw1, hb])) | with_reducible refine And.intro ?_ ?_ | with_reducible exact okay_rfl rfl | with_reducible assumption | (refine W_cond rfl (fun h => ?_) (fun h => ?_) <;> first | (exfalso; simp at h; first | done | omega | contradiction) | (exfalso; simp_all; done) | (try simp at h)) | omega)
  · have hie : i = l.length := by omega
    subst hie
    rw [List.take_length] at hok
    have : namesOk l = decide ((l.length : Int) ≤ 6) := by unfold namesOk; rw [hok, Bool.and_true]; exact decide_eq_decide.2 (by omega)
    rw [this]
    exact u_25 hsl
theorem s_l08Names_ok (l : List (List UInt8)) (hl : l.length ≤ 1048576) (hs : ∀ s, s ∈ l → s.length ≤ 1048576) : Valid PP GG F_S_l08Names [.d (.slc 1 (strsD l))] (.d (.bool (namesOk l))) [none] := by
  refine v_S_l08Names [.d (.bool (namesOk l))] rfl rfl ?_
  have hind := ind_strs l
  have hsl : (strsD l).length = l.length := by simp [strsD]
  by_cases h6 : l.length ≤ 6
  rotate_left
  · have hb : namesOk l = false := by unfold namesOk; rw [decide_eq_false h6, Bool.false_and]
    rw [hb]
    have hd : 6 < l.length := by omega
    exact u_26 hsl hd
  have hd : ¬ 6 < l.length := by omega
  refine u_27 hsl hd ?_
  refine W_loop (fun n st => ∃ i : Nat, n = l.length - i ∧ i ≤ l.length ∧ okP nameQ [] (l.take i) = true ∧ st = ⟨[], [(0, .d (.slc 1 (strsD l))), (3, .d (.int .i64 i))], [], 0⟩) _ ⟨0, rfl, by omega, rfl, ?_⟩ ?_
  · simp [gc, closeN, liveA, gcV, gcO, renA, renAs, renO, namesAs, namesA, namesO, posn]
  rintro n st ⟨i, rfl, hi, hok, rfl⟩
  by_cases hlt : i < l.length
  · have ha := List.getElem?_eq_getElem hlt
    generalize l[i] = x at ha
    have cn := l01Name_ok (GG := GG) x (by have := hs x (List.mem_of_getElem? ha); omega)
    have hst := okP_step (q := nameQ) ha
    have hbad := fun h => okP_bad (q := nameQ) ha h
    rw [hok, Bool.true_and] at hst
    unfold nameQ at hst hbad
    cases hnx : nameOk x with
    | false =>
      rw [hnx] at cn hbad
      have hb : namesOk l = false := by unfold namesOk nameQ; rw [hbad rfl]; simp
      rw [hb]
      repeat' (first | refine W_seq ?_ | refine W_skip ?_ | refine W_block ?_ | refine W_exit ?_ | refine pick_pos rfl ?_ | refine pick_neg rfl ?_ | ((first | refine W_regP fun K hK => ?_ | refine W_regPD fun K hK => ?_ | refine W_ret ?_ | with_reducible refine callQ (cn) ?_); simp [Fin, ha, hsl, strs_get]) | (with_reducible refine hK _ ?_; clear hK K) | (with_reducible refine goL_split (fun h => ?_) (fun h => ?_) <;> first | (exfalso; simp at h; first | done | omega | contradiction) | ((try simp at h); simp [ha, hsl, strs_get])) | with_reducible refine And.intro ?_ ?_ | with_reducible exact okay_rfl rfl | with_reducible assumption | (refine W_cond rfl (fun h => ?_) (fun h => ?_) <;> first | (exfalso; simp at h; first | done | omega | contradiction) | (exfalso; simp_all; done) | (try simp at h)) | omega)
    | true =>
      rw [hnx] at cn hst hbad
      simp only [Bool.true_and] at hst hbad
      by_cases h0 : i = 0
      · subst h0
        rw [adj_zero] at hst
        repeat' (first | refine W_seq ?_ | refine W_skip ?_ | refine W_block ?_ | refine W_exit ?_ | refine pick_pos rfl ?_ | refine pick_neg rfl ?_ | ((first | refine W_regP fun K hK => ?_ | refine W_regPD fun K hK => ?_ | refine W_ret ?_ | with_reducible refine callQ (cn) ?_); simp [Fin, ha, hsl, strs_get]) | (with_reducible refine hK _ ?_; clear hK K) | (with_reducible refine goL_split (fun h => ?_) (fun h => ?_) <;> first | (exfalso; simp at h; first | done | omega | contradiction) | ((try simp at h); simp [ha, hsl, strs_get])) | with_reducible refine And.intro ?_ ?_ | with_reducible exact okay_rfl rfl | with_reducible assumption | (refine W_cond rfl (fun h => ?_) (fun h => ?_) <;> first | (exfalso; simp at h; first | done | omega | contradiction) | (exfalso; simp_all; done) | (try simp at h)) | omega)
        refine ⟨l.length - (0 + 1), by omega, 1, rfl, by omega, hst, ?_⟩
        simp [gc, closeN, liveA, gcV, gcO, renA, renAs, renO, namesAs, namesA, namesO, posn]
        exact wrap_id (by omega) (by omega)
      · have hp := List.getElem?_eq_getElem (show i - 1 < l.length by omega)
        generalize l[i - 1]'_ = p at hp
        rw [adj_pos _ (by omega) hp] at hst hbad
        have hpi : 0 < i := by omega
        have hw1 : IntKind.i64.wrap ((i : Int) - 1) = ((i - 1 : Nat) : Int) := by rw [wrap_id (by omega) (by omega)]; omega
        cases hb : Go.Op.bytesLess p x with
        | true =>
          rw [hb] at hst
          repeat' (first | refine W_seq ?_ | refine W_skip ?_ | refine W_block ?_ | refine W_exit ?_ | refine pick_pos rfl ?_ | refine pick_neg rfl ?_ | ((first | refine W_regP fun K hK => ?_ | refine W_regPD fun K hK => ?_ | refine W_ret ?_ | with_reducible refine callQ (cn) ?_); simp [Fin, ha, hp, hsl, strs_get, hpi, hw1, hb]) | (with_reducible refine hK _ ?_; clear hK K) | (with_reducible refine goL_split (fun h => ?_) (fun h => ?_) <;> first | (exfalso; simp at h; first | done | omega | contradiction) | ((try simp at h); simp [ha, hp, hsl, strs_get, hpi, hw1, hb])) | with_reducible refine And.intro ?_ ?_ | with_reducible exact okay_rfl rfl | with_reducible assumption | (refine W_cond rfl (fun h => ?_) (fun h => ?_) <;> first | (exfalso; simp at h; first | done | omega | contradiction) | (exfalso; simp_all; done) | (try simp at h)) | omega)
          refine ⟨l.length - (i + 1), by omega, i + 1, rfl, by omega, hst, ?_⟩
          simp [gc, closeN, liveA, gcV, gcO, renA, renAs, renO, namesAs, namesA, namesO, posn]
          exact wrap_id (by omega) (by omega)
        | false =>
          have hbf : namesOk l = false := by unfold namesOk nameQ; rw [hbad hb]; simp
          rw [hbf]
          repeat' (first | refine W_seq ?_ | refine W_skip ?_ | refine W_block ?_ | refine W_exit ?_ | refine pick_pos rfl ?_ | refine pick_neg rfl ?_ | ((first | refine W_regP fun K hK => ?_ | refine W_regPD fun K hK => ?_ | refine W_ret ?_ | with_reducible refine callQ (cn) ?_); simp [Fin, ha, hp, hsl, strs_get, hpi, hw1, hb]) | (with_reducible refine hK _ ?_; clear hK K) | (with_reducible refine goL_split (fun h => ?_) (fun h => ?_) <;> first | (exfalso; simp at h; first | done | omega | contradiction) | ((try simp at h); simp [ha, hp, hsl, strs_get, hpi, hw1, hb])) | with_reducible refine And.intro ?_ ?_ | with_reducible exact okay_rfl rfl | with_reducible assumption | (refine W_cond rfl (fun h => ?_) (fun h => ?_) <;> first | (exfalso; simp at h; first | done | omega | contradiction) | (exfalso; simp_all; done) | (try simp at h)) | omega)
  · have hie : i = l.length := by omega
    subst hie
    rw [List.take_length] at hok
    have : namesOk l = true := by unfold namesOk; rw [hok, decide_eq_true h6]; rfl
    rw [this]
    exact u_25 hsl
def tokenB (t : GToken) : Bool := inB t.fId 1 1000000000 && inB t.fParent 0 (t.fId - 1) && namesOk t.fNames && inB t.fMade 0 1000000000 &&
  (decide (t.fEnds = 0) || inB t.fEnds (t.fMade + 1) 1000000000) &&
  (decide (t.fLimit = 0) || (inB t.fLimit (t.fMade + 1) 1000000000 && !decide (t.fEnds = 0) && decide (t.fEnds ≤ t.fLimit))) && inB t.fUses 0 1000
def fitT (t : GToken) : Prop := t.fNames.length ≤ 1048576 ∧ ∀ s, s ∈ t.fNames → s.length ≤ 1048576
theorem tokenB_wrap (t : GToken) : tokenB t = (inB t.fId 1 1000000000 && inB t.fParent 0 (IntKind.i64.wrap (t.fId - 1)) && namesOk t.fNames && inB t.fMade 0 1000000000 &&
  (decide (t.fEnds = 0) || inB t.fEnds (IntKind.i64.wrap (t.fMade + 1)) 1000000000) &&
  (decide (t.fLimit = 0) || (inB t.fLimit (IntKind.i64.wrap (t.fMade + 1)) 1000000000 && !decide (t.fEnds = 0) && decide (t.fEnds ≤ t.fLimit))) && inB t.fUses 0 1000) := by
  unfold tokenB
  cases h1 : inB t.fId 1 1000000000 with
  | false => simp
  | true =>
    cases h2 : inB t.fMade 0 1000000000 with
    | false => simp
    | true =>
      unfold inB at h1 h2
      simp only [Bool.and_eq_true, decide_eq_true_eq] at h1 h2
      rw [wrap_id (show _ ≤ t.fId - 1 by omega) (by omega), wrap_id (show _ ≤ t.fMade + 1 by omega) (by omega)]
theorem isToken_ok [MaxL GG] (x : GToken) (hx : fitT x) : Valid PP GG F_I_isToken [.agg x.c] (.d (.bool (tokenB x))) [none] := by
  refine v_I_isToken [.d (.bool (tokenB x))] rfl rfl ?_
  have hr := tokenB_wrap x
  obtain ⟨x1, x2, x3, x4, x5, x6, x7⟩ := x
  dsimp only at hr
  have c1 : Valid PP GG F_I_within [.d (.int .i64 x1), .d (.int .i64 1), .d (.int .i64 1000000000)] (.d (.bool (inB x1 1 1000000000))) [none, none, none] := within_ok _ _ _
  have c2 : Valid PP GG F_I_within [.d (.int .i64 x2), .d (.int .i64 0), .d (.int .i64 (IntKind.i64.wrap (x1 - 1)))] (.d (.bool (inB x2 0 (IntKind.i64.wrap (x1 - 1))))) [none, none, none] := within_ok _ _ _
  have c3 := areNames_ok (GG := GG) x3 hx.1 hx.2
  have c4 : Valid PP GG F_I_within [.d (.int .i64 x4), .d (.int .i64 0), .d (.int .i64 1000000000)] (.d (.bool (inB x4 0 1000000000))) [none, none, none] := within_ok _ _ _
  have c5 : Valid PP GG F_I_within [.d (.int .i64 x5), .d (.int .i64 (IntKind.i64.wrap (x4 + 1))), .d (.int .i64 1000000000)] (.d (.bool (inB x5 (IntKind.i64.wrap (x4 + 1)) 1000000000))) [none, none, none] := within_ok _ _ _
  have c6 : Valid PP GG F_I_within [.d (.int .i64 x6), .d (.int .i64 (IntKind.i64.wrap (x4 + 1))), .d (.int .i64 1000000000)] (.d (.bool (inB x6 (IntKind.i64.wrap (x4 + 1)) 1000000000))) [none, none, none] := within_ok _ _ _
  have c7 : Valid PP GG F_I_within [.d (.int .i64 x7), .d (.int .i64 0), .d (.int .i64 1000)] (.d (.bool (inB x7 0 1000))) [none, none, none] := within_ok _ _ _
  have hind := ind_strs x3
  have q5 : (x5 == 0) = decide (x5 = 0) := rfl
  have q6 : (x6 == 0) = decide (x6 = 0) := rfl
  have q7 : (x5 != 0) = !decide (x5 = 0) := rfl
  generalize inB x1 1 1000000000 = p1 at *
  generalize inB x2 0 (IntKind.i64.wrap (x1 - 1)) = p2 at *
  generalize namesOk x3 = p3 at *
  generalize inB x4 0 1000000000 = p4 at *
  generalize inB x5 (IntKind.i64.wrap (x4 + 1)) 1000000000 = p5 at *
  generalize inB x6 (IntKind.i64.wrap (x4 + 1)) 1000000000 = p6 at *
  generalize inB x7 0 1000 = p7 at *
  generalize decide (x5 = 0) = e0 at *
  generalize decide (x6 = 0) = l0 at *
  obtain ⟨le, hle⟩ : ∃ le, decide (x5 ≤ x6) = le := ⟨_, rfl⟩
  rw [hle] at hr
  refine W_seq (?_)
  refine u_1 ?_
  refine W_seq (?_)
  refine u_28 q5 q6 c5 3 (e0 || p5) ?_
  refine W_seq (?_)
  refine W_regB 4 (l0 || (p6 && !e0 && le)) (fun K hK => ?_) ?_
  · simp [q5, q6, q7, hle]
    repeat' (first | exact hK _ _ (by clear hK; first | omega | (exact decide_eq_false (by omega)) | (exact decide_eq_true (by omega)) | (exact (decide_eq_true (by omega)).symm) | (exact (decide_eq_false (by omega)).symm) | (exact decide_eq_decide.2 (by omega)) | (simp only [← decide_not]; exact decide_eq_decide.2 (by omega)) | (simp [*]; done) | (simp [*]; omega) | (simp_all; done) | (simp_all; omega) | (rw [Bool.eq_iff_iff]; simp at *; omega)) | (with_reducible refine callQ (c6) ?_; simp [q5, q6, q7, hle]) | (with_reducible refine goL_split (fun _ => ?_) (fun _ => ?_) <;> simp [q5, q6, q7, hle]) | with_reducible refine And.intro ?_ ?_ | with_reducible exact okay_rfl rfl | with_reducible assumption | omega)
  refine W_seq (?_)
  refine W_regB 2 (p1 && p2 && p3 && p4 && (e0 || p5) && (l0 || (p6 && !e0 && le)) && p7) (fun K hK => ?_) ?_
  · simp
    repeat' (first | exact hK _ _ (by clear hK; first | omega | (exact decide_eq_false (by omega)) | (exact decide_eq_true (by omega)) | (exact (decide_eq_true (by omega)).symm) | (exact (decide_eq_false (by omega)).symm) | (exact decide_eq_decide.2 (by omega)) | (simp only [← decide_not]; exact decide_eq_decide.2 (by omega)) | (simp [*]; done) | (simp [*]; omega) | (simp_all; done) | (simp_all; omega) | (rw [Bool.eq_iff_iff]; simp at *; omega)) | (with_reducible refine callQ (c1) ?_; simp) | (with_reducible refine callQ (c2) ?_; simp) | (with_reducible refine callQ (c3) ?_; simp) | (with_reducible refine callQ (c4) ?_; simp) | (with_reducible refine callQ (c7) ?_; simp) | (with_reducible refine goL_split (fun _ => ?_) (fun _ => ?_) <;> simp) | with_reducible refine And.intro ?_ ?_ | with_reducible exact okay_rfl rfl | with_reducible assumption | omega)
  refine W_ret ?_
  simp [Fin, hr]
  all_goals omega
theorem tokenB_s (t : GToken) : tokenB t = (inB t.fId 1 1000000000 && decide (0 ≤ t.fParent) && decide (t.fParent < t.fId) && namesOk t.fNames && inB t.fMade 0 1000000000 && inB t.fUses 0 1000 &&
  (decide (t.fEnds = 0) || inB t.fEnds (IntKind.i64.wrap (t.fMade + 1)) 1000000000) &&
  (decide (t.fLimit = 0) || (inB t.fLimit (IntKind.i64.wrap (t.fMade + 1)) 1000000000 && !decide (t.fEnds = 0) && decide (t.fEnds ≤ t.fLimit)))) := by
  rw [tokenB_wrap]
  cases h1 : inB t.fId 1 1000000000 with
  | false => simp
  | true =>
    have h2 : inB t.fParent 0 (IntKind.i64.wrap (t.fId - 1)) = (decide (0 ≤ t.fParent) && decide (t.fParent < t.fId)) := by
      unfold inB at h1 ⊢
      simp only [Bool.and_eq_true, decide_eq_true_eq] at h1
      rw [wrap_id (show _ ≤ t.fId - 1 by omega) (by omega)]
      congr 1
      exact decide_eq_decide.2 (by omega)
    rw [h2]
    generalize inB t.fUses 0 1000 = a
    generalize (decide (t.fEnds = 0) || inB t.fEnds (IntKind.i64.wrap (t.fMade + 1)) 1000000000) = b
    generalize (decide (t.fLimit = 0) || (inB t.fLimit (IntKind.i64.wrap (t.fMade + 1)) 1000000000 && !decide (t.fEnds = 0) && decide (t.fEnds ≤ t.fLimit))) = c
    cases a <;> cases b <;> cases c <;> simp
theorem s_l08Token_ok [MaxL GG] (x : GToken) (hx : fitT x) : Valid PP GG F_S_l08Token [.agg x.c] (.d (.bool (tokenB x))) [none] := by
  refine v_S_l08Token [.d (.bool (tokenB x))] rfl rfl ?_
  have hr := tokenB_s x
  obtain ⟨x1, x2, x3, x4, x5, x6, x7⟩ := x
  dsimp only at hr
  have c1 : Valid PP GG F_S_l01In [.d (.int .i64 x1), .d (.int .i64 1), .d (.int .i64 1000000000)] (.d (.bool (inB x1 1 1000000000))) [none, none, none] := l01In_ok _ _ _
  have c3 := s_l08Names_ok (GG := GG) x3 hx.1 hx.2
  have c4 : Valid PP GG F_S_l01In [.d (.int .i64 x4), .d (.int .i64 0), .d (.int .i64 1000000000)] (.d (.bool (inB x4 0 1000000000))) [none, none, none] := l01In_ok _ _ _
  have c5 : Valid PP GG F_S_l01In [.d (.int .i64 x5), .d (.int .i64 (IntKind.i64.wrap (x4 + 1))), .d (.int .i64 1000000000)] (.d (.bool (inB x5 (IntKind.i64.wrap (x4 + 1)) 1000000000))) [none, none, none] := l01In_ok _ _ _
  have c6 : Valid PP GG F_S_l01In [.d (.int .i64 x6), .d (.int .i64 (IntKind.i64.wrap (x4 + 1))), .d (.int .i64 1000000000)] (.d (.bool (inB x6 (IntKind.i64.wrap (x4 + 1)) 1000000000))) [none, none, none] := l01In_ok _ _ _
  have c7 : Valid PP GG F_S_l01In [.d (.int .i64 x7), .d (.int .i64 0), .d (.int .i64 1000)] (.d (.bool (inB x7 0 1000))) [none, none, none] := l01In_ok _ _ _
  have hind := ind_strs x3
  have q5 : (x5 == 0) = decide (x5 = 0) := rfl
  have q6 : (x6 == 0) = decide (x6 = 0) := rfl
  have q7 : (x5 != 0) = !decide (x5 = 0) := rfl
  generalize inB x1 1 1000000000 = p1 at *
  generalize namesOk x3 = p3 at *
  generalize inB x4 0 1000000000 = p4 at *
  generalize inB x5 (IntKind.i64.wrap (x4 + 1)) 1000000000 = p5 at *
  generalize inB x6 (IntKind.i64.wrap (x4 + 1)) 1000000000 = p6 at *
  generalize inB x7 0 1000 = p7 at *
  generalize decide (x5 = 0) = e0 at *
  generalize decide (x6 = 0) = l0 at *
  obtain ⟨le, hle⟩ : ∃ le, decide (x5 ≤ x6) = le := ⟨_, rfl⟩
  obtain ⟨a, ha⟩ : ∃ a, decide (0 ≤ x2) = a := ⟨_, rfl⟩
  obtain ⟨b, hb⟩ : ∃ b, decide (x2 < x1) = b := ⟨_, rfl⟩
  have ha2 : decide (x2 < 0) = !a := by rw [← ha, ← decide_not]; exact decide_eq_decide.2 (by omega)
  have hb2 : decide (x1 ≤ x2) = !b := by rw [← hb, ← decide_not]; exact decide_eq_decide.2 (by omega)
  rw [hle, ha, hb] at hr
  refine W_seq (?_)
  refine u_1 ?_
  refine W_seq (?_)
  refine W_seq (?_)
  refine W_regB 36 (!p1 || !a || !b || !p3 || !p4 || !p7) (fun K hK => ?_) ?_
  · simp [ha2, hb2]
    repeat' (first | exact hK _ _ (by clear hK; first | omega | (exact decide_eq_false (by omega)) | (exact decide_eq_true (by omega)) | (exact (decide_eq_true (by omega)).symm) | (exact (decide_eq_false (by omega)).symm) | (exact decide_eq_decide.2 (by omega)) | (simp only [← decide_not]; exact decide_eq_decide.2 (by omega)) | (simp [*]; done) | (simp [*]; omega) | (simp_all; done) | (simp_all; omega) | (rw [Bool.eq_iff_iff]; simp at *; omega)) | (with_reducible refine callQ (c1) ?_; simp [ha2, hb2]) | (with_reducible refine callQ (c3) ?_; simp [ha2, hb2]) | (with_reducible refine callQ (c4) ?_; simp [ha2, hb2]) | (with_reducible refine callQ (c7) ?_; simp [ha2, hb2]) | (with_reducible refine goL_split (fun _ => ?_) (fun _ => ?_) <;> simp [ha2, hb2]) | with_reducible refine And.intro ?_ ?_ | with_reducible exact okay_rfl rfl | with_reducible assumption | omega)
  refine W_cond rfl (fun h => ?_) (fun h => W_skip ?_)
  · have hf : tokenB ⟨x1, x2, x3, x4, x5, x6, x7⟩ = false := by rw [hr]; revert h; cases p1 <;> cases a <;> cases b <;> cases p3 <;> cases p4 <;> cases p7 <;> simp
    rw [hf]
    exact u_29
  have hg : (p1 && a && b && p3 && p4 && p7) = true := by revert h; cases p1 <;> cases a <;> cases b <;> cases p3 <;> cases p4 <;> cases p7 <;> simp
  rw [hg, Bool.true_and] at hr
  refine W_seq (?_)
  refine W_seq (?_)
  refine W_regB 48 (!e0 && !p5) (fun K hK => ?_) ?_
  · simp [q7]
    repeat' (first | exact hK _ _ (by clear hK; first | omega | (exact decide_eq_false (by omega)) | (exact decide_eq_true (by omega)) | (exact (decide_eq_true (by omega)).symm) | (exact (decide_eq_false (by omega)).symm) | (exact decide_eq_decide.2 (by omega)) | (simp only [← decide_not]; exact decide_eq_decide.2 (by omega)) | (simp [*]; done) | (simp [*]; omega) | (simp_all; done) | (simp_all; omega) | (rw [Bool.eq_iff_iff]; simp at *; omega)) | (with_reducible refine callQ (c5) ?_; simp [q7]) | (with_reducible refine goL_split (fun _ => ?_) (fun _ => ?_) <;> simp [q7]) | with_reducible refine And.intro ?_ ?_ | with_reducible exact okay_rfl rfl | with_reducible assumption | omega)
  refine W_cond rfl (fun h => ?_) (fun h => W_skip ?_)
  · have hf : tokenB ⟨x1, x2, x3, x4, x5, x6, x7⟩ = false := by rw [hr]; revert h; cases e0 <;> cases p5 <;> simp
    rw [hf]
    exact u_29
  have hg : (e0 || p5) = true := by revert h; cases e0 <;> cases p5 <;> simp
  rw [hg, Bool.true_and] at hr
  rw [hr]
  cases l0 with
  | true =>
    exact u_25 q6
  | false =>
    refine W_seq (?_)
    refine W_seq (?_)
    refine u_6 q6 ?_
    refine W_cond rfl (fun h => ?_) (fun h => W_skip ?_)
    · exact absurd h (by simp)
    refine W_seq (?_)
    refine u_28 q7 hle c6 2 (p6 && !e0 && le) ?_
    refine W_ret ?_
    simp [Fin]
    all_goals omega
def idxF {α : Type} (p : α → Bool) (a : List α) : Int := match a.findIdx? p with | some i => i | none => -1
theorem idxF_any {α : Type} (p : α → Bool) (a : List α) : decide (0 ≤ idxF p a) = a.any p := by
  unfold idxF
  cases h : a.findIdx? p with
  | none =>
    rw [List.findIdx?_eq_none_iff] at h
    have : a.any p = false := by rw [List.any_eq_false]; intro x hx; simp [h x hx]
    rw [this]; rfl
  | some i =>
    rw [List.findIdx?_eq_some_iff_getElem] at h
    obtain ⟨h1, h2, _⟩ := h
    have : a.any p = true := by rw [List.any_eq_true]; exact ⟨_, List.getElem_mem h1, h2⟩
    rw [this]; exact decide_eq_true (show (0 : Int) ≤ (i : Int) by omega)
theorem idxF_none {α : Type} (p : α → Bool) (a : List α) : decide (idxF p a < 0) = !a.any p := by
  rw [← idxF_any, ← decide_not]; exact decide_eq_decide.2 (by omega)
theorem idxF_hit {α : Type} {p : α → Bool} {a : List α} {i : Nat} {x : α} (ha : a[i]? = some x) (hn : ∀ x, x ∈ a.take i → p x = false) (hx : p x = true) : idxF p a = i := by
  obtain ⟨h, e⟩ := List.getElem?_eq_some_iff.1 ha
  unfold idxF
  have : a.findIdx? p = some i := by
    rw [List.findIdx?_eq_some_iff_getElem]
    refine ⟨h, by rw [e]; exact hx, fun j hj => ?_⟩
    have := hn a[j] (List.mem_take_iff_getElem.2 ⟨j, by omega, rfl⟩); simp [this]
  rw [this]
theorem idxF_miss {α : Type} {p : α → Bool} {a : List α} (hn : ∀ x, x ∈ a → p x = false) : idxF p a = -1 := by
  unfold idxF
  rw [List.findIdx?_eq_none_iff.2 hn]
theorem take_miss {α : Type} {p : α → Bool} {a : List α} {i : Nat} {x : α} (ha : a[i]? = some x) (hn : ∀ x, x ∈ a.take i → p x = false) (hx : p x = false) : ∀ x, x ∈ a.take (i + 1) → p x = false := by
  intro y hy
  rw [List.take_add_one, ha] at hy
  rcases List.mem_append.1 hy with hy | hy
  · exact hn y hy
  · simp at hy; subst hy; exact hx
theorem IndexFuncToken_ok (a : List GToken) (g : FuncId) (caps : List (List D)) (p : GToken → Bool) (hsz : a.length ≤ 281474976710656) (hp : ∀ x, x ∈ a → Valid PP GG g (.agg x.c :: caps.map .rp) (.d (.bool (p x))) [none]) :
    Valid PP GG F_slices_IndexFunc___impl_Token_impl_Token_ [.d (.slc 7 (rToken a)), .d (.fn g caps)] (.d (.int .i64 (idxF p a))) [none, none] := by
  refine v_slices_IndexFunc___impl_Token_impl_Token_ [.d (.int .i64 (idxF p a))] rfl rfl ?_
  refine u_30 ?_
  refine W_loop (fun n st => ∃ i : Nat, n = a.length - i ∧ i ≤ a.length ∧ (∀ x, x ∈ a.take i → p x = false) ∧
    st = ⟨[], [(0, .d (.slc 7 (rToken a))), (1, .d (.fn g caps)), (7, .d (.int .i64 a.length)), (8, .d (.int .i64 i))], [], 0⟩) _ ⟨0, rfl, by omega, fun x hx => by simp at hx, ?_⟩ ?_
  · simp [gc, closeN, liveA, gcV, gcO, renA, renAs, renO, namesAs, namesA, namesO, posn]
  rintro n st ⟨i, rfl, hi, hn, rfl⟩
  by_cases hlt : i < a.length
  · have ha := List.getElem?_eq_getElem hlt
    have hm := List.getElem_mem hlt
    generalize a[i] = x at ha hm
    have cp := hp x hm
    cases hx : p x with
    | true =>
      have e := idxF_hit ha hn hx
      rw [hx] at cp
      rw [e]
      exact u_31 ha cp
    | false =>
      have hn2 := take_miss ha hn hx
      rw [hx] at cp
      refine u_32 ha cp ?_
      refine ⟨a.length - (i + 1), by omega, i + 1, rfl, hlt, hn2, ?_⟩
      simp [gc, closeN, liveA, gcV, gcO, renA, renAs, renO, namesAs, namesA, namesO, posn]
      exact wrap_id (by omega) (by omega)
  · have hie : i = a.length := by omega
    subst hie
    rw [List.take_length] at hn
    rw [idxF_miss hn]
    exact u_29
theorem IndexFuncLease_ok (a : List GLease) (g : FuncId) (caps : List (List D)) (p : GLease → Bool) (hsz : a.length ≤ 281474976710656) (hp : ∀ x, x ∈ a → Valid PP GG g (.agg x.c :: caps.map .rp) (.d (.bool (p x))) [none]) :
    Valid PP GG F_slices_IndexFunc___impl_Lease_impl_Lease_ [.d (.slc 6 (rLease a)), .d (.fn g caps)] (.d (.int .i64 (idxF p a))) [none, none] := by
  refine v_slices_IndexFunc___impl_Lease_impl_Lease_ [.d (.int .i64 (idxF p a))] rfl rfl ?_
  refine u_30 ?_
  refine W_loop (fun n st => ∃ i : Nat, n = a.length - i ∧ i ≤ a.length ∧ (∀ x, x ∈ a.take i → p x = false) ∧
    st = ⟨[], [(0, .d (.slc 6 (rLease a))), (1, .d (.fn g caps)), (7, .d (.int .i64 a.length)), (8, .d (.int .i64 i))], [], 0⟩) _ ⟨0, rfl, by omega, fun x hx => by simp at hx, ?_⟩ ?_
  · simp [gc, closeN, liveA, gcV, gcO, renA, renAs, renO, namesAs, namesA, namesO, posn]
  rintro n st ⟨i, rfl, hi, hn, rfl⟩
  by_cases hlt : i < a.length
  · have ha := List.getElem?_eq_getElem hlt
    have hm := List.getElem_mem hlt
    generalize a[i] = x at ha hm
    have cp := hp x hm
    cases hx : p x with
    | true =>
      have e := idxF_hit ha hn hx
      rw [hx] at cp
      rw [e]
      exact u_31 ha cp
    | false =>
      have hn2 := take_miss ha hn hx
      rw [hx] at cp
      refine u_32 ha cp ?_
      refine ⟨a.length - (i + 1), by omega, i + 1, rfl, hlt, hn2, ?_⟩
      simp [gc, closeN, liveA, gcV, gcO, renA, renAs, renO, namesAs, namesA, namesO, posn]
      exact wrap_id (by omega) (by omega)
  · have hie : i = a.length := by omega
    subst hie
    rw [List.take_length] at hn
    rw [idxF_miss hn]
    exact u_29
theorem IndexFuncOwned_ok (a : List GOwned) (g : FuncId) (caps : List (List D)) (p : GOwned → Bool) (hsz : a.length ≤ 281474976710656) (hp : ∀ x, x ∈ a → Valid PP GG g (.agg x.c :: caps.map .rp) (.d (.bool (p x))) [none]) :
    Valid PP GG F_slices_IndexFunc___impl_Owned_impl_Owned_ [.d (.slc 2 (rOwned a)), .d (.fn g caps)] (.d (.int .i64 (idxF p a))) [none, none] := by
  refine v_slices_IndexFunc___impl_Owned_impl_Owned_ [.d (.int .i64 (idxF p a))] rfl rfl ?_
  refine u_30 ?_
  refine W_loop (fun n st => ∃ i : Nat, n = a.length - i ∧ i ≤ a.length ∧ (∀ x, x ∈ a.take i → p x = false) ∧
    st = ⟨[], [(0, .d (.slc 2 (rOwned a))), (1, .d (.fn g caps)), (7, .d (.int .i64 a.length)), (8, .d (.int .i64 i))], [], 0⟩) _ ⟨0, rfl, by omega, fun x hx => by simp at hx, ?_⟩ ?_
  · simp [gc, closeN, liveA, gcV, gcO, renA, renAs, renO, namesAs, namesA, namesO, posn]
  rintro n st ⟨i, rfl, hi, hn, rfl⟩
  by_cases hlt : i < a.length
  · have ha := List.getElem?_eq_getElem hlt
    have hm := List.getElem_mem hlt
    generalize a[i] = x at ha hm
    have cp := hp x hm
    cases hx : p x with
    | true =>
      have e := idxF_hit ha hn hx
      rw [hx] at cp
      rw [e]
      exact u_31 ha cp
    | false =>
      have hn2 := take_miss ha hn hx
      rw [hx] at cp
      refine u_32 ha cp ?_
      refine ⟨a.length - (i + 1), by omega, i + 1, rfl, hlt, hn2, ?_⟩
      simp [gc, closeN, liveA, gcV, gcO, renA, renAs, renO, namesAs, namesA, namesO, posn]
      exact wrap_id (by omega) (by omega)
  · have hie : i = a.length := by omega
    subst hie
    rw [List.take_length] at hn
    rw [idxF_miss hn]
    exact u_29
theorem IndexFuncJob_ok (a : List GJob) (g : FuncId) (caps : List (List D)) (p : GJob → Bool) (hsz : a.length ≤ 281474976710656) (hp : ∀ x, x ∈ a → Valid PP GG g (.agg x.c :: caps.map .rp) (.d (.bool (p x))) [none]) :
    Valid PP GG F_slices_IndexFunc___impl_Job_impl_Job_ [.d (.slc 3 (rJob a)), .d (.fn g caps)] (.d (.int .i64 (idxF p a))) [none, none] := by
  refine v_slices_IndexFunc___impl_Job_impl_Job_ [.d (.int .i64 (idxF p a))] rfl rfl ?_
  refine u_30 ?_
  refine W_loop (fun n st => ∃ i : Nat, n = a.length - i ∧ i ≤ a.length ∧ (∀ x, x ∈ a.take i → p x = false) ∧
    st = ⟨[], [(0, .d (.slc 3 (rJob a))), (1, .d (.fn g caps)), (7, .d (.int .i64 a.length)), (8, .d (.int .i64 i))], [], 0⟩) _ ⟨0, rfl, by omega, fun x hx => by simp at hx, ?_⟩ ?_
  · simp [gc, closeN, liveA, gcV, gcO, renA, renAs, renO, namesAs, namesA, namesO, posn]
  rintro n st ⟨i, rfl, hi, hn, rfl⟩
  by_cases hlt : i < a.length
  · have ha := List.getElem?_eq_getElem hlt
    have hm := List.getElem_mem hlt
    generalize a[i] = x at ha hm
    have cp := hp x hm
    cases hx : p x with
    | true =>
      have e := idxF_hit ha hn hx
      rw [hx] at cp
      rw [e]
      exact u_31 ha cp
    | false =>
      have hn2 := take_miss ha hn hx
      rw [hx] at cp
      refine u_32 ha cp ?_
      refine ⟨a.length - (i + 1), by omega, i + 1, rfl, hlt, hn2, ?_⟩
      simp [gc, closeN, liveA, gcV, gcO, renA, renAs, renO, namesAs, namesA, namesO, posn]
      exact wrap_id (by omega) (by omega)
  · have hie : i = a.length := by omega
    subst hie
    rw [List.take_length] at hn
    rw [idxF_miss hn]
    exact u_29
theorem ContainsFuncOwned_ok (a : List GOwned) (g : FuncId) (caps : List (List D)) (p : GOwned → Bool) (hsz : a.length ≤ 281474976710656) (hp : ∀ x, x ∈ a → Valid PP GG g (.agg x.c :: caps.map .rp) (.d (.bool (p x))) [none]) :
    Valid PP GG F_slices_ContainsFunc___impl_Owned_impl_Owned_ [.d (.slc 2 (rOwned a)), .d (.fn g caps)] (.d (.bool (a.any p))) [none, none] := by
  refine v_slices_ContainsFunc___impl_Owned_impl_Owned_ [.d (.bool (a.any p))] rfl rfl ?_
  have ci := IndexFuncOwned_ok a g caps p hsz hp
  have e := idxF_any p a
  exact u_31 e ci
theorem ContainsFuncJob_ok (a : List GJob) (g : FuncId) (caps : List (List D)) (p : GJob → Bool) (hsz : a.length ≤ 281474976710656) (hp : ∀ x, x ∈ a → Valid PP GG g (.agg x.c :: caps.map .rp) (.d (.bool (p x))) [none]) :
    Valid PP GG F_slices_ContainsFunc___impl_Job_impl_Job_ [.d (.slc 3 (rJob a)), .d (.fn g caps)] (.d (.bool (a.any p))) [none, none] := by
  refine v_slices_ContainsFunc___impl_Job_impl_Job_ [.d (.bool (a.any p))] rfl rfl ?_
  have ci := IndexFuncJob_ok a g caps p hsz hp
  have e := idxF_any p a
  exact u_31 e ci
theorem tokenIndex_c1_ok (t : GToken) (id : Int) : Valid PP GG F_I_tokenIndex_c1 [.agg t.c, .rp [.int .i64 id]] (.d (.bool (decide (t.fId = id)))) [none] := by
  refine v_I_tokenIndex_c1 [.d (.bool (decide (t.fId = id)))] rfl rfl ?_
  have hind := ind_strs t.fNames
  have hq : (t.fId == id) = decide (t.fId = id) := rfl
  exact u_25 hq
theorem tokenIndex_ok (f : GForest) (id : Int) (hf : f.fTokens.length ≤ 1048576) : Valid PP GG F_I_tokenIndex [.agg f.c, .d (.int .i64 id)] (.d (.int .i64 (idxF (fun t => decide (t.fId = id)) f.fTokens))) [none, none] := by
  refine v_I_tokenIndex [.d (.int .i64 (idxF (fun t => decide (t.fId = id)) f.fTokens))] rfl rfl ?_
  have ci := IndexFuncToken_ok (GG := GG) f.fTokens F_I_tokenIndex_c1 [[.int .i64 id]] (fun t => decide (t.fId = id)) (by omega) fun x _ => tokenIndex_c1_ok x id
  exact u_33 ci
theorem leaseIndex_c1_ok (t : GLease) (id : Int) : Valid PP GG F_I_leaseIndex_c1 [.agg t.c, .rp [.int .i64 id]] (.d (.bool (decide (t.fId = id)))) [none] := by
  refine v_I_leaseIndex_c1 [.d (.bool (decide (t.fId = id)))] rfl rfl ?_
  have hq : (t.fId == id) = decide (t.fId = id) := rfl
  exact u_25 hq
theorem leaseIndex_ok (f : GBook) (id : Int) (hf : f.fLeases.length ≤ 1048576) : Valid PP GG F_I_leaseIndex [.agg f.c, .d (.int .i64 id)] (.d (.int .i64 (idxF (fun t => decide (t.fId = id)) f.fLeases))) [none, none] := by
  refine v_I_leaseIndex [.d (.int .i64 (idxF (fun t => decide (t.fId = id)) f.fLeases))] rfl rfl ?_
  have ci := IndexFuncLease_ok (GG := GG) f.fLeases F_I_leaseIndex_c1 [[.int .i64 id]] (fun t => decide (t.fId = id)) (by omega) fun x _ => leaseIndex_c1_ok x id
  exact u_33 ci
theorem hasJob_c1_ok (t : GJob) (s : List UInt8) : Valid PP GG F_I_hasJob_c1 [.agg t.c, .rp [.str s]] (.d (.bool (t.fName == s))) [none] := by
  refine v_I_hasJob_c1 [.d (.bool (t.fName == s))] rfl rfl ?_
  exact u_29
theorem hasJob_ok (f : GQueue) (s : List UInt8) (hf : f.fJobs.length ≤ 1048576) : Valid PP GG F_I_hasJob [.agg f.c, .d (.str s)] (.d (.bool (f.fJobs.any fun t => t.fName == s))) [none, none] := by
  refine v_I_hasJob [.d (.bool (f.fJobs.any fun t => t.fName == s))] rfl rfl ?_
  have ci := ContainsFuncJob_ok (GG := GG) f.fJobs F_I_hasJob_c1 [[.str s]] (fun t => t.fName == s) (by omega) fun x _ => hasJob_c1_ok x s
  exact u_33 ci
def hasTok (f : GForest) (id : Int) : Bool := f.fTokens.any fun t => decide (t.fId = id)
def tokQ (f : GForest) (pre : List GToken) (t : GToken) : Bool := tokenB t && adjB (fun p x => decide (p.fId < x.fId)) pre t && (decide (t.fParent = 0) || hasTok f t.fParent)
def forestB (f : GForest) : Bool := decide (f.fTokens.length ≤ 120) && okP (tokQ f) [] f.fTokens
def fitF (f : GForest) : Prop := f.fTokens.length ≤ 1048576 ∧ ∀ t, t ∈ f.fTokens → fitT t
theorem s_l08At_ok (f : GForest) (id : Int) (hf : f.fTokens.length ≤ 1048576) : Valid PP GG F_S_l08At [.agg f.c, .d (.int .i64 id)] (.d (.int .i64 (idxF (fun t => decide (t.fId = id)) f.fTokens))) [none, none] := by
  refine v_S_l08At [.d (.int .i64 (idxF (fun t => decide (t.fId = id)) f.fTokens))] rfl rfl ?_
  obtain ⟨a⟩ := f
  dsimp only at hf ⊢
  refine u_30 ?_
  refine W_loop (fun n st => ∃ i : Nat, n = a.length - i ∧ i ≤ a.length ∧ (∀ x, x ∈ a.take i → (decide (x.fId = id)) = false) ∧
    st = ⟨[], [(1, .d (.int .i64 id)), (2, .ptr 0 0), (5, .d (.int .i64 i))], [(0, .box [.d (.slc 7 (rToken a))])], 1⟩) _ ⟨0, rfl, by omega, fun x hx => by simp at hx, ?_⟩ ?_
  · simp [gc, closeN, liveA, gcV, gcO, renA, renAs, renO, namesAs, namesA, namesO, posn]
  rintro n st ⟨i, rfl, hi, hn, rfl⟩
  by_cases hlt : i < a.length
  · have ha := List.getElem?_eq_getElem hlt
    generalize a[i] = x at ha
    by_cases hx : x.fId = id
    · have e := idxF_hit ha hn (decide_eq_true hx)
      have hxb : (x.fId == id) = true := decide_eq_true hx
      rw [e]
      exact u_26 ha hxb
    · have hn2 := take_miss (p := fun x => decide (x.fId = id)) ha hn (decide_eq_false hx)
      have hxb : (x.fId == id) = false := decide_eq_false hx
      refine u_27 ha hxb ?_
      refine ⟨a.length - (i + 1), by omega, i + 1, rfl, hlt, hn2, ?_⟩
      simp [gc, closeN, liveA, gcV, gcO, renA, renAs, renO, namesAs, namesA, namesO, posn]
      exact wrap_id (by omega) (by omega)
  · have hie : i = a.length := by omega
    subst hie
    rw [List.take_length] at hn
    rw [idxF_miss hn]
    exact u_29
theorem isForest_ok [MaxL GG] (f : GForest) (hf : fitF f) : Valid PP GG F_I_isForest [.agg f.c] (.d (.bool (forestB f))) [none] := by
  refine v_I_isForest [.d (.bool (forestB f))] rfl rfl ?_
  obtain ⟨hl, ht⟩ := hf
  have hti : ∀ id, Valid PP GG F_I_tokenIndex [.agg [.d (.slc 7 (rToken f.fTokens))], .d (.int .i64 id)] (.d (.int .i64 (idxF (fun t => decide (t.fId = id)) f.fTokens))) [none, none] := fun id => tokenIndex_ok (GG := GG) f id hl
  generalize hfa : f.fTokens = a at *
  repeat' (first | refine W_seq ?_ | refine W_skip ?_ | refine W_block ?_ | refine W_exit ?_ | refine pick_pos rfl ?_ | refine pick_neg rfl ?_ | ((first | refine W_regP fun K hK => ?_ | refine W_regPD fun K hK => ?_ | refine W_ret ?_); simp [Fin, hfa]) | (with_reducible refine hK _ ?_; clear hK K) | (with_reducible refine goL_split (fun h => ?_) (fun h => ?_) <;> first | (exfalso; simp at h; first | done | omega | contradiction) | ((try simp at h); simp [hfa])) | with_reducible refine And.intro ?_ ?_ | with_reducible exact okay_rfl rfl | with_reducible assumption | (refine W_cond rfl (fun h => ?_) (fun h => ?_) <;> first | (exfalso; simp at h; first | done | omega | contradiction) | (exfalso; simp_all; done) | (try simp at h)) | omega)
  refine W_loop (fun n st => ∃ i : Nat, n = a.length - i ∧ i ≤ a.length ∧ okP (tokQ f) [] (a.take i) = true ∧
    st = ⟨[], [(1, .ptr 0 0), (6, .d (.slc 7 (rToken a))), (7, .d (.int .i64 a.length)), (8, .d (.int .i64 i))], [(0, .box [.d (.slc 7 (rToken a))])], 1⟩) _ ⟨0, rfl, by omega, rfl, ?_⟩ ?_
  · simp [gc, closeN, liveA, gcV, gcO, renA, renAs, renO, namesAs, namesA, namesO, posn, hfa]
  rintro n st ⟨i, rfl, hi, hok, rfl⟩
  by_cases hlt : i < a.length
  · have ha := List.getElem?_eq_getElem hlt
    generalize a[i] = x at ha
    have ct := isToken_ok (GG := GG) x (ht x (List.mem_of_getElem? ha))
    have cf := hti x.fParent
    have hbad0 := fun h => okP_bad (q := tokQ f) ha h
    have hst := okP_step (q := tokQ f) ha
    rw [hok, Bool.true_and] at hst
    have hbad : tokQ f (a.take i) x = false → forestB f = false := fun h => by unfold forestB; rw [hfa, hbad0 h, Bool.and_false]
    clear hbad0
    have hq : tokQ f (a.take i) x = (tokenB x && adjB (fun p x => decide (p.fId < x.fId)) (a.take i) x && (decide (x.fParent = 0) || hasTok f x.fParent)) := rfl
    rw [hq] at hst hbad
    clear hq
    obtain ⟨xi, xp, xn, xm, xe, xl, xu⟩ := x
    have hno : decide (idxF (fun t => decide (t.fId = xp)) a < 0) = !hasTok f xp := by rw [idxF_none]; unfold hasTok; rw [hfa]
    dsimp only at cf hst hbad
    generalize idxF (fun t => decide (t.fId = xp)) a = k at cf hno
    cases htb : tokenB ⟨xi, xp, xn, xm, xe, xl, xu⟩ with
    | false =>
      rw [htb] at ct hbad
      have hb := hbad (by simp)
      rw [hb]
      repeat' (first | refine W_seq ?_ | refine W_skip ?_ | refine W_block ?_ | refine W_exit ?_ | refine pick_pos rfl ?_ | refine pick_neg rfl ?_ | ((first | refine W_regP fun K hK => ?_ | refine W_regPD fun K hK => ?_ | refine W_ret ?_ | with_reducible refine callQ (ct) ?_); simp [Fin, ha, hfa]) | (with_reducible refine hK _ ?_; clear hK K) | (with_reducible refine goL_split (fun h => ?_) (fun h => ?_) <;> first | (exfalso; simp at h; first | done | omega | contradiction) | ((try simp at h); simp [ha, hfa])) | with_reducible refine And.intro ?_ ?_ | with_reducible exact okay_rfl rfl | with_reducible assumption | (refine W_cond rfl (fun h => ?_) (fun h => ?_) <;> first | (exfalso; simp at h; first | done | omega | contradiction) | (exfalso; simp_all; done) | (try simp at h)) | omega)
    | true =>
      rw [htb] at ct hst hbad
      simp only [Bool.true_and] at hst hbad
      by_cases h0 : i = 0
      · have hpi : ¬ 0 < i := by omega
        have hz : adjB (fun p x : GToken => decide (p.fId < x.fId)) (a.take i) ⟨xi, xp, xn, xm, xe, xl, xu⟩ = true := by rw [h0]; exact adj_zero _ _ _
        rw [hz, Bool.true_and] at hst hbad
        by_cases hp0 : xp = 0
        · have hst1 : okP (tokQ f) [] (a.take (i + 1)) = true := by rw [hst]; simp [hp0]
          have hq0 : (xp != 0) = false := by simp [hp0]
          repeat' (first | refine W_seq ?_ | refine W_skip ?_ | refine W_block ?_ | refine W_exit ?_ | refine pick_pos rfl ?_ | refine pick_neg rfl ?_ | ((first | refine W_regP fun K hK => ?_ | refine W_regPD fun K hK => ?_ | refine W_ret ?_ | with_reducible refine callQ (ct) ?_ | with_reducible refine callQ (cf) ?_); simp [Fin, ha, hfa, hq0, hpi]) | (with_reducible refine hK _ ?_; clear hK K) | (with_reducible refine goL_split (fun h => ?_) (fun h => ?_) <;> first | (exfalso; simp at h; first | done | omega | contradiction) | ((try simp at h); simp [ha, hfa, hq0, hpi])) | with_reducible refine And.intro ?_ ?_ | with_reducible exact okay_rfl rfl | with_reducible assumption | (refine W_cond rfl (fun h => ?_) (fun h => ?_) <;> first | (exfalso; simp at h; first | done | omega | contradiction) | (exfalso; simp_all; done) | (try simp at h)) | omega)
          refine ⟨a.length - (i + 1), by omega, i + 1, rfl, hlt, hst1, ?_⟩
          simp [gc, closeN, liveA, gcV, gcO, renA, renAs, renO, namesAs, namesA, namesO, posn, hfa]
          exact wrap_id (by omega) (by omega)
        · have hq0 : (xp != 0) = true := by simp [hp0]
          have hd0 : decide (xp = 0) = false := decide_eq_false hp0
          cases hh : hasTok f xp with
          | true =>
            have hk : ¬ k < 0 := by rw [hh] at hno; simpa using hno
            have hst1 : okP (tokQ f) [] (a.take (i + 1)) = true := by rw [hst]; simp [hh]
            repeat' (first | refine W_seq ?_ | refine W_skip ?_ | refine W_block ?_ | refine W_exit ?_ | refine pick_pos rfl ?_ | refine pick_neg rfl ?_ | ((first | refine W_regP fun K hK => ?_ | refine W_regPD fun K hK => ?_ | refine W_ret ?_ | with_reducible refine callQ (ct) ?_ | with_reducible refine callQ (cf) ?_); simp [Fin, ha, hfa, hq0, hpi, hk]) | (with_reducible refine hK _ ?_; clear hK K) | (with_reducible refine goL_split (fun h => ?_) (fun h => ?_) <;> first | (exfalso; simp at h; first | done | omega | contradiction) | ((try simp at h); simp [ha, hfa, hq0, hpi, hk])) | with_reducible refine And.intro ?_ ?_ | with_reducible exact okay_rfl rfl | with_reducible assumption | (refine W_cond rfl (fun h => ?_) (fun h => ?_) <;> first | (exfalso; simp at h; first | done | omega | contradiction) | (exfalso; simp_all; done) | (try simp at h)) | omega)
            refine ⟨a.length - (i + 1), by omega, i + 1, rfl, hlt, hst1, ?_⟩
            simp [gc, closeN, liveA, gcV, gcO, renA, renAs, renO, namesAs, namesA, namesO, posn, hfa]
            exact wrap_id (by omega) (by omega)
          | false =>
            have hk : k < 0 := by rw [hh] at hno; simpa using hno
            have hb := hbad (by simp [hd0, hh])
            rw [hb]
            repeat' (first | refine W_seq ?_ | refine W_skip ?_ | refine W_block ?_ | refine W_exit ?_ | refine pick_pos rfl ?_ | refine pick_neg rfl ?_ | ((first | refine W_regP fun K hK => ?_ | refine W_regPD fun K hK => ?_ | refine W_ret ?_ | with_reducible refine callQ (ct) ?_ | with_reducible refine callQ (cf) ?_); simp [Fin, ha, hfa, hq0, hpi, hk]) | (with_reducible refine hK _ ?_; clear hK K) | (with_reducible refine goL_split (fun h => ?_) (fun h => ?_) <;> first | (exfalso; simp at h; first | done | omega | contradiction) | ((try simp at h); simp [ha, hfa, hq0, hpi, hk])) | with_reducible refine And.intro ?_ ?_ | with_reducible exact okay_rfl rfl | with_reducible assumption | (refine W_cond rfl (fun h => ?_) (fun h => ?_) <;> first | (exfalso; simp at h; first | done | omega | contradiction) | (exfalso; simp_all; done) | (try simp at h)) | omega)
      · have hp := List.getElem?_eq_getElem (show i - 1 < a.length by omega)
        generalize a[i - 1]'_ = p at hp
        rw [adj_pos _ (by omega) hp] at hst hbad
        have hpi : 0 < i := by omega
        have hw1 : IntKind.i64.wrap ((i : Int) - 1) = ((i - 1 : Nat) : Int) := by rw [wrap_id (by omega) (by omega)]; omega
        obtain ⟨yi, yp, yn, ym, ye, yl, yu⟩ := p
        dsimp only at hst hbad
        by_cases hle : xi ≤ yi
        · have hb := hbad (by rw [decide_eq_false (show ¬ yi < xi by omega), Bool.false_and])
          rw [hb]
          repeat' (first | refine W_seq ?_ | refine W_skip ?_ | refine W_block ?_ | refine W_exit ?_ | refine pick_pos rfl ?_ | refine pick_neg rfl ?_ | ((first | refine W_regP fun K hK => ?_ | refine W_regPD fun K hK => ?_ | refine W_ret ?_ | with_reducible refine callQ (ct) ?_); simp [Fin, ha, hp, hfa, hpi, hw1, hle]) | (with_reducible refine hK _ ?_; clear hK K) | (with_reducible refine goL_split (fun h => ?_) (fun h => ?_) <;> first | (exfalso; simp at h; first | done | omega | contradiction) | ((try simp at h); simp [ha, hp, hfa, hpi, hw1, hle])) | with_reducible refine And.intro ?_ ?_ | with_reducible exact okay_rfl rfl | with_reducible assumption | (refine W_cond rfl (fun h => ?_) (fun h => ?_) <;> first | (exfalso; simp at h; first | done | omega | contradiction) | (exfalso; simp_all; done) | (try simp at h)) | omega)
        · rw [decide_eq_true (show yi < xi by omega), Bool.true_and] at hst hbad
          by_cases hp0 : xp = 0
          · have hst1 : okP (tokQ f) [] (a.take (i + 1)) = true := by rw [hst]; simp [hp0]
            have hq0 : (xp != 0) = false := by simp [hp0]
            repeat' (first | refine W_seq ?_ | refine W_skip ?_ | refine W_block ?_ | refine W_exit ?_ | refine pick_pos rfl ?_ | refine pick_neg rfl ?_ | ((first | refine W_regP fun K hK => ?_ | refine W_regPD fun K hK => ?_ | refine W_ret ?_ | with_reducible refine callQ (ct) ?_ | with_reducible refine callQ (cf) ?_); simp [Fin, ha, hfa, hq0, hp, hpi, hw1, hle]) | (with_reducible refine hK _ ?_; clear hK K) | (with_reducible refine goL_split (fun h => ?_) (fun h => ?_) <;> first | (exfalso; simp at h; first | done | omega | contradiction) | ((try simp at h); simp [ha, hfa, hq0, hp, hpi, hw1, hle])) | with_reducible refine And.intro ?_ ?_ | with_reducible exact okay_rfl rfl | with_reducible assumption | (refine W_cond rfl (fun h => ?_) (fun h => ?_) <;> first | (exfalso; simp at h; first | done | omega | contradiction) | (exfalso; simp_all; done) | (try simp at h)) | omega)
            refine ⟨a.length - (i + 1), by omega, i + 1, rfl, hlt, hst1, ?_⟩
            simp [gc, closeN, liveA, gcV, gcO, renA, renAs, renO, namesAs, namesA, namesO, posn, hfa]
            exact wrap_id (by omega) (by omega)
          · have hq0 : (xp != 0) = true := by simp [hp0]
            have hd0 : decide (xp = 0) = false := decide_eq_false hp0
            cases hh : hasTok f xp with
            | true =>
              have hk : ¬ k < 0 := by rw [hh] at hno; simpa using hno
              have hst1 : okP (tokQ f) [] (a.take (i + 1)) = true := by rw [hst]; simp [hh]
              repeat' (first | refine W_seq ?_ | refine W_skip ?_ | refine W_block ?_ | refine W_exit ?_ | refine pick_pos rfl ?_ | refine pick_neg rfl ?_ | ((first | refine W_regP fun K hK => ?_ | refine W_regPD fun K hK => ?_ | refine W_ret ?_ | with_reducible refine callQ (ct) ?_ | with_reducible refine callQ (cf) ?_); simp [Fin, ha, hfa, hq0, hp, hpi, hw1, hle, hk]) | (with_reducible refine hK _ ?_; clear hK K) | (with_reducible refine goL_split (fun h => ?_) (fun h => ?_) <;> first | (exfalso; simp at h; first | done | omega | contradiction) | ((try simp at h); simp [ha, hfa, hq0, hp, hpi, hw1, hle, hk])) | with_reducible refine And.intro ?_ ?_ | with_reducible exact okay_rfl rfl | with_reducible assumption | (refine W_cond rfl (fun h => ?_) (fun h => ?_) <;> first | (exfalso; simp at h; first | done | omega | contradiction) | (exfalso; simp_all; done) | (try simp at h)) | omega)
              refine ⟨a.length - (i + 1), by omega, i + 1, rfl, hlt, hst1, ?_⟩
              simp [gc, closeN, liveA, gcV, gcO, renA, renAs, renO, namesAs, namesA, namesO, posn, hfa]
              exact wrap_id (by omega) (by omega)
            | false =>
              have hk : k < 0 := by rw [hh] at hno; simpa using hno
              have hb := hbad (by simp [hd0, hh])
              rw [hb]
              repeat' (first | refine W_seq ?_ | refine W_skip ?_ | refine W_block ?_ | refine W_exit ?_ | refine pick_pos rfl ?_ | refine pick_neg rfl ?_ | ((first | refine W_regP fun K hK => ?_ | refine W_regPD fun K hK => ?_ | refine W_ret ?_ | with_reducible refine callQ (ct) ?_ | with_reducible refine callQ (cf) ?_); simp [Fin, ha, hfa, hq0, hp, hpi, hw1, hle, hk]) | (with_reducible refine hK _ ?_; clear hK K) | (with_reducible refine goL_split (fun h => ?_) (fun h => ?_) <;> first | (exfalso; simp at h; first | done | omega | contradiction) | ((try simp at h); simp [ha, hfa, hq0, hp, hpi, hw1, hle, hk])) | with_reducible refine And.intro ?_ ?_ | with_reducible exact okay_rfl rfl | with_reducible assumption | (refine W_cond rfl (fun h => ?_) (fun h => ?_) <;> first | (exfalso; simp at h; first | done | omega | contradiction) | (exfalso; simp_all; done) | (try simp at h)) | omega)
  · have hie : i = a.length := by omega
    subst hie
    rw [List.take_length] at hok
    have e : forestB f = decide ((a.length : Int) ≤ 120) := by unfold forestB; rw [hfa, hok, Bool.and_true]; exact decide_eq_decide.2 (by omega)
    rw [e]
    repeat' (first | refine W_seq ?_ | refine W_skip ?_ | refine W_block ?_ | refine W_exit ?_ | refine pick_pos rfl ?_ | refine pick_neg rfl ?_ | ((first | refine W_regP fun K hK => ?_ | refine W_regPD fun K hK => ?_ | refine W_ret ?_); simp [Fin]) | (with_reducible refine hK _ ?_; clear hK K) | (with_reducible refine goL_split (fun h => ?_) (fun h => ?_) <;> first | (exfalso; simp at h; first | done | omega | contradiction) | ((try simp at h); simp)) | with_reducible refine And.intro ?_ ?_ | with_reducible exact okay_rfl rfl | with_reducible assumption | (refine W_cond rfl (fun h => ?_) (fun h => ?_) <;> first | (exfalso; simp at h; first | done | omega | contradiction) | (exfalso; simp_all; done) | (try simp at h)) | omega)
theorem s_ForestOk_ok [MaxL GG] (f : GForest) (hf : fitF f) : Valid PP GG F_S_ForestOk [.agg f.c] (.d (.bool (forestB f))) [none] := by
  refine v_S_ForestOk [.d (.bool (forestB f))] rfl rfl ?_
  obtain ⟨hl, ht⟩ := hf
  have hti : ∀ id, Valid PP GG F_S_l08At [.agg [.d (.slc 7 (rToken f.fTokens))], .d (.int .i64 id)] (.d (.int .i64 (idxF (fun t => decide (t.fId = id)) f.fTokens))) [none, none] := fun id => s_l08At_ok (GG := GG) f id hl
  generalize hfa : f.fTokens = a at *
  by_cases h6 : a.length ≤ 120
  rotate_left
  · have hb : forestB f = false := by unfold forestB; rw [hfa, decide_eq_false h6, Bool.false_and]
    rw [hb]
    have hd : 120 < a.length := by omega
    repeat' (first | refine W_seq ?_ | refine W_skip ?_ | refine W_block ?_ | refine W_exit ?_ | refine pick_pos rfl ?_ | refine pick_neg rfl ?_ | ((first | refine W_regP fun K hK => ?_ | refine W_regPD fun K hK => ?_ | refine W_ret ?_); simp [Fin, hfa, hd]) | (with_reducible refine hK _ ?_; clear hK K) | (with_reducible refine goL_split (fun h => ?_) (fun h => ?_) <;> first | (exfalso; simp at h; first | done | omega | contradiction) | ((try simp at h); simp [hfa, hd])) | with_reducible refine And.intro ?_ ?_ | with_reducible exact okay_rfl rfl | with_reducible assumption | (refine W_cond rfl (fun h => ?_) (fun h => ?_) <;> first | (exfalso; simp at h; first | done | omega | contradiction) | (exfalso; simp_all; done) | (try simp at h)) | omega)
  have hd : ¬ 120 < a.length := by omega
  repeat' (first | refine W_seq ?_ | refine W_skip ?_ | refine W_block ?_ | refine W_exit ?_ | refine pick_pos rfl ?_ | refine pick_neg rfl ?_ | ((first | refine W_regP fun K hK => ?_ | refine W_regPD fun K hK => ?_ | refine W_ret ?_); simp [Fin, hfa, hd]) | (with_reducible refine hK _ ?_; clear hK K) | (with_reducible refine goL_split (fun h => ?_) (fun h => ?_) <;> first | (exfalso; simp at h; first | done | omega | contradiction) | ((try simp at h); simp [hfa, hd])) | with_reducible refine And.intro ?_ ?_ | with_reducible exact okay_rfl rfl | with_reducible assumption | (refine W_cond rfl (fun h => ?_) (fun h => ?_) <;> first | (exfalso; simp at h; first | done | omega | contradiction) | (exfalso; simp_all; done) | (try simp at h)) | omega)
  refine W_loop (fun n st => ∃ i : Nat, n = a.length - i ∧ i ≤ a.length ∧ okP (tokQ f) [] (a.take i) = true ∧
    st = ⟨[], [(1, .ptr 0 0), (3, .d (.int .i64 i))], [(0, .box [.d (.slc 7 (rToken a))])], 1⟩) _ ⟨0, rfl, by omega, rfl, ?_⟩ ?_
  · simp [gc, closeN, liveA, gcV, gcO, renA, renAs, renO, namesAs, namesA, namesO, posn, hfa]
  rintro n st ⟨i, rfl, hi, hok, rfl⟩
  by_cases hlt : i < a.length
  · have ha := List.getElem?_eq_getElem hlt
    generalize a[i] = x at ha
    have ct := s_l08Token_ok (GG := GG) x (ht x (List.mem_of_getElem? ha))
    have cf := hti x.fParent
    have hbad0 := fun h => okP_bad (q := tokQ f) ha h
    have hst := okP_step (q := tokQ f) ha
    rw [hok, Bool.true_and] at hst
    have hbad : tokQ f (a.take i) x = false → forestB f = false := fun h => by unfold forestB; rw [hfa, hbad0 h, Bool.and_false]
    clear hbad0
    have hq : tokQ f (a.take i) x = (tokenB x && adjB (fun p x => decide (p.fId < x.fId)) (a.take i) x && (decide (x.fParent = 0) || hasTok f x.fParent)) := rfl
    rw [hq] at hst hbad
    clear hq
    obtain ⟨xi, xp, xn, xm, xe, xl, xu⟩ := x
    have hno : decide (idxF (fun t => decide (t.fId = xp)) a < 0) = !hasTok f xp := by rw [idxF_none]; unfold hasTok; rw [hfa]
    dsimp only at cf hst hbad
    generalize idxF (fun t => decide (t.fId = xp)) a = k at cf hno
    cases htb : tokenB ⟨xi, xp, xn, xm, xe, xl, xu⟩ with
    | false =>
      rw [htb] at ct hbad
      have hb := hbad (by simp)
      rw [hb]
      repeat' (first | refine W_seq ?_ | refine W_skip ?_ | refine W_block ?_ | refine W_exit ?_ | refine pick_pos rfl ?_ | refine pick_neg rfl ?_ | ((first | refine W_regP fun K hK => ?_ | refine W_regPD fun K hK => ?_ | refine W_ret ?_ | with_reducible refine callQ (ct) ?_); simp [Fin, ha, hfa]) | (with_reducible refine hK _ ?_; clear hK K) | (with_reducible refine goL_split (fun h => ?_) (fun h => ?_) <;> first | (exfalso; simp at h; first | done | omega | contradiction) | ((try simp at h); simp [ha, hfa])) | with_reducible refine And.intro ?_ ?_ | with_reducible exact okay_rfl rfl | with_reducible assumption | (refine W_cond rfl (fun h => ?_) (fun h => ?_) <;> first | (exfalso; simp at h; first | done | omega | contradiction) | (exfalso; simp_all; done) | (try simp at h)) | omega)
    | true =>
      rw [htb] at ct hst hbad
      simp only [Bool.true_and] at hst hbad
      by_cases h0 : i = 0
      · have hpi : ¬ 0 < i := by omega
        have hz : adjB (fun p x : GToken => decide (p.fId < x.fId)) (a.take i) ⟨xi, xp, xn, xm, xe, xl, xu⟩ = true := by rw [h0]; exact adj_zero _ _ _
        rw [hz, Bool.true_and] at hst hbad
        by_cases hp0 : xp = 0
        · have hst1 : okP (tokQ f) [] (a.take (i + 1)) = true := by rw [hst]; simp [hp0]
          have hq0 : (xp != 0) = false := by simp [hp0]
          repeat' (first | refine W_seq ?_ | refine W_skip ?_ | refine W_block ?_ | refine W_exit ?_ | refine pick_pos rfl ?_ | refine pick_neg rfl ?_ | ((first | refine W_regP fun K hK => ?_ | refine W_regPD fun K hK => ?_ | refine W_ret ?_ | with_reducible refine callQ (ct) ?_ | with_reducible refine callQ (cf) ?_); simp [Fin, ha, hfa, hq0, hpi]) | (with_reducible refine hK _ ?_; clear hK K) | (with_reducible refine goL_split (fun h => ?_) (fun h => ?_) <;> first | (exfalso; simp at h; first | done | omega | contradiction) | ((try simp at h); simp [ha, hfa, hq0, hpi])) | with_reducible refine And.intro ?_ ?_ | with_reducible exact okay_rfl rfl | with_reducible assumption | (refine W_cond rfl (fun h => ?_) (fun h => ?_) <;> first | (exfalso; simp at h; first | done | omega | contradiction) | (exfalso; simp_all; done) | (try simp at h)) | omega)
          refine ⟨a.length - (i + 1), by omega, i + 1, rfl, hlt, hst1, ?_⟩
          simp [gc, closeN, liveA, gcV, gcO, renA, renAs, renO, namesAs, namesA, namesO, posn, hfa]
          exact wrap_id (by omega) (by omega)
        · have hq0 : (xp != 0) = true := by simp [hp0]
          have hd0 : decide (xp = 0) = false := decide_eq_false hp0
          cases hh : hasTok f xp with
          | true =>
            have hk : ¬ k < 0 := by rw [hh] at hno; simpa using hno
            have hst1 : okP (tokQ f) [] (a.take (i + 1)) = true := by rw [hst]; simp [hh]
            repeat' (first | refine W_seq ?_ | refine W_skip ?_ | refine W_block ?_ | refine W_exit ?_ | refine pick_pos rfl ?_ | refine pick_neg rfl ?_ | ((first | refine W_regP fun K hK => ?_ | refine W_regPD fun K hK => ?_ | refine W_ret ?_ | with_reducible refine callQ (ct) ?_ | with_reducible refine callQ (cf) ?_); simp [Fin, ha, hfa, hq0, hpi, hk]) | (with_reducible refine hK _ ?_; clear hK K) | (with_reducible refine goL_split (fun h => ?_) (fun h => ?_) <;> first | (exfalso; simp at h; first | done | omega | contradiction) | ((try simp at h); simp [ha, hfa, hq0, hpi, hk])) | with_reducible refine And.intro ?_ ?_ | with_reducible exact okay_rfl rfl | with_reducible assumption | (refine W_cond rfl (fun h => ?_) (fun h => ?_) <;> first | (exfalso; simp at h; first | done | omega | contradiction) | (exfalso; simp_all; done) | (try simp at h)) | omega)
            refine ⟨a.length - (i + 1), by omega, i + 1, rfl, hlt, hst1, ?_⟩
            simp [gc, closeN, liveA, gcV, gcO, renA, renAs, renO, namesAs, namesA, namesO, posn, hfa]
            exact wrap_id (by omega) (by omega)
          | false =>
            have hk : k < 0 := by rw [hh] at hno; simpa using hno
            have hb := hbad (by simp [hd0, hh])
            rw [hb]
            repeat' (first | refine W_seq ?_ | refine W_skip ?_ | refine W_block ?_ | refine W_exit ?_ | refine pick_pos rfl ?_ | refine pick_neg rfl ?_ | ((first | refine W_regP fun K hK => ?_ | refine W_regPD fun K hK => ?_ | refine W_ret ?_ | with_reducible refine callQ (ct) ?_ | with_reducible refine callQ (cf) ?_); simp [Fin, ha, hfa, hq0, hpi, hk]) | (with_reducible refine hK _ ?_; clear hK K) | (with_reducible refine goL_split (fun h => ?_) (fun h => ?_) <;> first | (exfalso; simp at h; first | done | omega | contradiction) | ((try simp at h); simp [ha, hfa, hq0, hpi, hk])) | with_reducible refine And.intro ?_ ?_ | with_reducible exact okay_rfl rfl | with_reducible assumption | (refine W_cond rfl (fun h => ?_) (fun h => ?_) <;> first | (exfalso; simp at h; first | done | omega | contradiction) | (exfalso; simp_all; done) | (try simp at h)) | omega)
      · have hp := List.getElem?_eq_getElem (show i - 1 < a.length by omega)
        generalize a[i - 1]'_ = p at hp
        rw [adj_pos _ (by omega) hp] at hst hbad
        have hpi : 0 < i := by omega
        have hw1 : IntKind.i64.wrap ((i : Int) - 1) = ((i - 1 : Nat) : Int) := by rw [wrap_id (by omega) (by omega)]; omega
        obtain ⟨yi, yp, yn, ym, ye, yl, yu⟩ := p
        dsimp only at hst hbad
        by_cases hle : xi ≤ yi
        · have hb := hbad (by rw [decide_eq_false (show ¬ yi < xi by omega), Bool.false_and])
          rw [hb]
          repeat' (first | refine W_seq ?_ | refine W_skip ?_ | refine W_block ?_ | refine W_exit ?_ | refine pick_pos rfl ?_ | refine pick_neg rfl ?_ | ((first | refine W_regP fun K hK => ?_ | refine W_regPD fun K hK => ?_ | refine W_ret ?_ | with_reducible refine callQ (ct) ?_); simp [Fin, ha, hp, hfa, hpi, hw1, hle]) | (with_reducible refine hK _ ?_; clear hK K) | (with_reducible refine goL_split (fun h => ?_) (fun h => ?_) <;> first | (exfalso; simp at h; first | done | omega | contradiction) | ((try simp at h); simp [ha, hp, hfa, hpi, hw1, hle])) | with_reducible refine And.intro ?_ ?_ | with_reducible exact okay_rfl rfl | with_reducible assumption | (refine W_cond rfl (fun h => ?_) (fun h => ?_) <;> first | (exfalso; simp at h; first | done | omega | contradiction) | (exfalso; simp_all; done) | (try simp at h)) | omega)
        · rw [decide_eq_true (show yi < xi by omega), Bool.true_and] at hst hbad
          by_cases hp0 : xp = 0
          · have hst1 : okP (tokQ f) [] (a.take (i + 1)) = true := by rw [hst]; simp [hp0]
            have hq0 : (xp != 0) = false := by simp [hp0]
            repeat' (first | refine W_seq ?_ | refine W_skip ?_ | refine W_block ?_ | refine W_exit ?_ | refine pick_pos rfl ?_ | refine pick_neg rfl ?_ | ((first | refine W_regP fun K hK => ?_ | refine W_regPD fun K hK => ?_ | refine W_ret ?_ | with_reducible refine callQ (ct) ?_ | with_reducible refine callQ (cf) ?_); simp [Fin, ha, hfa, hq0, hp, hpi, hw1, hle]) | (with_reducible refine hK _ ?_; clear hK K) | (with_reducible refine goL_split (fun h => ?_) (fun h => ?_) <;> first | (exfalso; simp at h; first | done | omega | contradiction) | ((try simp at h); simp [ha, hfa, hq0, hp, hpi, hw1, hle])) | with_reducible refine And.intro ?_ ?_ | with_reducible exact okay_rfl rfl | with_reducible assumption | (refine W_cond rfl (fun h => ?_) (fun h => ?_) <;> first | (exfalso; simp at h; first | done | omega | contradiction) | (exfalso; simp_all; done) | (try simp at h)) | omega)
            refine ⟨a.length - (i + 1), by omega, i + 1, rfl, hlt, hst1, ?_⟩
            simp [gc, closeN, liveA, gcV, gcO, renA, renAs, renO, namesAs, namesA, namesO, posn, hfa]
            exact wrap_id (by omega) (by omega)
          · have hq0 : (xp != 0) = true := by simp [hp0]
            have hd0 : decide (xp = 0) = false := decide_eq_false hp0
            cases hh : hasTok f xp with
            | true =>
              have hk : ¬ k < 0 := by rw [hh] at hno; simpa using hno
              have hst1 : okP (tokQ f) [] (a.take (i + 1)) = true := by rw [hst]; simp [hh]
              repeat' (first | refine W_seq ?_ | refine W_skip ?_ | refine W_block ?_ | refine W_exit ?_ | refine pick_pos rfl ?_ | refine pick_neg rfl ?_ | ((first | refine W_regP fun K hK => ?_ | refine W_regPD fun K hK => ?_ | refine W_ret ?_ | with_reducible refine callQ (ct) ?_ | with_reducible refine callQ (cf) ?_); simp [Fin, ha, hfa, hq0, hp, hpi, hw1, hle, hk]) | (with_reducible refine hK _ ?_; clear hK K) | (with_reducible refine goL_split (fun h => ?_) (fun h => ?_) <;> first | (exfalso; simp at h; first | done | omega | contradiction) | ((try simp at h); simp [ha, hfa, hq0, hp, hpi, hw1, hle, hk])) | with_reducible refine And.intro ?_ ?_ | with_reducible exact okay_rfl rfl | with_reducible assumption | (refine W_cond rfl (fun h => ?_) (fun h => ?_) <;> first | (exfalso; simp at h; first | done | omega | contradiction) | (exfalso; simp_all; done) | (try simp at h)) | omega)
              refine ⟨a.length - (i + 1), by omega, i + 1, rfl, hlt, hst1, ?_⟩
              simp [gc, closeN, liveA, gcV, gcO, renA, renAs, renO, namesAs, namesA, namesO, posn, hfa]
              exact wrap_id (by omega) (by omega)
            | false =>
              have hk : k < 0 := by rw [hh] at hno; simpa using hno
              have hb := hbad (by simp [hd0, hh])
              rw [hb]
              repeat' (first | refine W_seq ?_ | refine W_skip ?_ | refine W_block ?_ | refine W_exit ?_ | refine pick_pos rfl ?_ | refine pick_neg rfl ?_ | ((first | refine W_regP fun K hK => ?_ | refine W_regPD fun K hK => ?_ | refine W_ret ?_ | with_reducible refine callQ (ct) ?_ | with_reducible refine callQ (cf) ?_); simp [Fin, ha, hfa, hq0, hp, hpi, hw1, hle, hk]) | (with_reducible refine hK _ ?_; clear hK K) | (with_reducible refine goL_split (fun h => ?_) (fun h => ?_) <;> first | (exfalso; simp at h; first | done | omega | contradiction) | ((try simp at h); simp [ha, hfa, hq0, hp, hpi, hw1, hle, hk])) | with_reducible refine And.intro ?_ ?_ | with_reducible exact okay_rfl rfl | with_reducible assumption | (refine W_cond rfl (fun h => ?_) (fun h => ?_) <;> first | (exfalso; simp at h; first | done | omega | contradiction) | (exfalso; simp_all; done) | (try simp at h)) | omega)
  · have hie : i = a.length := by omega
    subst hie
    rw [List.take_length] at hok
    have e : forestB f = true := by unfold forestB; rw [hfa, hok, decide_eq_true h6]; rfl
    rw [e]
    repeat' (first | refine W_seq ?_ | refine W_skip ?_ | refine W_block ?_ | refine W_exit ?_ | refine pick_pos rfl ?_ | refine pick_neg rfl ?_ | ((first | refine W_regP fun K hK => ?_ | refine W_regPD fun K hK => ?_ | refine W_ret ?_); simp [Fin, hfa]) | (with_reducible refine hK _ ?_; clear hK K) | (with_reducible refine goL_split (fun h => ?_) (fun h => ?_) <;> first | (exfalso; simp at h; first | done | omega | contradiction) | ((try simp at h); simp [hfa])) | with_reducible refine And.intro ?_ ?_ | with_reducible exact okay_rfl rfl | with_reducible assumption | (refine W_cond rfl (fun h => ?_) (fun h => ?_) <;> first | (exfalso; simp at h; first | done | omega | contradiction) | (exfalso; simp_all; done) | (try simp at h)) | omega)
def leaseB (t : GLease) : Bool := inB t.fId 1 1000000000 && inB t.fToken 0 1000000000 && pathOk t.fPath && inB t.fMade 0 1000000000 &&
  inB t.fLimit (IntKind.i64.wrap (t.fMade + 1)) 1000000000 && inB t.fEnds (IntKind.i64.wrap (t.fMade + 1)) t.fLimit
def leaseQ (pre : List GLease) (t : GLease) : Bool := leaseB t && adjB (fun p x => decide (p.fId < x.fId)) pre t
def bookB (b : GBook) : Bool := decide (b.fLeases.length ≤ 150) && okP leaseQ [] b.fLeases
def fitB (b : GBook) : Prop := b.fLeases.length ≤ 1048576 ∧ ∀ t, t ∈ b.fLeases → t.fPath.length ≤ 1048576
theorem isLease_ok [MaxL GG] (x : GLease) (hx : x.fPath.length ≤ 1048576) : Valid PP GG F_I_isLease [.agg x.c] (.d (.bool (leaseB x))) [none] := by
  refine v_I_isLease [.d (.bool (leaseB x))] rfl rfl ?_
  obtain ⟨x1, x2, x3, x4, x5, x6⟩ := x
  have hr : leaseB ⟨x1, x2, x3, x4, x5, x6⟩ = (inB x1 1 1000000000 && inB x2 0 1000000000 && pathOk x3 && inB x4 0 1000000000 && inB x6 (IntKind.i64.wrap (x4 + 1)) 1000000000 && inB x5 (IntKind.i64.wrap (x4 + 1)) x6) := rfl
  have c1 : Valid PP GG F_I_within [.d (.int .i64 x1), .d (.int .i64 1), .d (.int .i64 1000000000)] (.d (.bool (inB x1 1 1000000000))) [none, none, none] := within_ok _ _ _
  have c2 : Valid PP GG F_I_within [.d (.int .i64 x2), .d (.int .i64 0), .d (.int .i64 1000000000)] (.d (.bool (inB x2 0 1000000000))) [none, none, none] := within_ok _ _ _
  have c3 := isPath_ok (GG := GG) x3 (by dsimp only at hx; omega)
  have c4 : Valid PP GG F_I_within [.d (.int .i64 x4), .d (.int .i64 0), .d (.int .i64 1000000000)] (.d (.bool (inB x4 0 1000000000))) [none, none, none] := within_ok _ _ _
  have c5 : Valid PP GG F_I_within [.d (.int .i64 x6), .d (.int .i64 (IntKind.i64.wrap (x4 + 1))), .d (.int .i64 1000000000)] (.d (.bool (inB x6 (IntKind.i64.wrap (x4 + 1)) 1000000000))) [none, none, none] := within_ok _ _ _
  have c6 : Valid PP GG F_I_within [.d (.int .i64 x5), .d (.int .i64 (IntKind.i64.wrap (x4 + 1))), .d (.int .i64 x6)] (.d (.bool (inB x5 (IntKind.i64.wrap (x4 + 1)) x6))) [none, none, none] := within_ok _ _ _
  generalize inB x1 1 1000000000 = p1 at *
  generalize inB x2 0 1000000000 = p2 at *
  generalize pathOk x3 = p3 at *
  generalize inB x4 0 1000000000 = p4 at *
  generalize inB x6 (IntKind.i64.wrap (x4 + 1)) 1000000000 = p5 at *
  generalize inB x5 (IntKind.i64.wrap (x4 + 1)) x6 = p6 at *
  refine W_seq (?_)
  refine u_1 ?_
  refine W_seq (?_)
  refine u_34 c1 c2 c3 c4 c5 c6 2 (p1 && p2 && p3 && p4 && p5 && p6) ?_
  refine W_ret ?_
  simp [Fin, hr]
  all_goals omega
theorem isBook_ok [MaxL GG] (f : GBook) (hf : fitB f) : Valid PP GG F_I_isBook [.agg f.c] (.d (.bool (bookB f))) [none] := by
  refine v_I_isBook [.d (.bool (bookB f))] rfl rfl ?_
  obtain ⟨hl, ht⟩ := hf
  generalize hfa : f.fLeases = a at *
  refine u_24 hfa ?_
  refine W_loop (fun n st => ∃ i : Nat, n = a.length - i ∧ i ≤ a.length ∧ okP leaseQ [] (a.take i) = true ∧
    st = ⟨[], [(1, .ptr 0 0), (6, .d (.slc 6 (rLease a))), (7, .d (.int .i64 a.length)), (8, .d (.int .i64 i))], [(0, .box [.d (.slc 6 (rLease a))])], 1⟩) _ ⟨0, rfl, by omega, rfl, ?_⟩ ?_
  · simp [gc, closeN, liveA, gcV, gcO, renA, renAs, renO, namesAs, namesA, namesO, posn, hfa]
  rintro n st ⟨i, rfl, hi, hok, rfl⟩
  by_cases hlt : i < a.length
  · have ha := List.getElem?_eq_getElem hlt
    generalize a[i] = x at ha
    have ct := isLease_ok (GG := GG) x (ht x (List.mem_of_getElem? ha))
    have hbad0 := fun h => okP_bad (q := leaseQ) ha h
    have hst := okP_step (q := leaseQ) ha
    rw [hok, Bool.true_and] at hst
    have hbad : leaseQ (a.take i) x = false → bookB f = false := fun h => by unfold bookB; rw [hfa, hbad0 h, Bool.and_false]
    clear hbad0
    have hq : leaseQ (a.take i) x = (leaseB x && adjB (fun p x => decide (p.fId < x.fId)) (a.take i) x) := rfl
    rw [hq] at hst hbad
    clear hq
    obtain ⟨xi, xp, xn, xm, xe, xl⟩ := x
    cases htb : leaseB ⟨xi, xp, xn, xm, xe, xl⟩ with
    | false =>
      rw [htb] at ct hbad
      have hb := hbad (by simp)
      rw [hb]
      exact u_35 ha hfa ct
    | true =>
      rw [htb] at ct hst hbad
      simp only [Bool.true_and] at hst hbad
      by_cases h0 : i = 0
      · have hpi : ¬ 0 < i := by omega
        have hz : adjB (fun p x : GLease => decide (p.fId < x.fId)) (a.take i) ⟨xi, xp, xn, xm, xe, xl⟩ = true := by rw [h0]; exact adj_zero _ _ _
        rw [hz] at hst
        refine u_36 ha hfa hpi ct ?_
        refine ⟨a.length - (i + 1), by omega, i + 1, rfl, hlt, hst, ?_⟩
        simp [gc, closeN, liveA, gcV, gcO, renA, renAs, renO, namesAs, namesA, namesO, posn, hfa]
        exact wrap_id (by omega) (by omega)
      · have hp := List.getElem?_eq_getElem (show i - 1 < a.length by omega)
        generalize a[i - 1]'_ = p at hp
        rw [adj_pos _ (by omega) hp] at hst hbad
        have hpi : 0 < i := by omega
        have hw1 : IntKind.i64.wrap ((i : Int) - 1) = ((i - 1 : Nat) : Int) := by rw [wrap_id (by omega) (by omega)]; omega
        obtain ⟨yi, yp, yn, ym, ye, yl⟩ := p
        dsimp only at hst hbad
        by_cases hle : xi ≤ yi
        · have hb := hbad (decide_eq_false (show ¬ yi < xi by omega))
          rw [hb]
          exact u_37 ha hp hfa hpi hw1 hle ct
        · rw [decide_eq_true (show yi < xi by omega)] at hst
          refine u_38 ha hp hfa hpi hw1 hle ct ?_
          refine ⟨a.length - (i + 1), by omega, i + 1, rfl, hlt, hst, ?_⟩
          simp [gc, closeN, liveA, gcV, gcO, renA, renAs, renO, namesAs, namesA, namesO, posn, hfa]
          exact wrap_id (by omega) (by omega)
  · have hie : i = a.length := by omega
    subst hie
    rw [List.take_length] at hok
    have e : bookB f = decide ((a.length : Int) ≤ 150) := by unfold bookB; rw [hfa, hok, Bool.and_true]; exact decide_eq_decide.2 (by omega)
    rw [e]
    exact u_29
theorem s_l09Lease_ok [MaxL GG] (x : GLease) (hx : x.fPath.length ≤ 1048576) : Valid PP GG F_S_l09Lease [.agg x.c] (.d (.bool (leaseB x))) [none] := by
  refine v_S_l09Lease [.d (.bool (leaseB x))] rfl rfl ?_
  obtain ⟨x1, x2, x3, x4, x5, x6⟩ := x
  have hr : leaseB ⟨x1, x2, x3, x4, x5, x6⟩ = (inB x1 1 1000000000 && inB x2 0 1000000000 && pathOk x3 && inB x4 0 1000000000 && inB x6 (IntKind.i64.wrap (x4 + 1)) 1000000000 && inB x5 (IntKind.i64.wrap (x4 + 1)) x6) := rfl
  have c1 : Valid PP GG F_S_l01In [.d (.int .i64 x1), .d (.int .i64 1), .d (.int .i64 1000000000)] (.d (.bool (inB x1 1 1000000000))) [none, none, none] := l01In_ok _ _ _
  have c2 : Valid PP GG F_S_l01In [.d (.int .i64 x2), .d (.int .i64 0), .d (.int .i64 1000000000)] (.d (.bool (inB x2 0 1000000000))) [none, none, none] := l01In_ok _ _ _
  have c3 := s_PathOk_ok (GG := GG) x3 (by dsimp only at hx; omega)
  have c4 : Valid PP GG F_S_l01In [.d (.int .i64 x4), .d (.int .i64 0), .d (.int .i64 1000000000)] (.d (.bool (inB x4 0 1000000000))) [none, none, none] := l01In_ok _ _ _
  have c5 : Valid PP GG F_S_l01In [.d (.int .i64 x6), .d (.int .i64 (IntKind.i64.wrap (x4 + 1))), .d (.int .i64 1000000000)] (.d (.bool (inB x6 (IntKind.i64.wrap (x4 + 1)) 1000000000))) [none, none, none] := l01In_ok _ _ _
  have c6 : Valid PP GG F_S_l01In [.d (.int .i64 x5), .d (.int .i64 (IntKind.i64.wrap (x4 + 1))), .d (.int .i64 x6)] (.d (.bool (inB x5 (IntKind.i64.wrap (x4 + 1)) x6))) [none, none, none] := l01In_ok _ _ _
  generalize inB x1 1 1000000000 = p1 at *
  generalize inB x2 0 1000000000 = p2 at *
  generalize pathOk x3 = p3 at *
  generalize inB x4 0 1000000000 = p4 at *
  generalize inB x6 (IntKind.i64.wrap (x4 + 1)) 1000000000 = p5 at *
  generalize inB x5 (IntKind.i64.wrap (x4 + 1)) x6 = p6 at *
  refine W_seq (?_)
  refine u_1 ?_
  refine W_seq (?_)
  refine u_34 c1 c2 c3 c4 c5 c6 2 (p1 && p2 && p3 && p4 && p5 && p6) ?_
  refine W_ret ?_
  simp [Fin, hr]
  all_goals omega
theorem s_BookOk_ok [MaxL GG] (f : GBook) (hf : fitB f) : Valid PP GG F_S_BookOk [.agg f.c] (.d (.bool (bookB f))) [none] := by
  refine v_S_BookOk [.d (.bool (bookB f))] rfl rfl ?_
  obtain ⟨hl, ht⟩ := hf
  generalize hfa : f.fLeases = a at *
  by_cases h6 : a.length ≤ 150
  rotate_left
  · have hb : bookB f = false := by unfold bookB; rw [hfa, decide_eq_false h6, Bool.false_and]
    rw [hb]
    have hd : 150 < a.length := by omega
    exact u_26 hfa hd
  have hd : ¬ 150 < a.length := by omega
  refine u_27 hfa hd ?_
  refine W_loop (fun n st => ∃ i : Nat, n = a.length - i ∧ i ≤ a.length ∧ okP leaseQ [] (a.take i) = true ∧
    st = ⟨[], [(1, .ptr 0 0), (3, .d (.int .i64 i))], [(0, .box [.d (.slc 6 (rLease a))])], 1⟩) _ ⟨0, rfl, by omega, rfl, ?_⟩ ?_
  · simp [gc, closeN, liveA, gcV, gcO, renA, renAs, renO, namesAs, namesA, namesO, posn, hfa]
  rintro n st ⟨i, rfl, hi, hok, rfl⟩
  by_cases hlt : i < a.length
  · have ha := List.getElem?_eq_getElem hlt
    generalize a[i] = x at ha
    have ct := s_l09Lease_ok (GG := GG) x (ht x (List.mem_of_getElem? ha))
    have hbad0 := fun h => okP_bad (q := leaseQ) ha h
    have hst := okP_step (q := leaseQ) ha
    rw [hok, Bool.true_and] at hst
    have hbad : leaseQ (a.take i) x = false → bookB f = false := fun h => by unfold bookB; rw [hfa, hbad0 h, Bool.and_false]
    clear hbad0
    have hq : leaseQ (a.take i) x = (leaseB x && adjB (fun p x => decide (p.fId < x.fId)) (a.take i) x) := rfl
    rw [hq] at hst hbad
    clear hq
    obtain ⟨xi, xp, xn, xm, xe, xl⟩ := x
    cases htb : leaseB ⟨xi, xp, xn, xm, xe, xl⟩ with
    | false =>
      rw [htb] at ct hbad
      have hb := hbad (by simp)
      rw [hb]
      exact u_35 ha hfa ct
    | true =>
      rw [htb] at ct hst hbad
      simp only [Bool.true_and] at hst hbad
      by_cases h0 : i = 0
      · have hpi : ¬ 0 < i := by omega
        have hz : adjB (fun p x : GLease => decide (p.fId < x.fId)) (a.take i) ⟨xi, xp, xn, xm, xe, xl⟩ = true := by rw [h0]; exact adj_zero _ _ _
        rw [hz] at hst
        refine u_36 ha hfa hpi ct ?_
        refine ⟨a.length - (i + 1), by omega, i + 1, rfl, hlt, hst, ?_⟩
        simp [gc, closeN, liveA, gcV, gcO, renA, renAs, renO, namesAs, namesA, namesO, posn, hfa]
        exact wrap_id (by omega) (by omega)
      · have hp := List.getElem?_eq_getElem (show i - 1 < a.length by omega)
        generalize a[i - 1]'_ = p at hp
        rw [adj_pos _ (by omega) hp] at hst hbad
        have hpi : 0 < i := by omega
        have hw1 : IntKind.i64.wrap ((i : Int) - 1) = ((i - 1 : Nat) : Int) := by rw [wrap_id (by omega) (by omega)]; omega
        obtain ⟨yi, yp, yn, ym, ye, yl⟩ := p
        dsimp only at hst hbad
        by_cases hle : xi ≤ yi
        · have hb := hbad (decide_eq_false (show ¬ yi < xi by omega))
          rw [hb]
          exact u_37 ha hp hfa hpi hw1 hle ct
        · rw [decide_eq_true (show yi < xi by omega)] at hst
          refine u_38 ha hp hfa hpi hw1 hle ct ?_
          refine ⟨a.length - (i + 1), by omega, i + 1, rfl, hlt, hst, ?_⟩
          simp [gc, closeN, liveA, gcV, gcO, renA, renAs, renO, namesAs, namesA, namesO, posn, hfa]
          exact wrap_id (by omega) (by omega)
  · have hie : i = a.length := by omega
    subst hie
    rw [List.take_length] at hok
    have e : bookB f = true := by unfold bookB; rw [hfa, hok, decide_eq_true h6]; rfl
    rw [e]
    exact u_25 hfa
def farQ (pre : List GUser) (u : GUser) : Bool := nameOk u.fName && adjB (fun p x => Go.Op.bytesLess p.fName x.fName) pre u
def farB (f : GFar) : Bool := decide (f.fUsers.length ≤ 120) && inB f.fFail 0 1000 && inB f.fMade 0 1000000000 && okP farQ [] f.fUsers
def fitFar (f : GFar) : Prop := f.fUsers.length ≤ 1048576 ∧ ∀ u, u ∈ f.fUsers → u.fName.length ≤ 1048576
theorem isFar_ok [MaxL GG] (f : GFar) (hf : fitFar f) : Valid PP GG F_I_isFar [.agg f.c] (.d (.bool (farB f))) [none] := by
  refine v_I_isFar [.d (.bool (farB f))] rfl rfl ?_
  obtain ⟨a, ff, fm⟩ := f
  obtain ⟨hl, ht⟩ := hf
  dsimp only at hl ht
  have c1 : Valid PP GG F_I_within [.d (.int .i64 ff), .d (.int .i64 0), .d (.int .i64 1000)] (.d (.bool (inB ff 0 1000))) [none, none, none] := within_ok _ _ _
  have c2 : Valid PP GG F_I_within [.d (.int .i64 fm), .d (.int .i64 0), .d (.int .i64 1000000000)] (.d (.bool (inB fm 0 1000000000))) [none, none, none] := within_ok _ _ _
  have hB : farB ⟨a, ff, fm⟩ = (decide (a.length ≤ 120) && inB ff 0 1000 && inB fm 0 1000000000 && okP farQ [] a) := rfl
  generalize farB ⟨a, ff, fm⟩ = B at *
  generalize inB ff 0 1000 = p2 at *
  generalize inB fm 0 1000000000 = p3 at *
  refine u_30 ?_
  refine W_loop (fun n st => ∃ i : Nat, n = a.length - i ∧ i ≤ a.length ∧ okP farQ [] (a.take i) = true ∧
    st = ⟨[], [(1, .ptr 0 0), (6, .d (.slc 2 (rUser a))), (7, .d (.int .i64 a.length)), (8, .d (.int .i64 i))], [(0, .box [.d (.slc 2 (rUser a)), .d (.int .i64 ff), .d (.int .i64 fm)])], 1⟩) _ ⟨0, rfl, by omega, rfl, ?_⟩ ?_
  · simp [gc, closeN, liveA, gcV, gcO, renA, renAs, renO, namesAs, namesA, namesO, posn]
  rintro n st ⟨i, rfl, hi, hok, rfl⟩
  by_cases hlt : i < a.length
  · have ha := List.getElem?_eq_getElem hlt
    generalize a[i] = x at ha
    have ct := isName_ok (GG := GG) x.fName (by have := ht x (List.mem_of_getElem? ha); omega)
    have hbad0 := fun h => okP_bad (q := farQ) ha h
    have hst := okP_step (q := farQ) ha
    rw [hok, Bool.true_and] at hst
    have hbad : farQ (a.take i) x = false → B = false := fun h => by rw [hB, hbad0 h, Bool.and_false]
    clear hbad0
    have hq : farQ (a.take i) x = (nameOk x.fName && adjB (fun p x => Go.Op.bytesLess p.fName x.fName) (a.take i) x) := rfl
    rw [hq] at hst hbad
    clear hq
    obtain ⟨xn, xp⟩ := x
    dsimp only at ct hst hbad
    cases htb : nameOk xn with
    | false =>
      rw [htb] at ct hbad
      have hb := hbad (by simp)
      rw [hb]
      exact u_31 ha ct
    | true =>
      rw [htb] at ct hst hbad
      simp only [Bool.true_and] at hst hbad
      by_cases h0 : i = 0
      · have hpi : ¬ 0 < i := by omega
        have hz : adjB (fun p x : GUser => Go.Op.bytesLess p.fName x.fName) (a.take i) ⟨xn, xp⟩ = true := by rw [h0]; exact adj_zero _ _ _
        rw [hz] at hst
        refine u_39 ha hpi ct ?_
        refine ⟨a.length - (i + 1), by omega, i + 1, rfl, hlt, hst, ?_⟩
        simp [gc, closeN, liveA, gcV, gcO, renA, renAs, renO, namesAs, namesA, namesO, posn]
        exact wrap_id (by omega) (by omega)
      · have hp := List.getElem?_eq_getElem (show i - 1 < a.length by omega)
        generalize a[i - 1]'_ = p at hp
        rw [adj_pos _ (by omega) hp] at hst hbad
        have hpi : 0 < i := by omega
        have hw1 : IntKind.i64.wrap ((i : Int) - 1) = ((i - 1 : Nat) : Int) := by rw [wrap_id (by omega) (by omega)]; omega
        obtain ⟨yn, yp⟩ := p
        dsimp only at hst hbad
        cases hbl : Go.Op.bytesLess yn xn with
        | false =>
          have hb := hbad hbl
          rw [hb]
          exact u_40 ha hp hpi hw1 hbl ct
        | true =>
          rw [hbl] at hst
          refine u_41 ha hp hpi hw1 hbl ct ?_
          refine ⟨a.length - (i + 1), by omega, i + 1, rfl, hlt, hst, ?_⟩
          simp [gc, closeN, liveA, gcV, gcO, renA, renAs, renO, namesAs, namesA, namesO, posn]
          exact wrap_id (by omega) (by omega)
  · have hie : i = a.length := by omega
    subst hie
    rw [List.take_length] at hok
    rw [hok, Bool.and_true] at hB
    by_cases h6 : a.length ≤ 120
    · rw [decide_eq_true h6, Bool.true_and] at hB
      cases p2
      · rw [hB]
        exact u_31 h6 c1
      · rw [hB]
        exact u_42 h6 c1 c2
    · rw [decide_eq_false h6] at hB
      simp only [Bool.false_and] at hB
      rw [hB]
      exact u_25 h6
theorem s_FarOk_ok [MaxL GG] (f : GFar) (hf : fitFar f) : Valid PP GG F_S_FarOk [.agg f.c] (.d (.bool (farB f))) [none] := by
  refine v_S_FarOk [.d (.bool (farB f))] rfl rfl ?_
  obtain ⟨a, ff, fm⟩ := f
  obtain ⟨hl, ht⟩ := hf
  dsimp only at hl ht
  have c1 : Valid PP GG F_S_l01In [.d (.int .i64 ff), .d (.int .i64 0), .d (.int .i64 1000)] (.d (.bool (inB ff 0 1000))) [none, none, none] := l01In_ok _ _ _
  have c2 : Valid PP GG F_S_l01In [.d (.int .i64 fm), .d (.int .i64 0), .d (.int .i64 1000000000)] (.d (.bool (inB fm 0 1000000000))) [none, none, none] := l01In_ok _ _ _
  have hB : farB ⟨a, ff, fm⟩ = (decide (a.length ≤ 120) && inB ff 0 1000 && inB fm 0 1000000000 && okP farQ [] a) := rfl
  generalize farB ⟨a, ff, fm⟩ = B at *
  generalize inB ff 0 1000 = p2 at *
  generalize inB fm 0 1000000000 = p3 at *
  by_cases h6 : a.length ≤ 120
  rotate_left
  · have hd : 120 < a.length := by omega
    rw [decide_eq_false h6] at hB
    simp only [Bool.false_and] at hB
    rw [hB]
    exact u_25 hd
  have hd : ¬ 120 < a.length := by omega
  rw [decide_eq_true h6, Bool.true_and] at hB
  cases p2
  · rw [hB]
    exact u_31 hd c1
  cases p3
  · rw [hB]
    exact u_42 hd c1 c2
  rw [Bool.true_and, Bool.true_and] at hB
  refine u_43 hd c1 c2 ?_
  refine W_loop (fun n st => ∃ i : Nat, n = a.length - i ∧ i ≤ a.length ∧ okP farQ [] (a.take i) = true ∧
    st = ⟨[], [(1, .ptr 0 0), (3, .d (.int .i64 i))], [(0, .box [.d (.slc 2 (rUser a)), .d (.int .i64 ff), .d (.int .i64 fm)])], 1⟩) _ ⟨0, rfl, by omega, rfl, ?_⟩ ?_
  · simp [gc, closeN, liveA, gcV, gcO, renA, renAs, renO, namesAs, namesA, namesO, posn]
  rintro n st ⟨i, rfl, hi, hok, rfl⟩
  by_cases hlt : i < a.length
  · have ha := List.getElem?_eq_getElem hlt
    generalize a[i] = x at ha
    have ct := l01Name_ok (GG := GG) x.fName (by have := ht x (List.mem_of_getElem? ha); omega)
    have hbad0 := fun h => okP_bad (q := farQ) ha h
    have hst := okP_step (q := farQ) ha
    rw [hok, Bool.true_and] at hst
    have hbad : farQ (a.take i) x = false → B = false := fun h => by rw [hB, hbad0 h]
    clear hbad0
    have hq : farQ (a.take i) x = (nameOk x.fName && adjB (fun p x => Go.Op.bytesLess p.fName x.fName) (a.take i) x) := rfl
    rw [hq] at hst hbad
    clear hq
    obtain ⟨xn, xp⟩ := x
    dsimp only at ct hst hbad
    cases htb : nameOk xn with
    | false =>
      rw [htb] at ct hbad
      have hb := hbad (by simp)
      rw [hb]
      exact u_31 ha ct
    | true =>
      rw [htb] at ct hst hbad
      simp only [Bool.true_and] at hst hbad
      by_cases h0 : i = 0
      · have hpi : ¬ 0 < i := by omega
        have hz : adjB (fun p x : GUser => Go.Op.bytesLess p.fName x.fName) (a.take i) ⟨xn, xp⟩ = true := by rw [h0]; exact adj_zero _ _ _
        rw [hz] at hst
        refine u_39 ha hpi ct ?_
        refine ⟨a.length - (i + 1), by omega, i + 1, rfl, hlt, hst, ?_⟩
        simp [gc, closeN, liveA, gcV, gcO, renA, renAs, renO, namesAs, namesA, namesO, posn]
        exact wrap_id (by omega) (by omega)
      · have hp := List.getElem?_eq_getElem (show i - 1 < a.length by omega)
        generalize a[i - 1]'_ = p at hp
        rw [adj_pos _ (by omega) hp] at hst hbad
        have hpi : 0 < i := by omega
        have hw1 : IntKind.i64.wrap ((i : Int) - 1) = ((i - 1 : Nat) : Int) := by rw [wrap_id (by omega) (by omega)]; omega
        obtain ⟨yn, yp⟩ := p
        dsimp only at hst hbad
        cases hbl : Go.Op.bytesLess yn xn with
        | false =>
          have hb := hbad hbl
          rw [hb]
          exact u_40 ha hp hpi hw1 hbl ct
        | true =>
          rw [hbl] at hst
          refine u_41 ha hp hpi hw1 hbl ct ?_
          refine ⟨a.length - (i + 1), by omega, i + 1, rfl, hlt, hst, ?_⟩
          simp [gc, closeN, liveA, gcV, gcO, renA, renAs, renO, namesAs, namesA, namesO, posn]
          exact wrap_id (by omega) (by omega)
  · have hie : i = a.length := by omega
    subst hie
    rw [List.take_length] at hok
    rw [hok] at hB
    rw [hB]
    exact u_29
def jobB (j : GJob) : Bool := nameOk j.fName && inB j.fAt 0 2000000000 && inB j.fTries 0 5
def jobQ (pre : List GJob) (j : GJob) : Bool := jobB j && !(pre.any fun t => t.fName == j.fName)
def queueB (q : GQueue) : Bool := decide (q.fJobs.length ≤ 120) && okP jobQ [] q.fJobs
def fitQ (q : GQueue) : Prop := q.fJobs.length ≤ 1048576 ∧ ∀ j, j ∈ q.fJobs → j.fName.length ≤ 1048576
end Go.Proofs.YtdckkojgnkoabaaGreatDoor.Ab
