/-
  A part of a proof about the given program; what is proved is said where each theorem stands.
-/
import Derived.Test.YtdckkojgnkoabaaGreatDoorFrameA
import Derived.Test.YtdckkojgnkoabaaGreatDoorFrameB
import Derived.Test.YtdckkojgnkoabaaGreatDoorFrameC
import Derived.Test.YtdckkojgnkoabaaGreatDoorFrameD
import Derived.Test.YtdckkojgnkoabaaGreatDoorFrameE
import Derived.Test.YtdckkojgnkoabaaGreatDoorHead
import Derived.Test.YtdckkojgnkoabaaGreatDoorShelf
import Derived.Test.YtdckkojgnkoabaaGreatDoorPartA
namespace Go.Proofs
end Go.Proofs
set_option linter.unusedSimpArgs false
set_option linter.unusedVariables false
set_option maxRecDepth 100000
set_option maxHeartbeats 2000000
namespace Go.Proofs.YtdckkojgnkoabaaGreatDoor.Ab
open Go.Proofs
variable {GG : GV}
theorem heldTokenS_g (a : List GToken) (k : Int) (hx : a.length + sumBy GToken.cost a ≤ 1099511627776) (hk : 0 ≤ k ∧ k + (sumBy GToken.marks a : Nat) ≤ 140737488355328) :
    Valid PP GG 155 [.d (.slc 7 (rToken (markL GToken.mark GToken.marks a k))), .d (.int .i64 k)] (.d (.int .i64 (k + (sumBy GToken.marks a : Nat)))) [none, none] := by
  refine cv Tryz.func155 [.d (.int .i64 (k + (sumBy GToken.marks a : Nat)))] ?_
  have hl : (rToken (markL GToken.mark GToken.marks a k)).length = a.length := by simp [markL_len]
  have hget : ∀ (i : Nat) x, a[i]? = some x → (rToken (markL GToken.mark GToken.marks a k))[i]? = some (x.mark (k + (sumBy GToken.marks (a.take i) : Nat))).row := fun i x h => by rw [rToken_get, markL_get k h]; rfl
  generalize rToken (markL GToken.mark GToken.marks a k) = B at hl hget ⊢
  refine u_1 ?_
  refine u_2 ?_
  refine W_block (W_loop (fun n st => ∃ (i : Nat) (q : Int), n = a.length - i ∧ i ≤ a.length ∧ q = k + (sumBy GToken.marks (a.take i) : Nat) ∧
    st = ⟨[], [(0, .d (.slc 7 B)), (1, .d (.int .i64 q)), (5, .d (.int .i64 i))], [], 0⟩) _ ⟨0, k, rfl, by omega, by simp [sumBy], by simp [gc, closeN, liveA, gcV, gcO, renA, renO, namesAs, namesA, namesO, posn]⟩ ?_)
  rintro n st ⟨i, q, rfl, hi, hq, rfl⟩
  refine u_2 ?_
  refine W_cond rfl (fun h => W_skip ?_) (fun h => W_exit ?_)
  · simp [hl] at h
    have ha := List.getElem?_eq_getElem h
    generalize a[i] = x at ha
    have hg := sumBy_get (f := GToken.cost) ha
    have hs := sumBy_succ (f := GToken.marks) ha
    have ht := sumBy_take GToken.marks a (i + 1)
    have hd := hget i x ha
    rw [← hq] at hd
    have hco : x.cost = (x.fNames.length + sumBy List.length x.fNames) := rfl
    have hms : x.marks = 1 + 1 + x.fNames.length + 1 + 1 + 1 + 1 := rfl
    simp only [GToken.row, GToken.mark] at hd
    refine W_seq (W_block ?_)
    refine u_20 (Y2 hd hl) ?_
    refine W_cond rfl (fun h4 => ?_) (fun h4 => W_skip ?_)
    · simp at h4
    obtain ⟨q1, hq1⟩ : ∃ z : Int, q + 1 = z := ⟨_, rfl⟩
    have wq1 : IntKind.i64.wrap (q + 1) = q1 := by rw [wrap_id (by omega) (by omega)]; exact hq1
    refine u_13 wq1 ?_
    simp only [hq1] at hd
    refine u_20 (Y2 hd hl) ?_
    refine W_cond rfl (fun h4 => ?_) (fun h4 => W_skip ?_)
    · simp at h4
    obtain ⟨q2, hq2⟩ : ∃ z : Int, q1 + 1 = z := ⟨_, rfl⟩
    have wq2 : IntKind.i64.wrap (q1 + 1) = q2 := by rw [wrap_id (by omega) (by omega)]; exact hq2
    refine u_13 wq2 ?_
    simp only [hq2] at hd
    have ct := heldStringS_ok (GG := GG) x.fNames.length q2 (by omega) (by omega)
    obtain ⟨q3, hq3⟩ : ∃ z : Int, q2 + x.fNames.length = z := ⟨_, rfl⟩
    rw [hq3] at ct
    refine u_18 (Y2 hd hl) (Z1 ct) ?_
    clear ct
    simp only [hq3] at hd
    refine u_2 ?_
    refine W_cond rfl (fun h4 => ?_) (fun h4 => W_skip ?_)
    · simp at h4; omega
    refine u_20 (Y2 hd hl) ?_
    refine W_cond rfl (fun h4 => ?_) (fun h4 => W_skip ?_)
    · simp at h4
    obtain ⟨q4, hq4⟩ : ∃ z : Int, q3 + 1 = z := ⟨_, rfl⟩
    have wq4 : IntKind.i64.wrap (q3 + 1) = q4 := by rw [wrap_id (by omega) (by omega)]; exact hq4
    refine u_13 wq4 ?_
    simp only [hq4] at hd
    refine u_20 (Y2 hd hl) ?_
    refine W_cond rfl (fun h4 => ?_) (fun h4 => W_skip ?_)
    · simp at h4
    obtain ⟨q5, hq5⟩ : ∃ z : Int, q4 + 1 = z := ⟨_, rfl⟩
    have wq5 : IntKind.i64.wrap (q4 + 1) = q5 := by rw [wrap_id (by omega) (by omega)]; exact hq5
    refine u_13 wq5 ?_
    simp only [hq5] at hd
    refine u_20 (Y2 hd hl) ?_
    refine W_cond rfl (fun h4 => ?_) (fun h4 => W_skip ?_)
    · simp at h4
    obtain ⟨q6, hq6⟩ : ∃ z : Int, q5 + 1 = z := ⟨_, rfl⟩
    have wq6 : IntKind.i64.wrap (q5 + 1) = q6 := by rw [wrap_id (by omega) (by omega)]; exact hq6
    refine u_13 wq6 ?_
    simp only [hq6] at hd
    refine u_20 (Y2 hd hl) ?_
    refine W_cond rfl (fun h4 => ?_) (fun h4 => W_skip ?_)
    · simp at h4
    obtain ⟨q7, hq7⟩ : ∃ z : Int, q6 + 1 = z := ⟨_, rfl⟩
    have wq7 : IntKind.i64.wrap (q6 + 1) = q7 := by rw [wrap_id (by omega) (by omega)]; exact hq7
    refine u_7 wq7 ?_
    refine u_3 ?_
    refine ⟨a.length - (i + 1), by omega, i + 1, q7, rfl, h, by omega, ?_⟩
    simp [gc, closeN, liveA, gcV, gcO, renA, renO, namesAs, namesA, namesO, posn]
    rw [wrap_id (by omega) (by omega)]
  · simp [hl] at h
    rw [List.take_of_length_le h] at hq
    rw [if_pos rfl]
    refine u_1 ?_
    subst hq
    exact u_8
theorem szForest_g (x : GForest) (l : Int) (hx : x.ok) (h0 : 0 ≤ l ∧ l ≤ 1048576) : Valid PP GG 44 [.agg x.c, .d (.int .i64 l)] (.d (.int .i64 (leftR x.cost l))) [none, none] := by
  refine cv Tryz.func44 [.d (.int .i64 (leftR x.cost l))] ?_
  have hco : x.cost = (x.fTokens.length + sumBy GToken.cost x.fTokens) := rfl
  unfold GForest.ok maxLen at hx
  obtain ⟨okTokens0, okTokens1⟩ := hx
  generalize x.cost = co at hco
  refine u_1 ?_
  have ct := szTokenS_g (GG := GG) x.fTokens l (by unfold maxLen; omega) okTokens1 ⟨by omega, by omega⟩
  obtain ⟨l1, el1⟩ : ∃ z : Int, leftR (x.fTokens.length + sumBy GToken.cost x.fTokens) l = z := ⟨_, rfl⟩
  rw [el1] at ct
  refine u_14 (Z1 ct) ?_
  clear ct
  refine u_2 ?_
  refine W_cond rfl (fun hh0 => W_seq ?_) (fun hh0 => W_skip ?_)
  · refine u_3 ?_
    simp at hh0
    rw [← el1] at hh0
    have hn := leftR_neg (by omega) hh0
    have : leftR co l = -1 := leftR_no (by omega)
    exact u_4
  simp at hh0
  rw [← el1] at hh0
  obtain ⟨gl1, jl1⟩ := leftR_pos (Int.not_lt.2 hh0)
  rw [el1] at jl1 hh0
  refine u_1 ?_
  have : leftR co l = l1 := by rw [leftR_yes (by omega)]; omega
  exact u_4
theorem toForest_g (x : GForest) (hx : x.cost ≤ 1099511627776) : Valid PP GG 56 [.agg x.c] (.agg x.o) [none] := by
  refine cv Tryz.func56 [.agg x.o] ?_
  have hco : x.cost = (x.fTokens.length + sumBy GToken.cost x.fTokens) := rfl
  refine u_1 ?_
  refine u_1 ?_
  refine u_14 (Z1 (toTokenS_g x.fTokens (by omega))) ?_
  refine u_1 ?_
  exact u_8
theorem eqForest_g (x y : GForest) (hx : x.cost ≤ 1099511627776) (hy : y.cost ≤ 1099511627776) : Valid PP GG 62 [.agg x.c, .agg y.c] (.d (.bool (decide (x = y)))) [none, none] := by
  refine cv Tryz.func62 [.d (.bool (decide (x = y)))] ?_
  have hcx : x.cost = (x.fTokens.length + sumBy GToken.cost x.fTokens) := rfl
  have hcy : y.cost = (y.fTokens.length + sumBy GToken.cost y.fTokens) := rfl
  refine u_1 ?_
  refine u_15 (Z1 (eqTokenS_g x.fTokens y.fTokens (by omega) (by omega))) ?_
  refine W_cond rfl (fun h => W_seq ?_) (fun h0 => W_skip ?_)
  · refine u_3 ?_
    have : decide (x = y) = false := by rw [decide_eq_false_iff_not]; intro e; rw [e] at h; simp at h
    exact u_4
  refine u_1 ?_
  have : decide (x = y) = true := by
    rw [decide_eq_true_iff]
    cases x; cases y
    simp at h0
    simp_all
  exact u_4
theorem markForest_g (x : GForest) (k : Int) (hx : x.cost ≤ 1099511627776) (hk : 0 ≤ k ∧ k + (x.marksIn : Nat) ≤ 140737488355328) :
    Valid PP GG 70 [.agg x.o, .d (.int .i64 k)] (.d (.int .i64 (k + (x.marksIn : Nat)))) [some (.agg (x.markIn k).o), none] := by
  refine cv Tryz.func70 [.d (.int .i64 (k + (x.marksIn : Nat)))] ?_
  have hco : x.cost = (x.fTokens.length + sumBy GToken.cost x.fTokens) := rfl
  have hms : x.marksIn = sumBy GToken.marks x.fTokens := rfl
  refine u_1 ?_
  have ct := markTokenS_g (GG := GG) x.fTokens k (by omega) (by omega)
  refine u_14 (Z1 ct) ?_
  refine u_1 ?_
  have hfin : (k + ((sumBy GToken.marks x.fTokens : Nat) : Int)) = k + (x.marksIn : Nat) := by omega
  simp only [GForest.markIn]
  exact u_10 hfin
theorem heldForest_g (x : GForest) (k : Int) (hx : x.cost ≤ 1099511627776) (hk : 0 ≤ k ∧ k + (x.marksIn : Nat) ≤ 140737488355328) :
    Valid PP GG 87 [.agg (x.markIn k).c, .d (.int .i64 k)] (.d (.int .i64 (k + (x.marksIn : Nat)))) [none, none] := by
  refine cv Tryz.func87 [.d (.int .i64 (k + (x.marksIn : Nat)))] ?_
  have hco : x.cost = (x.fTokens.length + sumBy GToken.cost x.fTokens) := rfl
  have hms : x.marksIn = sumBy GToken.marks x.fTokens := rfl
  simp only [GForest.markIn]
  refine u_1 ?_
  have ct := heldTokenS_g (GG := GG) x.fTokens k (by omega) (by omega)
  refine u_14 (Z1 ct) ?_
  refine u_2 ?_
  refine W_cond rfl (fun h => ?_) (fun h => W_skip ?_)
  · simp at h; omega
  refine u_1 ?_
  have hfin : (k + ((sumBy GToken.marks x.fTokens : Nat) : Int)) = k + (x.marksIn : Nat) := by omega
  exact u_10 hfin
theorem szLease_g (x : GLease) (l : Int) (hx : x.ok) (h0 : 0 ≤ l ∧ l ≤ 1048576) : Valid PP GG 182 [.agg x.c, .d (.int .i64 l)] (.d (.int .i64 (leftR x.cost l))) [none, none] := by
  refine cv Tryz.func182 [.d (.int .i64 (leftR x.cost l))] ?_
  have hco : x.cost = x.fPath.length := rfl
  unfold GLease.ok maxLen at hx
  obtain ⟨okId0, okToken0, okPath0, okMade0, okEnds0, okLimit0⟩ := hx
  generalize x.cost = co at hco
  refine u_1 ?_
  obtain ⟨l1, el1⟩ : ∃ z : Int, l - x.fPath.length = z := ⟨_, rfl⟩
  have wl1 : IntKind.i64.wrap (l - x.fPath.length) = l1 := by rw [wrap_id (by omega) (by omega)]; exact el1
  refine u_13 wl1 ?_
  refine u_2 ?_
  refine W_cond rfl (fun hh0 => W_seq ?_) (fun hh0 => W_skip ?_)
  · refine u_3 ?_
    simp at hh0
    have : leftR co l = -1 := leftR_no (by omega)
    exact u_4
  simp at hh0
  refine u_1 ?_
  have : leftR co l = l1 := by rw [leftR_yes (by omega)]; omega
  exact u_4
theorem szLeaseS_g (a : List GLease) (l : Int) (hlen : a.length ≤ maxLen) (hx : ∀ x, x ∈ a → x.ok) (h0 : 0 ≤ l ∧ l ≤ 1048576) :
    Valid PP GG 110 [.d (.slc 6 (rLease a)), .d (.int .i64 l)] (.d (.int .i64 (leftR (a.length + sumBy GLease.cost a) l))) [none, none] := by
  refine cv Tryz.func110 [.d (.int .i64 (leftR (a.length + sumBy GLease.cost a) l))] ?_
  unfold maxLen at hlen
  obtain ⟨m, hm⟩ : ∃ z : Int, l - a.length = z := ⟨_, rfl⟩
  have hw : IntKind.i64.wrap (l - a.length) = m := by rw [wrap_id (by omega) (by omega)]; exact hm
  refine u_1 ?_
  refine u_13 hw ?_
  refine u_2 ?_
  refine W_cond rfl (fun h => W_seq ?_) (fun h => W_skip ?_)
  · refine u_3 ?_
    simp at h
    have : leftR (a.length + sumBy GLease.cost a) l = -1 := leftR_no (by omega)
    exact u_4
  simp at h
  refine u_2 ?_
  refine W_block (W_loop (fun n st => ∃ (i : Nat) (v : Int), n = a.length - i ∧ i ≤ a.length ∧ 0 ≤ v ∧ v = m - (sumBy GLease.cost (a.take i) : Nat) ∧
    st = ⟨[], [(0, .d (.slc 6 (rLease a))), (1, .d (.int .i64 v)), (5, .d (.int .i64 i))], [], 0⟩) _ ⟨0, m, rfl, by omega, h, by simp [sumBy], rfl⟩ ?_)
  rintro n st ⟨i, v, rfl, hi, hv, he, rfl⟩
  refine u_2 ?_
  refine W_cond rfl (fun h2 => W_skip ?_) (fun h2 => W_exit ?_)
  · simp at h2
    have ha := List.getElem?_eq_getElem h2
    generalize a[i] = x at ha
    have hs := sumBy_succ (f := GLease.cost) ha
    have ht := sumBy_take GLease.cost a (i + 1)
    have ct := szLease_g (GG := GG) x v (hx x (List.mem_of_getElem? ha)) ⟨hv, by omega⟩
    obtain ⟨v2, hv2⟩ : ∃ z : Int, leftR x.cost v = z := ⟨_, rfl⟩
    rw [hv2] at ct
    refine W_seq (W_block (W_seq ?_))
    refine u_11 ha (Z1 ct) ?_
    refine u_1 ?_
    refine W_cond rfl (fun h3 => W_seq ?_) (fun h3 => W_skip ?_)
    · refine u_3 ?_
      simp at h3
      rw [← hv2] at h3
      have hn := leftR_neg (by omega) h3
      have : leftR (a.length + sumBy GLease.cost a) l = -1 := leftR_no (by omega)
      exact u_4
    simp at h3
    rw [← hv2] at h3
    obtain ⟨g1, g2⟩ := leftR_pos (Int.not_lt.2 h3)
    rw [hv2] at g2
    refine u_3 ?_
    exact ⟨a.length - (i + 1), by omega, i + 1, v2, rfl, h2, by omega, by omega, by simp [gc, closeN, liveA, gcV, gcO, renA, namesAs, namesA]; rw [wrap_id (by omega) (by omega)]⟩
  · simp at h2
    rw [if_pos rfl]
    rw [List.take_of_length_le h2] at he
    refine u_1 ?_
    have : leftR (a.length + sumBy GLease.cost a) l = v := by rw [leftR_yes (by omega)]; omega
    exact u_4
theorem toLease_g (x : GLease) (hx : x.cost ≤ 1099511627776) : Valid PP GG 188 [.agg x.c] (.agg x.o) [none] := by
  refine cv Tryz.func188 [.agg x.o] ?_
  have hco : x.cost = x.fPath.length := rfl
  refine u_1 ?_
  refine u_1 ?_
  refine u_1 ?_
  refine u_1 ?_
  refine u_1 ?_
  refine u_1 ?_
  refine u_1 ?_
  refine u_1 ?_
  refine u_1 ?_
  exact u_8
theorem toLeaseS_g (a : List GLease) (hx : a.length + sumBy GLease.cost a ≤ 1099511627776) : Valid PP GG 118 [.d (.slc 6 (rLease a))] (.own 0 6 (rLease a)) [none] := by
  refine cv Tryz.func118 [.own 0 6 (rLease a)] ?_
  refine u_1 ?_
  refine u_6 ?_
  refine u_2 ?_
  refine W_block (W_loop (fun n st => ∃ (i : Nat) (R : List (List D)), n = a.length - i ∧ i ≤ a.length ∧ R.length = a.length ∧ (∀ r, r ∈ R → r.length = 6) ∧ R.take i = rLease (a.take i) ∧
    st = ⟨[], [(0, .d (.slc 6 (rLease a))), (3, .sl 0), (4, .d (.int .i64 i))], [(0, .arr 0 0 6 R)], 1⟩) _ ⟨0, List.replicate a.length [.int .i64 0, .int .i64 0, .str [], .int .i64 0, .int .i64 0, .int .i64 0], rfl, by omega, by simp, by intro r hr; rw [List.eq_of_mem_replicate hr]; rfl, rfl, rfl⟩ ?_)
  rintro n st ⟨i, R, rfl, hi, hl, h1, hR, rfl⟩
  refine u_2 ?_
  refine W_cond rfl (fun h => W_skip ?_) (fun h => W_exit ?_)
  · simp at h
    have ha := List.getElem?_eq_getElem h
    generalize a[i] = x at ha
    have hg := sumBy_get (f := GLease.cost) ha
    obtain ⟨y0, y1, y2, y3, y4, y5, hd⟩ := rows6 h1 (show i < R.length by omega)
    refine W_seq (W_block ?_)
    refine u_11 (Y3 ha hd hl) (Z1 (toLease_g x (by omega))) ?_
    refine u_3 ?_
    exact ⟨a.length - (i + 1), by omega, i + 1, R.set i x.row, rfl, h, by simpa using hl, set6 h1 rfl, by rw [take_set_succ (by omega), hR, List.take_add_one, ha, rLease_app]; rfl,
      by simp [gc, closeN, liveA, gcV, gcO, renA, renO, namesAs, namesA, namesO, posn]; rw [wrap_id (by omega) (by omega)]⟩
  · simp at h
    have e : R = rLease a := by rwa [List.take_of_length_le (by omega), List.take_of_length_le (by omega)] at hR
    subst e
    rw [if_pos rfl]
    refine u_1 ?_
    exact u_8
theorem eqLease_g (x y : GLease) (hx : x.cost ≤ 1099511627776) (hy : y.cost ≤ 1099511627776) : Valid PP GG 195 [.agg x.c, .agg y.c] (.d (.bool (decide (x = y)))) [none, none] := by
  refine cv Tryz.func195 [.d (.bool (decide (x = y)))] ?_
  have hcx : x.cost = x.fPath.length := rfl
  have hcy : y.cost = y.fPath.length := rfl
  refine u_1 ?_
  refine u_2 ?_
  refine W_cond rfl (fun h => W_seq ?_) (fun h0 => W_skip ?_)
  · refine u_3 ?_
    have : decide (x = y) = false := by rw [decide_eq_false_iff_not]; intro e; rw [e] at h; simp at h
    exact u_4
  refine u_2 ?_
  refine W_cond rfl (fun h => W_seq ?_) (fun h1 => W_skip ?_)
  · refine u_3 ?_
    have : decide (x = y) = false := by rw [decide_eq_false_iff_not]; intro e; rw [e] at h; simp at h
    exact u_4
  refine u_2 ?_
  refine W_cond rfl (fun h => W_seq ?_) (fun h2 => W_skip ?_)
  · refine u_3 ?_
    have : decide (x = y) = false := by rw [decide_eq_false_iff_not]; intro e; rw [e] at h; simp at h
    exact u_4
  refine u_2 ?_
  refine W_cond rfl (fun h => W_seq ?_) (fun h3 => W_skip ?_)
  · refine u_3 ?_
    have : decide (x = y) = false := by rw [decide_eq_false_iff_not]; intro e; rw [e] at h; simp at h
    exact u_4
  refine u_2 ?_
  refine W_cond rfl (fun h => W_seq ?_) (fun h4 => W_skip ?_)
  · refine u_3 ?_
    have : decide (x = y) = false := by rw [decide_eq_false_iff_not]; intro e; rw [e] at h; simp at h
    exact u_4
  refine u_2 ?_
  refine W_cond rfl (fun h => W_seq ?_) (fun h5 => W_skip ?_)
  · refine u_3 ?_
    have : decide (x = y) = false := by rw [decide_eq_false_iff_not]; intro e; rw [e] at h; simp at h
    exact u_4
  refine u_1 ?_
  have : decide (x = y) = true := by
    rw [decide_eq_true_iff]
    cases x; cases y
    simp at h0 h1 h2 h3 h4 h5
    simp_all
  exact u_4
theorem eqLeaseS_g (a b : List GLease) (hx : a.length + sumBy GLease.cost a ≤ 1099511627776) (hy : b.length + sumBy GLease.cost b ≤ 1099511627776) : Valid PP GG 129 [.d (.slc 6 (rLease a)), .d (.slc 6 (rLease b))] (.d (.bool (decide (a = b)))) [none, none] := by
  refine cv Tryz.func129 [.d (.bool (decide (a = b)))] ?_
  refine u_1 ?_
  refine u_2 ?_
  refine W_cond rfl (fun h => W_seq ?_) (fun hlen => W_skip ?_)
  · refine u_3 ?_
    have : decide (a = b) = false := by rw [decide_eq_false_iff_not]; intro e; subst e; simp at h
    exact u_4
  refine W_seq (W_seq (?_))
  simp at hlen
  refine u_3 ?_
  refine W_block (W_loop (fun n st => ∃ i : Nat, n = a.length - i ∧ i ≤ a.length ∧ a.take i = b.take i ∧ st = ⟨[], [(0, .d (.slc 6 (rLease a))), (1, .d (.slc 6 (rLease b))), (5, .d (.int .i64 i))], [], 0⟩) _ ⟨0, rfl, by omega, rfl, rfl⟩ ?_)
  rintro n st ⟨i, rfl, hi, he, rfl⟩
  refine u_2 ?_
  refine W_cond rfl (fun h => W_skip ?_) (fun h => W_exit ?_)
  · simp at h
    have ha := List.getElem?_eq_getElem h
    have hb := List.getElem?_eq_getElem (show i < b.length by omega)
    generalize a[i] = x at ha
    generalize b[i]'_ = y at hb
    have ga := sumBy_get (f := GLease.cost) ha
    have gb := sumBy_get (f := GLease.cost) hb
    refine W_seq (W_block (W_seq ?_))
    refine u_12 (Y2 ha hb) (Z1 (eqLease_g x y (by omega) (by omega))) ?_
    refine W_cond rfl (fun h2 => W_seq ?_) (fun h2 => W_skip ?_)
    · refine u_3 ?_
      have : decide (a = b) = false := by rw [decide_eq_false_iff_not]; intro e; subst e; rw [ha] at hb; cases hb; simp at h2
      exact u_4
    refine u_3 ?_
    have hxy : x = y := by simpa using h2
    subst hxy
    exact ⟨a.length - (i + 1), by omega, i + 1, rfl, h, take_succ_eq he ha hb, by simp [gc, closeN, liveA, gcV, gcO, renA, namesAs, namesA]; rw [wrap_id (by omega) (by omega)]⟩
  · simp at h
    rw [if_pos rfl]
    refine u_1 ?_
    have : decide (a = b) = true := by
      rw [decide_eq_true_iff]
      rwa [List.take_of_length_le h, List.take_of_length_le (by omega)] at he
    exact u_4
theorem markLeaseS_g (a : List GLease) (k : Int) (hx : a.length + sumBy GLease.cost a ≤ 1099511627776) (hk : 0 ≤ k ∧ k + (sumBy GLease.marks a : Nat) ≤ 140737488355328) :
    Valid PP GG 137 [.own 0 6 (rLease a), .d (.int .i64 k)] (.d (.int .i64 (k + (sumBy GLease.marks a : Nat)))) [some (.own 0 6 (rLease (markL GLease.mark GLease.marks a k))), none] := by
  refine cv Tryz.func137 [.d (.int .i64 (k + (sumBy GLease.marks a : Nat)))] ?_
  have hml := sumBy_le GLease.marks_le a
  refine u_1 ?_
  refine u_2 ?_
  refine W_block (W_loop (fun n st => ∃ (i : Nat) (R : List (List D)) (q : Int), n = a.length - i ∧ i ≤ a.length ∧ R = rLease (markL GLease.mark GLease.marks (a.take i) k ++ a.drop i) ∧ q = k + (sumBy GLease.marks (a.take i) : Nat) ∧
    st = ⟨[], [(0, .sl 0), (1, .d (.int .i64 q)), (5, .d (.int .i64 i))], [(0, .arr 0 0 6 R)], 1⟩) _ ⟨0, rLease a, k, rfl, by omega, rfl, by simp [sumBy], by simp [gc, closeN, liveA, gcV, gcO, renA, renO, namesAs, namesA, namesO, posn]⟩ ?_)
  rintro n st ⟨i, R, q, rfl, hi, hR, hq, rfl⟩
  have hl : R.length = a.length := by rw [hR]; simp [markL_len]; omega
  refine u_2 ?_
  refine W_cond rfl (fun h => W_skip ?_) (fun h => W_exit ?_)
  · simp [hl] at h
    have ha := List.getElem?_eq_getElem h
    generalize a[i] = x at ha
    have hg := sumBy_get (f := GLease.cost) ha
    have hs := sumBy_succ (f := GLease.marks) ha
    have ht := sumBy_take GLease.marks a (i + 1)
    have hsucc : R.set i (x.mark q).row = rLease (markL GLease.mark GLease.marks (a.take (i + 1)) k ++ a.drop (i + 1)) := by
      rw [hR, drop_get ha, rLease_app]
      show (rLease (markL GLease.mark GLease.marks (a.take i) k) ++ x.row :: rLease (a.drop (i + 1))).set i (x.mark q).row = _
      rw [set_mid (by simp [markL_len]; omega), markL_succ k ha, rLease_app, rLease_app, hq]; rfl
    have hd : R[i]? = some x.row := by
      rw [hR, drop_get ha, rLease_app]
      exact mid_get (by simp [markL_len]; omega)
    have hset := fun y => set_get hd y
    have hme : x.mark q = { fId := q, fToken := q + 1, fPath := markT (q + 1 + 1), fMade := q + 1 + 1 + 1, fEnds := q + 1 + 1 + 1 + 1, fLimit := q + 1 + 1 + 1 + 1 + 1 } := rfl
    have hms : x.marks = 1 + 1 + 1 + 1 + 1 + 1 := rfl
    have hco : x.cost = x.fPath.length := rfl
    clear hR
    refine W_seq (W_block (W_seq ?_))
    simp only [GLease.row] at hd
    refine u_7 (Y3 hd hset hl) ?_
    obtain ⟨q1, hq1⟩ : ∃ z : Int, q + 1 = z := ⟨_, rfl⟩
    have wq1 : IntKind.i64.wrap (q + 1) = q1 := by rw [wrap_id (by omega) (by omega)]; exact hq1
    refine u_13 wq1 ?_
    refine u_13 (Y3 hd hset hl) ?_
    obtain ⟨q2, hq2⟩ : ∃ z : Int, q1 + 1 = z := ⟨_, rfl⟩
    have wq2 : IntKind.i64.wrap (q1 + 1) = q2 := by rw [wrap_id (by omega) (by omega)]; exact hq2
    refine u_13 wq2 ?_
    refine u_18 (Y3 hd hset hl) (Z1 (markText_ok q2 (by omega))) ?_
    obtain ⟨q3, hq3⟩ : ∃ z : Int, q2 + 1 = z := ⟨_, rfl⟩
    have wq3 : IntKind.i64.wrap (q2 + 1) = q3 := by rw [wrap_id (by omega) (by omega)]; exact hq3
    refine u_13 wq3 ?_
    refine u_13 (Y3 hd hset hl) ?_
    obtain ⟨q4, hq4⟩ : ∃ z : Int, q3 + 1 = z := ⟨_, rfl⟩
    have wq4 : IntKind.i64.wrap (q3 + 1) = q4 := by rw [wrap_id (by omega) (by omega)]; exact hq4
    refine u_13 wq4 ?_
    refine u_13 (Y3 hd hset hl) ?_
    obtain ⟨q5, hq5⟩ : ∃ z : Int, q4 + 1 = z := ⟨_, rfl⟩
    have wq5 : IntKind.i64.wrap (q4 + 1) = q5 := by rw [wrap_id (by omega) (by omega)]; exact hq5
    refine u_13 wq5 ?_
    refine u_13 (Y3 hd hset hl) ?_
    obtain ⟨q6, hq6⟩ : ∃ z : Int, q5 + 1 = z := ⟨_, rfl⟩
    have wq6 : IntKind.i64.wrap (q5 + 1) = q6 := by rw [wrap_id (by omega) (by omega)]; exact hq6
    refine u_7 wq6 ?_
    refine u_3 ?_
    refine ⟨a.length - (i + 1), by omega, i + 1, R.set i (x.mark q).row, q6, rfl, h, hsucc, by omega, ?_⟩
    simp [gc, closeN, liveA, gcV, gcO, renA, renO, namesAs, namesA, namesO, posn]
    refine ⟨wrap_id (by omega) (by omega), ?_⟩
    simp only [hme, hq1, hq2, hq3, hq4, hq5, hq6]
  · simp [hl] at h
    have e : R = rLease (markL GLease.mark GLease.marks a k) := by
      rw [List.take_of_length_le h, List.drop_eq_nil_of_le h] at hR; simpa using hR
    rw [List.take_of_length_le h] at hq
    subst e
    rw [if_pos rfl]
    refine u_1 ?_
    subst hq
    exact u_8
theorem heldLeaseS_g (a : List GLease) (k : Int) (hx : a.length + sumBy GLease.cost a ≤ 1099511627776) (hk : 0 ≤ k ∧ k + (sumBy GLease.marks a : Nat) ≤ 140737488355328) :
    Valid PP GG 156 [.d (.slc 6 (rLease (markL GLease.mark GLease.marks a k))), .d (.int .i64 k)] (.d (.int .i64 (k + (sumBy GLease.marks a : Nat)))) [none, none] := by
  refine cv Tryz.func156 [.d (.int .i64 (k + (sumBy GLease.marks a : Nat)))] ?_
  have hl : (rLease (markL GLease.mark GLease.marks a k)).length = a.length := by simp [markL_len]
  have hget : ∀ (i : Nat) x, a[i]? = some x → (rLease (markL GLease.mark GLease.marks a k))[i]? = some (x.mark (k + (sumBy GLease.marks (a.take i) : Nat))).row := fun i x h => by rw [rLease_get, markL_get k h]; rfl
  generalize rLease (markL GLease.mark GLease.marks a k) = B at hl hget ⊢
  refine u_1 ?_
  refine u_2 ?_
  refine W_block (W_loop (fun n st => ∃ (i : Nat) (q : Int), n = a.length - i ∧ i ≤ a.length ∧ q = k + (sumBy GLease.marks (a.take i) : Nat) ∧
    st = ⟨[], [(0, .d (.slc 6 B)), (1, .d (.int .i64 q)), (5, .d (.int .i64 i))], [], 0⟩) _ ⟨0, k, rfl, by omega, by simp [sumBy], by simp [gc, closeN, liveA, gcV, gcO, renA, renO, namesAs, namesA, namesO, posn]⟩ ?_)
  rintro n st ⟨i, q, rfl, hi, hq, rfl⟩
  refine u_2 ?_
  refine W_cond rfl (fun h => W_skip ?_) (fun h => W_exit ?_)
  · simp [hl] at h
    have ha := List.getElem?_eq_getElem h
    generalize a[i] = x at ha
    have hg := sumBy_get (f := GLease.cost) ha
    have hs := sumBy_succ (f := GLease.marks) ha
    have ht := sumBy_take GLease.marks a (i + 1)
    have hd := hget i x ha
    rw [← hq] at hd
    have hco : x.cost = x.fPath.length := rfl
    have hms : x.marks = 1 + 1 + 1 + 1 + 1 + 1 := rfl
    simp only [GLease.row, GLease.mark] at hd
    refine W_seq (W_block ?_)
    refine u_20 (Y2 hd hl) ?_
    refine W_cond rfl (fun h4 => ?_) (fun h4 => W_skip ?_)
    · simp at h4
    obtain ⟨q1, hq1⟩ : ∃ z : Int, q + 1 = z := ⟨_, rfl⟩
    have wq1 : IntKind.i64.wrap (q + 1) = q1 := by rw [wrap_id (by omega) (by omega)]; exact hq1
    refine u_13 wq1 ?_
    simp only [hq1] at hd
    refine u_20 (Y2 hd hl) ?_
    refine W_cond rfl (fun h4 => ?_) (fun h4 => W_skip ?_)
    · simp at h4
    obtain ⟨q2, hq2⟩ : ∃ z : Int, q1 + 1 = z := ⟨_, rfl⟩
    have wq2 : IntKind.i64.wrap (q1 + 1) = q2 := by rw [wrap_id (by omega) (by omega)]; exact hq2
    refine u_13 wq2 ?_
    simp only [hq2] at hd
    refine u_21 (Y2 hd hl) (Z1 (markText_ok q2 (by omega))) ?_
    refine W_cond rfl (fun h4 => ?_) (fun h4 => W_skip ?_)
    · simp at h4
    obtain ⟨q3, hq3⟩ : ∃ z : Int, q2 + 1 = z := ⟨_, rfl⟩
    have wq3 : IntKind.i64.wrap (q2 + 1) = q3 := by rw [wrap_id (by omega) (by omega)]; exact hq3
    refine u_13 wq3 ?_
    simp only [hq3] at hd
    refine u_20 (Y2 hd hl) ?_
    refine W_cond rfl (fun h4 => ?_) (fun h4 => W_skip ?_)
    · simp at h4
    obtain ⟨q4, hq4⟩ : ∃ z : Int, q3 + 1 = z := ⟨_, rfl⟩
    have wq4 : IntKind.i64.wrap (q3 + 1) = q4 := by rw [wrap_id (by omega) (by omega)]; exact hq4
    refine u_13 wq4 ?_
    simp only [hq4] at hd
    refine u_20 (Y2 hd hl) ?_
    refine W_cond rfl (fun h4 => ?_) (fun h4 => W_skip ?_)
    · simp at h4
    obtain ⟨q5, hq5⟩ : ∃ z : Int, q4 + 1 = z := ⟨_, rfl⟩
    have wq5 : IntKind.i64.wrap (q4 + 1) = q5 := by rw [wrap_id (by omega) (by omega)]; exact hq5
    refine u_13 wq5 ?_
    simp only [hq5] at hd
    refine u_20 (Y2 hd hl) ?_
    refine W_cond rfl (fun h4 => ?_) (fun h4 => W_skip ?_)
    · simp at h4
    obtain ⟨q6, hq6⟩ : ∃ z : Int, q5 + 1 = z := ⟨_, rfl⟩
    have wq6 : IntKind.i64.wrap (q5 + 1) = q6 := by rw [wrap_id (by omega) (by omega)]; exact hq6
    refine u_7 wq6 ?_
    refine u_3 ?_
    refine ⟨a.length - (i + 1), by omega, i + 1, q6, rfl, h, by omega, ?_⟩
    simp [gc, closeN, liveA, gcV, gcO, renA, renO, namesAs, namesA, namesO, posn]
    rw [wrap_id (by omega) (by omega)]
  · simp [hl] at h
    rw [List.take_of_length_le h] at hq
    rw [if_pos rfl]
    refine u_1 ?_
    subst hq
    exact u_8
theorem szBook_g (x : GBook) (l : Int) (hx : x.ok) (h0 : 0 ≤ l ∧ l ≤ 1048576) : Valid PP GG 45 [.agg x.c, .d (.int .i64 l)] (.d (.int .i64 (leftR x.cost l))) [none, none] := by
  refine cv Tryz.func45 [.d (.int .i64 (leftR x.cost l))] ?_
  have hco : x.cost = (x.fLeases.length + sumBy GLease.cost x.fLeases) := rfl
  unfold GBook.ok maxLen at hx
  obtain ⟨okLeases0, okLeases1⟩ := hx
  generalize x.cost = co at hco
  refine u_1 ?_
  have ct := szLeaseS_g (GG := GG) x.fLeases l (by unfold maxLen; omega) okLeases1 ⟨by omega, by omega⟩
  obtain ⟨l1, el1⟩ : ∃ z : Int, leftR (x.fLeases.length + sumBy GLease.cost x.fLeases) l = z := ⟨_, rfl⟩
  rw [el1] at ct
  refine u_14 (Z1 ct) ?_
  clear ct
  refine u_2 ?_
  refine W_cond rfl (fun hh0 => W_seq ?_) (fun hh0 => W_skip ?_)
  · refine u_3 ?_
    simp at hh0
    rw [← el1] at hh0
    have hn := leftR_neg (by omega) hh0
    have : leftR co l = -1 := leftR_no (by omega)
    exact u_4
  simp at hh0
  rw [← el1] at hh0
  obtain ⟨gl1, jl1⟩ := leftR_pos (Int.not_lt.2 hh0)
  rw [el1] at jl1 hh0
  refine u_1 ?_
  have : leftR co l = l1 := by rw [leftR_yes (by omega)]; omega
  exact u_4
theorem toBook_g (x : GBook) (hx : x.cost ≤ 1099511627776) : Valid PP GG 57 [.agg x.c] (.agg x.o) [none] := by
  refine cv Tryz.func57 [.agg x.o] ?_
  have hco : x.cost = (x.fLeases.length + sumBy GLease.cost x.fLeases) := rfl
  refine u_1 ?_
  refine u_1 ?_
  refine u_14 (Z1 (toLeaseS_g x.fLeases (by omega))) ?_
  refine u_1 ?_
  exact u_8
theorem eqBook_g (x y : GBook) (hx : x.cost ≤ 1099511627776) (hy : y.cost ≤ 1099511627776) : Valid PP GG 63 [.agg x.c, .agg y.c] (.d (.bool (decide (x = y)))) [none, none] := by
  refine cv Tryz.func63 [.d (.bool (decide (x = y)))] ?_
  have hcx : x.cost = (x.fLeases.length + sumBy GLease.cost x.fLeases) := rfl
  have hcy : y.cost = (y.fLeases.length + sumBy GLease.cost y.fLeases) := rfl
  refine u_1 ?_
  refine u_15 (Z1 (eqLeaseS_g x.fLeases y.fLeases (by omega) (by omega))) ?_
  refine W_cond rfl (fun h => W_seq ?_) (fun h0 => W_skip ?_)
  · refine u_3 ?_
    have : decide (x = y) = false := by rw [decide_eq_false_iff_not]; intro e; rw [e] at h; simp at h
    exact u_4
  refine u_1 ?_
  have : decide (x = y) = true := by
    rw [decide_eq_true_iff]
    cases x; cases y
    simp at h0
    simp_all
  exact u_4
theorem markBook_g (x : GBook) (k : Int) (hx : x.cost ≤ 1099511627776) (hk : 0 ≤ k ∧ k + (x.marksIn : Nat) ≤ 140737488355328) :
    Valid PP GG 71 [.agg x.o, .d (.int .i64 k)] (.d (.int .i64 (k + (x.marksIn : Nat)))) [some (.agg (x.markIn k).o), none] := by
  refine cv Tryz.func71 [.d (.int .i64 (k + (x.marksIn : Nat)))] ?_
  have hco : x.cost = (x.fLeases.length + sumBy GLease.cost x.fLeases) := rfl
  have hms : x.marksIn = sumBy GLease.marks x.fLeases := rfl
  refine u_1 ?_
  have ct := markLeaseS_g (GG := GG) x.fLeases k (by omega) (by omega)
  refine u_14 (Z1 ct) ?_
  refine u_1 ?_
  have hfin : (k + ((sumBy GLease.marks x.fLeases : Nat) : Int)) = k + (x.marksIn : Nat) := by omega
  simp only [GBook.markIn]
  exact u_10 hfin
theorem heldBook_g (x : GBook) (k : Int) (hx : x.cost ≤ 1099511627776) (hk : 0 ≤ k ∧ k + (x.marksIn : Nat) ≤ 140737488355328) :
    Valid PP GG 88 [.agg (x.markIn k).c, .d (.int .i64 k)] (.d (.int .i64 (k + (x.marksIn : Nat)))) [none, none] := by
  refine cv Tryz.func88 [.d (.int .i64 (k + (x.marksIn : Nat)))] ?_
  have hco : x.cost = (x.fLeases.length + sumBy GLease.cost x.fLeases) := rfl
  have hms : x.marksIn = sumBy GLease.marks x.fLeases := rfl
  simp only [GBook.markIn]
  refine u_1 ?_
  have ct := heldLeaseS_g (GG := GG) x.fLeases k (by omega) (by omega)
  refine u_14 (Z1 ct) ?_
  refine u_2 ?_
  refine W_cond rfl (fun h => ?_) (fun h => W_skip ?_)
  · simp at h; omega
  refine u_1 ?_
  have hfin : (k + ((sumBy GLease.marks x.fLeases : Nat) : Int)) = k + (x.marksIn : Nat) := by omega
  exact u_10 hfin
theorem szUser_g (x : GUser) (l : Int) (hx : x.ok) (h0 : 0 ≤ l ∧ l ≤ 1048576) : Valid PP GG 183 [.agg x.c, .d (.int .i64 l)] (.d (.int .i64 (leftR x.cost l))) [none, none] := by
  refine cv Tryz.func183 [.d (.int .i64 (leftR x.cost l))] ?_
  have hco : x.cost = x.fName.length + x.fPass.length := rfl
  unfold GUser.ok maxLen at hx
  obtain ⟨okName0, okPass0⟩ := hx
  generalize x.cost = co at hco
  refine u_1 ?_
  obtain ⟨l1, el1⟩ : ∃ z : Int, l - x.fName.length = z := ⟨_, rfl⟩
  have wl1 : IntKind.i64.wrap (l - x.fName.length) = l1 := by rw [wrap_id (by omega) (by omega)]; exact el1
  refine u_13 wl1 ?_
  refine u_2 ?_
  refine W_cond rfl (fun hh0 => W_seq ?_) (fun hh0 => W_skip ?_)
  · refine u_3 ?_
    simp at hh0
    have : leftR co l = -1 := leftR_no (by omega)
    exact u_4
  simp at hh0
  obtain ⟨l2, el2⟩ : ∃ z : Int, l1 - x.fPass.length = z := ⟨_, rfl⟩
  have wl2 : IntKind.i64.wrap (l1 - x.fPass.length) = l2 := by rw [wrap_id (by omega) (by omega)]; exact el2
  refine u_13 wl2 ?_
  refine u_2 ?_
  refine W_cond rfl (fun hh1 => W_seq ?_) (fun hh1 => W_skip ?_)
  · refine u_3 ?_
    simp at hh1
    have : leftR co l = -1 := leftR_no (by omega)
    exact u_4
  simp at hh1
  refine u_1 ?_
  have : leftR co l = l2 := by rw [leftR_yes (by omega)]; omega
  exact u_4
theorem szUserS_g (a : List GUser) (l : Int) (hlen : a.length ≤ maxLen) (hx : ∀ x, x ∈ a → x.ok) (h0 : 0 ≤ l ∧ l ≤ 1048576) :
    Valid PP GG 111 [.d (.slc 2 (rUser a)), .d (.int .i64 l)] (.d (.int .i64 (leftR (a.length + sumBy GUser.cost a) l))) [none, none] := by
  refine cv Tryz.func111 [.d (.int .i64 (leftR (a.length + sumBy GUser.cost a) l))] ?_
  unfold maxLen at hlen
  obtain ⟨m, hm⟩ : ∃ z : Int, l - a.length = z := ⟨_, rfl⟩
  have hw : IntKind.i64.wrap (l - a.length) = m := by rw [wrap_id (by omega) (by omega)]; exact hm
  refine u_1 ?_
  refine u_13 hw ?_
  refine u_2 ?_
  refine W_cond rfl (fun h => W_seq ?_) (fun h => W_skip ?_)
  · refine u_3 ?_
    simp at h
    have : leftR (a.length + sumBy GUser.cost a) l = -1 := leftR_no (by omega)
    exact u_4
  simp at h
  refine u_2 ?_
  refine W_block (W_loop (fun n st => ∃ (i : Nat) (v : Int), n = a.length - i ∧ i ≤ a.length ∧ 0 ≤ v ∧ v = m - (sumBy GUser.cost (a.take i) : Nat) ∧
    st = ⟨[], [(0, .d (.slc 2 (rUser a))), (1, .d (.int .i64 v)), (5, .d (.int .i64 i))], [], 0⟩) _ ⟨0, m, rfl, by omega, h, by simp [sumBy], rfl⟩ ?_)
  rintro n st ⟨i, v, rfl, hi, hv, he, rfl⟩
  refine u_2 ?_
  refine W_cond rfl (fun h2 => W_skip ?_) (fun h2 => W_exit ?_)
  · simp at h2
    have ha := List.getElem?_eq_getElem h2
    generalize a[i] = x at ha
    have hs := sumBy_succ (f := GUser.cost) ha
    have ht := sumBy_take GUser.cost a (i + 1)
    have ct := szUser_g (GG := GG) x v (hx x (List.mem_of_getElem? ha)) ⟨hv, by omega⟩
    obtain ⟨v2, hv2⟩ : ∃ z : Int, leftR x.cost v = z := ⟨_, rfl⟩
    rw [hv2] at ct
    refine W_seq (W_block (W_seq ?_))
    refine u_11 ha (Z1 ct) ?_
    refine u_1 ?_
    refine W_cond rfl (fun h3 => W_seq ?_) (fun h3 => W_skip ?_)
    · refine u_3 ?_
      simp at h3
      rw [← hv2] at h3
      have hn := leftR_neg (by omega) h3
      have : leftR (a.length + sumBy GUser.cost a) l = -1 := leftR_no (by omega)
      exact u_4
    simp at h3
    rw [← hv2] at h3
    obtain ⟨g1, g2⟩ := leftR_pos (Int.not_lt.2 h3)
    rw [hv2] at g2
    refine u_3 ?_
    exact ⟨a.length - (i + 1), by omega, i + 1, v2, rfl, h2, by omega, by omega, by simp [gc, closeN, liveA, gcV, gcO, renA, namesAs, namesA]; rw [wrap_id (by omega) (by omega)]⟩
  · simp at h2
    rw [if_pos rfl]
    rw [List.take_of_length_le h2] at he
    refine u_1 ?_
    have : leftR (a.length + sumBy GUser.cost a) l = v := by rw [leftR_yes (by omega)]; omega
    exact u_4
theorem toUser_g (x : GUser) (hx : x.cost ≤ 1099511627776) : Valid PP GG 189 [.agg x.c] (.agg x.o) [none] := by
  refine cv Tryz.func189 [.agg x.o] ?_
  have hco : x.cost = x.fName.length + x.fPass.length := rfl
  refine u_1 ?_
  refine u_1 ?_
  refine u_1 ?_
  refine u_1 ?_
  refine u_1 ?_
  exact u_8
theorem rows2 {R : List (List D)} {i : Nat} (h : ∀ r, r ∈ R → r.length = 2) (hi : i < R.length) : ∃ y0 y1, R[i]? = some [y0, y1] := by
  have h1 := h _ (List.getElem_mem hi)
  have h2 := List.getElem?_eq_getElem hi
  generalize R[i] = r at h1 h2
  match r, h1 with
  | [y0, y1], _ => exact ⟨y0, y1, h2⟩
theorem set2 {R : List (List D)} {i : Nat} {row : List D} (h : ∀ r, r ∈ R → r.length = 2) (hr : row.length = 2) : ∀ r, r ∈ R.set i row → r.length = 2 := by
  intro r hm
  rcases List.mem_or_eq_of_mem_set hm with hm | rfl
  · exact h r hm
  · exact hr
theorem toUserS_g (a : List GUser) (hx : a.length + sumBy GUser.cost a ≤ 1099511627776) : Valid PP GG 119 [.d (.slc 2 (rUser a))] (.own 0 2 (rUser a)) [none] := by
  refine cv Tryz.func119 [.own 0 2 (rUser a)] ?_
  refine u_1 ?_
  refine u_6 ?_
  refine u_2 ?_
  refine W_block (W_loop (fun n st => ∃ (i : Nat) (R : List (List D)), n = a.length - i ∧ i ≤ a.length ∧ R.length = a.length ∧ (∀ r, r ∈ R → r.length = 2) ∧ R.take i = rUser (a.take i) ∧
    st = ⟨[], [(0, .d (.slc 2 (rUser a))), (3, .sl 0), (4, .d (.int .i64 i))], [(0, .arr 0 0 2 R)], 1⟩) _ ⟨0, List.replicate a.length [.str [], .str []], rfl, by omega, by simp, by intro r hr; rw [List.eq_of_mem_replicate hr]; rfl, rfl, rfl⟩ ?_)
  rintro n st ⟨i, R, rfl, hi, hl, h1, hR, rfl⟩
  refine u_2 ?_
  refine W_cond rfl (fun h => W_skip ?_) (fun h => W_exit ?_)
  · simp at h
    have ha := List.getElem?_eq_getElem h
    generalize a[i] = x at ha
    have hg := sumBy_get (f := GUser.cost) ha
    obtain ⟨y0, y1, hd⟩ := rows2 h1 (show i < R.length by omega)
    refine W_seq (W_block ?_)
    refine u_11 (Y3 ha hd hl) (Z1 (toUser_g x (by omega))) ?_
    refine u_3 ?_
    exact ⟨a.length - (i + 1), by omega, i + 1, R.set i x.row, rfl, h, by simpa using hl, set2 h1 rfl, by rw [take_set_succ (by omega), hR, List.take_add_one, ha, rUser_app]; rfl,
      by simp [gc, closeN, liveA, gcV, gcO, renA, renO, namesAs, namesA, namesO, posn]; rw [wrap_id (by omega) (by omega)]⟩
  · simp at h
    have e : R = rUser a := by rwa [List.take_of_length_le (by omega), List.take_of_length_le (by omega)] at hR
    subst e
    rw [if_pos rfl]
    refine u_1 ?_
    exact u_8
theorem eqUser_g (x y : GUser) (hx : x.cost ≤ 1099511627776) (hy : y.cost ≤ 1099511627776) : Valid PP GG 43 [.agg x.c, .agg y.c] (.d (.bool (decide (x = y)))) [none, none] := by
  refine cv Tryz.func43 [.d (.bool (decide (x = y)))] ?_
  have hcx : x.cost = x.fName.length + x.fPass.length := rfl
  have hcy : y.cost = y.fName.length + y.fPass.length := rfl
  refine u_1 ?_
  refine u_2 ?_
  refine W_cond rfl (fun h => W_seq ?_) (fun h0 => W_skip ?_)
  · refine u_3 ?_
    have : decide (x = y) = false := by rw [decide_eq_false_iff_not]; intro e; rw [e] at h; simp at h
    exact u_4
  refine u_2 ?_
  refine W_cond rfl (fun h => W_seq ?_) (fun h1 => W_skip ?_)
  · refine u_3 ?_
    have : decide (x = y) = false := by rw [decide_eq_false_iff_not]; intro e; rw [e] at h; simp at h
    exact u_4
  refine u_1 ?_
  have : decide (x = y) = true := by
    rw [decide_eq_true_iff]
    cases x; cases y
    simp at h0 h1
    simp_all
  exact u_4
theorem eqUserS_g (a b : List GUser) (hx : a.length + sumBy GUser.cost a ≤ 1099511627776) (hy : b.length + sumBy GUser.cost b ≤ 1099511627776) : Valid PP GG 130 [.d (.slc 2 (rUser a)), .d (.slc 2 (rUser b))] (.d (.bool (decide (a = b)))) [none, none] := by
  refine cv Tryz.func130 [.d (.bool (decide (a = b)))] ?_
  refine u_1 ?_
  refine u_2 ?_
  refine W_cond rfl (fun h => W_seq ?_) (fun hlen => W_skip ?_)
  · refine u_3 ?_
    have : decide (a = b) = false := by rw [decide_eq_false_iff_not]; intro e; subst e; simp at h
    exact u_4
  refine W_seq (W_seq (?_))
  simp at hlen
  refine u_3 ?_
  refine W_block (W_loop (fun n st => ∃ i : Nat, n = a.length - i ∧ i ≤ a.length ∧ a.take i = b.take i ∧ st = ⟨[], [(0, .d (.slc 2 (rUser a))), (1, .d (.slc 2 (rUser b))), (5, .d (.int .i64 i))], [], 0⟩) _ ⟨0, rfl, by omega, rfl, rfl⟩ ?_)
  rintro n st ⟨i, rfl, hi, he, rfl⟩
  refine u_2 ?_
  refine W_cond rfl (fun h => W_skip ?_) (fun h => W_exit ?_)
  · simp at h
    have ha := List.getElem?_eq_getElem h
    have hb := List.getElem?_eq_getElem (show i < b.length by omega)
    generalize a[i] = x at ha
    generalize b[i]'_ = y at hb
    have ga := sumBy_get (f := GUser.cost) ha
    have gb := sumBy_get (f := GUser.cost) hb
    refine W_seq (W_block (W_seq ?_))
    refine u_12 (Y2 ha hb) (Z1 (eqUser_g x y (by omega) (by omega))) ?_
    refine W_cond rfl (fun h2 => W_seq ?_) (fun h2 => W_skip ?_)
    · refine u_3 ?_
      have : decide (a = b) = false := by rw [decide_eq_false_iff_not]; intro e; subst e; rw [ha] at hb; cases hb; simp at h2
      exact u_4
    refine u_3 ?_
    have hxy : x = y := by simpa using h2
    subst hxy
    exact ⟨a.length - (i + 1), by omega, i + 1, rfl, h, take_succ_eq he ha hb, by simp [gc, closeN, liveA, gcV, gcO, renA, namesAs, namesA]; rw [wrap_id (by omega) (by omega)]⟩
  · simp at h
    rw [if_pos rfl]
    refine u_1 ?_
    have : decide (a = b) = true := by
      rw [decide_eq_true_iff]
      rwa [List.take_of_length_le h, List.take_of_length_le (by omega)] at he
    exact u_4
theorem markUserS_g (a : List GUser) (k : Int) (hx : a.length + sumBy GUser.cost a ≤ 1099511627776) (hk : 0 ≤ k ∧ k + (sumBy GUser.marks a : Nat) ≤ 140737488355328) :
    Valid PP GG 138 [.own 0 2 (rUser a), .d (.int .i64 k)] (.d (.int .i64 (k + (sumBy GUser.marks a : Nat)))) [some (.own 0 2 (rUser (markL GUser.mark GUser.marks a k))), none] := by
  refine cv Tryz.func138 [.d (.int .i64 (k + (sumBy GUser.marks a : Nat)))] ?_
  have hml := sumBy_le GUser.marks_le a
  refine u_1 ?_
  refine u_2 ?_
  refine W_block (W_loop (fun n st => ∃ (i : Nat) (R : List (List D)) (q : Int), n = a.length - i ∧ i ≤ a.length ∧ R = rUser (markL GUser.mark GUser.marks (a.take i) k ++ a.drop i) ∧ q = k + (sumBy GUser.marks (a.take i) : Nat) ∧
    st = ⟨[], [(0, .sl 0), (1, .d (.int .i64 q)), (5, .d (.int .i64 i))], [(0, .arr 0 0 2 R)], 1⟩) _ ⟨0, rUser a, k, rfl, by omega, rfl, by simp [sumBy], by simp [gc, closeN, liveA, gcV, gcO, renA, renO, namesAs, namesA, namesO, posn]⟩ ?_)
  rintro n st ⟨i, R, q, rfl, hi, hR, hq, rfl⟩
  have hl : R.length = a.length := by rw [hR]; simp [markL_len]; omega
  refine u_2 ?_
  refine W_cond rfl (fun h => W_skip ?_) (fun h => W_exit ?_)
  · simp [hl] at h
    have ha := List.getElem?_eq_getElem h
    generalize a[i] = x at ha
    have hg := sumBy_get (f := GUser.cost) ha
    have hs := sumBy_succ (f := GUser.marks) ha
    have ht := sumBy_take GUser.marks a (i + 1)
    have hsucc : R.set i (x.mark q).row = rUser (markL GUser.mark GUser.marks (a.take (i + 1)) k ++ a.drop (i + 1)) := by
      rw [hR, drop_get ha, rUser_app]
      show (rUser (markL GUser.mark GUser.marks (a.take i) k) ++ x.row :: rUser (a.drop (i + 1))).set i (x.mark q).row = _
      rw [set_mid (by simp [markL_len]; omega), markL_succ k ha, rUser_app, rUser_app, hq]; rfl
    have hd : R[i]? = some x.row := by
      rw [hR, drop_get ha, rUser_app]
      exact mid_get (by simp [markL_len]; omega)
    have hset := fun y => set_get hd y
    have hme : x.mark q = { fName := markT (q), fPass := markT (q + 1) } := rfl
    have hms : x.marks = 1 + 1 := rfl
    have hco : x.cost = x.fName.length + x.fPass.length := rfl
    clear hR
    refine W_seq (W_block (W_seq ?_))
    simp only [GUser.row] at hd
    refine u_11 (Y3 hd hset hl) (Z1 (markText_ok q (by omega))) ?_
    obtain ⟨q1, hq1⟩ : ∃ z : Int, q + 1 = z := ⟨_, rfl⟩
    have wq1 : IntKind.i64.wrap (q + 1) = q1 := by rw [wrap_id (by omega) (by omega)]; exact hq1
    refine u_13 wq1 ?_
    refine u_18 (Y3 hd hset hl) (Z1 (markText_ok q1 (by omega))) ?_
    obtain ⟨q2, hq2⟩ : ∃ z : Int, q1 + 1 = z := ⟨_, rfl⟩
    have wq2 : IntKind.i64.wrap (q1 + 1) = q2 := by rw [wrap_id (by omega) (by omega)]; exact hq2
    refine u_7 wq2 ?_
    refine u_3 ?_
    refine ⟨a.length - (i + 1), by omega, i + 1, R.set i (x.mark q).row, q2, rfl, h, hsucc, by omega, ?_⟩
    simp [gc, closeN, liveA, gcV, gcO, renA, renO, namesAs, namesA, namesO, posn]
    refine ⟨wrap_id (by omega) (by omega), ?_⟩
    simp only [hme, hq1, hq2]
  · simp [hl] at h
    have e : R = rUser (markL GUser.mark GUser.marks a k) := by
      rw [List.take_of_length_le h, List.drop_eq_nil_of_le h] at hR; simpa using hR
    rw [List.take_of_length_le h] at hq
    subst e
    rw [if_pos rfl]
    refine u_1 ?_
    subst hq
    exact u_8
theorem heldUserS_g (a : List GUser) (k : Int) (hx : a.length + sumBy GUser.cost a ≤ 1099511627776) (hk : 0 ≤ k ∧ k + (sumBy GUser.marks a : Nat) ≤ 140737488355328) :
    Valid PP GG 157 [.d (.slc 2 (rUser (markL GUser.mark GUser.marks a k))), .d (.int .i64 k)] (.d (.int .i64 (k + (sumBy GUser.marks a : Nat)))) [none, none] := by
  refine cv Tryz.func157 [.d (.int .i64 (k + (sumBy GUser.marks a : Nat)))] ?_
  have hl : (rUser (markL GUser.mark GUser.marks a k)).length = a.length := by simp [markL_len]
  have hget : ∀ (i : Nat) x, a[i]? = some x → (rUser (markL GUser.mark GUser.marks a k))[i]? = some (x.mark (k + (sumBy GUser.marks (a.take i) : Nat))).row := fun i x h => by rw [rUser_get, markL_get k h]; rfl
  generalize rUser (markL GUser.mark GUser.marks a k) = B at hl hget ⊢
  refine u_1 ?_
  refine u_2 ?_
  refine W_block (W_loop (fun n st => ∃ (i : Nat) (q : Int), n = a.length - i ∧ i ≤ a.length ∧ q = k + (sumBy GUser.marks (a.take i) : Nat) ∧
    st = ⟨[], [(0, .d (.slc 2 B)), (1, .d (.int .i64 q)), (5, .d (.int .i64 i))], [], 0⟩) _ ⟨0, k, rfl, by omega, by simp [sumBy], by simp [gc, closeN, liveA, gcV, gcO, renA, renO, namesAs, namesA, namesO, posn]⟩ ?_)
  rintro n st ⟨i, q, rfl, hi, hq, rfl⟩
  refine u_2 ?_
  refine W_cond rfl (fun h => W_skip ?_) (fun h => W_exit ?_)
  · simp [hl] at h
    have ha := List.getElem?_eq_getElem h
    generalize a[i] = x at ha
    have hg := sumBy_get (f := GUser.cost) ha
    have hs := sumBy_succ (f := GUser.marks) ha
    have ht := sumBy_take GUser.marks a (i + 1)
    have hd := hget i x ha
    rw [← hq] at hd
    have hco : x.cost = x.fName.length + x.fPass.length := rfl
    have hms : x.marks = 1 + 1 := rfl
    simp only [GUser.row, GUser.mark] at hd
    refine W_seq (W_block ?_)
    refine u_21 (Y2 hd hl) (Z1 (markText_ok q (by omega))) ?_
    refine W_cond rfl (fun h4 => ?_) (fun h4 => W_skip ?_)
    · simp at h4
    obtain ⟨q1, hq1⟩ : ∃ z : Int, q + 1 = z := ⟨_, rfl⟩
    have wq1 : IntKind.i64.wrap (q + 1) = q1 := by rw [wrap_id (by omega) (by omega)]; exact hq1
    refine u_13 wq1 ?_
    simp only [hq1] at hd
    refine u_21 (Y2 hd hl) (Z1 (markText_ok q1 (by omega))) ?_
    refine W_cond rfl (fun h4 => ?_) (fun h4 => W_skip ?_)
    · simp at h4
    obtain ⟨q2, hq2⟩ : ∃ z : Int, q1 + 1 = z := ⟨_, rfl⟩
    have wq2 : IntKind.i64.wrap (q1 + 1) = q2 := by rw [wrap_id (by omega) (by omega)]; exact hq2
    refine u_7 wq2 ?_
    refine u_3 ?_
    refine ⟨a.length - (i + 1), by omega, i + 1, q2, rfl, h, by omega, ?_⟩
    simp [gc, closeN, liveA, gcV, gcO, renA, renO, namesAs, namesA, namesO, posn]
    rw [wrap_id (by omega) (by omega)]
  · simp [hl] at h
    rw [List.take_of_length_le h] at hq
    rw [if_pos rfl]
    refine u_1 ?_
    subst hq
    exact u_8
theorem szFar_g (x : GFar) (l : Int) (hx : x.ok) (h0 : 0 ≤ l ∧ l ≤ 1048576) : Valid PP GG 46 [.agg x.c, .d (.int .i64 l)] (.d (.int .i64 (leftR x.cost l))) [none, none] := by
  refine cv Tryz.func46 [.d (.int .i64 (leftR x.cost l))] ?_
  have hco : x.cost = (x.fUsers.length + sumBy GUser.cost x.fUsers) := rfl
  unfold GFar.ok maxLen at hx
  obtain ⟨okUsers0, okUsers1, okFail0, okMade0⟩ := hx
  generalize x.cost = co at hco
  refine u_1 ?_
  have ct := szUserS_g (GG := GG) x.fUsers l (by unfold maxLen; omega) okUsers1 ⟨by omega, by omega⟩
  obtain ⟨l1, el1⟩ : ∃ z : Int, leftR (x.fUsers.length + sumBy GUser.cost x.fUsers) l = z := ⟨_, rfl⟩
  rw [el1] at ct
  refine u_14 (Z1 ct) ?_
  clear ct
  refine u_2 ?_
  refine W_cond rfl (fun hh0 => W_seq ?_) (fun hh0 => W_skip ?_)
  · refine u_3 ?_
    simp at hh0
    rw [← el1] at hh0
    have hn := leftR_neg (by omega) hh0
    have : leftR co l = -1 := leftR_no (by omega)
    exact u_4
  simp at hh0
  rw [← el1] at hh0
  obtain ⟨gl1, jl1⟩ := leftR_pos (Int.not_lt.2 hh0)
  rw [el1] at jl1 hh0
  refine u_1 ?_
  have : leftR co l = l1 := by rw [leftR_yes (by omega)]; omega
  exact u_4
theorem toFar_g (x : GFar) (hx : x.cost ≤ 1099511627776) : Valid PP GG 58 [.agg x.c] (.agg x.o) [none] := by
  refine cv Tryz.func58 [.agg x.o] ?_
  have hco : x.cost = (x.fUsers.length + sumBy GUser.cost x.fUsers) := rfl
  refine u_1 ?_
  refine u_1 ?_
  refine u_14 (Z1 (toUserS_g x.fUsers (by omega))) ?_
  refine u_1 ?_
  refine u_1 ?_
  refine u_1 ?_
  exact u_8
theorem eqFar_g (x y : GFar) (hx : x.cost ≤ 1099511627776) (hy : y.cost ≤ 1099511627776) : Valid PP GG 64 [.agg x.c, .agg y.c] (.d (.bool (decide (x = y)))) [none, none] := by
  refine cv Tryz.func64 [.d (.bool (decide (x = y)))] ?_
  have hcx : x.cost = (x.fUsers.length + sumBy GUser.cost x.fUsers) := rfl
  have hcy : y.cost = (y.fUsers.length + sumBy GUser.cost y.fUsers) := rfl
  refine u_1 ?_
  refine u_15 (Z1 (eqUserS_g x.fUsers y.fUsers (by omega) (by omega))) ?_
  refine W_cond rfl (fun h => W_seq ?_) (fun h0 => W_skip ?_)
  · refine u_3 ?_
    have : decide (x = y) = false := by rw [decide_eq_false_iff_not]; intro e; rw [e] at h; simp at h
    exact u_4
  refine u_2 ?_
  refine W_cond rfl (fun h => W_seq ?_) (fun h1 => W_skip ?_)
  · refine u_3 ?_
    have : decide (x = y) = false := by rw [decide_eq_false_iff_not]; intro e; rw [e] at h; simp at h
    exact u_4
  refine u_2 ?_
  refine W_cond rfl (fun h => W_seq ?_) (fun h2 => W_skip ?_)
  · refine u_3 ?_
    have : decide (x = y) = false := by rw [decide_eq_false_iff_not]; intro e; rw [e] at h; simp at h
    exact u_4
  refine u_1 ?_
  have : decide (x = y) = true := by
    rw [decide_eq_true_iff]
    cases x; cases y
    simp at h0 h1 h2
    simp_all
  exact u_4
theorem markFar_g (x : GFar) (k : Int) (hx : x.cost ≤ 1099511627776) (hk : 0 ≤ k ∧ k + (x.marksIn : Nat) ≤ 140737488355328) :
    Valid PP GG 72 [.agg x.o, .d (.int .i64 k)] (.d (.int .i64 (k + (x.marksIn : Nat)))) [some (.agg (x.markIn k).o), none] := by
  refine cv Tryz.func72 [.d (.int .i64 (k + (x.marksIn : Nat)))] ?_
  have hco : x.cost = (x.fUsers.length + sumBy GUser.cost x.fUsers) := rfl
  have hms : x.marksIn = sumBy GUser.marks x.fUsers := rfl
  refine u_1 ?_
  have ct := markUserS_g (GG := GG) x.fUsers k (by omega) (by omega)
  refine u_14 (Z1 ct) ?_
  refine u_1 ?_
  have hfin : (k + ((sumBy GUser.marks x.fUsers : Nat) : Int)) = k + (x.marksIn : Nat) := by omega
  simp only [GFar.markIn]
  exact u_10 hfin
theorem heldFar_g (x : GFar) (k : Int) (hx : x.cost ≤ 1099511627776) (hk : 0 ≤ k ∧ k + (x.marksIn : Nat) ≤ 140737488355328) :
    Valid PP GG 89 [.agg (x.markIn k).c, .d (.int .i64 k)] (.d (.int .i64 (k + (x.marksIn : Nat)))) [none, none] := by
  refine cv Tryz.func89 [.d (.int .i64 (k + (x.marksIn : Nat)))] ?_
  have hco : x.cost = (x.fUsers.length + sumBy GUser.cost x.fUsers) := rfl
  have hms : x.marksIn = sumBy GUser.marks x.fUsers := rfl
  simp only [GFar.markIn]
  refine u_1 ?_
  have ct := heldUserS_g (GG := GG) x.fUsers k (by omega) (by omega)
  refine u_14 (Z1 ct) ?_
  refine u_2 ?_
  refine W_cond rfl (fun h => ?_) (fun h => W_skip ?_)
  · simp at h; omega
  refine u_1 ?_
  have hfin : (k + ((sumBy GUser.marks x.fUsers : Nat) : Int)) = k + (x.marksIn : Nat) := by omega
  exact u_10 hfin
theorem szJob_g (x : GJob) (l : Int) (hx : x.ok) (h0 : 0 ≤ l ∧ l ≤ 1048576) : Valid PP GG 184 [.agg x.c, .d (.int .i64 l)] (.d (.int .i64 (leftR x.cost l))) [none, none] := by
  refine cv Tryz.func184 [.d (.int .i64 (leftR x.cost l))] ?_
  have hco : x.cost = x.fName.length := rfl
  unfold GJob.ok maxLen at hx
  obtain ⟨okName0, okAt0, okTries0⟩ := hx
  generalize x.cost = co at hco
  refine u_1 ?_
  obtain ⟨l1, el1⟩ : ∃ z : Int, l - x.fName.length = z := ⟨_, rfl⟩
  have wl1 : IntKind.i64.wrap (l - x.fName.length) = l1 := by rw [wrap_id (by omega) (by omega)]; exact el1
  refine u_13 wl1 ?_
  refine u_2 ?_
  refine W_cond rfl (fun hh0 => W_seq ?_) (fun hh0 => W_skip ?_)
  · refine u_3 ?_
    simp at hh0
    have : leftR co l = -1 := leftR_no (by omega)
    exact u_4
  simp at hh0
  refine u_1 ?_
  have : leftR co l = l1 := by rw [leftR_yes (by omega)]; omega
  exact u_4
theorem szJobS_g (a : List GJob) (l : Int) (hlen : a.length ≤ maxLen) (hx : ∀ x, x ∈ a → x.ok) (h0 : 0 ≤ l ∧ l ≤ 1048576) :
    Valid PP GG 112 [.d (.slc 3 (rJob a)), .d (.int .i64 l)] (.d (.int .i64 (leftR (a.length + sumBy GJob.cost a) l))) [none, none] := by
  refine cv Tryz.func112 [.d (.int .i64 (leftR (a.length + sumBy GJob.cost a) l))] ?_
  unfold maxLen at hlen
  obtain ⟨m, hm⟩ : ∃ z : Int, l - a.length = z := ⟨_, rfl⟩
  have hw : IntKind.i64.wrap (l - a.length) = m := by rw [wrap_id (by omega) (by omega)]; exact hm
  refine u_1 ?_
  refine u_13 hw ?_
  refine u_2 ?_
  refine W_cond rfl (fun h => W_seq ?_) (fun h => W_skip ?_)
  · refine u_3 ?_
    simp at h
    have : leftR (a.length + sumBy GJob.cost a) l = -1 := leftR_no (by omega)
    exact u_4
  simp at h
  refine u_2 ?_
  refine W_block (W_loop (fun n st => ∃ (i : Nat) (v : Int), n = a.length - i ∧ i ≤ a.length ∧ 0 ≤ v ∧ v = m - (sumBy GJob.cost (a.take i) : Nat) ∧
    st = ⟨[], [(0, .d (.slc 3 (rJob a))), (1, .d (.int .i64 v)), (5, .d (.int .i64 i))], [], 0⟩) _ ⟨0, m, rfl, by omega, h, by simp [sumBy], rfl⟩ ?_)
  rintro n st ⟨i, v, rfl, hi, hv, he, rfl⟩
  refine u_2 ?_
  refine W_cond rfl (fun h2 => W_skip ?_) (fun h2 => W_exit ?_)
  · simp at h2
    have ha := List.getElem?_eq_getElem h2
    generalize a[i] = x at ha
    have hs := sumBy_succ (f := GJob.cost) ha
    have ht := sumBy_take GJob.cost a (i + 1)
    have ct := szJob_g (GG := GG) x v (hx x (List.mem_of_getElem? ha)) ⟨hv, by omega⟩
    obtain ⟨v2, hv2⟩ : ∃ z : Int, leftR x.cost v = z := ⟨_, rfl⟩
    rw [hv2] at ct
    refine W_seq (W_block (W_seq ?_))
    refine u_11 ha (Z1 ct) ?_
    refine u_1 ?_
    refine W_cond rfl (fun h3 => W_seq ?_) (fun h3 => W_skip ?_)
    · refine u_3 ?_
      simp at h3
      rw [← hv2] at h3
      have hn := leftR_neg (by omega) h3
      have : leftR (a.length + sumBy GJob.cost a) l = -1 := leftR_no (by omega)
      exact u_4
    simp at h3
    rw [← hv2] at h3
    obtain ⟨g1, g2⟩ := leftR_pos (Int.not_lt.2 h3)
    rw [hv2] at g2
    refine u_3 ?_
    exact ⟨a.length - (i + 1), by omega, i + 1, v2, rfl, h2, by omega, by omega, by simp [gc, closeN, liveA, gcV, gcO, renA, namesAs, namesA]; rw [wrap_id (by omega) (by omega)]⟩
  · simp at h2
    rw [if_pos rfl]
    rw [List.take_of_length_le h2] at he
    refine u_1 ?_
    have : leftR (a.length + sumBy GJob.cost a) l = v := by rw [leftR_yes (by omega)]; omega
    exact u_4
theorem toJob_g (x : GJob) (hx : x.cost ≤ 1099511627776) : Valid PP GG 190 [.agg x.c] (.agg x.o) [none] := by
  refine cv Tryz.func190 [.agg x.o] ?_
  have hco : x.cost = x.fName.length := rfl
  refine u_1 ?_
  refine u_1 ?_
  refine u_1 ?_
  refine u_1 ?_
  refine u_1 ?_
  refine u_1 ?_
  exact u_8
theorem toJobS_g (a : List GJob) (hx : a.length + sumBy GJob.cost a ≤ 1099511627776) : Valid PP GG 120 [.d (.slc 3 (rJob a))] (.own 0 3 (rJob a)) [none] := by
  refine cv Tryz.func120 [.own 0 3 (rJob a)] ?_
  refine u_1 ?_
  refine u_6 ?_
  refine u_2 ?_
  refine W_block (W_loop (fun n st => ∃ (i : Nat) (R : List (List D)), n = a.length - i ∧ i ≤ a.length ∧ R.length = a.length ∧ (∀ r, r ∈ R → r.length = 3) ∧ R.take i = rJob (a.take i) ∧
    st = ⟨[], [(0, .d (.slc 3 (rJob a))), (3, .sl 0), (4, .d (.int .i64 i))], [(0, .arr 0 0 3 R)], 1⟩) _ ⟨0, List.replicate a.length [.str [], .int .i64 0, .int .i64 0], rfl, by omega, by simp, by intro r hr; rw [List.eq_of_mem_replicate hr]; rfl, rfl, rfl⟩ ?_)
  rintro n st ⟨i, R, rfl, hi, hl, h1, hR, rfl⟩
  refine u_2 ?_
  refine W_cond rfl (fun h => W_skip ?_) (fun h => W_exit ?_)
  · simp at h
    have ha := List.getElem?_eq_getElem h
    generalize a[i] = x at ha
    have hg := sumBy_get (f := GJob.cost) ha
    obtain ⟨y0, y1, y2, hd⟩ := rows3 h1 (show i < R.length by omega)
    refine W_seq (W_block ?_)
    refine u_11 (Y3 ha hd hl) (Z1 (toJob_g x (by omega))) ?_
    refine u_3 ?_
    exact ⟨a.length - (i + 1), by omega, i + 1, R.set i x.row, rfl, h, by simpa using hl, set3 h1 rfl, by rw [take_set_succ (by omega), hR, List.take_add_one, ha, rJob_app]; rfl,
      by simp [gc, closeN, liveA, gcV, gcO, renA, renO, namesAs, namesA, namesO, posn]; rw [wrap_id (by omega) (by omega)]⟩
  · simp at h
    have e : R = rJob a := by rwa [List.take_of_length_le (by omega), List.take_of_length_le (by omega)] at hR
    subst e
    rw [if_pos rfl]
    refine u_1 ?_
    exact u_8
theorem eqJob_g (x y : GJob) (hx : x.cost ≤ 1099511627776) (hy : y.cost ≤ 1099511627776) : Valid PP GG 196 [.agg x.c, .agg y.c] (.d (.bool (decide (x = y)))) [none, none] := by
  refine cv Tryz.func196 [.d (.bool (decide (x = y)))] ?_
  have hcx : x.cost = x.fName.length := rfl
  have hcy : y.cost = y.fName.length := rfl
  refine u_1 ?_
  refine u_2 ?_
  refine W_cond rfl (fun h => W_seq ?_) (fun h0 => W_skip ?_)
  · refine u_3 ?_
    have : decide (x = y) = false := by rw [decide_eq_false_iff_not]; intro e; rw [e] at h; simp at h
    exact u_4
  refine u_2 ?_
  refine W_cond rfl (fun h => W_seq ?_) (fun h1 => W_skip ?_)
  · refine u_3 ?_
    have : decide (x = y) = false := by rw [decide_eq_false_iff_not]; intro e; rw [e] at h; simp at h
    exact u_4
  refine u_2 ?_
  refine W_cond rfl (fun h => W_seq ?_) (fun h2 => W_skip ?_)
  · refine u_3 ?_
    have : decide (x = y) = false := by rw [decide_eq_false_iff_not]; intro e; rw [e] at h; simp at h
    exact u_4
  refine u_1 ?_
  have : decide (x = y) = true := by
    rw [decide_eq_true_iff]
    cases x; cases y
    simp at h0 h1 h2
    simp_all
  exact u_4
theorem eqJobS_g (a b : List GJob) (hx : a.length + sumBy GJob.cost a ≤ 1099511627776) (hy : b.length + sumBy GJob.cost b ≤ 1099511627776) : Valid PP GG 131 [.d (.slc 3 (rJob a)), .d (.slc 3 (rJob b))] (.d (.bool (decide (a = b)))) [none, none] := by
  refine cv Tryz.func131 [.d (.bool (decide (a = b)))] ?_
  refine u_1 ?_
  refine u_2 ?_
  refine W_cond rfl (fun h => W_seq ?_) (fun hlen => W_skip ?_)
  · refine u_3 ?_
    have : decide (a = b) = false := by rw [decide_eq_false_iff_not]; intro e; subst e; simp at h
    exact u_4
  refine W_seq (W_seq (?_))
  simp at hlen
  refine u_3 ?_
  refine W_block (W_loop (fun n st => ∃ i : Nat, n = a.length - i ∧ i ≤ a.length ∧ a.take i = b.take i ∧ st = ⟨[], [(0, .d (.slc 3 (rJob a))), (1, .d (.slc 3 (rJob b))), (5, .d (.int .i64 i))], [], 0⟩) _ ⟨0, rfl, by omega, rfl, rfl⟩ ?_)
  rintro n st ⟨i, rfl, hi, he, rfl⟩
  refine u_2 ?_
  refine W_cond rfl (fun h => W_skip ?_) (fun h => W_exit ?_)
  · simp at h
    have ha := List.getElem?_eq_getElem h
    have hb := List.getElem?_eq_getElem (show i < b.length by omega)
    generalize a[i] = x at ha
    generalize b[i]'_ = y at hb
    have ga := sumBy_get (f := GJob.cost) ha
    have gb := sumBy_get (f := GJob.cost) hb
    refine W_seq (W_block (W_seq ?_))
    refine u_12 (Y2 ha hb) (Z1 (eqJob_g x y (by omega) (by omega))) ?_
    refine W_cond rfl (fun h2 => W_seq ?_) (fun h2 => W_skip ?_)
    · refine u_3 ?_
      have : decide (a = b) = false := by rw [decide_eq_false_iff_not]; intro e; subst e; rw [ha] at hb; cases hb; simp at h2
      exact u_4
    refine u_3 ?_
    have hxy : x = y := by simpa using h2
    subst hxy
    exact ⟨a.length - (i + 1), by omega, i + 1, rfl, h, take_succ_eq he ha hb, by simp [gc, closeN, liveA, gcV, gcO, renA, namesAs, namesA]; rw [wrap_id (by omega) (by omega)]⟩
  · simp at h
    rw [if_pos rfl]
    refine u_1 ?_
    have : decide (a = b) = true := by
      rw [decide_eq_true_iff]
      rwa [List.take_of_length_le h, List.take_of_length_le (by omega)] at he
    exact u_4
theorem markJobS_g (a : List GJob) (k : Int) (hx : a.length + sumBy GJob.cost a ≤ 1099511627776) (hk : 0 ≤ k ∧ k + (sumBy GJob.marks a : Nat) ≤ 140737488355328) :
    Valid PP GG 139 [.own 0 3 (rJob a), .d (.int .i64 k)] (.d (.int .i64 (k + (sumBy GJob.marks a : Nat)))) [some (.own 0 3 (rJob (markL GJob.mark GJob.marks a k))), none] := by
  refine cv Tryz.func139 [.d (.int .i64 (k + (sumBy GJob.marks a : Nat)))] ?_
  have hml := sumBy_le GJob.marks_le a
  refine u_1 ?_
  refine u_2 ?_
  refine W_block (W_loop (fun n st => ∃ (i : Nat) (R : List (List D)) (q : Int), n = a.length - i ∧ i ≤ a.length ∧ R = rJob (markL GJob.mark GJob.marks (a.take i) k ++ a.drop i) ∧ q = k + (sumBy GJob.marks (a.take i) : Nat) ∧
    st = ⟨[], [(0, .sl 0), (1, .d (.int .i64 q)), (5, .d (.int .i64 i))], [(0, .arr 0 0 3 R)], 1⟩) _ ⟨0, rJob a, k, rfl, by omega, rfl, by simp [sumBy], by simp [gc, closeN, liveA, gcV, gcO, renA, renO, namesAs, namesA, namesO, posn]⟩ ?_)
  rintro n st ⟨i, R, q, rfl, hi, hR, hq, rfl⟩
  have hl : R.length = a.length := by rw [hR]; simp [markL_len]; omega
  refine u_2 ?_
  refine W_cond rfl (fun h => W_skip ?_) (fun h => W_exit ?_)
  · simp [hl] at h
    have ha := List.getElem?_eq_getElem h
    generalize a[i] = x at ha
    have hg := sumBy_get (f := GJob.cost) ha
    have hs := sumBy_succ (f := GJob.marks) ha
    have ht := sumBy_take GJob.marks a (i + 1)
    have hsucc : R.set i (x.mark q).row = rJob (markL GJob.mark GJob.marks (a.take (i + 1)) k ++ a.drop (i + 1)) := by
      rw [hR, drop_get ha, rJob_app]
      show (rJob (markL GJob.mark GJob.marks (a.take i) k) ++ x.row :: rJob (a.drop (i + 1))).set i (x.mark q).row = _
      rw [set_mid (by simp [markL_len]; omega), markL_succ k ha, rJob_app, rJob_app, hq]; rfl
    have hd : R[i]? = some x.row := by
      rw [hR, drop_get ha, rJob_app]
      exact mid_get (by simp [markL_len]; omega)
    have hset := fun y => set_get hd y
    have hme : x.mark q = { fName := markT (q), fAt := q + 1, fTries := q + 1 + 1 } := rfl
    have hms : x.marks = 1 + 1 + 1 := rfl
    have hco : x.cost = x.fName.length := rfl
    clear hR
    refine W_seq (W_block (W_seq ?_))
    simp only [GJob.row] at hd
    refine u_11 (Y3 hd hset hl) (Z1 (markText_ok q (by omega))) ?_
    obtain ⟨q1, hq1⟩ : ∃ z : Int, q + 1 = z := ⟨_, rfl⟩
    have wq1 : IntKind.i64.wrap (q + 1) = q1 := by rw [wrap_id (by omega) (by omega)]; exact hq1
    refine u_13 wq1 ?_
    refine u_13 (Y3 hd hset hl) ?_
    obtain ⟨q2, hq2⟩ : ∃ z : Int, q1 + 1 = z := ⟨_, rfl⟩
    have wq2 : IntKind.i64.wrap (q1 + 1) = q2 := by rw [wrap_id (by omega) (by omega)]; exact hq2
    refine u_13 wq2 ?_
    refine u_13 (Y3 hd hset hl) ?_
    obtain ⟨q3, hq3⟩ : ∃ z : Int, q2 + 1 = z := ⟨_, rfl⟩
    have wq3 : IntKind.i64.wrap (q2 + 1) = q3 := by rw [wrap_id (by omega) (by omega)]; exact hq3
    refine u_7 wq3 ?_
    refine u_3 ?_
    refine ⟨a.length - (i + 1), by omega, i + 1, R.set i (x.mark q).row, q3, rfl, h, hsucc, by omega, ?_⟩
    simp [gc, closeN, liveA, gcV, gcO, renA, renO, namesAs, namesA, namesO, posn]
    refine ⟨wrap_id (by omega) (by omega), ?_⟩
    simp only [hme, hq1, hq2, hq3]
  · simp [hl] at h
    have e : R = rJob (markL GJob.mark GJob.marks a k) := by
      rw [List.take_of_length_le h, List.drop_eq_nil_of_le h] at hR; simpa using hR
    rw [List.take_of_length_le h] at hq
    subst e
    rw [if_pos rfl]
    refine u_1 ?_
    subst hq
    exact u_8
theorem heldJobS_g (a : List GJob) (k : Int) (hx : a.length + sumBy GJob.cost a ≤ 1099511627776) (hk : 0 ≤ k ∧ k + (sumBy GJob.marks a : Nat) ≤ 140737488355328) :
    Valid PP GG 158 [.d (.slc 3 (rJob (markL GJob.mark GJob.marks a k))), .d (.int .i64 k)] (.d (.int .i64 (k + (sumBy GJob.marks a : Nat)))) [none, none] := by
  refine cv Tryz.func158 [.d (.int .i64 (k + (sumBy GJob.marks a : Nat)))] ?_
  have hl : (rJob (markL GJob.mark GJob.marks a k)).length = a.length := by simp [markL_len]
  have hget : ∀ (i : Nat) x, a[i]? = some x → (rJob (markL GJob.mark GJob.marks a k))[i]? = some (x.mark (k + (sumBy GJob.marks (a.take i) : Nat))).row := fun i x h => by rw [rJob_get, markL_get k h]; rfl
  generalize rJob (markL GJob.mark GJob.marks a k) = B at hl hget ⊢
  refine u_1 ?_
  refine u_2 ?_
  refine W_block (W_loop (fun n st => ∃ (i : Nat) (q : Int), n = a.length - i ∧ i ≤ a.length ∧ q = k + (sumBy GJob.marks (a.take i) : Nat) ∧
    st = ⟨[], [(0, .d (.slc 3 B)), (1, .d (.int .i64 q)), (5, .d (.int .i64 i))], [], 0⟩) _ ⟨0, k, rfl, by omega, by simp [sumBy], by simp [gc, closeN, liveA, gcV, gcO, renA, renO, namesAs, namesA, namesO, posn]⟩ ?_)
  rintro n st ⟨i, q, rfl, hi, hq, rfl⟩
  refine u_2 ?_
  refine W_cond rfl (fun h => W_skip ?_) (fun h => W_exit ?_)
  · simp [hl] at h
    have ha := List.getElem?_eq_getElem h
    generalize a[i] = x at ha
    have hg := sumBy_get (f := GJob.cost) ha
    have hs := sumBy_succ (f := GJob.marks) ha
    have ht := sumBy_take GJob.marks a (i + 1)
    have hd := hget i x ha
    rw [← hq] at hd
    have hco : x.cost = x.fName.length := rfl
    have hms : x.marks = 1 + 1 + 1 := rfl
    simp only [GJob.row, GJob.mark] at hd
    refine W_seq (W_block ?_)
    refine u_21 (Y2 hd hl) (Z1 (markText_ok q (by omega))) ?_
    refine W_cond rfl (fun h4 => ?_) (fun h4 => W_skip ?_)
    · simp at h4
    obtain ⟨q1, hq1⟩ : ∃ z : Int, q + 1 = z := ⟨_, rfl⟩
    have wq1 : IntKind.i64.wrap (q + 1) = q1 := by rw [wrap_id (by omega) (by omega)]; exact hq1
    refine u_13 wq1 ?_
    simp only [hq1] at hd
    refine u_20 (Y2 hd hl) ?_
    refine W_cond rfl (fun h4 => ?_) (fun h4 => W_skip ?_)
    · simp at h4
    obtain ⟨q2, hq2⟩ : ∃ z : Int, q1 + 1 = z := ⟨_, rfl⟩
    have wq2 : IntKind.i64.wrap (q1 + 1) = q2 := by rw [wrap_id (by omega) (by omega)]; exact hq2
    refine u_13 wq2 ?_
    simp only [hq2] at hd
    refine u_20 (Y2 hd hl) ?_
    refine W_cond rfl (fun h4 => ?_) (fun h4 => W_skip ?_)
    · simp at h4
    obtain ⟨q3, hq3⟩ : ∃ z : Int, q2 + 1 = z := ⟨_, rfl⟩
    have wq3 : IntKind.i64.wrap (q2 + 1) = q3 := by rw [wrap_id (by omega) (by omega)]; exact hq3
    refine u_7 wq3 ?_
    refine u_3 ?_
    refine ⟨a.length - (i + 1), by omega, i + 1, q3, rfl, h, by omega, ?_⟩
    simp [gc, closeN, liveA, gcV, gcO, renA, renO, namesAs, namesA, namesO, posn]
    rw [wrap_id (by omega) (by omega)]
  · simp [hl] at h
    rw [List.take_of_length_le h] at hq
    rw [if_pos rfl]
    refine u_1 ?_
    subst hq
    exact u_8
theorem szQueue_g (x : GQueue) (l : Int) (hx : x.ok) (h0 : 0 ≤ l ∧ l ≤ 1048576) : Valid PP GG 47 [.agg x.c, .d (.int .i64 l)] (.d (.int .i64 (leftR x.cost l))) [none, none] := by
  refine cv Tryz.func47 [.d (.int .i64 (leftR x.cost l))] ?_
  have hco : x.cost = (x.fJobs.length + sumBy GJob.cost x.fJobs) := rfl
  unfold GQueue.ok maxLen at hx
  obtain ⟨okJobs0, okJobs1⟩ := hx
  generalize x.cost = co at hco
  refine u_1 ?_
  have ct := szJobS_g (GG := GG) x.fJobs l (by unfold maxLen; omega) okJobs1 ⟨by omega, by omega⟩
  obtain ⟨l1, el1⟩ : ∃ z : Int, leftR (x.fJobs.length + sumBy GJob.cost x.fJobs) l = z := ⟨_, rfl⟩
  rw [el1] at ct
  refine u_14 (Z1 ct) ?_
  clear ct
  refine u_2 ?_
  refine W_cond rfl (fun hh0 => W_seq ?_) (fun hh0 => W_skip ?_)
  · refine u_3 ?_
    simp at hh0
    rw [← el1] at hh0
    have hn := leftR_neg (by omega) hh0
    have : leftR co l = -1 := leftR_no (by omega)
    exact u_4
  simp at hh0
  rw [← el1] at hh0
  obtain ⟨gl1, jl1⟩ := leftR_pos (Int.not_lt.2 hh0)
  rw [el1] at jl1 hh0
  refine u_1 ?_
  have : leftR co l = l1 := by rw [leftR_yes (by omega)]; omega
  exact u_4
theorem toQueue_g (x : GQueue) (hx : x.cost ≤ 1099511627776) : Valid PP GG 59 [.agg x.c] (.agg x.o) [none] := by
  refine cv Tryz.func59 [.agg x.o] ?_
  have hco : x.cost = (x.fJobs.length + sumBy GJob.cost x.fJobs) := rfl
  refine u_1 ?_
  refine u_1 ?_
  refine u_14 (Z1 (toJobS_g x.fJobs (by omega))) ?_
  refine u_1 ?_
  exact u_8
theorem eqQueue_g (x y : GQueue) (hx : x.cost ≤ 1099511627776) (hy : y.cost ≤ 1099511627776) : Valid PP GG 65 [.agg x.c, .agg y.c] (.d (.bool (decide (x = y)))) [none, none] := by
  refine cv Tryz.func65 [.d (.bool (decide (x = y)))] ?_
  have hcx : x.cost = (x.fJobs.length + sumBy GJob.cost x.fJobs) := rfl
  have hcy : y.cost = (y.fJobs.length + sumBy GJob.cost y.fJobs) := rfl
  refine u_1 ?_
  refine u_15 (Z1 (eqJobS_g x.fJobs y.fJobs (by omega) (by omega))) ?_
  refine W_cond rfl (fun h => W_seq ?_) (fun h0 => W_skip ?_)
  · refine u_3 ?_
    have : decide (x = y) = false := by rw [decide_eq_false_iff_not]; intro e; rw [e] at h; simp at h
    exact u_4
  refine u_1 ?_
  have : decide (x = y) = true := by
    rw [decide_eq_true_iff]
    cases x; cases y
    simp at h0
    simp_all
  exact u_4
theorem markQueue_g (x : GQueue) (k : Int) (hx : x.cost ≤ 1099511627776) (hk : 0 ≤ k ∧ k + (x.marksIn : Nat) ≤ 140737488355328) :
    Valid PP GG 73 [.agg x.o, .d (.int .i64 k)] (.d (.int .i64 (k + (x.marksIn : Nat)))) [some (.agg (x.markIn k).o), none] := by
  refine cv Tryz.func73 [.d (.int .i64 (k + (x.marksIn : Nat)))] ?_
  have hco : x.cost = (x.fJobs.length + sumBy GJob.cost x.fJobs) := rfl
  have hms : x.marksIn = sumBy GJob.marks x.fJobs := rfl
  refine u_1 ?_
  have ct := markJobS_g (GG := GG) x.fJobs k (by omega) (by omega)
  refine u_14 (Z1 ct) ?_
  refine u_1 ?_
  have hfin : (k + ((sumBy GJob.marks x.fJobs : Nat) : Int)) = k + (x.marksIn : Nat) := by omega
  simp only [GQueue.markIn]
  exact u_10 hfin
theorem heldQueue_g (x : GQueue) (k : Int) (hx : x.cost ≤ 1099511627776) (hk : 0 ≤ k ∧ k + (x.marksIn : Nat) ≤ 140737488355328) :
    Valid PP GG 90 [.agg (x.markIn k).c, .d (.int .i64 k)] (.d (.int .i64 (k + (x.marksIn : Nat)))) [none, none] := by
  refine cv Tryz.func90 [.d (.int .i64 (k + (x.marksIn : Nat)))] ?_
  have hco : x.cost = (x.fJobs.length + sumBy GJob.cost x.fJobs) := rfl
  have hms : x.marksIn = sumBy GJob.marks x.fJobs := rfl
  simp only [GQueue.markIn]
  refine u_1 ?_
  have ct := heldJobS_g (GG := GG) x.fJobs k (by omega) (by omega)
  refine u_14 (Z1 ct) ?_
  refine u_2 ?_
  refine W_cond rfl (fun h => ?_) (fun h => W_skip ?_)
  · simp at h; omega
  refine u_1 ?_
  have hfin : (k + ((sumBy GJob.marks x.fJobs : Nat) : Int)) = k + (x.marksIn : Nat) := by omega
  exact u_10 hfin
theorem szOwned_g (x : GOwned) (l : Int) (hx : x.ok) (h0 : 0 ≤ l ∧ l ≤ 1048576) : Valid PP GG 113 [.agg x.c, .d (.int .i64 l)] (.d (.int .i64 (leftR x.cost l))) [none, none] := by
  refine cv Tryz.func113 [.d (.int .i64 (leftR x.cost l))] ?_
  have hco : x.cost = x.fName.length := rfl
  unfold GOwned.ok maxLen at hx
  obtain ⟨okLease0, okName0⟩ := hx
  generalize x.cost = co at hco
  refine u_1 ?_
  obtain ⟨l1, el1⟩ : ∃ z : Int, l - x.fName.length = z := ⟨_, rfl⟩
  have wl1 : IntKind.i64.wrap (l - x.fName.length) = l1 := by rw [wrap_id (by omega) (by omega)]; exact el1
  refine u_13 wl1 ?_
  refine u_2 ?_
  refine W_cond rfl (fun hh0 => W_seq ?_) (fun hh0 => W_skip ?_)
  · refine u_3 ?_
    simp at hh0
    have : leftR co l = -1 := leftR_no (by omega)
    exact u_4
  simp at hh0
  refine u_1 ?_
  have : leftR co l = l1 := by rw [leftR_yes (by omega)]; omega
  exact u_4
theorem szOwnedS_g (a : List GOwned) (l : Int) (hlen : a.length ≤ maxLen) (hx : ∀ x, x ∈ a → x.ok) (h0 : 0 ≤ l ∧ l ≤ 1048576) :
    Valid PP GG 48 [.d (.slc 2 (rOwned a)), .d (.int .i64 l)] (.d (.int .i64 (leftR (a.length + sumBy GOwned.cost a) l))) [none, none] := by
  refine cv Tryz.func48 [.d (.int .i64 (leftR (a.length + sumBy GOwned.cost a) l))] ?_
  unfold maxLen at hlen
  obtain ⟨m, hm⟩ : ∃ z : Int, l - a.length = z := ⟨_, rfl⟩
  have hw : IntKind.i64.wrap (l - a.length) = m := by rw [wrap_id (by omega) (by omega)]; exact hm
  refine u_1 ?_
  refine u_13 hw ?_
  refine u_2 ?_
  refine W_cond rfl (fun h => W_seq ?_) (fun h => W_skip ?_)
  · refine u_3 ?_
    simp at h
    have : leftR (a.length + sumBy GOwned.cost a) l = -1 := leftR_no (by omega)
    exact u_4
  simp at h
  refine u_2 ?_
  refine W_block (W_loop (fun n st => ∃ (i : Nat) (v : Int), n = a.length - i ∧ i ≤ a.length ∧ 0 ≤ v ∧ v = m - (sumBy GOwned.cost (a.take i) : Nat) ∧
    st = ⟨[], [(0, .d (.slc 2 (rOwned a))), (1, .d (.int .i64 v)), (5, .d (.int .i64 i))], [], 0⟩) _ ⟨0, m, rfl, by omega, h, by simp [sumBy], rfl⟩ ?_)
  rintro n st ⟨i, v, rfl, hi, hv, he, rfl⟩
  refine u_2 ?_
  refine W_cond rfl (fun h2 => W_skip ?_) (fun h2 => W_exit ?_)
  · simp at h2
    have ha := List.getElem?_eq_getElem h2
    generalize a[i] = x at ha
    have hs := sumBy_succ (f := GOwned.cost) ha
    have ht := sumBy_take GOwned.cost a (i + 1)
    have ct := szOwned_g (GG := GG) x v (hx x (List.mem_of_getElem? ha)) ⟨hv, by omega⟩
    obtain ⟨v2, hv2⟩ : ∃ z : Int, leftR x.cost v = z := ⟨_, rfl⟩
    rw [hv2] at ct
    refine W_seq (W_block (W_seq ?_))
    refine u_11 ha (Z1 ct) ?_
    refine u_1 ?_
    refine W_cond rfl (fun h3 => W_seq ?_) (fun h3 => W_skip ?_)
    · refine u_3 ?_
      simp at h3
      rw [← hv2] at h3
      have hn := leftR_neg (by omega) h3
      have : leftR (a.length + sumBy GOwned.cost a) l = -1 := leftR_no (by omega)
      exact u_4
    simp at h3
    rw [← hv2] at h3
    obtain ⟨g1, g2⟩ := leftR_pos (Int.not_lt.2 h3)
    rw [hv2] at g2
    refine u_3 ?_
    exact ⟨a.length - (i + 1), by omega, i + 1, v2, rfl, h2, by omega, by omega, by simp [gc, closeN, liveA, gcV, gcO, renA, namesAs, namesA]; rw [wrap_id (by omega) (by omega)]⟩
  · simp at h2
    rw [if_pos rfl]
    rw [List.take_of_length_le h2] at he
    refine u_1 ?_
    have : leftR (a.length + sumBy GOwned.cost a) l = v := by rw [leftR_yes (by omega)]; omega
    exact u_4
theorem toOwned_g (x : GOwned) (hx : x.cost ≤ 1099511627776) : Valid PP GG 121 [.agg x.c] (.agg x.o) [none] := by
  refine cv Tryz.func121 [.agg x.o] ?_
  have hco : x.cost = x.fName.length := rfl
  refine u_1 ?_
  refine u_1 ?_
  refine u_1 ?_
  refine u_1 ?_
  refine u_1 ?_
  exact u_8
theorem toOwnedS_g (a : List GOwned) (hx : a.length + sumBy GOwned.cost a ≤ 1099511627776) : Valid PP GG 60 [.d (.slc 2 (rOwned a))] (.own 0 2 (rOwned a)) [none] := by
  refine cv Tryz.func60 [.own 0 2 (rOwned a)] ?_
  refine u_1 ?_
  refine u_6 ?_
  refine u_2 ?_
  refine W_block (W_loop (fun n st => ∃ (i : Nat) (R : List (List D)), n = a.length - i ∧ i ≤ a.length ∧ R.length = a.length ∧ (∀ r, r ∈ R → r.length = 2) ∧ R.take i = rOwned (a.take i) ∧
    st = ⟨[], [(0, .d (.slc 2 (rOwned a))), (3, .sl 0), (4, .d (.int .i64 i))], [(0, .arr 0 0 2 R)], 1⟩) _ ⟨0, List.replicate a.length [.int .i64 0, .str []], rfl, by omega, by simp, by intro r hr; rw [List.eq_of_mem_replicate hr]; rfl, rfl, rfl⟩ ?_)
  rintro n st ⟨i, R, rfl, hi, hl, h1, hR, rfl⟩
  refine u_2 ?_
  refine W_cond rfl (fun h => W_skip ?_) (fun h => W_exit ?_)
  · simp at h
    have ha := List.getElem?_eq_getElem h
    generalize a[i] = x at ha
    have hg := sumBy_get (f := GOwned.cost) ha
    obtain ⟨y0, y1, hd⟩ := rows2 h1 (show i < R.length by omega)
    refine W_seq (W_block ?_)
    refine u_11 (Y3 ha hd hl) (Z1 (toOwned_g x (by omega))) ?_
    refine u_3 ?_
    exact ⟨a.length - (i + 1), by omega, i + 1, R.set i x.row, rfl, h, by simpa using hl, set2 h1 rfl, by rw [take_set_succ (by omega), hR, List.take_add_one, ha, rOwned_app]; rfl,
      by simp [gc, closeN, liveA, gcV, gcO, renA, renO, namesAs, namesA, namesO, posn]; rw [wrap_id (by omega) (by omega)]⟩
  · simp at h
    have e : R = rOwned a := by rwa [List.take_of_length_le (by omega), List.take_of_length_le (by omega)] at hR
    subst e
    rw [if_pos rfl]
    refine u_1 ?_
    exact u_8
theorem eqOwned_g (x y : GOwned) (hx : x.cost ≤ 1099511627776) (hy : y.cost ≤ 1099511627776) : Valid PP GG 132 [.agg x.c, .agg y.c] (.d (.bool (decide (x = y)))) [none, none] := by
  refine cv Tryz.func132 [.d (.bool (decide (x = y)))] ?_
  have hcx : x.cost = x.fName.length := rfl
  have hcy : y.cost = y.fName.length := rfl
  refine u_1 ?_
  refine u_2 ?_
  refine W_cond rfl (fun h => W_seq ?_) (fun h0 => W_skip ?_)
  · refine u_3 ?_
    have : decide (x = y) = false := by rw [decide_eq_false_iff_not]; intro e; rw [e] at h; simp at h
    exact u_4
  refine u_2 ?_
  refine W_cond rfl (fun h => W_seq ?_) (fun h1 => W_skip ?_)
  · refine u_3 ?_
    have : decide (x = y) = false := by rw [decide_eq_false_iff_not]; intro e; rw [e] at h; simp at h
    exact u_4
  refine u_1 ?_
  have : decide (x = y) = true := by
    rw [decide_eq_true_iff]
    cases x; cases y
    simp at h0 h1
    simp_all
  exact u_4
theorem eqOwnedS_g (a b : List GOwned) (hx : a.length + sumBy GOwned.cost a ≤ 1099511627776) (hy : b.length + sumBy GOwned.cost b ≤ 1099511627776) : Valid PP GG 66 [.d (.slc 2 (rOwned a)), .d (.slc 2 (rOwned b))] (.d (.bool (decide (a = b)))) [none, none] := by
  refine cv Tryz.func66 [.d (.bool (decide (a = b)))] ?_
  refine u_1 ?_
  refine u_2 ?_
  refine W_cond rfl (fun h => W_seq ?_) (fun hlen => W_skip ?_)
  · refine u_3 ?_
    have : decide (a = b) = false := by rw [decide_eq_false_iff_not]; intro e; subst e; simp at h
    exact u_4
  refine W_seq (W_seq (?_))
  simp at hlen
  refine u_3 ?_
  refine W_block (W_loop (fun n st => ∃ i : Nat, n = a.length - i ∧ i ≤ a.length ∧ a.take i = b.take i ∧ st = ⟨[], [(0, .d (.slc 2 (rOwned a))), (1, .d (.slc 2 (rOwned b))), (5, .d (.int .i64 i))], [], 0⟩) _ ⟨0, rfl, by omega, rfl, rfl⟩ ?_)
  rintro n st ⟨i, rfl, hi, he, rfl⟩
  refine u_2 ?_
  refine W_cond rfl (fun h => W_skip ?_) (fun h => W_exit ?_)
  · simp at h
    have ha := List.getElem?_eq_getElem h
    have hb := List.getElem?_eq_getElem (show i < b.length by omega)
    generalize a[i] = x at ha
    generalize b[i]'_ = y at hb
    have ga := sumBy_get (f := GOwned.cost) ha
    have gb := sumBy_get (f := GOwned.cost) hb
    refine W_seq (W_block (W_seq ?_))
    refine u_12 (Y2 ha hb) (Z1 (eqOwned_g x y (by omega) (by omega))) ?_
    refine W_cond rfl (fun h2 => W_seq ?_) (fun h2 => W_skip ?_)
    · refine u_3 ?_
      have : decide (a = b) = false := by rw [decide_eq_false_iff_not]; intro e; subst e; rw [ha] at hb; cases hb; simp at h2
      exact u_4
    refine u_3 ?_
    have hxy : x = y := by simpa using h2
    subst hxy
    exact ⟨a.length - (i + 1), by omega, i + 1, rfl, h, take_succ_eq he ha hb, by simp [gc, closeN, liveA, gcV, gcO, renA, namesAs, namesA]; rw [wrap_id (by omega) (by omega)]⟩
  · simp at h
    rw [if_pos rfl]
    refine u_1 ?_
    have : decide (a = b) = true := by
      rw [decide_eq_true_iff]
      rwa [List.take_of_length_le h, List.take_of_length_le (by omega)] at he
    exact u_4
theorem markOwnedS_g (a : List GOwned) (k : Int) (hx : a.length + sumBy GOwned.cost a ≤ 1099511627776) (hk : 0 ≤ k ∧ k + (sumBy GOwned.marks a : Nat) ≤ 140737488355328) :
    Valid PP GG 74 [.own 0 2 (rOwned a), .d (.int .i64 k)] (.d (.int .i64 (k + (sumBy GOwned.marks a : Nat)))) [some (.own 0 2 (rOwned (markL GOwned.mark GOwned.marks a k))), none] := by
  refine cv Tryz.func74 [.d (.int .i64 (k + (sumBy GOwned.marks a : Nat)))] ?_
  have hml := sumBy_le GOwned.marks_le a
  refine u_1 ?_
  refine u_2 ?_
  refine W_block (W_loop (fun n st => ∃ (i : Nat) (R : List (List D)) (q : Int), n = a.length - i ∧ i ≤ a.length ∧ R = rOwned (markL GOwned.mark GOwned.marks (a.take i) k ++ a.drop i) ∧ q = k + (sumBy GOwned.marks (a.take i) : Nat) ∧
    st = ⟨[], [(0, .sl 0), (1, .d (.int .i64 q)), (5, .d (.int .i64 i))], [(0, .arr 0 0 2 R)], 1⟩) _ ⟨0, rOwned a, k, rfl, by omega, rfl, by simp [sumBy], by simp [gc, closeN, liveA, gcV, gcO, renA, renO, namesAs, namesA, namesO, posn]⟩ ?_)
  rintro n st ⟨i, R, q, rfl, hi, hR, hq, rfl⟩
  have hl : R.length = a.length := by rw [hR]; simp [markL_len]; omega
  refine u_2 ?_
  refine W_cond rfl (fun h => W_skip ?_) (fun h => W_exit ?_)
  · simp [hl] at h
    have ha := List.getElem?_eq_getElem h
    generalize a[i] = x at ha
    have hg := sumBy_get (f := GOwned.cost) ha
    have hs := sumBy_succ (f := GOwned.marks) ha
    have ht := sumBy_take GOwned.marks a (i + 1)
    have hsucc : R.set i (x.mark q).row = rOwned (markL GOwned.mark GOwned.marks (a.take (i + 1)) k ++ a.drop (i + 1)) := by
      rw [hR, drop_get ha, rOwned_app]
      show (rOwned (markL GOwned.mark GOwned.marks (a.take i) k) ++ x.row :: rOwned (a.drop (i + 1))).set i (x.mark q).row = _
      rw [set_mid (by simp [markL_len]; omega), markL_succ k ha, rOwned_app, rOwned_app, hq]; rfl
    have hd : R[i]? = some x.row := by
      rw [hR, drop_get ha, rOwned_app]
      exact mid_get (by simp [markL_len]; omega)
    have hset := fun y => set_get hd y
    have hme : x.mark q = { fLease := q, fName := markT (q + 1) } := rfl
    have hms : x.marks = 1 + 1 := rfl
    have hco : x.cost = x.fName.length := rfl
    clear hR
    refine W_seq (W_block (W_seq ?_))
    simp only [GOwned.row] at hd
    refine u_7 (Y3 hd hset hl) ?_
    obtain ⟨q1, hq1⟩ : ∃ z : Int, q + 1 = z := ⟨_, rfl⟩
    have wq1 : IntKind.i64.wrap (q + 1) = q1 := by rw [wrap_id (by omega) (by omega)]; exact hq1
    refine u_13 wq1 ?_
    refine u_18 (Y3 hd hset hl) (Z1 (markText_ok q1 (by omega))) ?_
    obtain ⟨q2, hq2⟩ : ∃ z : Int, q1 + 1 = z := ⟨_, rfl⟩
    have wq2 : IntKind.i64.wrap (q1 + 1) = q2 := by rw [wrap_id (by omega) (by omega)]; exact hq2
    refine u_7 wq2 ?_
    refine u_3 ?_
    refine ⟨a.length - (i + 1), by omega, i + 1, R.set i (x.mark q).row, q2, rfl, h, hsucc, by omega, ?_⟩
    simp [gc, closeN, liveA, gcV, gcO, renA, renO, namesAs, namesA, namesO, posn]
    refine ⟨wrap_id (by omega) (by omega), ?_⟩
    simp only [hme, hq1, hq2]
  · simp [hl] at h
    have e : R = rOwned (markL GOwned.mark GOwned.marks a k) := by
      rw [List.take_of_length_le h, List.drop_eq_nil_of_le h] at hR; simpa using hR
    rw [List.take_of_length_le h] at hq
    subst e
    rw [if_pos rfl]
    refine u_1 ?_
    subst hq
    exact u_8
theorem heldOwnedS_g (a : List GOwned) (k : Int) (hx : a.length + sumBy GOwned.cost a ≤ 1099511627776) (hk : 0 ≤ k ∧ k + (sumBy GOwned.marks a : Nat) ≤ 140737488355328) :
    Valid PP GG 91 [.d (.slc 2 (rOwned (markL GOwned.mark GOwned.marks a k))), .d (.int .i64 k)] (.d (.int .i64 (k + (sumBy GOwned.marks a : Nat)))) [none, none] := by
  refine cv Tryz.func91 [.d (.int .i64 (k + (sumBy GOwned.marks a : Nat)))] ?_
  have hl : (rOwned (markL GOwned.mark GOwned.marks a k)).length = a.length := by simp [markL_len]
  have hget : ∀ (i : Nat) x, a[i]? = some x → (rOwned (markL GOwned.mark GOwned.marks a k))[i]? = some (x.mark (k + (sumBy GOwned.marks (a.take i) : Nat))).row := fun i x h => by rw [rOwned_get, markL_get k h]; rfl
  generalize rOwned (markL GOwned.mark GOwned.marks a k) = B at hl hget ⊢
  refine u_1 ?_
  refine u_2 ?_
  refine W_block (W_loop (fun n st => ∃ (i : Nat) (q : Int), n = a.length - i ∧ i ≤ a.length ∧ q = k + (sumBy GOwned.marks (a.take i) : Nat) ∧
    st = ⟨[], [(0, .d (.slc 2 B)), (1, .d (.int .i64 q)), (5, .d (.int .i64 i))], [], 0⟩) _ ⟨0, k, rfl, by omega, by simp [sumBy], by simp [gc, closeN, liveA, gcV, gcO, renA, renO, namesAs, namesA, namesO, posn]⟩ ?_)
  rintro n st ⟨i, q, rfl, hi, hq, rfl⟩
  refine u_2 ?_
  refine W_cond rfl (fun h => W_skip ?_) (fun h => W_exit ?_)
  · simp [hl] at h
    have ha := List.getElem?_eq_getElem h
    generalize a[i] = x at ha
    have hg := sumBy_get (f := GOwned.cost) ha
    have hs := sumBy_succ (f := GOwned.marks) ha
    have ht := sumBy_take GOwned.marks a (i + 1)
    have hd := hget i x ha
    rw [← hq] at hd
    have hco : x.cost = x.fName.length := rfl
    have hms : x.marks = 1 + 1 := rfl
    simp only [GOwned.row, GOwned.mark] at hd
    refine W_seq (W_block ?_)
    refine u_20 (Y2 hd hl) ?_
    refine W_cond rfl (fun h4 => ?_) (fun h4 => W_skip ?_)
    · simp at h4
    obtain ⟨q1, hq1⟩ : ∃ z : Int, q + 1 = z := ⟨_, rfl⟩
    have wq1 : IntKind.i64.wrap (q + 1) = q1 := by rw [wrap_id (by omega) (by omega)]; exact hq1
    refine u_13 wq1 ?_
    simp only [hq1] at hd
    refine u_21 (Y2 hd hl) (Z1 (markText_ok q1 (by omega))) ?_
    refine W_cond rfl (fun h4 => ?_) (fun h4 => W_skip ?_)
    · simp at h4
    obtain ⟨q2, hq2⟩ : ∃ z : Int, q1 + 1 = z := ⟨_, rfl⟩
    have wq2 : IntKind.i64.wrap (q1 + 1) = q2 := by rw [wrap_id (by omega) (by omega)]; exact hq2
    refine u_7 wq2 ?_
    refine u_3 ?_
    refine ⟨a.length - (i + 1), by omega, i + 1, q2, rfl, h, by omega, ?_⟩
    simp [gc, closeN, liveA, gcV, gcO, renA, renO, namesAs, namesA, namesO, posn]
    rw [wrap_id (by omega) (by omega)]
  · simp [hl] at h
    rw [List.take_of_length_le h] at hq
    rw [if_pos rfl]
    refine u_1 ?_
    subst hq
    exact u_8
theorem szWorld_g (x : GWorld) (l : Int) (hx : x.ok) (h0 : 0 ≤ l ∧ l ≤ 1048576) : Valid PP GG 11 [.agg x.c, .d (.int .i64 l)] (.d (.int .i64 (leftR x.cost l))) [none, none] := by
  refine cv Tryz.func11 [.d (.int .i64 (leftR x.cost l))] ?_
  have hco : x.cost = x.fForest.cost + x.fBook.cost + x.fFar.cost + x.fQueue.cost + (x.fOwned.length + sumBy GOwned.cost x.fOwned) := rfl
  unfold GWorld.ok maxLen at hx
  obtain ⟨okNow0, okNext0, okLost0, okForest0, okBook0, okFar0, okQueue0, okOwned0, okOwned1⟩ := hx
  generalize x.cost = co at hco
  refine u_1 ?_
  have ct := szForest_g (GG := GG) x.fForest l okForest0 ⟨by omega, by omega⟩
  obtain ⟨l1, el1⟩ : ∃ z : Int, leftR x.fForest.cost l = z := ⟨_, rfl⟩
  rw [el1] at ct
  refine u_14 (Z1 ct) ?_
  clear ct
  refine u_2 ?_
  refine W_cond rfl (fun hh0 => W_seq ?_) (fun hh0 => W_skip ?_)
  · refine u_3 ?_
    simp at hh0
    rw [← el1] at hh0
    have hn := leftR_neg (by omega) hh0
    have : leftR co l = -1 := leftR_no (by omega)
    exact u_4
  simp at hh0
  rw [← el1] at hh0
  obtain ⟨gl1, jl1⟩ := leftR_pos (Int.not_lt.2 hh0)
  rw [el1] at jl1 hh0
  have ct := szBook_g (GG := GG) x.fBook l1 okBook0 ⟨by omega, by omega⟩
  obtain ⟨l2, el2⟩ : ∃ z : Int, leftR x.fBook.cost l1 = z := ⟨_, rfl⟩
  rw [el2] at ct
  refine u_14 (Z1 ct) ?_
  clear ct
  refine u_2 ?_
  refine W_cond rfl (fun hh1 => W_seq ?_) (fun hh1 => W_skip ?_)
  · refine u_3 ?_
    simp at hh1
    rw [← el2] at hh1
    have hn := leftR_neg (by omega) hh1
    have : leftR co l = -1 := leftR_no (by omega)
    exact u_4
  simp at hh1
  rw [← el2] at hh1
  obtain ⟨gl2, jl2⟩ := leftR_pos (Int.not_lt.2 hh1)
  rw [el2] at jl2 hh1
  have ct := szFar_g (GG := GG) x.fFar l2 okFar0 ⟨by omega, by omega⟩
  obtain ⟨l3, el3⟩ : ∃ z : Int, leftR x.fFar.cost l2 = z := ⟨_, rfl⟩
  rw [el3] at ct
  refine u_14 (Z1 ct) ?_
  clear ct
  refine u_2 ?_
  refine W_cond rfl (fun hh2 => W_seq ?_) (fun hh2 => W_skip ?_)
  · refine u_3 ?_
    simp at hh2
    rw [← el3] at hh2
    have hn := leftR_neg (by omega) hh2
    have : leftR co l = -1 := leftR_no (by omega)
    exact u_4
  simp at hh2
  rw [← el3] at hh2
  obtain ⟨gl3, jl3⟩ := leftR_pos (Int.not_lt.2 hh2)
  rw [el3] at jl3 hh2
  have ct := szQueue_g (GG := GG) x.fQueue l3 okQueue0 ⟨by omega, by omega⟩
  obtain ⟨l4, el4⟩ : ∃ z : Int, leftR x.fQueue.cost l3 = z := ⟨_, rfl⟩
  rw [el4] at ct
  refine u_14 (Z1 ct) ?_
  clear ct
  refine u_2 ?_
  refine W_cond rfl (fun hh3 => W_seq ?_) (fun hh3 => W_skip ?_)
  · refine u_3 ?_
    simp at hh3
    rw [← el4] at hh3
    have hn := leftR_neg (by omega) hh3
    have : leftR co l = -1 := leftR_no (by omega)
    exact u_4
  simp at hh3
  rw [← el4] at hh3
  obtain ⟨gl4, jl4⟩ := leftR_pos (Int.not_lt.2 hh3)
  rw [el4] at jl4 hh3
  have ct := szOwnedS_g (GG := GG) x.fOwned l4 (by unfold maxLen; omega) okOwned1 ⟨by omega, by omega⟩
  obtain ⟨l5, el5⟩ : ∃ z : Int, leftR (x.fOwned.length + sumBy GOwned.cost x.fOwned) l4 = z := ⟨_, rfl⟩
  rw [el5] at ct
  refine u_14 (Z1 ct) ?_
  clear ct
  refine u_2 ?_
  refine W_cond rfl (fun hh4 => W_seq ?_) (fun hh4 => W_skip ?_)
  · refine u_3 ?_
    simp at hh4
    rw [← el5] at hh4
    have hn := leftR_neg (by omega) hh4
    have : leftR co l = -1 := leftR_no (by omega)
    exact u_4
  simp at hh4
  rw [← el5] at hh4
  obtain ⟨gl5, jl5⟩ := leftR_pos (Int.not_lt.2 hh4)
  rw [el5] at jl5 hh4
  refine u_1 ?_
  have : leftR co l = l5 := by rw [leftR_yes (by omega)]; omega
  exact u_4
theorem toWorld_g (x : GWorld) (hx : x.cost ≤ 1099511627776) : Valid PP GG 13 [.agg x.c] (.agg x.o) [none] := by
  refine cv Tryz.func13 [.agg x.o] ?_
  have hco : x.cost = x.fForest.cost + x.fBook.cost + x.fFar.cost + x.fQueue.cost + (x.fOwned.length + sumBy GOwned.cost x.fOwned) := rfl
  refine u_1 ?_
  refine u_1 ?_
  refine u_1 ?_
  refine u_1 ?_
  refine u_1 ?_
  refine u_14 (Z1 (toForest_g x.fForest (by omega))) ?_
  refine u_14 (Z1 (toBook_g x.fBook (by omega))) ?_
  refine u_14 (Z1 (toFar_g x.fFar (by omega))) ?_
  refine u_14 (Z1 (toQueue_g x.fQueue (by omega))) ?_
  refine u_14 (Z1 (toOwnedS_g x.fOwned (by omega))) ?_
  refine u_1 ?_
  exact u_8
theorem eqWorld_g (x y : GWorld) (hx : x.cost ≤ 1099511627776) (hy : y.cost ≤ 1099511627776) : Valid PP GG 15 [.agg x.c, .agg y.c] (.d (.bool (decide (x = y)))) [none, none] := by
  refine cv Tryz.func15 [.d (.bool (decide (x = y)))] ?_
  have hcx : x.cost = x.fForest.cost + x.fBook.cost + x.fFar.cost + x.fQueue.cost + (x.fOwned.length + sumBy GOwned.cost x.fOwned) := rfl
  have hcy : y.cost = y.fForest.cost + y.fBook.cost + y.fFar.cost + y.fQueue.cost + (y.fOwned.length + sumBy GOwned.cost y.fOwned) := rfl
  refine u_1 ?_
  refine u_2 ?_
  refine W_cond rfl (fun h => W_seq ?_) (fun h0 => W_skip ?_)
  · refine u_3 ?_
    have : decide (x = y) = false := by rw [decide_eq_false_iff_not]; intro e; rw [e] at h; simp at h
    exact u_4
  refine u_2 ?_
  refine W_cond rfl (fun h => W_seq ?_) (fun h1 => W_skip ?_)
  · refine u_3 ?_
    have : decide (x = y) = false := by rw [decide_eq_false_iff_not]; intro e; rw [e] at h; simp at h
    exact u_4
  refine u_2 ?_
  refine W_cond rfl (fun h => W_seq ?_) (fun h2 => W_skip ?_)
  · refine u_3 ?_
    have : decide (x = y) = false := by rw [decide_eq_false_iff_not]; intro e; rw [e] at h; simp at h
    exact u_4
  refine u_15 (Z1 (eqForest_g x.fForest y.fForest (by omega) (by omega))) ?_
  refine W_cond rfl (fun h => W_seq ?_) (fun h3 => W_skip ?_)
  · refine u_3 ?_
    have : decide (x = y) = false := by rw [decide_eq_false_iff_not]; intro e; rw [e] at h; simp at h
    exact u_4
  refine u_15 (Z1 (eqBook_g x.fBook y.fBook (by omega) (by omega))) ?_
  refine W_cond rfl (fun h => W_seq ?_) (fun h4 => W_skip ?_)
  · refine u_3 ?_
    have : decide (x = y) = false := by rw [decide_eq_false_iff_not]; intro e; rw [e] at h; simp at h
    exact u_4
  refine u_15 (Z1 (eqFar_g x.fFar y.fFar (by omega) (by omega))) ?_
  refine W_cond rfl (fun h => W_seq ?_) (fun h5 => W_skip ?_)
  · refine u_3 ?_
    have : decide (x = y) = false := by rw [decide_eq_false_iff_not]; intro e; rw [e] at h; simp at h
    exact u_4
  refine u_15 (Z1 (eqQueue_g x.fQueue y.fQueue (by omega) (by omega))) ?_
  refine W_cond rfl (fun h => W_seq ?_) (fun h6 => W_skip ?_)
  · refine u_3 ?_
    have : decide (x = y) = false := by rw [decide_eq_false_iff_not]; intro e; rw [e] at h; simp at h
    exact u_4
  refine u_15 (Z1 (eqOwnedS_g x.fOwned y.fOwned (by omega) (by omega))) ?_
  refine W_cond rfl (fun h => W_seq ?_) (fun h7 => W_skip ?_)
  · refine u_3 ?_
    have : decide (x = y) = false := by rw [decide_eq_false_iff_not]; intro e; rw [e] at h; simp at h
    exact u_4
  refine u_1 ?_
  have : decide (x = y) = true := by
    rw [decide_eq_true_iff]
    cases x; cases y
    simp at h0 h1 h2 h3 h4 h5 h6 h7
    simp_all
  exact u_4
theorem markWorld_g (x : GWorld) (k : Int) (hx : x.cost ≤ 1099511627776) (hk : 0 ≤ k ∧ k + (x.marksIn : Nat) ≤ 140737488355328) :
    Valid PP GG 19 [.agg x.o, .d (.int .i64 k)] (.d (.int .i64 (k + (x.marksIn : Nat)))) [some (.agg (x.markIn k).o), none] := by
  refine cv Tryz.func19 [.d (.int .i64 (k + (x.marksIn : Nat)))] ?_
  have hco : x.cost = x.fForest.cost + x.fBook.cost + x.fFar.cost + x.fQueue.cost + (x.fOwned.length + sumBy GOwned.cost x.fOwned) := rfl
  have hms : x.marksIn = x.fForest.marksIn + x.fBook.marksIn + x.fFar.marksIn + x.fQueue.marksIn + sumBy GOwned.marks x.fOwned := rfl
  refine u_1 ?_
  have ct := markForest_g (GG := GG) x.fForest k (by omega) (by omega)
  refine u_14 (Z1 ct) ?_
  have ct := markBook_g (GG := GG) x.fBook (k + ((x.fForest.marksIn : Nat) : Int)) (by omega) (by omega)
  refine u_14 (Z1 ct) ?_
  have ct := markFar_g (GG := GG) x.fFar ((k + ((x.fForest.marksIn : Nat) : Int)) + ((x.fBook.marksIn : Nat) : Int)) (by omega) (by omega)
  refine u_14 (Z1 ct) ?_
  have ct := markQueue_g (GG := GG) x.fQueue (((k + ((x.fForest.marksIn : Nat) : Int)) + ((x.fBook.marksIn : Nat) : Int)) + ((x.fFar.marksIn : Nat) : Int)) (by omega) (by omega)
  refine u_14 (Z1 ct) ?_
  have ct := markOwnedS_g (GG := GG) x.fOwned ((((k + ((x.fForest.marksIn : Nat) : Int)) + ((x.fBook.marksIn : Nat) : Int)) + ((x.fFar.marksIn : Nat) : Int)) + ((x.fQueue.marksIn : Nat) : Int)) (by omega) (by omega)
  refine u_14 (Z1 ct) ?_
  refine u_1 ?_
  have hfin : (((((k + ((x.fForest.marksIn : Nat) : Int)) + ((x.fBook.marksIn : Nat) : Int)) + ((x.fFar.marksIn : Nat) : Int)) + ((x.fQueue.marksIn : Nat) : Int)) + ((sumBy GOwned.marks x.fOwned : Nat) : Int)) = k + (x.marksIn : Nat) := by omega
  simp only [GWorld.markIn, GForest.markIn, GBook.markIn, GFar.markIn, GQueue.markIn]
  exact u_10 hfin
theorem heldWorld_g (x : GWorld) (k : Int) (hx : x.cost ≤ 1099511627776) (hk : 0 ≤ k ∧ k + (x.marksIn : Nat) ≤ 140737488355328) :
    Valid PP GG 29 [.agg (x.markIn k).c, .d (.int .i64 k)] (.d (.int .i64 (k + (x.marksIn : Nat)))) [none, none] := by
  refine cv Tryz.func29 [.d (.int .i64 (k + (x.marksIn : Nat)))] ?_
  have hco : x.cost = x.fForest.cost + x.fBook.cost + x.fFar.cost + x.fQueue.cost + (x.fOwned.length + sumBy GOwned.cost x.fOwned) := rfl
  have hms : x.marksIn = x.fForest.marksIn + x.fBook.marksIn + x.fFar.marksIn + x.fQueue.marksIn + sumBy GOwned.marks x.fOwned := rfl
  simp only [GWorld.markIn, GForest.markIn, GBook.markIn, GFar.markIn, GQueue.markIn]
  refine u_1 ?_
  have ct := heldForest_g (GG := GG) x.fForest k (by omega) (by omega)
  simp only [GForest.markIn] at ct
  refine u_14 (Z1 ct) ?_
  refine u_2 ?_
  refine W_cond rfl (fun h => ?_) (fun h => W_skip ?_)
  · simp at h; omega
  have ct := heldBook_g (GG := GG) x.fBook (k + ((x.fForest.marksIn : Nat) : Int)) (by omega) (by omega)
  simp only [GBook.markIn] at ct
  refine u_14 (Z1 ct) ?_
  refine u_2 ?_
  refine W_cond rfl (fun h => ?_) (fun h => W_skip ?_)
  · simp at h; omega
  have ct := heldFar_g (GG := GG) x.fFar ((k + ((x.fForest.marksIn : Nat) : Int)) + ((x.fBook.marksIn : Nat) : Int)) (by omega) (by omega)
  simp only [GFar.markIn] at ct
  refine u_14 (Z1 ct) ?_
  refine u_2 ?_
  refine W_cond rfl (fun h => ?_) (fun h => W_skip ?_)
  · simp at h; omega
  have ct := heldQueue_g (GG := GG) x.fQueue (((k + ((x.fForest.marksIn : Nat) : Int)) + ((x.fBook.marksIn : Nat) : Int)) + ((x.fFar.marksIn : Nat) : Int)) (by omega) (by omega)
  simp only [GQueue.markIn] at ct
  refine u_14 (Z1 ct) ?_
  refine u_2 ?_
  refine W_cond rfl (fun h => ?_) (fun h => W_skip ?_)
  · simp at h; omega
  have ct := heldOwnedS_g (GG := GG) x.fOwned ((((k + ((x.fForest.marksIn : Nat) : Int)) + ((x.fBook.marksIn : Nat) : Int)) + ((x.fFar.marksIn : Nat) : Int)) + ((x.fQueue.marksIn : Nat) : Int)) (by omega) (by omega)
  refine u_14 (Z1 ct) ?_
  refine u_2 ?_
  refine W_cond rfl (fun h => ?_) (fun h => W_skip ?_)
  · simp at h; omega
  refine u_1 ?_
  have hfin : (((((k + ((x.fForest.marksIn : Nat) : Int)) + ((x.fBook.marksIn : Nat) : Int)) + ((x.fFar.marksIn : Nat) : Int)) + ((x.fQueue.marksIn : Nat) : Int)) + ((sumBy GOwned.marks x.fOwned : Nat) : Int)) = k + (x.marksIn : Nat) := by omega
  exact u_10 hfin
@[simp] theorem binA_strgeq (s t : List UInt8) : binA .str .geq (.d (.str s)) (.d (.str t)) = out (.d (.bool (!(Go.Op.bytesLess s t)))) := id rfl
@[simp] theorem binA_strlss (s t : List UInt8) : binA .str .lss (.d (.str s)) (.d (.str t)) = out (.d (.bool (Go.Op.bytesLess s t))) := id rfl
@[simp] theorem binA_strleq (s t : List UInt8) : binA .str .leq (.d (.str s)) (.d (.str t)) = out (.d (.bool (Go.Op.bytesLess s t || s == t))) := id rfl
@[simp] theorem binA_strgtr (s t : List UInt8) : binA .str .gtr (.d (.str s)) (.d (.str t)) = out (.d (.bool (!(Go.Op.bytesLess s t || s == t)))) := id rfl
def okP {α : Type} (q : List α → α → Bool) : List α → List α → Bool
  | _, [] => true
  | pre, x :: r => q pre x && okP q (pre ++ [x]) r
theorem okP_app {α : Type} (q : List α → α → Bool) (b : List α) : ∀ (a pre : List α), okP q pre (a ++ b) = (okP q pre a && okP q (pre ++ a) b) := by
  intro a
  induction a with
  | nil => intro pre; simp [okP]
  | cons x a ih => intro pre; simp [okP, ih, Bool.and_assoc]
theorem okP_step {α : Type} {q : List α → α → Bool} {l : List α} {i : Nat} {x : α} (h : l[i]? = some x) : okP q [] (l.take (i + 1)) = (okP q [] (l.take i) && q (l.take i) x) := by
  rw [List.take_add_one, h, okP_app]
  simp [okP]
theorem okP_bad {α : Type} {q : List α → α → Bool} {l : List α} {i : Nat} {x : α} (h : l[i]? = some x) (hq : q (l.take i) x = false) : okP q [] l = false := by
  have e : l = l.take i ++ (x :: l.drop (i + 1)) := by rw [← drop_get h, List.take_append_drop]
  rw [e, okP_app]
  simp only [okP, List.nil_append, hq, Bool.false_and, Bool.and_false]
def adjB {α : Type} (lt : α → α → Bool) (pre : List α) (x : α) : Bool := match pre.getLast? with | none => true | some p => lt p x
theorem adj_zero {α : Type} (lt : α → α → Bool) (l : List α) (x : α) : adjB lt (l.take 0) x = true := by simp [adjB]
theorem adj_succ {α : Type} (lt : α → α → Bool) {l : List α} {j : Nat} {p : α} (h : l[j]? = some p) (x : α) : adjB lt (l.take (j + 1)) x = lt p x := by
  unfold adjB
  rw [List.take_add_one, h]
  simp
theorem adj_pos {α : Type} (lt : α → α → Bool) {l : List α} {i : Nat} {p : α} (h0 : 0 < i) (h : l[i - 1]? = some p) (x : α) : adjB lt (l.take i) x = lt p x := by
  obtain ⟨j, rfl⟩ : ∃ j, i = j + 1 := ⟨i - 1, by omega⟩
  exact adj_succ lt h x
def nameQ (pre : List (List UInt8)) (x : List UInt8) : Bool := nameOk x && adjB (fun p x => Go.Op.bytesLess p x) pre x
def namesOk (l : List (List UInt8)) : Bool := decide (l.length ≤ 6) && okP nameQ [] l
theorem strs_get (l : List (List UInt8)) (i : Nat) : (strsD l)[i]? = (l[i]?).map fun s => [.str s] := by simp [strsD]
theorem areNames_ok (l : List (List UInt8)) (hl : l.length ≤ 1048576) (hs : ∀ s, s ∈ l → s.length ≤ 1048576) : Valid PP GG 222 [.d (.slc 1 (strsD l))] (.d (.bool (namesOk l))) [none] := by
  refine cv Tryz.func222 [.d (.bool (namesOk l))] ?_
  have hind := ind_strs l
  have hsl : (strsD l).length = l.length := by simp [strsD]
  refine u_23 hsl ?_
  refine W_loop (fun n st => ∃ i : Nat, n = l.length - i ∧ i ≤ l.length ∧ okP nameQ [] (l.take i) = true ∧ st = ⟨[], [(0, .d (.slc 1 (strsD l))), (5, .d (.slc 1 (strsD l))), (6, .d (.int .i64 l.length)), (7, .d (.int .i64 i))], [], 0⟩) _ ⟨0, rfl, by omega, rfl, ?_⟩ ?_
  · exact u_24
  rintro n st ⟨i, rfl, hi, hok, rfl⟩
  by_cases hlt : i < l.length
  · have ha := List.getElem?_eq_getElem hlt
    generalize l[i] = x at ha
    have cn := isName_ok (GG := GG) x (by have := hs x (List.mem_of_getElem? ha); omega)
    have hst := okP_step (q := nameQ) ha
    have hbad := fun h => okP_bad (q := nameQ) ha h
    rw [hok, Bool.true_and] at hst
    unfold nameQ at hst hbad
    cases hnx : nameOk x with
    | false =>
      rw [hnx] at cn hbad
      have hb : namesOk l = false := by unfold namesOk nameQ; rw [hbad rfl]; simp
      rw [hb]
      exact u_25 ha (Z1 cn)
    | true =>
      rw [hnx] at cn hst hbad
      simp only [Bool.true_and] at hst hbad
      by_cases h0 : i = 0
      · subst h0
        rw [adj_zero] at hst
        refine u_26 ha (Z1 cn) ?_
        refine ⟨l.length - (0 + 1), by omega, 1, rfl, by omega, hst, ?_⟩
        refine u_27 ?_
        exact wrap_id (by omega) (by omega)
      · have hp := List.getElem?_eq_getElem (show i - 1 < l.length by omega)
        generalize l[i - 1]'_ = p at hp
        rw [adj_pos _ (by omega) hp] at hst hbad
        have hpi : 0 < i := by omega
        have hw1 : IntKind.i64.wrap ((i : Int) - 1) = ((i - 1 : Nat) : Int) := by rw [wrap_id (by omega) (by omega)]; omega
        cases hb : Go.Op.bytesLess p x with
        | true =>
          rw [hb] at hst
          refine u_26 (Y5 ha hp hpi hw1 hb) (Z1 cn) ?_
          refine ⟨l.length - (i + 1), by omega, i + 1, rfl, by omega, hst, ?_⟩
          refine u_27 ?_
          exact wrap_id (by omega) (by omega)
        | false =>
          have hbf : namesOk l = false := by unfold namesOk nameQ; rw [hbad hb]; simp
          rw [hbf]
          exact u_25 (Y5 ha hp hpi hw1 hb) (Z1 cn)
  · have hie : i = l.length := by omega
    subst hie
    rw [List.take_length] at hok
    have : namesOk l = decide ((l.length : Int) ≤ 6) := by unfold namesOk; rw [hok, Bool.and_true]; exact decide_eq_decide.2 (by omega)
    rw [this]
    exact u_22 hsl
theorem s_l08Names_ok (l : List (List UInt8)) (hl : l.length ≤ 1048576) (hs : ∀ s, s ∈ l → s.length ≤ 1048576) : Valid PP GG 185 [.d (.slc 1 (strsD l))] (.d (.bool (namesOk l))) [none] := by
  refine cv Tryz.func185 [.d (.bool (namesOk l))] ?_
  have hind := ind_strs l
  have hsl : (strsD l).length = l.length := by simp [strsD]
  by_cases h6 : l.length ≤ 6
  rotate_left
  · have hb : namesOk l = false := by unfold namesOk; rw [decide_eq_false h6, Bool.false_and]
    rw [hb]
    have hd : 6 < l.length := by omega
    exact u_22 (Y2 hsl hd)
  have hd : ¬ 6 < l.length := by omega
  refine u_23 (Y2 hsl hd) ?_
  refine W_loop (fun n st => ∃ i : Nat, n = l.length - i ∧ i ≤ l.length ∧ okP nameQ [] (l.take i) = true ∧ st = ⟨[], [(0, .d (.slc 1 (strsD l))), (3, .d (.int .i64 i))], [], 0⟩) _ ⟨0, rfl, by omega, rfl, ?_⟩ ?_
  · exact u_24
  rintro n st ⟨i, rfl, hi, hok, rfl⟩
  by_cases hlt : i < l.length
  · have ha := List.getElem?_eq_getElem hlt
    generalize l[i] = x at ha
    have cn := l01Name_ok (GG := GG) x (by have := hs x (List.mem_of_getElem? ha); omega)
    have hst := okP_step (q := nameQ) ha
    have hbad := fun h => okP_bad (q := nameQ) ha h
    rw [hok, Bool.true_and] at hst
    unfold nameQ at hst hbad
    cases hnx : nameOk x with
    | false =>
      rw [hnx] at cn hbad
      have hb : namesOk l = false := by unfold namesOk nameQ; rw [hbad rfl]; simp
      rw [hb]
      exact u_25 (Y2 ha hsl) (Z1 cn)
    | true =>
      rw [hnx] at cn hst hbad
      simp only [Bool.true_and] at hst hbad
      by_cases h0 : i = 0
      · subst h0
        rw [adj_zero] at hst
        refine u_26 (Y2 ha hsl) (Z1 cn) ?_
        refine ⟨l.length - (0 + 1), by omega, 1, rfl, by omega, hst, ?_⟩
        refine u_27 ?_
        exact wrap_id (by omega) (by omega)
      · have hp := List.getElem?_eq_getElem (show i - 1 < l.length by omega)
        generalize l[i - 1]'_ = p at hp
        rw [adj_pos _ (by omega) hp] at hst hbad
        have hpi : 0 < i := by omega
        have hw1 : IntKind.i64.wrap ((i : Int) - 1) = ((i - 1 : Nat) : Int) := by rw [wrap_id (by omega) (by omega)]; omega
        cases hb : Go.Op.bytesLess p x with
        | true =>
          rw [hb] at hst
          refine u_26 (Y6 ha hp hsl hpi hw1 hb) (Z1 cn) ?_
          refine ⟨l.length - (i + 1), by omega, i + 1, rfl, by omega, hst, ?_⟩
          refine u_27 ?_
          exact wrap_id (by omega) (by omega)
        | false =>
          have hbf : namesOk l = false := by unfold namesOk nameQ; rw [hbad hb]; simp
          rw [hbf]
          exact u_25 (Y6 ha hp hsl hpi hw1 hb) (Z1 cn)
  · have hie : i = l.length := by omega
    subst hie
    rw [List.take_length] at hok
    have : namesOk l = true := by unfold namesOk; rw [hok, decide_eq_true h6]; rfl
    rw [this]
    exact u_22 hsl
def tokenB (t : GToken) : Bool := inB t.fId 1 1000000000 && inB t.fParent 0 (t.fId - 1) && namesOk t.fNames && inB t.fMade 0 1000000000 &&
  (decide (t.fEnds = 0) || inB t.fEnds (t.fMade + 1) 1000000000) &&
  (decide (t.fLimit = 0) || (inB t.fLimit (t.fMade + 1) 1000000000 && !decide (t.fEnds = 0) && decide (t.fEnds ≤ t.fLimit))) && inB t.fUses 0 1000
def fitT (t : GToken) : Prop := t.fNames.length ≤ 1048576 ∧ ∀ s, s ∈ t.fNames → s.length ≤ 1048576
theorem tokenB_wrap (t : GToken) : tokenB t = (inB t.fId 1 1000000000 && inB t.fParent 0 (IntKind.i64.wrap (t.fId - 1)) && namesOk t.fNames && inB t.fMade 0 1000000000 &&
  (decide (t.fEnds = 0) || inB t.fEnds (IntKind.i64.wrap (t.fMade + 1)) 1000000000) &&
  (decide (t.fLimit = 0) || (inB t.fLimit (IntKind.i64.wrap (t.fMade + 1)) 1000000000 && !decide (t.fEnds = 0) && decide (t.fEnds ≤ t.fLimit))) && inB t.fUses 0 1000) := by
  unfold tokenB
  cases h1 : inB t.fId 1 1000000000 with
  | false => simp
  | true =>
    cases h2 : inB t.fMade 0 1000000000 with
    | false => simp
    | true =>
      unfold inB at h1 h2
      simp only [Bool.and_eq_true, decide_eq_true_eq] at h1 h2
      rw [wrap_id (show _ ≤ t.fId - 1 by omega) (by omega), wrap_id (show _ ≤ t.fMade + 1 by omega) (by omega)]
theorem isToken_ok [MaxL GG] (x : GToken) (hx : fitT x) : Valid PP GG 191 [.agg x.c] (.d (.bool (tokenB x))) [none] := by
  refine cv Tryz.func191 [.d (.bool (tokenB x))] ?_
  have hr := tokenB_wrap x
  obtain ⟨x1, x2, x3, x4, x5, x6, x7⟩ := x
  dsimp only at hr
  have c1 : Valid PP GG 103 [.d (.int .i64 x1), .d (.int .i64 1), .d (.int .i64 1000000000)] (.d (.bool (inB x1 1 1000000000))) [none, none, none] := within_ok _ _ _
  have c2 : Valid PP GG 103 [.d (.int .i64 x2), .d (.int .i64 0), .d (.int .i64 (IntKind.i64.wrap (x1 - 1)))] (.d (.bool (inB x2 0 (IntKind.i64.wrap (x1 - 1))))) [none, none, none] := within_ok _ _ _
  have c3 := areNames_ok (GG := GG) x3 hx.1 hx.2
  have c4 : Valid PP GG 103 [.d (.int .i64 x4), .d (.int .i64 0), .d (.int .i64 1000000000)] (.d (.bool (inB x4 0 1000000000))) [none, none, none] := within_ok _ _ _
  have c5 : Valid PP GG 103 [.d (.int .i64 x5), .d (.int .i64 (IntKind.i64.wrap (x4 + 1))), .d (.int .i64 1000000000)] (.d (.bool (inB x5 (IntKind.i64.wrap (x4 + 1)) 1000000000))) [none, none, none] := within_ok _ _ _
  have c6 : Valid PP GG 103 [.d (.int .i64 x6), .d (.int .i64 (IntKind.i64.wrap (x4 + 1))), .d (.int .i64 1000000000)] (.d (.bool (inB x6 (IntKind.i64.wrap (x4 + 1)) 1000000000))) [none, none, none] := within_ok _ _ _
  have c7 : Valid PP GG 103 [.d (.int .i64 x7), .d (.int .i64 0), .d (.int .i64 1000)] (.d (.bool (inB x7 0 1000))) [none, none, none] := within_ok _ _ _
  have hind := ind_strs x3
  have q5 : (x5 == 0) = decide (x5 = 0) := rfl
  have q6 : (x6 == 0) = decide (x6 = 0) := rfl
  have q7 : (x5 != 0) = !decide (x5 = 0) := rfl
  generalize inB x1 1 1000000000 = p1 at *
  generalize inB x2 0 (IntKind.i64.wrap (x1 - 1)) = p2 at *
  generalize namesOk x3 = p3 at *
  generalize inB x4 0 1000000000 = p4 at *
  generalize inB x5 (IntKind.i64.wrap (x4 + 1)) 1000000000 = p5 at *
  generalize inB x6 (IntKind.i64.wrap (x4 + 1)) 1000000000 = p6 at *
  generalize inB x7 0 1000 = p7 at *
  generalize decide (x5 = 0) = e0 at *
  generalize decide (x6 = 0) = l0 at *
  obtain ⟨le, hle⟩ : ∃ le, decide (x5 ≤ x6) = le := ⟨_, rfl⟩
  rw [hle] at hr
  refine u_1 ?_
  refine u_28 (Y2 q5 q6) (Z1 c5) 3 (e0 || p5) ?_
  refine u_28 (Y4 q5 q6 q7 hle) (Z1 c6) 4 (l0 || (p6 && !e0 && le)) ?_
  refine u_19 (Z5 c1 c2 c3 c4 c7) 2 (p1 && p2 && p3 && p4 && (e0 || p5) && (l0 || (p6 && !e0 && le)) && p7) ?_
  exact u_10 hr
theorem tokenB_s (t : GToken) : tokenB t = (inB t.fId 1 1000000000 && decide (0 ≤ t.fParent) && decide (t.fParent < t.fId) && namesOk t.fNames && inB t.fMade 0 1000000000 && inB t.fUses 0 1000 &&
  (decide (t.fEnds = 0) || inB t.fEnds (IntKind.i64.wrap (t.fMade + 1)) 1000000000) &&
  (decide (t.fLimit = 0) || (inB t.fLimit (IntKind.i64.wrap (t.fMade + 1)) 1000000000 && !decide (t.fEnds = 0) && decide (t.fEnds ≤ t.fLimit)))) := by
  rw [tokenB_wrap]
  cases h1 : inB t.fId 1 1000000000 with
  | false => simp
  | true =>
    have h2 : inB t.fParent 0 (IntKind.i64.wrap (t.fId - 1)) = (decide (0 ≤ t.fParent) && decide (t.fParent < t.fId)) := by
      unfold inB at h1 ⊢
      simp only [Bool.and_eq_true, decide_eq_true_eq] at h1
      rw [wrap_id (show _ ≤ t.fId - 1 by omega) (by omega)]
      congr 1
      exact decide_eq_decide.2 (by omega)
    rw [h2]
    generalize inB t.fUses 0 1000 = a
    generalize (decide (t.fEnds = 0) || inB t.fEnds (IntKind.i64.wrap (t.fMade + 1)) 1000000000) = b
    generalize (decide (t.fLimit = 0) || (inB t.fLimit (IntKind.i64.wrap (t.fMade + 1)) 1000000000 && !decide (t.fEnds = 0) && decide (t.fEnds ≤ t.fLimit))) = c
    cases a <;> cases b <;> cases c <;> simp
theorem s_l08Token_ok [MaxL GG] (x : GToken) (hx : fitT x) : Valid PP GG 114 [.agg x.c] (.d (.bool (tokenB x))) [none] := by
  refine cv Tryz.func114 [.d (.bool (tokenB x))] ?_
  have hr := tokenB_s x
  obtain ⟨x1, x2, x3, x4, x5, x6, x7⟩ := x
  dsimp only at hr
  have c1 : Valid PP GG 49 [.d (.int .i64 x1), .d (.int .i64 1), .d (.int .i64 1000000000)] (.d (.bool (inB x1 1 1000000000))) [none, none, none] := l01In_ok _ _ _
  have c3 := s_l08Names_ok (GG := GG) x3 hx.1 hx.2
  have c4 : Valid PP GG 49 [.d (.int .i64 x4), .d (.int .i64 0), .d (.int .i64 1000000000)] (.d (.bool (inB x4 0 1000000000))) [none, none, none] := l01In_ok _ _ _
  have c5 : Valid PP GG 49 [.d (.int .i64 x5), .d (.int .i64 (IntKind.i64.wrap (x4 + 1))), .d (.int .i64 1000000000)] (.d (.bool (inB x5 (IntKind.i64.wrap (x4 + 1)) 1000000000))) [none, none, none] := l01In_ok _ _ _
  have c6 : Valid PP GG 49 [.d (.int .i64 x6), .d (.int .i64 (IntKind.i64.wrap (x4 + 1))), .d (.int .i64 1000000000)] (.d (.bool (inB x6 (IntKind.i64.wrap (x4 + 1)) 1000000000))) [none, none, none] := l01In_ok _ _ _
  have c7 : Valid PP GG 49 [.d (.int .i64 x7), .d (.int .i64 0), .d (.int .i64 1000)] (.d (.bool (inB x7 0 1000))) [none, none, none] := l01In_ok _ _ _
  have hind := ind_strs x3
  have q5 : (x5 == 0) = decide (x5 = 0) := rfl
  have q6 : (x6 == 0) = decide (x6 = 0) := rfl
  have q7 : (x5 != 0) = !decide (x5 = 0) := rfl
  generalize inB x1 1 1000000000 = p1 at *
  generalize namesOk x3 = p3 at *
  generalize inB x4 0 1000000000 = p4 at *
  generalize inB x5 (IntKind.i64.wrap (x4 + 1)) 1000000000 = p5 at *
  generalize inB x6 (IntKind.i64.wrap (x4 + 1)) 1000000000 = p6 at *
  generalize inB x7 0 1000 = p7 at *
  generalize decide (x5 = 0) = e0 at *
  generalize decide (x6 = 0) = l0 at *
  obtain ⟨le, hle⟩ : ∃ le, decide (x5 ≤ x6) = le := ⟨_, rfl⟩
  obtain ⟨a, ha⟩ : ∃ a, decide (0 ≤ x2) = a := ⟨_, rfl⟩
  obtain ⟨b, hb⟩ : ∃ b, decide (x2 < x1) = b := ⟨_, rfl⟩
  have ha2 : decide (x2 < 0) = !a := by rw [← ha, ← decide_not]; exact decide_eq_decide.2 (by omega)
  have hb2 : decide (x1 ≤ x2) = !b := by rw [← hb, ← decide_not]; exact decide_eq_decide.2 (by omega)
  rw [hle, ha, hb] at hr
  refine u_1 ?_
  refine W_seq (?_)
  refine u_28 (Y2 ha2 hb2) (Z4 c1 c3 c4 c7) 36 (!p1 || !a || !b || !p3 || !p4 || !p7) ?_
  refine W_cond rfl (fun h => ?_) (fun h => W_skip ?_)
  · have hf : tokenB ⟨x1, x2, x3, x4, x5, x6, x7⟩ = false := by rw [hr]; revert h; cases p1 <;> cases a <;> cases b <;> cases p3 <;> cases p4 <;> cases p7 <;> simp
    rw [hf]
    exact u_29
  have hg : (p1 && a && b && p3 && p4 && p7) = true := by revert h; cases p1 <;> cases a <;> cases b <;> cases p3 <;> cases p4 <;> cases p7 <;> simp
  rw [hg, Bool.true_and] at hr
  refine W_seq (?_)
  refine u_28 q7 (Z1 c5) 48 (!e0 && !p5) ?_
  refine W_cond rfl (fun h => ?_) (fun h => W_skip ?_)
  · have hf : tokenB ⟨x1, x2, x3, x4, x5, x6, x7⟩ = false := by rw [hr]; revert h; cases e0 <;> cases p5 <;> simp
    rw [hf]
    exact u_29
  have hg : (e0 || p5) = true := by revert h; cases e0 <;> cases p5 <;> simp
  rw [hg, Bool.true_and] at hr
  rw [hr]
  cases l0 with
  | true =>
    exact u_22 q6
  | false =>
    refine W_seq (?_)
    refine u_13 q6 ?_
    refine W_cond rfl (fun h => ?_) (fun h => W_skip ?_)
    · exact absurd h (by simp)
    refine u_28 (Y2 q7 hle) (Z1 c6) 2 (p6 && !e0 && le) ?_
    exact u_8
def idxF {α : Type} (p : α → Bool) (a : List α) : Int := match a.findIdx? p with | some i => i | none => -1
theorem idxF_any {α : Type} (p : α → Bool) (a : List α) : decide (0 ≤ idxF p a) = a.any p := by
  unfold idxF
  cases h : a.findIdx? p with
  | none =>
    rw [List.findIdx?_eq_none_iff] at h
    have : a.any p = false := by rw [List.any_eq_false]; intro x hx; simp [h x hx]
    rw [this]; rfl
  | some i =>
    rw [List.findIdx?_eq_some_iff_getElem] at h
    obtain ⟨h1, h2, _⟩ := h
    have : a.any p = true := by rw [List.any_eq_true]; exact ⟨_, List.getElem_mem h1, h2⟩
    rw [this]; exact decide_eq_true (show (0 : Int) ≤ (i : Int) by omega)
theorem idxF_none {α : Type} (p : α → Bool) (a : List α) : decide (idxF p a < 0) = !a.any p := by
  rw [← idxF_any, ← decide_not]; exact decide_eq_decide.2 (by omega)
theorem idxF_hit {α : Type} {p : α → Bool} {a : List α} {i : Nat} {x : α} (ha : a[i]? = some x) (hn : ∀ x, x ∈ a.take i → p x = false) (hx : p x = true) : idxF p a = i := by
  obtain ⟨h, e⟩ := List.getElem?_eq_some_iff.1 ha
  unfold idxF
  have : a.findIdx? p = some i := by
    rw [List.findIdx?_eq_some_iff_getElem]
    refine ⟨h, by rw [e]; exact hx, fun j hj => ?_⟩
    have := hn a[j] (List.mem_take_iff_getElem.2 ⟨j, by omega, rfl⟩); simp [this]
  rw [this]
theorem idxF_miss {α : Type} {p : α → Bool} {a : List α} (hn : ∀ x, x ∈ a → p x = false) : idxF p a = -1 := by
  unfold idxF
  rw [List.findIdx?_eq_none_iff.2 hn]
theorem take_miss {α : Type} {p : α → Bool} {a : List α} {i : Nat} {x : α} (ha : a[i]? = some x) (hn : ∀ x, x ∈ a.take i → p x = false) (hx : p x = false) : ∀ x, x ∈ a.take (i + 1) → p x = false := by
  intro y hy
  rw [List.take_add_one, ha] at hy
  rcases List.mem_append.1 hy with hy | hy
  · exact hn y hy
  · simp at hy; subst hy; exact hx
theorem IndexFuncToken_ok (a : List GToken) (g : FuncId) (caps : List (List D)) (p : GToken → Bool) (hsz : a.length ≤ 281474976710656) (hp : ∀ x, x ∈ a → Valid PP GG g (.agg x.c :: caps.map .rp) (.d (.bool (p x))) [none]) :
    Valid PP GG 169 [.d (.slc 7 (rToken a)), .d (.fn g caps)] (.d (.int .i64 (idxF p a))) [none, none] := by
  refine cv Tryz.func169 [.d (.int .i64 (idxF p a))] ?_
  refine u_30 ?_
  refine W_loop (fun n st => ∃ i : Nat, n = a.length - i ∧ i ≤ a.length ∧ (∀ x, x ∈ a.take i → p x = false) ∧
    st = ⟨[], [(0, .d (.slc 7 (rToken a))), (1, .d (.fn g caps)), (7, .d (.int .i64 a.length)), (8, .d (.int .i64 i))], [], 0⟩) _ ⟨0, rfl, by omega, fun x hx => by simp at hx, ?_⟩ ?_
  · exact u_24
  rintro n st ⟨i, rfl, hi, hn, rfl⟩
  by_cases hlt : i < a.length
  · have ha := List.getElem?_eq_getElem hlt
    have hm := List.getElem_mem hlt
    generalize a[i] = x at ha hm
    have cp := hp x hm
    cases hx : p x with
    | true =>
      have e := idxF_hit ha hn hx
      rw [hx] at cp
      rw [e]
      exact u_31 ha (Z1 cp)
    | false =>
      have hn2 := take_miss ha hn hx
      rw [hx] at cp
      refine u_32 ha (Z1 cp) ?_
      refine ⟨a.length - (i + 1), by omega, i + 1, rfl, hlt, hn2, ?_⟩
      refine u_27 ?_
      exact wrap_id (by omega) (by omega)
  · have hie : i = a.length := by omega
    subst hie
    rw [List.take_length] at hn
    rw [idxF_miss hn]
    exact u_29
theorem IndexFuncLease_ok (a : List GLease) (g : FuncId) (caps : List (List D)) (p : GLease → Bool) (hsz : a.length ≤ 281474976710656) (hp : ∀ x, x ∈ a → Valid PP GG g (.agg x.c :: caps.map .rp) (.d (.bool (p x))) [none]) :
    Valid PP GG 162 [.d (.slc 6 (rLease a)), .d (.fn g caps)] (.d (.int .i64 (idxF p a))) [none, none] := by
  refine cv Tryz.func162 [.d (.int .i64 (idxF p a))] ?_
  refine u_30 ?_
  refine W_loop (fun n st => ∃ i : Nat, n = a.length - i ∧ i ≤ a.length ∧ (∀ x, x ∈ a.take i → p x = false) ∧
    st = ⟨[], [(0, .d (.slc 6 (rLease a))), (1, .d (.fn g caps)), (7, .d (.int .i64 a.length)), (8, .d (.int .i64 i))], [], 0⟩) _ ⟨0, rfl, by omega, fun x hx => by simp at hx, ?_⟩ ?_
  · exact u_24
  rintro n st ⟨i, rfl, hi, hn, rfl⟩
  by_cases hlt : i < a.length
  · have ha := List.getElem?_eq_getElem hlt
    have hm := List.getElem_mem hlt
    generalize a[i] = x at ha hm
    have cp := hp x hm
    cases hx : p x with
    | true =>
      have e := idxF_hit ha hn hx
      rw [hx] at cp
      rw [e]
      exact u_31 ha (Z1 cp)
    | false =>
      have hn2 := take_miss ha hn hx
      rw [hx] at cp
      refine u_32 ha (Z1 cp) ?_
      refine ⟨a.length - (i + 1), by omega, i + 1, rfl, hlt, hn2, ?_⟩
      refine u_27 ?_
      exact wrap_id (by omega) (by omega)
  · have hie : i = a.length := by omega
    subst hie
    rw [List.take_length] at hn
    rw [idxF_miss hn]
    exact u_29
theorem IndexFuncOwned_ok (a : List GOwned) (g : FuncId) (caps : List (List D)) (p : GOwned → Bool) (hsz : a.length ≤ 281474976710656) (hp : ∀ x, x ∈ a → Valid PP GG g (.agg x.c :: caps.map .rp) (.d (.bool (p x))) [none]) :
    Valid PP GG 135 [.d (.slc 2 (rOwned a)), .d (.fn g caps)] (.d (.int .i64 (idxF p a))) [none, none] := by
  refine cv Tryz.func135 [.d (.int .i64 (idxF p a))] ?_
  refine u_30 ?_
  refine W_loop (fun n st => ∃ i : Nat, n = a.length - i ∧ i ≤ a.length ∧ (∀ x, x ∈ a.take i → p x = false) ∧
    st = ⟨[], [(0, .d (.slc 2 (rOwned a))), (1, .d (.fn g caps)), (7, .d (.int .i64 a.length)), (8, .d (.int .i64 i))], [], 0⟩) _ ⟨0, rfl, by omega, fun x hx => by simp at hx, ?_⟩ ?_
  · exact u_24
  rintro n st ⟨i, rfl, hi, hn, rfl⟩
  by_cases hlt : i < a.length
  · have ha := List.getElem?_eq_getElem hlt
    have hm := List.getElem_mem hlt
    generalize a[i] = x at ha hm
    have cp := hp x hm
    cases hx : p x with
    | true =>
      have e := idxF_hit ha hn hx
      rw [hx] at cp
      rw [e]
      exact u_31 ha (Z1 cp)
    | false =>
      have hn2 := take_miss ha hn hx
      rw [hx] at cp
      refine u_32 ha (Z1 cp) ?_
      refine ⟨a.length - (i + 1), by omega, i + 1, rfl, hlt, hn2, ?_⟩
      refine u_27 ?_
      exact wrap_id (by omega) (by omega)
  · have hie : i = a.length := by omega
    subst hie
    rw [List.take_length] at hn
    rw [idxF_miss hn]
    exact u_29
theorem IndexFuncJob_ok (a : List GJob) (g : FuncId) (caps : List (List D)) (p : GJob → Bool) (hsz : a.length ≤ 281474976710656) (hp : ∀ x, x ∈ a → Valid PP GG g (.agg x.c :: caps.map .rp) (.d (.bool (p x))) [none]) :
    Valid PP GG 197 [.d (.slc 3 (rJob a)), .d (.fn g caps)] (.d (.int .i64 (idxF p a))) [none, none] := by
  refine cv Tryz.func197 [.d (.int .i64 (idxF p a))] ?_
  refine u_30 ?_
  refine W_loop (fun n st => ∃ i : Nat, n = a.length - i ∧ i ≤ a.length ∧ (∀ x, x ∈ a.take i → p x = false) ∧
    st = ⟨[], [(0, .d (.slc 3 (rJob a))), (1, .d (.fn g caps)), (7, .d (.int .i64 a.length)), (8, .d (.int .i64 i))], [], 0⟩) _ ⟨0, rfl, by omega, fun x hx => by simp at hx, ?_⟩ ?_
  · exact u_24
  rintro n st ⟨i, rfl, hi, hn, rfl⟩
  by_cases hlt : i < a.length
  · have ha := List.getElem?_eq_getElem hlt
    have hm := List.getElem_mem hlt
    generalize a[i] = x at ha hm
    have cp := hp x hm
    cases hx : p x with
    | true =>
      have e := idxF_hit ha hn hx
      rw [hx] at cp
      rw [e]
      exact u_31 ha (Z1 cp)
    | false =>
      have hn2 := take_miss ha hn hx
      rw [hx] at cp
      refine u_32 ha (Z1 cp) ?_
      refine ⟨a.length - (i + 1), by omega, i + 1, rfl, hlt, hn2, ?_⟩
      refine u_27 ?_
      exact wrap_id (by omega) (by omega)
  · have hie : i = a.length := by omega
    subst hie
    rw [List.take_length] at hn
    rw [idxF_miss hn]
    exact u_29
theorem ContainsFuncOwned_ok (a : List GOwned) (g : FuncId) (caps : List (List D)) (p : GOwned → Bool) (hsz : a.length ≤ 281474976710656) (hp : ∀ x, x ∈ a → Valid PP GG g (.agg x.c :: caps.map .rp) (.d (.bool (p x))) [none]) :
    Valid PP GG 68 [.d (.slc 2 (rOwned a)), .d (.fn g caps)] (.d (.bool (a.any p))) [none, none] := by
  refine cv Tryz.func68 [.d (.bool (a.any p))] ?_
  have ci := IndexFuncOwned_ok a g caps p hsz hp
  have e := idxF_any p a
  exact u_31 e (Z1 ci)
theorem ContainsFuncJob_ok (a : List GJob) (g : FuncId) (caps : List (List D)) (p : GJob → Bool) (hsz : a.length ≤ 281474976710656) (hp : ∀ x, x ∈ a → Valid PP GG g (.agg x.c :: caps.map .rp) (.d (.bool (p x))) [none]) :
    Valid PP GG 133 [.d (.slc 3 (rJob a)), .d (.fn g caps)] (.d (.bool (a.any p))) [none, none] := by
  refine cv Tryz.func133 [.d (.bool (a.any p))] ?_
  have ci := IndexFuncJob_ok a g caps p hsz hp
  have e := idxF_any p a
  exact u_31 e (Z1 ci)
theorem tokenIndex_c1_ok (t : GToken) (id : Int) : Valid PP GG 170 [.agg t.c, .rp [.int .i64 id]] (.d (.bool (decide (t.fId = id)))) [none] := by
  refine cv Tryz.func170 [.d (.bool (decide (t.fId = id)))] ?_
  have hind := ind_strs t.fNames
  have hq : (t.fId == id) = decide (t.fId = id) := rfl
  exact u_22 hq
theorem tokenIndex_ok (f : GForest) (id : Int) (hf : f.fTokens.length ≤ 1048576) : Valid PP GG 99 [.agg f.c, .d (.int .i64 id)] (.d (.int .i64 (idxF (fun t => decide (t.fId = id)) f.fTokens))) [none, none] := by
  refine cv Tryz.func99 [.d (.int .i64 (idxF (fun t => decide (t.fId = id)) f.fTokens))] ?_
  have ci := IndexFuncToken_ok (GG := GG) f.fTokens 170 [[.int .i64 id]] (fun t => decide (t.fId = id)) (by omega) fun x _ => tokenIndex_c1_ok x id
  exact u_33 (Z1 ci)
theorem leaseIndex_c1_ok (t : GLease) (id : Int) : Valid PP GG 163 [.agg t.c, .rp [.int .i64 id]] (.d (.bool (decide (t.fId = id)))) [none] := by
  refine cv Tryz.func163 [.d (.bool (decide (t.fId = id)))] ?_
  have hq : (t.fId == id) = decide (t.fId = id) := rfl
  exact u_22 hq
theorem leaseIndex_ok (f : GBook) (id : Int) (hf : f.fLeases.length ≤ 1048576) : Valid PP GG 94 [.agg f.c, .d (.int .i64 id)] (.d (.int .i64 (idxF (fun t => decide (t.fId = id)) f.fLeases))) [none, none] := by
  refine cv Tryz.func94 [.d (.int .i64 (idxF (fun t => decide (t.fId = id)) f.fLeases))] ?_
  have ci := IndexFuncLease_ok (GG := GG) f.fLeases 163 [[.int .i64 id]] (fun t => decide (t.fId = id)) (by omega) fun x _ => leaseIndex_c1_ok x id
  exact u_33 (Z1 ci)
theorem hasJob_c1_ok (t : GJob) (s : List UInt8) : Valid PP GG 134 [.agg t.c, .rp [.str s]] (.d (.bool (t.fName == s))) [none] := by
  refine cv Tryz.func134 [.d (.bool (t.fName == s))] ?_
  exact u_29
theorem hasJob_ok (f : GQueue) (s : List UInt8) (hf : f.fJobs.length ≤ 1048576) : Valid PP GG 67 [.agg f.c, .d (.str s)] (.d (.bool (f.fJobs.any fun t => t.fName == s))) [none, none] := by
  refine cv Tryz.func67 [.d (.bool (f.fJobs.any fun t => t.fName == s))] ?_
  have ci := ContainsFuncJob_ok (GG := GG) f.fJobs 134 [[.str s]] (fun t => t.fName == s) (by omega) fun x _ => hasJob_c1_ok x s
  exact u_33 (Z1 ci)
def hasTok (f : GForest) (id : Int) : Bool := f.fTokens.any fun t => decide (t.fId = id)
def tokQ (f : GForest) (pre : List GToken) (t : GToken) : Bool := tokenB t && adjB (fun p x => decide (p.fId < x.fId)) pre t && (decide (t.fParent = 0) || hasTok f t.fParent)
def forestB (f : GForest) : Bool := decide (f.fTokens.length ≤ 120) && okP (tokQ f) [] f.fTokens
def fitF (f : GForest) : Prop := f.fTokens.length ≤ 1048576 ∧ ∀ t, t ∈ f.fTokens → fitT t
theorem s_l08At_ok (f : GForest) (id : Int) (hf : f.fTokens.length ≤ 1048576) : Valid PP GG 115 [.agg f.c, .d (.int .i64 id)] (.d (.int .i64 (idxF (fun t => decide (t.fId = id)) f.fTokens))) [none, none] := by
  refine cv Tryz.func115 [.d (.int .i64 (idxF (fun t => decide (t.fId = id)) f.fTokens))] ?_
  obtain ⟨a⟩ := f
  dsimp only at hf ⊢
  refine u_30 ?_
  refine W_loop (fun n st => ∃ i : Nat, n = a.length - i ∧ i ≤ a.length ∧ (∀ x, x ∈ a.take i → (decide (x.fId = id)) = false) ∧
    st = ⟨[], [(1, .d (.int .i64 id)), (2, .ptr 0 0), (5, .d (.int .i64 i))], [(0, .box [.d (.slc 7 (rToken a))])], 1⟩) _ ⟨0, rfl, by omega, fun x hx => by simp at hx, ?_⟩ ?_
  · exact u_24
  rintro n st ⟨i, rfl, hi, hn, rfl⟩
  by_cases hlt : i < a.length
  · have ha := List.getElem?_eq_getElem hlt
    generalize a[i] = x at ha
    by_cases hx : x.fId = id
    · have e := idxF_hit ha hn (decide_eq_true hx)
      have hxb : (x.fId == id) = true := decide_eq_true hx
      rw [e]
      exact u_22 (Y2 ha hxb)
    · have hn2 := take_miss (p := fun x => decide (x.fId = id)) ha hn (decide_eq_false hx)
      have hxb : (x.fId == id) = false := decide_eq_false hx
      refine u_23 (Y2 ha hxb) ?_
      refine ⟨a.length - (i + 1), by omega, i + 1, rfl, hlt, hn2, ?_⟩
      refine u_27 ?_
      exact wrap_id (by omega) (by omega)
  · have hie : i = a.length := by omega
    subst hie
    rw [List.take_length] at hn
    rw [idxF_miss hn]
    exact u_29
theorem isForest_ok [MaxL GG] (f : GForest) (hf : fitF f) : Valid PP GG 122 [.agg f.c] (.d (.bool (forestB f))) [none] := by
  refine cv Tryz.func122 [.d (.bool (forestB f))] ?_
  obtain ⟨hl, ht⟩ := hf
  have hti : ∀ id, Valid PP GG 99 [.agg [.d (.slc 7 (rToken f.fTokens))], .d (.int .i64 id)] (.d (.int .i64 (idxF (fun t => decide (t.fId = id)) f.fTokens))) [none, none] := fun id => tokenIndex_ok (GG := GG) f id hl
  generalize hfa : f.fTokens = a at *
  refine u_23 hfa ?_
  refine W_loop (fun n st => ∃ i : Nat, n = a.length - i ∧ i ≤ a.length ∧ okP (tokQ f) [] (a.take i) = true ∧
    st = ⟨[], [(1, .ptr 0 0), (6, .d (.slc 7 (rToken a))), (7, .d (.int .i64 a.length)), (8, .d (.int .i64 i))], [(0, .box [.d (.slc 7 (rToken a))])], 1⟩) _ ⟨0, rfl, by omega, rfl, ?_⟩ ?_
  · exact u_34 hfa
  rintro n st ⟨i, rfl, hi, hok, rfl⟩
  by_cases hlt : i < a.length
  · have ha := List.getElem?_eq_getElem hlt
    generalize a[i] = x at ha
    have ct := isToken_ok (GG := GG) x (ht x (List.mem_of_getElem? ha))
    have cf := hti x.fParent
    have hbad0 := fun h => okP_bad (q := tokQ f) ha h
    have hst := okP_step (q := tokQ f) ha
    rw [hok, Bool.true_and] at hst
    have hbad : tokQ f (a.take i) x = false → forestB f = false := fun h => by unfold forestB; rw [hfa, hbad0 h, Bool.and_false]
    clear hbad0
    have hq : tokQ f (a.take i) x = (tokenB x && adjB (fun p x => decide (p.fId < x.fId)) (a.take i) x && (decide (x.fParent = 0) || hasTok f x.fParent)) := rfl
    rw [hq] at hst hbad
    clear hq
    obtain ⟨xi, xp, xn, xm, xe, xl, xu⟩ := x
    have hno : decide (idxF (fun t => decide (t.fId = xp)) a < 0) = !hasTok f xp := by rw [idxF_none]; unfold hasTok; rw [hfa]
    dsimp only at cf hst hbad
    generalize idxF (fun t => decide (t.fId = xp)) a = k at cf hno
    cases htb : tokenB ⟨xi, xp, xn, xm, xe, xl, xu⟩ with
    | false =>
      rw [htb] at ct hbad
      have hb := hbad (by simp)
      rw [hb]
      exact u_31 (Y2 ha hfa) (Z1 ct)
    | true =>
      rw [htb] at ct hst hbad
      simp only [Bool.true_and] at hst hbad
      by_cases h0 : i = 0
      · have hpi : ¬ 0 < i := by omega
        have hz : adjB (fun p x : GToken => decide (p.fId < x.fId)) (a.take i) ⟨xi, xp, xn, xm, xe, xl, xu⟩ = true := by rw [h0]; exact adj_zero _ _ _
        rw [hz, Bool.true_and] at hst hbad
        by_cases hp0 : xp = 0
        · have hst1 : okP (tokQ f) [] (a.take (i + 1)) = true := by rw [hst]; simp [hp0]
          have hq0 : (xp != 0) = false := by simp [hp0]
          refine u_32 (Y4 ha hfa hq0 hpi) (Z2 ct cf) ?_
          refine ⟨a.length - (i + 1), by omega, i + 1, rfl, hlt, hst1, ?_⟩
          refine u_35 hfa ?_
          exact wrap_id (by omega) (by omega)
        · have hq0 : (xp != 0) = true := by simp [hp0]
          have hd0 : decide (xp = 0) = false := decide_eq_false hp0
          cases hh : hasTok f xp with
          | true =>
            have hk : ¬ k < 0 := by rw [hh] at hno; simpa using hno
            have hst1 : okP (tokQ f) [] (a.take (i + 1)) = true := by rw [hst]; simp [hh]
            refine u_32 (Y5 ha hfa hq0 hpi hk) (Z2 ct cf) ?_
            refine ⟨a.length - (i + 1), by omega, i + 1, rfl, hlt, hst1, ?_⟩
            refine u_35 hfa ?_
            exact wrap_id (by omega) (by omega)
          | false =>
            have hk : k < 0 := by rw [hh] at hno; simpa using hno
            have hb := hbad (by simp [hd0, hh])
            rw [hb]
            exact u_31 (Y5 ha hfa hq0 hpi hk) (Z2 ct cf)
      · have hp := List.getElem?_eq_getElem (show i - 1 < a.length by omega)
        generalize a[i - 1]'_ = p at hp
        rw [adj_pos _ (by omega) hp] at hst hbad
        have hpi : 0 < i := by omega
        have hw1 : IntKind.i64.wrap ((i : Int) - 1) = ((i - 1 : Nat) : Int) := by rw [wrap_id (by omega) (by omega)]; omega
        obtain ⟨yi, yp, yn, ym, ye, yl, yu⟩ := p
        dsimp only at hst hbad
        by_cases hle : xi ≤ yi
        · have hb := hbad (by rw [decide_eq_false (show ¬ yi < xi by omega), Bool.false_and])
          rw [hb]
          exact u_31 (Y6 ha hp hfa hpi hw1 hle) (Z1 ct)
        · rw [decide_eq_true (show yi < xi by omega), Bool.true_and] at hst hbad
          by_cases hp0 : xp = 0
          · have hst1 : okP (tokQ f) [] (a.take (i + 1)) = true := by rw [hst]; simp [hp0]
            have hq0 : (xp != 0) = false := by simp [hp0]
            refine u_32 (Y7 ha hfa hq0 hp hpi hw1 hle) (Z2 ct cf) ?_
            refine ⟨a.length - (i + 1), by omega, i + 1, rfl, hlt, hst1, ?_⟩
            refine u_35 hfa ?_
            exact wrap_id (by omega) (by omega)
          · have hq0 : (xp != 0) = true := by simp [hp0]
            have hd0 : decide (xp = 0) = false := decide_eq_false hp0
            cases hh : hasTok f xp with
            | true =>
              have hk : ¬ k < 0 := by rw [hh] at hno; simpa using hno
              have hst1 : okP (tokQ f) [] (a.take (i + 1)) = true := by rw [hst]; simp [hh]
              refine u_32 (Y8 ha hfa hq0 hp hpi hw1 hle hk) (Z2 ct cf) ?_
              refine ⟨a.length - (i + 1), by omega, i + 1, rfl, hlt, hst1, ?_⟩
              refine u_35 hfa ?_
              exact wrap_id (by omega) (by omega)
            | false =>
              have hk : k < 0 := by rw [hh] at hno; simpa using hno
              have hb := hbad (by simp [hd0, hh])
              rw [hb]
              exact u_31 (Y8 ha hfa hq0 hp hpi hw1 hle hk) (Z2 ct cf)
  · have hie : i = a.length := by omega
    subst hie
    rw [List.take_length] at hok
    have e : forestB f = decide ((a.length : Int) ≤ 120) := by unfold forestB; rw [hfa, hok, Bool.and_true]; exact decide_eq_decide.2 (by omega)
    rw [e]
    exact u_29
theorem s_ForestOk_ok [MaxL GG] (f : GForest) (hf : fitF f) : Valid PP GG 50 [.agg f.c] (.d (.bool (forestB f))) [none] := by
  refine cv Tryz.func50 [.d (.bool (forestB f))] ?_
  obtain ⟨hl, ht⟩ := hf
  have hti : ∀ id, Valid PP GG 115 [.agg [.d (.slc 7 (rToken f.fTokens))], .d (.int .i64 id)] (.d (.int .i64 (idxF (fun t => decide (t.fId = id)) f.fTokens))) [none, none] := fun id => s_l08At_ok (GG := GG) f id hl
  generalize hfa : f.fTokens = a at *
  by_cases h6 : a.length ≤ 120
  rotate_left
  · have hb : forestB f = false := by unfold forestB; rw [hfa, decide_eq_false h6, Bool.false_and]
    rw [hb]
    have hd : 120 < a.length := by omega
    exact u_22 (Y2 hfa hd)
  have hd : ¬ 120 < a.length := by omega
  refine u_23 (Y2 hfa hd) ?_
  refine W_loop (fun n st => ∃ i : Nat, n = a.length - i ∧ i ≤ a.length ∧ okP (tokQ f) [] (a.take i) = true ∧
    st = ⟨[], [(1, .ptr 0 0), (3, .d (.int .i64 i))], [(0, .box [.d (.slc 7 (rToken a))])], 1⟩) _ ⟨0, rfl, by omega, rfl, ?_⟩ ?_
  · exact u_34 hfa
  rintro n st ⟨i, rfl, hi, hok, rfl⟩
  by_cases hlt : i < a.length
  · have ha := List.getElem?_eq_getElem hlt
    generalize a[i] = x at ha
    have ct := s_l08Token_ok (GG := GG) x (ht x (List.mem_of_getElem? ha))
    have cf := hti x.fParent
    have hbad0 := fun h => okP_bad (q := tokQ f) ha h
    have hst := okP_step (q := tokQ f) ha
    rw [hok, Bool.true_and] at hst
    have hbad : tokQ f (a.take i) x = false → forestB f = false := fun h => by unfold forestB; rw [hfa, hbad0 h, Bool.and_false]
    clear hbad0
    have hq : tokQ f (a.take i) x = (tokenB x && adjB (fun p x => decide (p.fId < x.fId)) (a.take i) x && (decide (x.fParent = 0) || hasTok f x.fParent)) := rfl
    rw [hq] at hst hbad
    clear hq
    obtain ⟨xi, xp, xn, xm, xe, xl, xu⟩ := x
    have hno : decide (idxF (fun t => decide (t.fId = xp)) a < 0) = !hasTok f xp := by rw [idxF_none]; unfold hasTok; rw [hfa]
    dsimp only at cf hst hbad
    generalize idxF (fun t => decide (t.fId = xp)) a = k at cf hno
    cases htb : tokenB ⟨xi, xp, xn, xm, xe, xl, xu⟩ with
    | false =>
      rw [htb] at ct hbad
      have hb := hbad (by simp)
      rw [hb]
      exact u_31 (Y2 ha hfa) (Z1 ct)
    | true =>
      rw [htb] at ct hst hbad
      simp only [Bool.true_and] at hst hbad
      by_cases h0 : i = 0
      · have hpi : ¬ 0 < i := by omega
        have hz : adjB (fun p x : GToken => decide (p.fId < x.fId)) (a.take i) ⟨xi, xp, xn, xm, xe, xl, xu⟩ = true := by rw [h0]; exact adj_zero _ _ _
        rw [hz, Bool.true_and] at hst hbad
        by_cases hp0 : xp = 0
        · have hst1 : okP (tokQ f) [] (a.take (i + 1)) = true := by rw [hst]; simp [hp0]
          have hq0 : (xp != 0) = false := by simp [hp0]
          refine u_32 (Y4 ha hfa hq0 hpi) (Z2 ct cf) ?_
          refine ⟨a.length - (i + 1), by omega, i + 1, rfl, hlt, hst1, ?_⟩
          refine u_35 hfa ?_
          exact wrap_id (by omega) (by omega)
        · have hq0 : (xp != 0) = true := by simp [hp0]
          have hd0 : decide (xp = 0) = false := decide_eq_false hp0
          cases hh : hasTok f xp with
          | true =>
            have hk : ¬ k < 0 := by rw [hh] at hno; simpa using hno
            have hst1 : okP (tokQ f) [] (a.take (i + 1)) = true := by rw [hst]; simp [hh]
            refine u_32 (Y5 ha hfa hq0 hpi hk) (Z2 ct cf) ?_
            refine ⟨a.length - (i + 1), by omega, i + 1, rfl, hlt, hst1, ?_⟩
            refine u_35 hfa ?_
            exact wrap_id (by omega) (by omega)
          | false =>
            have hk : k < 0 := by rw [hh] at hno; simpa using hno
            have hb := hbad (by simp [hd0, hh])
            rw [hb]
            exact u_31 (Y5 ha hfa hq0 hpi hk) (Z2 ct cf)
      · have hp := List.getElem?_eq_getElem (show i - 1 < a.length by omega)
        generalize a[i - 1]'_ = p at hp
        rw [adj_pos _ (by omega) hp] at hst hbad
        have hpi : 0 < i := by omega
        have hw1 : IntKind.i64.wrap ((i : Int) - 1) = ((i - 1 : Nat) : Int) := by rw [wrap_id (by omega) (by omega)]; omega
        obtain ⟨yi, yp, yn, ym, ye, yl, yu⟩ := p
        dsimp only at hst hbad
        by_cases hle : xi ≤ yi
        · have hb := hbad (by rw [decide_eq_false (show ¬ yi < xi by omega), Bool.false_and])
          rw [hb]
          exact u_31 (Y6 ha hp hfa hpi hw1 hle) (Z1 ct)
        · rw [decide_eq_true (show yi < xi by omega), Bool.true_and] at hst hbad
          by_cases hp0 : xp = 0
          · have hst1 : okP (tokQ f) [] (a.take (i + 1)) = true := by rw [hst]; simp [hp0]
            have hq0 : (xp != 0) = false := by simp [hp0]
            refine u_32 (Y7 ha hfa hq0 hp hpi hw1 hle) (Z2 ct cf) ?_
            refine ⟨a.length - (i + 1), by omega, i + 1, rfl, hlt, hst1, ?_⟩
            refine u_35 hfa ?_
            exact wrap_id (by omega) (by omega)
          · have hq0 : (xp != 0) = true := by simp [hp0]
            have hd0 : decide (xp = 0) = false := decide_eq_false hp0
            cases hh : hasTok f xp with
            | true =>
              have hk : ¬ k < 0 := by rw [hh] at hno; simpa using hno
              have hst1 : okP (tokQ f) [] (a.take (i + 1)) = true := by rw [hst]; simp [hh]
              refine u_32 (Y8 ha hfa hq0 hp hpi hw1 hle hk) (Z2 ct cf) ?_
              refine ⟨a.length - (i + 1), by omega, i + 1, rfl, hlt, hst1, ?_⟩
              refine u_35 hfa ?_
              exact wrap_id (by omega) (by omega)
            | false =>
              have hk : k < 0 := by rw [hh] at hno; simpa using hno
              have hb := hbad (by simp [hd0, hh])
              rw [hb]
              exact u_31 (Y8 ha hfa hq0 hp hpi hw1 hle hk) (Z2 ct cf)
  · have hie : i = a.length := by omega
    subst hie
    rw [List.take_length] at hok
    have e : forestB f = true := by unfold forestB; rw [hfa, hok, decide_eq_true h6]; rfl
    rw [e]
    exact u_22 hfa
def leaseB (t : GLease) : Bool := inB t.fId 1 1000000000 && inB t.fToken 0 1000000000 && pathOk t.fPath && inB t.fMade 0 1000000000 &&
  inB t.fLimit (IntKind.i64.wrap (t.fMade + 1)) 1000000000 && inB t.fEnds (IntKind.i64.wrap (t.fMade + 1)) t.fLimit
def leaseQ (pre : List GLease) (t : GLease) : Bool := leaseB t && adjB (fun p x => decide (p.fId < x.fId)) pre t
def bookB (b : GBook) : Bool := decide (b.fLeases.length ≤ 150) && okP leaseQ [] b.fLeases
def fitB (b : GBook) : Prop := b.fLeases.length ≤ 1048576 ∧ ∀ t, t ∈ b.fLeases → t.fPath.length ≤ 1048576
theorem isLease_ok [MaxL GG] (x : GLease) (hx : x.fPath.length ≤ 1048576) : Valid PP GG 192 [.agg x.c] (.d (.bool (leaseB x))) [none] := by
  refine cv Tryz.func192 [.d (.bool (leaseB x))] ?_
  obtain ⟨x1, x2, x3, x4, x5, x6⟩ := x
  have hr : leaseB ⟨x1, x2, x3, x4, x5, x6⟩ = (inB x1 1 1000000000 && inB x2 0 1000000000 && pathOk x3 && inB x4 0 1000000000 && inB x6 (IntKind.i64.wrap (x4 + 1)) 1000000000 && inB x5 (IntKind.i64.wrap (x4 + 1)) x6) := rfl
  have c1 : Valid PP GG 103 [.d (.int .i64 x1), .d (.int .i64 1), .d (.int .i64 1000000000)] (.d (.bool (inB x1 1 1000000000))) [none, none, none] := within_ok _ _ _
  have c2 : Valid PP GG 103 [.d (.int .i64 x2), .d (.int .i64 0), .d (.int .i64 1000000000)] (.d (.bool (inB x2 0 1000000000))) [none, none, none] := within_ok _ _ _
  have c3 := isPath_ok (GG := GG) x3 (by dsimp only at hx; omega)
  have c4 : Valid PP GG 103 [.d (.int .i64 x4), .d (.int .i64 0), .d (.int .i64 1000000000)] (.d (.bool (inB x4 0 1000000000))) [none, none, none] := within_ok _ _ _
  have c5 : Valid PP GG 103 [.d (.int .i64 x6), .d (.int .i64 (IntKind.i64.wrap (x4 + 1))), .d (.int .i64 1000000000)] (.d (.bool (inB x6 (IntKind.i64.wrap (x4 + 1)) 1000000000))) [none, none, none] := within_ok _ _ _
  have c6 : Valid PP GG 103 [.d (.int .i64 x5), .d (.int .i64 (IntKind.i64.wrap (x4 + 1))), .d (.int .i64 x6)] (.d (.bool (inB x5 (IntKind.i64.wrap (x4 + 1)) x6))) [none, none, none] := within_ok _ _ _
  generalize inB x1 1 1000000000 = p1 at *
  generalize inB x2 0 1000000000 = p2 at *
  generalize pathOk x3 = p3 at *
  generalize inB x4 0 1000000000 = p4 at *
  generalize inB x6 (IntKind.i64.wrap (x4 + 1)) 1000000000 = p5 at *
  generalize inB x5 (IntKind.i64.wrap (x4 + 1)) x6 = p6 at *
  refine u_1 ?_
  refine u_19 (Z6 c1 c2 c3 c4 c5 c6) 2 (p1 && p2 && p3 && p4 && p5 && p6) ?_
  exact u_10 hr
end Go.Proofs.YtdckkojgnkoabaaGreatDoor.Ab
