/-
  A part of a proof about the given program; what is proved is said where each theorem stands.
-/
import Derived.Test.YtdckkojgnkoabaaGreatDoorFrameA
import Derived.Test.YtdckkojgnkoabaaGreatDoorFrameB
import Derived.Test.YtdckkojgnkoabaaGreatDoorFrameC
import Derived.Test.YtdckkojgnkoabaaGreatDoorFrameD
import Derived.Test.YtdckkojgnkoabaaGreatDoorFrameE
import Derived.Test.YtdckkojgnkoabaaGreatDoorCodesA
import Derived.Test.YtdckkojgnkoabaaGreatDoorCodesB
import Derived.Test.YtdckkojgnkoabaaGreatDoorShelf
import Derived.Test.YtdckkojgnkoabaaGreatDoorPartA
namespace Go.Proofs
end Go.Proofs
set_option linter.unusedSimpArgs false
set_option linter.unusedVariables false
set_option maxRecDepth 100000
set_option maxHeartbeats 2000000
namespace Go.Proofs.YtdckkojgnkoabaaGreatDoor.Ab
open Go.Proofs
variable {GG : GV}
theorem toUserS_g (a : List GUser) (hx : a.length + sumBy GUser.cost a ≤ 1099511627776) : Valid PP GG F_L_toUserS [.d (.slc 2 (rUser a))] (.own 0 2 (rUser a)) [none] := by
  refine v_L_toUserS [.own 0 2 (rUser a)] rfl rfl ?_
  refine W_seq (?_)
  refine u_1 ?_
  refine W_seq (?_)
  refine u_3 ?_
  refine W_seq (W_seq (?_))
  refine u_1 ?_
  refine W_block (W_loop (fun n st => ∃ (i : Nat) (R : List (List D)), n = a.length - i ∧ i ≤ a.length ∧ R.length = a.length ∧ (∀ r, r ∈ R → r.length = 2) ∧ R.take i = rUser (a.take i) ∧
    st = ⟨[], [(0, .d (.slc 2 (rUser a))), (3, .sl 0), (4, .d (.int .i64 i))], [(0, .arr 0 0 2 R)], 1⟩) _ ⟨0, List.replicate a.length [.str [], .str []], rfl, by omega, by simp, by intro r hr; rw [List.eq_of_mem_replicate hr]; rfl, rfl, rfl⟩ ?_)
  rintro n st ⟨i, R, rfl, hi, hl, h1, hR, rfl⟩
  refine W_seq (W_seq (?_))
  refine u_1 ?_
  refine W_cond rfl (fun h => W_skip ?_) (fun h => W_exit ?_)
  · simp at h
    have ha := List.getElem?_eq_getElem h
    generalize a[i] = x at ha
    have hg := sumBy_get (f := GUser.cost) ha
    obtain ⟨y0, y1, hd⟩ := rows2 h1 (show i < R.length by omega)
    refine W_seq (W_block ?_)
    refine u_21 ha hd hl (toUser_g x (by omega)) ?_
    refine u_1 ?_
    exact ⟨a.length - (i + 1), by omega, i + 1, R.set i x.row, rfl, h, by simpa using hl, set2 h1 rfl, by rw [take_set_succ (by omega), hR, List.take_add_one, ha, rUser_app]; rfl,
      by simp [gc, closeN, liveA, gcV, gcO, renA, renO, namesAs, namesA, namesO, posn]; rw [wrap_id (by omega) (by omega)]⟩
  · simp at h
    have e : R = rUser a := by rwa [List.take_of_length_le (by omega), List.take_of_length_le (by omega)] at hR
    subst e
    rw [if_pos rfl]
    refine W_seq (?_)
    refine u_1 ?_
    refine W_ret ?_
    simp [Fin]
    all_goals omega

theorem eqUser_g (x y : GUser) (hx : x.cost ≤ 1099511627776) (hy : y.cost ≤ 1099511627776) : Valid PP GG F_L_eqUser [.agg x.c, .agg y.c] (.d (.bool (decide (x = y)))) [none, none] := by
  refine v_L_eqUser [.d (.bool (decide (x = y)))] rfl rfl ?_
  have hcx : x.cost = x.fName.length + x.fPass.length := rfl
  have hcy : y.cost = y.fName.length + y.fPass.length := rfl
  refine W_seq (?_)
  refine u_1 ?_
  refine W_seq (W_seq (?_))
  refine u_1 ?_
  refine W_cond rfl (fun h => W_seq ?_) (fun h0 => W_skip ?_)
  · refine u_1 ?_
    have : decide (x = y) = false := by rw [decide_eq_false_iff_not]; intro e; rw [e] at h; simp at h
    refine W_ret ?_
    simp [Fin, this]
    all_goals omega
  refine W_seq (W_seq (?_))
  refine u_1 ?_
  refine W_cond rfl (fun h => W_seq ?_) (fun h1 => W_skip ?_)
  · refine u_1 ?_
    have : decide (x = y) = false := by rw [decide_eq_false_iff_not]; intro e; rw [e] at h; simp at h
    refine W_ret ?_
    simp [Fin, this]
    all_goals omega
  refine W_seq (?_)
  refine u_1 ?_
  have : decide (x = y) = true := by
    rw [decide_eq_true_iff]
    cases x; cases y
    simp at h0 h1
    simp_all
  refine W_ret ?_
  simp [Fin, this]
  all_goals omega

theorem eqUserS_g (a b : List GUser) (hx : a.length + sumBy GUser.cost a ≤ 1099511627776) (hy : b.length + sumBy GUser.cost b ≤ 1099511627776) : Valid PP GG F_L_eqUserS [.d (.slc 2 (rUser a)), .d (.slc 2 (rUser b))] (.d (.bool (decide (a = b)))) [none, none] := by
  refine v_L_eqUserS [.d (.bool (decide (a = b)))] rfl rfl ?_
  refine W_seq (?_)
  refine u_1 ?_
  refine W_seq (W_seq (?_))
  refine u_1 ?_
  refine W_cond rfl (fun h => W_seq ?_) (fun hlen => W_skip ?_)
  · refine u_1 ?_
    have : decide (a = b) = false := by rw [decide_eq_false_iff_not]; intro e; subst e; simp at h
    refine W_ret ?_
    simp [Fin, this]
    all_goals omega
  refine W_seq (W_seq (?_))
  simp at hlen
  refine u_1 ?_
  refine W_block (W_loop (fun n st => ∃ i : Nat, n = a.length - i ∧ i ≤ a.length ∧ a.take i = b.take i ∧ st = ⟨[], [(0, .d (.slc 2 (rUser a))), (1, .d (.slc 2 (rUser b))), (5, .d (.int .i64 i))], [], 0⟩) _ ⟨0, rfl, by omega, rfl, rfl⟩ ?_)
  rintro n st ⟨i, rfl, hi, he, rfl⟩
  refine W_seq (W_seq (?_))
  refine u_1 ?_
  refine W_cond rfl (fun h => W_skip ?_) (fun h => W_exit ?_)
  · simp at h
    have ha := List.getElem?_eq_getElem h
    have hb := List.getElem?_eq_getElem (show i < b.length by omega)
    generalize a[i] = x at ha
    generalize b[i]'_ = y at hb
    have ga := sumBy_get (f := GUser.cost) ha
    have gb := sumBy_get (f := GUser.cost) hb
    refine W_seq (W_block (W_seq ?_))
    refine u_22 ha hb (eqUser_g x y (by omega) (by omega)) ?_
    refine W_cond rfl (fun h2 => W_seq ?_) (fun h2 => W_skip ?_)
    · refine u_1 ?_
      have : decide (a = b) = false := by rw [decide_eq_false_iff_not]; intro e; subst e; rw [ha] at hb; cases hb; simp at h2
      refine W_ret ?_
      simp [Fin, this]
      all_goals omega
    refine u_1 ?_
    have hxy : x = y := by simpa using h2
    subst hxy
    exact ⟨a.length - (i + 1), by omega, i + 1, rfl, h, take_succ_eq he ha hb, by simp [gc, closeN, liveA, gcV, gcO, renA, namesAs, namesA]; rw [wrap_id (by omega) (by omega)]⟩
  · simp at h
    rw [if_pos rfl]
    refine W_seq (?_)
    refine u_1 ?_
    have : decide (a = b) = true := by
      rw [decide_eq_true_iff]
      rwa [List.take_of_length_le h, List.take_of_length_le (by omega)] at he
    refine W_ret ?_
    simp [Fin, this]
    all_goals omega

theorem markUserS_g (a : List GUser) (k : Int) (hx : a.length + sumBy GUser.cost a ≤ 1099511627776) (hk : 0 ≤ k ∧ k + (sumBy GUser.marks a : Nat) ≤ 140737488355328) :
    Valid PP GG F_L_markUserS [.own 0 2 (rUser a), .d (.int .i64 k)] (.d (.int .i64 (k + (sumBy GUser.marks a : Nat)))) [some (.own 0 2 (rUser (markL GUser.mark GUser.marks a k))), none] := by
  refine v_L_markUserS [.d (.int .i64 (k + (sumBy GUser.marks a : Nat)))] rfl rfl ?_
  have hml := sumBy_le GUser.marks_le a
  refine W_seq (?_)
  refine u_1 ?_
  refine W_seq (W_seq (?_))
  refine u_1 ?_
  refine W_block (W_loop (fun n st => ∃ (i : Nat) (R : List (List D)) (q : Int), n = a.length - i ∧ i ≤ a.length ∧ R = rUser (markL GUser.mark GUser.marks (a.take i) k ++ a.drop i) ∧ q = k + (sumBy GUser.marks (a.take i) : Nat) ∧
    st = ⟨[], [(0, .sl 0), (1, .d (.int .i64 q)), (5, .d (.int .i64 i))], [(0, .arr 0 0 2 R)], 1⟩) _ ⟨0, rUser a, k, rfl, by omega, rfl, by simp [sumBy], by simp [gc, closeN, liveA, gcV, gcO, renA, renO, namesAs, namesA, namesO, posn]⟩ ?_)
  rintro n st ⟨i, R, q, rfl, hi, hR, hq, rfl⟩
  have hl : R.length = a.length := by rw [hR]; simp [markL_len]; omega
  refine W_seq (W_seq (?_))
  refine u_1 ?_
  refine W_cond rfl (fun h => W_skip ?_) (fun h => W_exit ?_)
  · simp [hl] at h
    have ha := List.getElem?_eq_getElem h
    generalize a[i] = x at ha
    have hg := sumBy_get (f := GUser.cost) ha
    have hs := sumBy_succ (f := GUser.marks) ha
    have ht := sumBy_take GUser.marks a (i + 1)
    have hsucc : R.set i (x.mark q).row = rUser (markL GUser.mark GUser.marks (a.take (i + 1)) k ++ a.drop (i + 1)) := by
      rw [hR, drop_get ha, rUser_app]
      show (rUser (markL GUser.mark GUser.marks (a.take i) k) ++ x.row :: rUser (a.drop (i + 1))).set i (x.mark q).row = _
      rw [set_mid (by simp [markL_len]; omega), markL_succ k ha, rUser_app, rUser_app, hq]; rfl
    have hd : R[i]? = some x.row := by
      rw [hR, drop_get ha, rUser_app]
      exact mid_get (by simp [markL_len]; omega)
    have hset := fun y => set_get hd y
    have hme : x.mark q = { fName := markT (q), fPass := markT (q + 1) } := rfl
    have hms : x.marks = 1 + 1 := rfl
    have hco : x.cost = x.fName.length + x.fPass.length := rfl
    clear hR
    refine W_seq (W_block (W_seq ?_))
    simp only [GUser.row] at hd
    refine u_21 hd hset hl (markText_ok q (by omega)) ?_
    obtain ⟨q1, hq1⟩ : ∃ z : Int, q + 1 = z := ⟨_, rfl⟩
    have wq1 : IntKind.i64.wrap (q + 1) = q1 := by rw [wrap_id (by omega) (by omega)]; exact hq1
    refine W_seq (?_)
    refine u_23 ?_
    refine W_seq (?_)
    refine u_21 hd hset hl (markText_ok q1 (by omega)) ?_
    obtain ⟨q2, hq2⟩ : ∃ z : Int, q1 + 1 = z := ⟨_, rfl⟩
    have wq2 : IntKind.i64.wrap (q1 + 1) = q2 := by rw [wrap_id (by omega) (by omega)]; exact hq2
    refine u_24 ?_
    refine u_1 ?_
    refine ⟨a.length - (i + 1), by omega, i + 1, R.set i (x.mark q).row, q2, rfl, h, hsucc, by omega, ?_⟩
    simp [gc, closeN, liveA, gcV, gcO, renA, renO, namesAs, namesA, namesO, posn]
    refine ⟨wrap_id (by omega) (by omega), ?_⟩
    simp only [hme, hq1, hq2]
  · simp [hl] at h
    have e : R = rUser (markL GUser.mark GUser.marks a k) := by
      rw [List.take_of_length_le h, List.drop_eq_nil_of_le h] at hR; simpa using hR
    rw [List.take_of_length_le h] at hq
    subst e
    rw [if_pos rfl]
    refine W_seq (?_)
    refine u_1 ?_
    subst hq
    refine W_ret ?_
    simp [Fin]
    all_goals omega

theorem szFar_g (x : GFar) (l : Int) (hx : x.ok) (h0 : 0 ≤ l ∧ l ≤ 1048576) : Valid PP GG F_L_szFar [.agg x.c, .d (.int .i64 l)] (.d (.int .i64 (leftR x.cost l))) [none, none] := by
  refine v_L_szFar [.d (.int .i64 (leftR x.cost l))] rfl rfl ?_
  have hco : x.cost = (x.fUsers.length + sumBy GUser.cost x.fUsers) := rfl
  unfold GFar.ok maxLen at hx
  obtain ⟨okUsers0, okUsers1, okFail0, okMade0⟩ := hx
  generalize x.cost = co at hco
  refine W_seq (?_)
  refine u_1 ?_
  have ct := szUserS_g (GG := GG) x.fUsers l (by unfold maxLen; omega) okUsers1 ⟨by omega, by omega⟩
  obtain ⟨l1, el1⟩ : ∃ z : Int, leftR (x.fUsers.length + sumBy GUser.cost x.fUsers) l = z := ⟨_, rfl⟩
  rw [el1] at ct
  refine W_seq (?_)
  refine u_11 ct ?_
  clear ct
  refine W_seq (W_seq (?_))
  refine u_1 ?_
  refine W_cond rfl (fun hh0 => W_seq ?_) (fun hh0 => W_skip ?_)
  · refine u_1 ?_
    simp at hh0
    rw [← el1] at hh0
    have hn := leftR_neg (by omega) hh0
    have : leftR co l = -1 := leftR_no (by omega)
    refine W_ret ?_
    simp [Fin, this]
    all_goals omega
  simp at hh0
  rw [← el1] at hh0
  obtain ⟨gl1, jl1⟩ := leftR_pos (Int.not_lt.2 hh0)
  rw [el1] at jl1 hh0
  refine W_seq (?_)
  refine u_1 ?_
  have : leftR co l = l1 := by rw [leftR_yes (by omega)]; omega
  refine W_ret ?_
  simp [Fin, this]
  all_goals omega

theorem toFar_g (x : GFar) (hx : x.cost ≤ 1099511627776) : Valid PP GG F_L_toFar [.agg x.c] (.agg x.o) [none] := by
  refine v_L_toFar [.agg x.o] rfl rfl ?_
  have hco : x.cost = (x.fUsers.length + sumBy GUser.cost x.fUsers) := rfl
  refine W_seq (?_)
  refine u_1 ?_
  refine W_seq (?_)
  refine u_1 ?_
  refine W_seq (?_)
  refine u_11 (toUserS_g x.fUsers (by omega)) ?_
  refine W_seq (?_)
  refine u_1 ?_
  refine W_seq (?_)
  refine u_1 ?_
  refine W_seq (?_)
  refine u_1 ?_
  refine W_ret ?_
  simp [Fin]
  all_goals omega

theorem eqFar_g (x y : GFar) (hx : x.cost ≤ 1099511627776) (hy : y.cost ≤ 1099511627776) : Valid PP GG F_L_eqFar [.agg x.c, .agg y.c] (.d (.bool (decide (x = y)))) [none, none] := by
  refine v_L_eqFar [.d (.bool (decide (x = y)))] rfl rfl ?_
  have hcx : x.cost = (x.fUsers.length + sumBy GUser.cost x.fUsers) := rfl
  have hcy : y.cost = (y.fUsers.length + sumBy GUser.cost y.fUsers) := rfl
  refine W_seq (?_)
  refine u_1 ?_
  refine W_seq (W_seq (?_))
  refine u_11 (eqUserS_g x.fUsers y.fUsers (by omega) (by omega)) ?_
  refine W_cond rfl (fun h => W_seq ?_) (fun h0 => W_skip ?_)
  · refine u_1 ?_
    have : decide (x = y) = false := by rw [decide_eq_false_iff_not]; intro e; rw [e] at h; simp at h
    refine W_ret ?_
    simp [Fin, this]
    all_goals omega
  refine W_seq (W_seq (?_))
  refine u_1 ?_
  refine W_cond rfl (fun h => W_seq ?_) (fun h1 => W_skip ?_)
  · refine u_1 ?_
    have : decide (x = y) = false := by rw [decide_eq_false_iff_not]; intro e; rw [e] at h; simp at h
    refine W_ret ?_
    simp [Fin, this]
    all_goals omega
  refine W_seq (W_seq (?_))
  refine u_1 ?_
  refine W_cond rfl (fun h => W_seq ?_) (fun h2 => W_skip ?_)
  · refine u_1 ?_
    have : decide (x = y) = false := by rw [decide_eq_false_iff_not]; intro e; rw [e] at h; simp at h
    refine W_ret ?_
    simp [Fin, this]
    all_goals omega
  refine W_seq (?_)
  refine u_1 ?_
  have : decide (x = y) = true := by
    rw [decide_eq_true_iff]
    cases x; cases y
    simp at h0 h1 h2
    simp_all
  refine W_ret ?_
  simp [Fin, this]
  all_goals omega

theorem markFar_g (x : GFar) (k : Int) (hx : x.cost ≤ 1099511627776) (hk : 0 ≤ k ∧ k + (x.marksIn : Nat) ≤ 140737488355328) :
    Valid PP GG F_L_markFar [.agg x.o, .d (.int .i64 k)] (.d (.int .i64 (k + (x.marksIn : Nat)))) [some (.agg (x.markIn k).o), none] := by
  refine v_L_markFar [.d (.int .i64 (k + (x.marksIn : Nat)))] rfl rfl ?_
  have hco : x.cost = (x.fUsers.length + sumBy GUser.cost x.fUsers) := rfl
  have hms : x.marksIn = sumBy GUser.marks x.fUsers := rfl
  refine W_seq (?_)
  refine u_1 ?_
  have ct := markUserS_g (GG := GG) x.fUsers k (by omega) (by omega)
  refine W_seq (?_)
  refine u_11 ct ?_
  refine W_seq (?_)
  refine u_1 ?_
  have hfin : (k + ((sumBy GUser.marks x.fUsers : Nat) : Int)) = k + (x.marksIn : Nat) := by omega
  simp only [GFar.markIn]
  refine W_ret ?_
  simp [Fin, hfin]
  all_goals omega

theorem szJob_g (x : GJob) (l : Int) (hx : x.ok) (h0 : 0 ≤ l ∧ l ≤ 1048576) : Valid PP GG F_L_szJob [.agg x.c, .d (.int .i64 l)] (.d (.int .i64 (leftR x.cost l))) [none, none] := by
  refine v_L_szJob [.d (.int .i64 (leftR x.cost l))] rfl rfl ?_
  have hco : x.cost = x.fName.length := rfl
  unfold GJob.ok maxLen at hx
  obtain ⟨okName0, okAt0, okTries0⟩ := hx
  generalize x.cost = co at hco
  refine W_seq (?_)
  refine u_1 ?_
  obtain ⟨l1, el1⟩ : ∃ z : Int, l - x.fName.length = z := ⟨_, rfl⟩
  have wl1 : IntKind.i64.wrap (l - x.fName.length) = l1 := by rw [wrap_id (by omega) (by omega)]; exact el1
  refine W_seq (?_)
  refine u_29 ?_
  refine W_seq (W_seq (?_))
  refine u_1 ?_
  refine W_cond rfl (fun hh0 => W_seq ?_) (fun hh0 => W_skip ?_)
  · refine u_1 ?_
    simp at hh0
    have : leftR co l = -1 := leftR_no (by omega)
    refine W_ret ?_
    simp [Fin, this]
    all_goals omega
  simp at hh0
  refine W_seq (?_)
  refine u_1 ?_
  have : leftR co l = l1 := by rw [leftR_yes (by omega)]; omega
  refine W_ret ?_
  simp [Fin, this]
  all_goals omega

theorem szJobS_g (a : List GJob) (l : Int) (hlen : a.length ≤ maxLen) (hx : ∀ x, x ∈ a → x.ok) (h0 : 0 ≤ l ∧ l ≤ 1048576) :
    Valid PP GG F_L_szJobS [.d (.slc 3 (rJob a)), .d (.int .i64 l)] (.d (.int .i64 (leftR (a.length + sumBy GJob.cost a) l))) [none, none] := by
  refine v_L_szJobS [.d (.int .i64 (leftR (a.length + sumBy GJob.cost a) l))] rfl rfl ?_
  unfold maxLen at hlen
  obtain ⟨m, hm⟩ : ∃ z : Int, l - a.length = z := ⟨_, rfl⟩
  have hw : IntKind.i64.wrap (l - a.length) = m := by rw [wrap_id (by omega) (by omega)]; exact hm
  refine W_seq (?_)
  refine u_1 ?_
  refine W_seq (?_)
  refine u_7 hw ?_
  refine W_seq (W_seq (?_))
  refine u_1 ?_
  refine W_cond rfl (fun h => W_seq ?_) (fun h => W_skip ?_)
  · refine u_1 ?_
    simp at h
    have : leftR (a.length + sumBy GJob.cost a) l = -1 := leftR_no (by omega)
    refine W_ret ?_
    simp [Fin, this]
    all_goals omega
  simp at h
  refine W_seq (W_seq (?_))
  refine u_1 ?_
  refine W_block (W_loop (fun n st => ∃ (i : Nat) (v : Int), n = a.length - i ∧ i ≤ a.length ∧ 0 ≤ v ∧ v = m - (sumBy GJob.cost (a.take i) : Nat) ∧
    st = ⟨[], [(0, .d (.slc 3 (rJob a))), (1, .d (.int .i64 v)), (5, .d (.int .i64 i))], [], 0⟩) _ ⟨0, m, rfl, by omega, h, by simp [sumBy], rfl⟩ ?_)
  rintro n st ⟨i, v, rfl, hi, hv, he, rfl⟩
  refine W_seq (W_seq (?_))
  refine u_1 ?_
  refine W_cond rfl (fun h2 => W_skip ?_) (fun h2 => W_exit ?_)
  · simp at h2
    have ha := List.getElem?_eq_getElem h2
    generalize a[i] = x at ha
    have hs := sumBy_succ (f := GJob.cost) ha
    have ht := sumBy_take GJob.cost a (i + 1)
    have ct := szJob_g (GG := GG) x v (hx x (List.mem_of_getElem? ha)) ⟨hv, by omega⟩
    obtain ⟨v2, hv2⟩ : ∃ z : Int, leftR x.cost v = z := ⟨_, rfl⟩
    rw [hv2] at ct
    refine W_seq (W_block (W_seq ?_))
    refine u_17 ha ct ?_
    refine W_seq (?_)
    refine u_1 ?_
    refine W_cond rfl (fun h3 => W_seq ?_) (fun h3 => W_skip ?_)
    · refine u_1 ?_
      simp at h3
      rw [← hv2] at h3
      have hn := leftR_neg (by omega) h3
      have : leftR (a.length + sumBy GJob.cost a) l = -1 := leftR_no (by omega)
      refine W_ret ?_
      simp [Fin, this]
      all_goals omega
    simp at h3
    rw [← hv2] at h3
    obtain ⟨g1, g2⟩ := leftR_pos (Int.not_lt.2 h3)
    rw [hv2] at g2
    refine u_1 ?_
    exact ⟨a.length - (i + 1), by omega, i + 1, v2, rfl, h2, by omega, by omega, by simp [gc, closeN, liveA, gcV, gcO, renA, namesAs, namesA]; rw [wrap_id (by omega) (by omega)]⟩
  · simp at h2
    rw [if_pos rfl]
    rw [List.take_of_length_le h2] at he
    refine W_seq (?_)
    refine u_1 ?_
    have : leftR (a.length + sumBy GJob.cost a) l = v := by rw [leftR_yes (by omega)]; omega
    refine W_ret ?_
    simp [Fin, this]
    all_goals omega

theorem toJob_g (x : GJob) (hx : x.cost ≤ 1099511627776) : Valid PP GG F_L_toJob [.agg x.c] (.agg x.o) [none] := by
  refine v_L_toJob [.agg x.o] rfl rfl ?_
  have hco : x.cost = x.fName.length := rfl
  refine W_seq (?_)
  refine u_1 ?_
  refine W_seq (?_)
  refine u_1 ?_
  refine W_seq (?_)
  refine u_1 ?_
  refine W_seq (?_)
  refine u_1 ?_
  refine W_seq (?_)
  refine u_1 ?_
  refine W_seq (?_)
  refine u_1 ?_
  refine W_ret ?_
  simp [Fin]
  all_goals omega

theorem toJobS_g (a : List GJob) (hx : a.length + sumBy GJob.cost a ≤ 1099511627776) : Valid PP GG F_L_toJobS [.d (.slc 3 (rJob a))] (.own 0 3 (rJob a)) [none] := by
  refine v_L_toJobS [.own 0 3 (rJob a)] rfl rfl ?_
  refine W_seq (?_)
  refine u_1 ?_
  refine W_seq (?_)
  refine u_3 ?_
  refine W_seq (W_seq (?_))
  refine u_1 ?_
  refine W_block (W_loop (fun n st => ∃ (i : Nat) (R : List (List D)), n = a.length - i ∧ i ≤ a.length ∧ R.length = a.length ∧ (∀ r, r ∈ R → r.length = 3) ∧ R.take i = rJob (a.take i) ∧
    st = ⟨[], [(0, .d (.slc 3 (rJob a))), (3, .sl 0), (4, .d (.int .i64 i))], [(0, .arr 0 0 3 R)], 1⟩) _ ⟨0, List.replicate a.length [.str [], .int .i64 0, .int .i64 0], rfl, by omega, by simp, by intro r hr; rw [List.eq_of_mem_replicate hr]; rfl, rfl, rfl⟩ ?_)
  rintro n st ⟨i, R, rfl, hi, hl, h1, hR, rfl⟩
  refine W_seq (W_seq (?_))
  refine u_1 ?_
  refine W_cond rfl (fun h => W_skip ?_) (fun h => W_exit ?_)
  · simp at h
    have ha := List.getElem?_eq_getElem h
    generalize a[i] = x at ha
    have hg := sumBy_get (f := GJob.cost) ha
    obtain ⟨y0, y1, y2, hd⟩ := rows3 h1 (show i < R.length by omega)
    refine W_seq (W_block ?_)
    refine u_21 ha hd hl (toJob_g x (by omega)) ?_
    refine u_1 ?_
    exact ⟨a.length - (i + 1), by omega, i + 1, R.set i x.row, rfl, h, by simpa using hl, set3 h1 rfl, by rw [take_set_succ (by omega), hR, List.take_add_one, ha, rJob_app]; rfl,
      by simp [gc, closeN, liveA, gcV, gcO, renA, renO, namesAs, namesA, namesO, posn]; rw [wrap_id (by omega) (by omega)]⟩
  · simp at h
    have e : R = rJob a := by rwa [List.take_of_length_le (by omega), List.take_of_length_le (by omega)] at hR
    subst e
    rw [if_pos rfl]
    refine W_seq (?_)
    refine u_1 ?_
    refine W_ret ?_
    simp [Fin]
    all_goals omega

theorem eqJob_g (x y : GJob) (hx : x.cost ≤ 1099511627776) (hy : y.cost ≤ 1099511627776) : Valid PP GG F_L_eqJob [.agg x.c, .agg y.c] (.d (.bool (decide (x = y)))) [none, none] := by
  refine v_L_eqJob [.d (.bool (decide (x = y)))] rfl rfl ?_
  have hcx : x.cost = x.fName.length := rfl
  have hcy : y.cost = y.fName.length := rfl
  refine W_seq (?_)
  refine u_1 ?_
  refine W_seq (W_seq (?_))
  refine u_1 ?_
  refine W_cond rfl (fun h => W_seq ?_) (fun h0 => W_skip ?_)
  · refine u_1 ?_
    have : decide (x = y) = false := by rw [decide_eq_false_iff_not]; intro e; rw [e] at h; simp at h
    refine W_ret ?_
    simp [Fin, this]
    all_goals omega
  refine W_seq (W_seq (?_))
  refine u_1 ?_
  refine W_cond rfl (fun h => W_seq ?_) (fun h1 => W_skip ?_)
  · refine u_1 ?_
    have : decide (x = y) = false := by rw [decide_eq_false_iff_not]; intro e; rw [e] at h; simp at h
    refine W_ret ?_
    simp [Fin, this]
    all_goals omega
  refine W_seq (W_seq (?_))
  refine u_1 ?_
  refine W_cond rfl (fun h => W_seq ?_) (fun h2 => W_skip ?_)
  · refine u_1 ?_
    have : decide (x = y) = false := by rw [decide_eq_false_iff_not]; intro e; rw [e] at h; simp at h
    refine W_ret ?_
    simp [Fin, this]
    all_goals omega
  refine W_seq (?_)
  refine u_1 ?_
  have : decide (x = y) = true := by
    rw [decide_eq_true_iff]
    cases x; cases y
    simp at h0 h1 h2
    simp_all
  refine W_ret ?_
  simp [Fin, this]
  all_goals omega

theorem eqJobS_g (a b : List GJob) (hx : a.length + sumBy GJob.cost a ≤ 1099511627776) (hy : b.length + sumBy GJob.cost b ≤ 1099511627776) : Valid PP GG F_L_eqJobS [.d (.slc 3 (rJob a)), .d (.slc 3 (rJob b))] (.d (.bool (decide (a = b)))) [none, none] := by
  refine v_L_eqJobS [.d (.bool (decide (a = b)))] rfl rfl ?_
  refine W_seq (?_)
  refine u_1 ?_
  refine W_seq (W_seq (?_))
  refine u_1 ?_
  refine W_cond rfl (fun h => W_seq ?_) (fun hlen => W_skip ?_)
  · refine u_1 ?_
    have : decide (a = b) = false := by rw [decide_eq_false_iff_not]; intro e; subst e; simp at h
    refine W_ret ?_
    simp [Fin, this]
    all_goals omega
  refine W_seq (W_seq (?_))
  simp at hlen
  refine u_1 ?_
  refine W_block (W_loop (fun n st => ∃ i : Nat, n = a.length - i ∧ i ≤ a.length ∧ a.take i = b.take i ∧ st = ⟨[], [(0, .d (.slc 3 (rJob a))), (1, .d (.slc 3 (rJob b))), (5, .d (.int .i64 i))], [], 0⟩) _ ⟨0, rfl, by omega, rfl, rfl⟩ ?_)
  rintro n st ⟨i, rfl, hi, he, rfl⟩
  refine W_seq (W_seq (?_))
  refine u_1 ?_
  refine W_cond rfl (fun h => W_skip ?_) (fun h => W_exit ?_)
  · simp at h
    have ha := List.getElem?_eq_getElem h
    have hb := List.getElem?_eq_getElem (show i < b.length by omega)
    generalize a[i] = x at ha
    generalize b[i]'_ = y at hb
    have ga := sumBy_get (f := GJob.cost) ha
    have gb := sumBy_get (f := GJob.cost) hb
    refine W_seq (W_block (W_seq ?_))
    refine u_22 ha hb (eqJob_g x y (by omega) (by omega)) ?_
    refine W_cond rfl (fun h2 => W_seq ?_) (fun h2 => W_skip ?_)
    · refine u_1 ?_
      have : decide (a = b) = false := by rw [decide_eq_false_iff_not]; intro e; subst e; rw [ha] at hb; cases hb; simp at h2
      refine W_ret ?_
      simp [Fin, this]
      all_goals omega
    refine u_1 ?_
    have hxy : x = y := by simpa using h2
    subst hxy
    exact ⟨a.length - (i + 1), by omega, i + 1, rfl, h, take_succ_eq he ha hb, by simp [gc, closeN, liveA, gcV, gcO, renA, namesAs, namesA]; rw [wrap_id (by omega) (by omega)]⟩
  · simp at h
    rw [if_pos rfl]
    refine W_seq (?_)
    refine u_1 ?_
    have : decide (a = b) = true := by
      rw [decide_eq_true_iff]
      rwa [List.take_of_length_le h, List.take_of_length_le (by omega)] at he
    refine W_ret ?_
    simp [Fin, this]
    all_goals omega

theorem markJobS_g (a : List GJob) (k : Int) (hx : a.length + sumBy GJob.cost a ≤ 1099511627776) (hk : 0 ≤ k ∧ k + (sumBy GJob.marks a : Nat) ≤ 140737488355328) :
    Valid PP GG F_L_markJobS [.own 0 3 (rJob a), .d (.int .i64 k)] (.d (.int .i64 (k + (sumBy GJob.marks a : Nat)))) [some (.own 0 3 (rJob (markL GJob.mark GJob.marks a k))), none] := by
  refine v_L_markJobS [.d (.int .i64 (k + (sumBy GJob.marks a : Nat)))] rfl rfl ?_
  have hml := sumBy_le GJob.marks_le a
  refine W_seq (?_)
  refine u_1 ?_
  refine W_seq (W_seq (?_))
  refine u_1 ?_
  refine W_block (W_loop (fun n st => ∃ (i : Nat) (R : List (List D)) (q : Int), n = a.length - i ∧ i ≤ a.length ∧ R = rJob (markL GJob.mark GJob.marks (a.take i) k ++ a.drop i) ∧ q = k + (sumBy GJob.marks (a.take i) : Nat) ∧
    st = ⟨[], [(0, .sl 0), (1, .d (.int .i64 q)), (5, .d (.int .i64 i))], [(0, .arr 0 0 3 R)], 1⟩) _ ⟨0, rJob a, k, rfl, by omega, rfl, by simp [sumBy], by simp [gc, closeN, liveA, gcV, gcO, renA, renO, namesAs, namesA, namesO, posn]⟩ ?_)
  rintro n st ⟨i, R, q, rfl, hi, hR, hq, rfl⟩
  have hl : R.length = a.length := by rw [hR]; simp [markL_len]; omega
  refine W_seq (W_seq (?_))
  refine u_1 ?_
  refine W_cond rfl (fun h => W_skip ?_) (fun h => W_exit ?_)
  · simp [hl] at h
    have ha := List.getElem?_eq_getElem h
    generalize a[i] = x at ha
    have hg := sumBy_get (f := GJob.cost) ha
    have hs := sumBy_succ (f := GJob.marks) ha
    have ht := sumBy_take GJob.marks a (i + 1)
    have hsucc : R.set i (x.mark q).row = rJob (markL GJob.mark GJob.marks (a.take (i + 1)) k ++ a.drop (i + 1)) := by
      rw [hR, drop_get ha, rJob_app]
      show (rJob (markL GJob.mark GJob.marks (a.take i) k) ++ x.row :: rJob (a.drop (i + 1))).set i (x.mark q).row = _
      rw [set_mid (by simp [markL_len]; omega), markL_succ k ha, rJob_app, rJob_app, hq]; rfl
    have hd : R[i]? = some x.row := by
      rw [hR, drop_get ha, rJob_app]
      exact mid_get (by simp [markL_len]; omega)
    have hset := fun y => set_get hd y
    have hme : x.mark q = { fName := markT (q), fAt := q + 1, fTries := q + 1 + 1 } := rfl
    have hms : x.marks = 1 + 1 + 1 := rfl
    have hco : x.cost = x.fName.length := rfl
    clear hR
    refine W_seq (W_block (W_seq ?_))
    simp only [GJob.row] at hd
    refine u_21 hd hset hl (markText_ok q (by omega)) ?_
    obtain ⟨q1, hq1⟩ : ∃ z : Int, q + 1 = z := ⟨_, rfl⟩
    have wq1 : IntKind.i64.wrap (q + 1) = q1 := by rw [wrap_id (by omega) (by omega)]; exact hq1
    refine W_seq (?_)
    refine u_23 ?_
    refine W_seq (?_)
    refine u_4 hd hset hl ?_
    obtain ⟨q2, hq2⟩ : ∃ z : Int, q1 + 1 = z := ⟨_, rfl⟩
    have wq2 : IntKind.i64.wrap (q1 + 1) = q2 := by rw [wrap_id (by omega) (by omega)]; exact hq2
    refine W_seq (?_)
    refine u_24 ?_
    refine W_seq (?_)
    refine u_4 hd hset hl ?_
    obtain ⟨q3, hq3⟩ : ∃ z : Int, q2 + 1 = z := ⟨_, rfl⟩
    have wq3 : IntKind.i64.wrap (q2 + 1) = q3 := by rw [wrap_id (by omega) (by omega)]; exact hq3
    refine u_30 ?_
    refine u_1 ?_
    refine ⟨a.length - (i + 1), by omega, i + 1, R.set i (x.mark q).row, q3, rfl, h, hsucc, by omega, ?_⟩
    simp [gc, closeN, liveA, gcV, gcO, renA, renO, namesAs, namesA, namesO, posn]
    refine ⟨wrap_id (by omega) (by omega), ?_⟩
    simp only [hme, hq1, hq2, hq3]
  · simp [hl] at h
    have e : R = rJob (markL GJob.mark GJob.marks a k) := by
      rw [List.take_of_length_le h, List.drop_eq_nil_of_le h] at hR; simpa using hR
    rw [List.take_of_length_le h] at hq
    subst e
    rw [if_pos rfl]
    refine W_seq (?_)
    refine u_1 ?_
    subst hq
    refine W_ret ?_
    simp [Fin]
    all_goals omega

theorem szQueue_g (x : GQueue) (l : Int) (hx : x.ok) (h0 : 0 ≤ l ∧ l ≤ 1048576) : Valid PP GG F_L_szQueue [.agg x.c, .d (.int .i64 l)] (.d (.int .i64 (leftR x.cost l))) [none, none] := by
  refine v_L_szQueue [.d (.int .i64 (leftR x.cost l))] rfl rfl ?_
  have hco : x.cost = (x.fJobs.length + sumBy GJob.cost x.fJobs) := rfl
  unfold GQueue.ok maxLen at hx
  obtain ⟨okJobs0, okJobs1⟩ := hx
  generalize x.cost = co at hco
  refine W_seq (?_)
  refine u_1 ?_
  have ct := szJobS_g (GG := GG) x.fJobs l (by unfold maxLen; omega) okJobs1 ⟨by omega, by omega⟩
  obtain ⟨l1, el1⟩ : ∃ z : Int, leftR (x.fJobs.length + sumBy GJob.cost x.fJobs) l = z := ⟨_, rfl⟩
  rw [el1] at ct
  refine W_seq (?_)
  refine u_11 ct ?_
  clear ct
  refine W_seq (W_seq (?_))
  refine u_1 ?_
  refine W_cond rfl (fun hh0 => W_seq ?_) (fun hh0 => W_skip ?_)
  · refine u_1 ?_
    simp at hh0
    rw [← el1] at hh0
    have hn := leftR_neg (by omega) hh0
    have : leftR co l = -1 := leftR_no (by omega)
    refine W_ret ?_
    simp [Fin, this]
    all_goals omega
  simp at hh0
  rw [← el1] at hh0
  obtain ⟨gl1, jl1⟩ := leftR_pos (Int.not_lt.2 hh0)
  rw [el1] at jl1 hh0
  refine W_seq (?_)
  refine u_1 ?_
  have : leftR co l = l1 := by rw [leftR_yes (by omega)]; omega
  refine W_ret ?_
  simp [Fin, this]
  all_goals omega

theorem toQueue_g (x : GQueue) (hx : x.cost ≤ 1099511627776) : Valid PP GG F_L_toQueue [.agg x.c] (.agg x.o) [none] := by
  refine v_L_toQueue [.agg x.o] rfl rfl ?_
  have hco : x.cost = (x.fJobs.length + sumBy GJob.cost x.fJobs) := rfl
  refine W_seq (?_)
  refine u_1 ?_
  refine W_seq (?_)
  refine u_1 ?_
  refine W_seq (?_)
  refine u_11 (toJobS_g x.fJobs (by omega)) ?_
  refine W_seq (?_)
  refine u_1 ?_
  refine W_ret ?_
  simp [Fin]
  all_goals omega

theorem eqQueue_g (x y : GQueue) (hx : x.cost ≤ 1099511627776) (hy : y.cost ≤ 1099511627776) : Valid PP GG F_L_eqQueue [.agg x.c, .agg y.c] (.d (.bool (decide (x = y)))) [none, none] := by
  refine v_L_eqQueue [.d (.bool (decide (x = y)))] rfl rfl ?_
  have hcx : x.cost = (x.fJobs.length + sumBy GJob.cost x.fJobs) := rfl
  have hcy : y.cost = (y.fJobs.length + sumBy GJob.cost y.fJobs) := rfl
  refine W_seq (?_)
  refine u_1 ?_
  refine W_seq (W_seq (?_))
  refine u_11 (eqJobS_g x.fJobs y.fJobs (by omega) (by omega)) ?_
  refine W_cond rfl (fun h => W_seq ?_) (fun h0 => W_skip ?_)
  · refine u_1 ?_
    have : decide (x = y) = false := by rw [decide_eq_false_iff_not]; intro e; rw [e] at h; simp at h
    refine W_ret ?_
    simp [Fin, this]
    all_goals omega
  refine W_seq (?_)
  refine u_1 ?_
  have : decide (x = y) = true := by
    rw [decide_eq_true_iff]
    cases x; cases y
    simp at h0
    simp_all
  refine W_ret ?_
  simp [Fin, this]
  all_goals omega

theorem markQueue_g (x : GQueue) (k : Int) (hx : x.cost ≤ 1099511627776) (hk : 0 ≤ k ∧ k + (x.marksIn : Nat) ≤ 140737488355328) :
    Valid PP GG F_L_markQueue [.agg x.o, .d (.int .i64 k)] (.d (.int .i64 (k + (x.marksIn : Nat)))) [some (.agg (x.markIn k).o), none] := by
  refine v_L_markQueue [.d (.int .i64 (k + (x.marksIn : Nat)))] rfl rfl ?_
  have hco : x.cost = (x.fJobs.length + sumBy GJob.cost x.fJobs) := rfl
  have hms : x.marksIn = sumBy GJob.marks x.fJobs := rfl
  refine W_seq (?_)
  refine u_1 ?_
  have ct := markJobS_g (GG := GG) x.fJobs k (by omega) (by omega)
  refine W_seq (?_)
  refine u_11 ct ?_
  refine W_seq (?_)
  refine u_1 ?_
  have hfin : (k + ((sumBy GJob.marks x.fJobs : Nat) : Int)) = k + (x.marksIn : Nat) := by omega
  simp only [GQueue.markIn]
  refine W_ret ?_
  simp [Fin, hfin]
  all_goals omega

theorem szOwned_g (x : GOwned) (l : Int) (hx : x.ok) (h0 : 0 ≤ l ∧ l ≤ 1048576) : Valid PP GG F_L_szOwned [.agg x.c, .d (.int .i64 l)] (.d (.int .i64 (leftR x.cost l))) [none, none] := by
  refine v_L_szOwned [.d (.int .i64 (leftR x.cost l))] rfl rfl ?_
  have hco : x.cost = x.fName.length := rfl
  unfold GOwned.ok maxLen at hx
  obtain ⟨okLease0, okName0⟩ := hx
  generalize x.cost = co at hco
  refine W_seq (?_)
  refine u_1 ?_
  obtain ⟨l1, el1⟩ : ∃ z : Int, l - x.fName.length = z := ⟨_, rfl⟩
  have wl1 : IntKind.i64.wrap (l - x.fName.length) = l1 := by rw [wrap_id (by omega) (by omega)]; exact el1
  refine W_seq (?_)
  refine u_29 ?_
  refine W_seq (W_seq (?_))
  refine u_1 ?_
  refine W_cond rfl (fun hh0 => W_seq ?_) (fun hh0 => W_skip ?_)
  · refine u_1 ?_
    simp at hh0
    have : leftR co l = -1 := leftR_no (by omega)
    refine W_ret ?_
    simp [Fin, this]
    all_goals omega
  simp at hh0
  refine W_seq (?_)
  refine u_1 ?_
  have : leftR co l = l1 := by rw [leftR_yes (by omega)]; omega
  refine W_ret ?_
  simp [Fin, this]
  all_goals omega

theorem szOwnedS_g (a : List GOwned) (l : Int) (hlen : a.length ≤ maxLen) (hx : ∀ x, x ∈ a → x.ok) (h0 : 0 ≤ l ∧ l ≤ 1048576) :
    Valid PP GG F_L_szOwnedS [.d (.slc 2 (rOwned a)), .d (.int .i64 l)] (.d (.int .i64 (leftR (a.length + sumBy GOwned.cost a) l))) [none, none] := by
  refine v_L_szOwnedS [.d (.int .i64 (leftR (a.length + sumBy GOwned.cost a) l))] rfl rfl ?_
  unfold maxLen at hlen
  obtain ⟨m, hm⟩ : ∃ z : Int, l - a.length = z := ⟨_, rfl⟩
  have hw : IntKind.i64.wrap (l - a.length) = m := by rw [wrap_id (by omega) (by omega)]; exact hm
  refine W_seq (?_)
  refine u_1 ?_
  refine W_seq (?_)
  refine u_7 hw ?_
  refine W_seq (W_seq (?_))
  refine u_1 ?_
  refine W_cond rfl (fun h => W_seq ?_) (fun h => W_skip ?_)
  · refine u_1 ?_
    simp at h
    have : leftR (a.length + sumBy GOwned.cost a) l = -1 := leftR_no (by omega)
    refine W_ret ?_
    simp [Fin, this]
    all_goals omega
  simp at h
  refine W_seq (W_seq (?_))
  refine u_1 ?_
  refine W_block (W_loop (fun n st => ∃ (i : Nat) (v : Int), n = a.length - i ∧ i ≤ a.length ∧ 0 ≤ v ∧ v = m - (sumBy GOwned.cost (a.take i) : Nat) ∧
    st = ⟨[], [(0, .d (.slc 2 (rOwned a))), (1, .d (.int .i64 v)), (5, .d (.int .i64 i))], [], 0⟩) _ ⟨0, m, rfl, by omega, h, by simp [sumBy], rfl⟩ ?_)
  rintro n st ⟨i, v, rfl, hi, hv, he, rfl⟩
  refine W_seq (W_seq (?_))
  refine u_1 ?_
  refine W_cond rfl (fun h2 => W_skip ?_) (fun h2 => W_exit ?_)
  · simp at h2
    have ha := List.getElem?_eq_getElem h2
    generalize a[i] = x at ha
    have hs := sumBy_succ (f := GOwned.cost) ha
    have ht := sumBy_take GOwned.cost a (i + 1)
    have ct := szOwned_g (GG := GG) x v (hx x (List.mem_of_getElem? ha)) ⟨hv, by omega⟩
    obtain ⟨v2, hv2⟩ : ∃ z : Int, leftR x.cost v = z := ⟨_, rfl⟩
    rw [hv2] at ct
    refine W_seq (W_block (W_seq ?_))
    refine u_17 ha ct ?_
    refine W_seq (?_)
    refine u_1 ?_
    refine W_cond rfl (fun h3 => W_seq ?_) (fun h3 => W_skip ?_)
    · refine u_1 ?_
      simp at h3
      rw [← hv2] at h3
      have hn := leftR_neg (by omega) h3
      have : leftR (a.length + sumBy GOwned.cost a) l = -1 := leftR_no (by omega)
      refine W_ret ?_
      simp [Fin, this]
      all_goals omega
    simp at h3
    rw [← hv2] at h3
    obtain ⟨g1, g2⟩ := leftR_pos (Int.not_lt.2 h3)
    rw [hv2] at g2
    refine u_1 ?_
    exact ⟨a.length - (i + 1), by omega, i + 1, v2, rfl, h2, by omega, by omega, by simp [gc, closeN, liveA, gcV, gcO, renA, namesAs, namesA]; rw [wrap_id (by omega) (by omega)]⟩
  · simp at h2
    rw [if_pos rfl]
    rw [List.take_of_length_le h2] at he
    refine W_seq (?_)
    refine u_1 ?_
    have : leftR (a.length + sumBy GOwned.cost a) l = v := by rw [leftR_yes (by omega)]; omega
    refine W_ret ?_
    simp [Fin, this]
    all_goals omega

theorem toOwned_g (x : GOwned) (hx : x.cost ≤ 1099511627776) : Valid PP GG F_L_toOwned [.agg x.c] (.agg x.o) [none] := by
  refine v_L_toOwned [.agg x.o] rfl rfl ?_
  have hco : x.cost = x.fName.length := rfl
  refine W_seq (?_)
  refine u_1 ?_
  refine W_seq (?_)
  refine u_1 ?_
  refine W_seq (?_)
  refine u_1 ?_
  refine W_seq (?_)
  refine u_1 ?_
  refine W_seq (?_)
  refine u_1 ?_
  refine W_ret ?_
  simp [Fin]
  all_goals omega

theorem toOwnedS_g (a : List GOwned) (hx : a.length + sumBy GOwned.cost a ≤ 1099511627776) : Valid PP GG F_L_toOwnedS [.d (.slc 2 (rOwned a))] (.own 0 2 (rOwned a)) [none] := by
  refine v_L_toOwnedS [.own 0 2 (rOwned a)] rfl rfl ?_
  refine W_seq (?_)
  refine u_1 ?_
  refine W_seq (?_)
  refine u_3 ?_
  refine W_seq (W_seq (?_))
  refine u_1 ?_
  refine W_block (W_loop (fun n st => ∃ (i : Nat) (R : List (List D)), n = a.length - i ∧ i ≤ a.length ∧ R.length = a.length ∧ (∀ r, r ∈ R → r.length = 2) ∧ R.take i = rOwned (a.take i) ∧
    st = ⟨[], [(0, .d (.slc 2 (rOwned a))), (3, .sl 0), (4, .d (.int .i64 i))], [(0, .arr 0 0 2 R)], 1⟩) _ ⟨0, List.replicate a.length [.int .i64 0, .str []], rfl, by omega, by simp, by intro r hr; rw [List.eq_of_mem_replicate hr]; rfl, rfl, rfl⟩ ?_)
  rintro n st ⟨i, R, rfl, hi, hl, h1, hR, rfl⟩
  refine W_seq (W_seq (?_))
  refine u_1 ?_
  refine W_cond rfl (fun h => W_skip ?_) (fun h => W_exit ?_)
  · simp at h
    have ha := List.getElem?_eq_getElem h
    generalize a[i] = x at ha
    have hg := sumBy_get (f := GOwned.cost) ha
    obtain ⟨y0, y1, hd⟩ := rows2 h1 (show i < R.length by omega)
    refine W_seq (W_block ?_)
    refine u_21 ha hd hl (toOwned_g x (by omega)) ?_
    refine u_1 ?_
    exact ⟨a.length - (i + 1), by omega, i + 1, R.set i x.row, rfl, h, by simpa using hl, set2 h1 rfl, by rw [take_set_succ (by omega), hR, List.take_add_one, ha, rOwned_app]; rfl,
      by simp [gc, closeN, liveA, gcV, gcO, renA, renO, namesAs, namesA, namesO, posn]; rw [wrap_id (by omega) (by omega)]⟩
  · simp at h
    have e : R = rOwned a := by rwa [List.take_of_length_le (by omega), List.take_of_length_le (by omega)] at hR
    subst e
    rw [if_pos rfl]
    refine W_seq (?_)
    refine u_1 ?_
    refine W_ret ?_
    simp [Fin]
    all_goals omega

theorem eqOwned_g (x y : GOwned) (hx : x.cost ≤ 1099511627776) (hy : y.cost ≤ 1099511627776) : Valid PP GG F_L_eqOwned [.agg x.c, .agg y.c] (.d (.bool (decide (x = y)))) [none, none] := by
  refine v_L_eqOwned [.d (.bool (decide (x = y)))] rfl rfl ?_
  have hcx : x.cost = x.fName.length := rfl
  have hcy : y.cost = y.fName.length := rfl
  refine W_seq (?_)
  refine u_1 ?_
  refine W_seq (W_seq (?_))
  refine u_1 ?_
  refine W_cond rfl (fun h => W_seq ?_) (fun h0 => W_skip ?_)
  · refine u_1 ?_
    have : decide (x = y) = false := by rw [decide_eq_false_iff_not]; intro e; rw [e] at h; simp at h
    refine W_ret ?_
    simp [Fin, this]
    all_goals omega
  refine W_seq (W_seq (?_))
  refine u_1 ?_
  refine W_cond rfl (fun h => W_seq ?_) (fun h1 => W_skip ?_)
  · refine u_1 ?_
    have : decide (x = y) = false := by rw [decide_eq_false_iff_not]; intro e; rw [e] at h; simp at h
    refine W_ret ?_
    simp [Fin, this]
    all_goals omega
  refine W_seq (?_)
  refine u_1 ?_
  have : decide (x = y) = true := by
    rw [decide_eq_true_iff]
    cases x; cases y
    simp at h0 h1
    simp_all
  refine W_ret ?_
  simp [Fin, this]
  all_goals omega

theorem eqOwnedS_g (a b : List GOwned) (hx : a.length + sumBy GOwned.cost a ≤ 1099511627776) (hy : b.length + sumBy GOwned.cost b ≤ 1099511627776) : Valid PP GG F_L_eqOwnedS [.d (.slc 2 (rOwned a)), .d (.slc 2 (rOwned b))] (.d (.bool (decide (a = b)))) [none, none] := by
  refine v_L_eqOwnedS [.d (.bool (decide (a = b)))] rfl rfl ?_
  refine W_seq (?_)
  refine u_1 ?_
  refine W_seq (W_seq (?_))
  refine u_1 ?_
  refine W_cond rfl (fun h => W_seq ?_) (fun hlen => W_skip ?_)
  · refine u_1 ?_
    have : decide (a = b) = false := by rw [decide_eq_false_iff_not]; intro e; subst e; simp at h
    refine W_ret ?_
    simp [Fin, this]
    all_goals omega
  refine W_seq (W_seq (?_))
  simp at hlen
  refine u_1 ?_
  refine W_block (W_loop (fun n st => ∃ i : Nat, n = a.length - i ∧ i ≤ a.length ∧ a.take i = b.take i ∧ st = ⟨[], [(0, .d (.slc 2 (rOwned a))), (1, .d (.slc 2 (rOwned b))), (5, .d (.int .i64 i))], [], 0⟩) _ ⟨0, rfl, by omega, rfl, rfl⟩ ?_)
  rintro n st ⟨i, rfl, hi, he, rfl⟩
  refine W_seq (W_seq (?_))
  refine u_1 ?_
  refine W_cond rfl (fun h => W_skip ?_) (fun h => W_exit ?_)
  · simp at h
    have ha := List.getElem?_eq_getElem h
    have hb := List.getElem?_eq_getElem (show i < b.length by omega)
    generalize a[i] = x at ha
    generalize b[i]'_ = y at hb
    have ga := sumBy_get (f := GOwned.cost) ha
    have gb := sumBy_get (f := GOwned.cost) hb
    refine W_seq (W_block (W_seq ?_))
    refine u_22 ha hb (eqOwned_g x y (by omega) (by omega)) ?_
    refine W_cond rfl (fun h2 => W_seq ?_) (fun h2 => W_skip ?_)
    · refine u_1 ?_
      have : decide (a = b) = false := by rw [decide_eq_false_iff_not]; intro e; subst e; rw [ha] at hb; cases hb; simp at h2
      refine W_ret ?_
      simp [Fin, this]
      all_goals omega
    refine u_1 ?_
    have hxy : x = y := by simpa using h2
    subst hxy
    exact ⟨a.length - (i + 1), by omega, i + 1, rfl, h, take_succ_eq he ha hb, by simp [gc, closeN, liveA, gcV, gcO, renA, namesAs, namesA]; rw [wrap_id (by omega) (by omega)]⟩
  · simp at h
    rw [if_pos rfl]
    refine W_seq (?_)
    refine u_1 ?_
    have : decide (a = b) = true := by
      rw [decide_eq_true_iff]
      rwa [List.take_of_length_le h, List.take_of_length_le (by omega)] at he
    refine W_ret ?_
    simp [Fin, this]
    all_goals omega

theorem markOwnedS_g (a : List GOwned) (k : Int) (hx : a.length + sumBy GOwned.cost a ≤ 1099511627776) (hk : 0 ≤ k ∧ k + (sumBy GOwned.marks a : Nat) ≤ 140737488355328) :
    Valid PP GG F_L_markOwnedS [.own 0 2 (rOwned a), .d (.int .i64 k)] (.d (.int .i64 (k + (sumBy GOwned.marks a : Nat)))) [some (.own 0 2 (rOwned (markL GOwned.mark GOwned.marks a k))), none] := by
  refine v_L_markOwnedS [.d (.int .i64 (k + (sumBy GOwned.marks a : Nat)))] rfl rfl ?_
  have hml := sumBy_le GOwned.marks_le a
  refine W_seq (?_)
  refine u_1 ?_
  refine W_seq (W_seq (?_))
  refine u_1 ?_
  refine W_block (W_loop (fun n st => ∃ (i : Nat) (R : List (List D)) (q : Int), n = a.length - i ∧ i ≤ a.length ∧ R = rOwned (markL GOwned.mark GOwned.marks (a.take i) k ++ a.drop i) ∧ q = k + (sumBy GOwned.marks (a.take i) : Nat) ∧
    st = ⟨[], [(0, .sl 0), (1, .d (.int .i64 q)), (5, .d (.int .i64 i))], [(0, .arr 0 0 2 R)], 1⟩) _ ⟨0, rOwned a, k, rfl, by omega, rfl, by simp [sumBy], by simp [gc, closeN, liveA, gcV, gcO, renA, renO, namesAs, namesA, namesO, posn]⟩ ?_)
  rintro n st ⟨i, R, q, rfl, hi, hR, hq, rfl⟩
  have hl : R.length = a.length := by rw [hR]; simp [markL_len]; omega
  refine W_seq (W_seq (?_))
  refine u_1 ?_
  refine W_cond rfl (fun h => W_skip ?_) (fun h => W_exit ?_)
  · simp [hl] at h
    have ha := List.getElem?_eq_getElem h
    generalize a[i] = x at ha
    have hg := sumBy_get (f := GOwned.cost) ha
    have hs := sumBy_succ (f := GOwned.marks) ha
    have ht := sumBy_take GOwned.marks a (i + 1)
    have hsucc : R.set i (x.mark q).row = rOwned (markL GOwned.mark GOwned.marks (a.take (i + 1)) k ++ a.drop (i + 1)) := by
      rw [hR, drop_get ha, rOwned_app]
      show (rOwned (markL GOwned.mark GOwned.marks (a.take i) k) ++ x.row :: rOwned (a.drop (i + 1))).set i (x.mark q).row = _
      rw [set_mid (by simp [markL_len]; omega), markL_succ k ha, rOwned_app, rOwned_app, hq]; rfl
    have hd : R[i]? = some x.row := by
      rw [hR, drop_get ha, rOwned_app]
      exact mid_get (by simp [markL_len]; omega)
    have hset := fun y => set_get hd y
    have hme : x.mark q = { fLease := q, fName := markT (q + 1) } := rfl
    have hms : x.marks = 1 + 1 := rfl
    have hco : x.cost = x.fName.length := rfl
    clear hR
    refine W_seq (W_block (W_seq ?_))
    simp only [GOwned.row] at hd
    refine u_4 hd hset hl ?_
    obtain ⟨q1, hq1⟩ : ∃ z : Int, q + 1 = z := ⟨_, rfl⟩
    have wq1 : IntKind.i64.wrap (q + 1) = q1 := by rw [wrap_id (by omega) (by omega)]; exact hq1
    refine W_seq (?_)
    refine u_23 ?_
    refine W_seq (?_)
    refine u_21 hd hset hl (markText_ok q1 (by omega)) ?_
    obtain ⟨q2, hq2⟩ : ∃ z : Int, q1 + 1 = z := ⟨_, rfl⟩
    have wq2 : IntKind.i64.wrap (q1 + 1) = q2 := by rw [wrap_id (by omega) (by omega)]; exact hq2
    refine u_24 ?_
    refine u_1 ?_
    refine ⟨a.length - (i + 1), by omega, i + 1, R.set i (x.mark q).row, q2, rfl, h, hsucc, by omega, ?_⟩
    simp [gc, closeN, liveA, gcV, gcO, renA, renO, namesAs, namesA, namesO, posn]
    refine ⟨wrap_id (by omega) (by omega), ?_⟩
    simp only [hme, hq1, hq2]
  · simp [hl] at h
    have e : R = rOwned (markL GOwned.mark GOwned.marks a k) := by
      rw [List.take_of_length_le h, List.drop_eq_nil_of_le h] at hR; simpa using hR
    rw [List.take_of_length_le h] at hq
    subst e
    rw [if_pos rfl]
    refine W_seq (?_)
    refine u_1 ?_
    subst hq
    refine W_ret ?_
    simp [Fin]
    all_goals omega

theorem szWorld_g (x : GWorld) (l : Int) (hx : x.ok) (h0 : 0 ≤ l ∧ l ≤ 1048576) : Valid PP GG F_L_szWorld [.agg x.c, .d (.int .i64 l)] (.d (.int .i64 (leftR x.cost l))) [none, none] := by
  refine v_L_szWorld [.d (.int .i64 (leftR x.cost l))] rfl rfl ?_
  have hco : x.cost = x.fForest.cost + x.fBook.cost + x.fFar.cost + x.fQueue.cost + (x.fOwned.length + sumBy GOwned.cost x.fOwned) := rfl
  unfold GWorld.ok maxLen at hx
  obtain ⟨okNow0, okNext0, okLost0, okForest0, okBook0, okFar0, okQueue0, okOwned0, okOwned1⟩ := hx
  generalize x.cost = co at hco
  refine W_seq (?_)
  refine u_1 ?_
  have ct := szForest_g (GG := GG) x.fForest l okForest0 ⟨by omega, by omega⟩
  obtain ⟨l1, el1⟩ : ∃ z : Int, leftR x.fForest.cost l = z := ⟨_, rfl⟩
  rw [el1] at ct
  refine W_seq (?_)
  refine u_11 ct ?_
  clear ct
  refine W_seq (W_seq (?_))
  refine u_1 ?_
  refine W_cond rfl (fun hh0 => W_seq ?_) (fun hh0 => W_skip ?_)
  · refine u_1 ?_
    simp at hh0
    rw [← el1] at hh0
    have hn := leftR_neg (by omega) hh0
    have : leftR co l = -1 := leftR_no (by omega)
    refine W_ret ?_
    simp [Fin, this]
    all_goals omega
  simp at hh0
  rw [← el1] at hh0
  obtain ⟨gl1, jl1⟩ := leftR_pos (Int.not_lt.2 hh0)
  rw [el1] at jl1 hh0
  have ct := szBook_g (GG := GG) x.fBook l1 okBook0 ⟨by omega, by omega⟩
  obtain ⟨l2, el2⟩ : ∃ z : Int, leftR x.fBook.cost l1 = z := ⟨_, rfl⟩
  rw [el2] at ct
  refine W_seq (?_)
  refine u_11 ct ?_
  clear ct
  refine W_seq (W_seq (?_))
  refine u_1 ?_
  refine W_cond rfl (fun hh1 => W_seq ?_) (fun hh1 => W_skip ?_)
  · refine u_1 ?_
    simp at hh1
    rw [← el2] at hh1
    have hn := leftR_neg (by omega) hh1
    have : leftR co l = -1 := leftR_no (by omega)
    refine W_ret ?_
    simp [Fin, this]
    all_goals omega
  simp at hh1
  rw [← el2] at hh1
  obtain ⟨gl2, jl2⟩ := leftR_pos (Int.not_lt.2 hh1)
  rw [el2] at jl2 hh1
  have ct := szFar_g (GG := GG) x.fFar l2 okFar0 ⟨by omega, by omega⟩
  obtain ⟨l3, el3⟩ : ∃ z : Int, leftR x.fFar.cost l2 = z := ⟨_, rfl⟩
  rw [el3] at ct
  refine W_seq (?_)
  refine u_11 ct ?_
  clear ct
  refine W_seq (W_seq (?_))
  refine u_1 ?_
  refine W_cond rfl (fun hh2 => W_seq ?_) (fun hh2 => W_skip ?_)
  · refine u_1 ?_
    simp at hh2
    rw [← el3] at hh2
    have hn := leftR_neg (by omega) hh2
    have : leftR co l = -1 := leftR_no (by omega)
    refine W_ret ?_
    simp [Fin, this]
    all_goals omega
  simp at hh2
  rw [← el3] at hh2
  obtain ⟨gl3, jl3⟩ := leftR_pos (Int.not_lt.2 hh2)
  rw [el3] at jl3 hh2
  have ct := szQueue_g (GG := GG) x.fQueue l3 okQueue0 ⟨by omega, by omega⟩
  obtain ⟨l4, el4⟩ : ∃ z : Int, leftR x.fQueue.cost l3 = z := ⟨_, rfl⟩
  rw [el4] at ct
  refine W_seq (?_)
  refine u_11 ct ?_
  clear ct
  refine W_seq (W_seq (?_))
  refine u_1 ?_
  refine W_cond rfl (fun hh3 => W_seq ?_) (fun hh3 => W_skip ?_)
  · refine u_1 ?_
    simp at hh3
    rw [← el4] at hh3
    have hn := leftR_neg (by omega) hh3
    have : leftR co l = -1 := leftR_no (by omega)
    refine W_ret ?_
    simp [Fin, this]
    all_goals omega
  simp at hh3
  rw [← el4] at hh3
  obtain ⟨gl4, jl4⟩ := leftR_pos (Int.not_lt.2 hh3)
  rw [el4] at jl4 hh3
  have ct := szOwnedS_g (GG := GG) x.fOwned l4 (by unfold maxLen; omega) okOwned1 ⟨by omega, by omega⟩
  obtain ⟨l5, el5⟩ : ∃ z : Int, leftR (x.fOwned.length + sumBy GOwned.cost x.fOwned) l4 = z := ⟨_, rfl⟩
  rw [el5] at ct
  refine W_seq (?_)
  refine u_11 ct ?_
  clear ct
  refine W_seq (W_seq (?_))
  refine u_1 ?_
  refine W_cond rfl (fun hh4 => W_seq ?_) (fun hh4 => W_skip ?_)
  · refine u_1 ?_
    simp at hh4
    rw [← el5] at hh4
    have hn := leftR_neg (by omega) hh4
    have : leftR co l = -1 := leftR_no (by omega)
    refine W_ret ?_
    simp [Fin, this]
    all_goals omega
  simp at hh4
  rw [← el5] at hh4
  obtain ⟨gl5, jl5⟩ := leftR_pos (Int.not_lt.2 hh4)
  rw [el5] at jl5 hh4
  refine W_seq (?_)
  refine u_1 ?_
  have : leftR co l = l5 := by rw [leftR_yes (by omega)]; omega
  refine W_ret ?_
  simp [Fin, this]
  all_goals omega

theorem toWorld_g (x : GWorld) (hx : x.cost ≤ 1099511627776) : Valid PP GG F_L_toWorld [.agg x.c] (.agg x.o) [none] := by
  refine v_L_toWorld [.agg x.o] rfl rfl ?_
  have hco : x.cost = x.fForest.cost + x.fBook.cost + x.fFar.cost + x.fQueue.cost + (x.fOwned.length + sumBy GOwned.cost x.fOwned) := rfl
  refine W_seq (?_)
  refine u_1 ?_
  refine W_seq (?_)
  refine u_1 ?_
  refine W_seq (?_)
  refine u_1 ?_
  refine W_seq (?_)
  refine u_1 ?_
  refine W_seq (?_)
  refine u_1 ?_
  refine W_seq (?_)
  refine u_11 (toForest_g x.fForest (by omega)) ?_
  refine W_seq (?_)
  refine u_11 (toBook_g x.fBook (by omega)) ?_
  refine W_seq (?_)
  refine u_11 (toFar_g x.fFar (by omega)) ?_
  refine W_seq (?_)
  refine u_11 (toQueue_g x.fQueue (by omega)) ?_
  refine W_seq (?_)
  refine u_11 (toOwnedS_g x.fOwned (by omega)) ?_
  refine W_seq (?_)
  refine u_1 ?_
  refine W_ret ?_
  simp [Fin]
  all_goals omega

theorem eqWorld_g (x y : GWorld) (hx : x.cost ≤ 1099511627776) (hy : y.cost ≤ 1099511627776) : Valid PP GG F_L_eqWorld [.agg x.c, .agg y.c] (.d (.bool (decide (x = y)))) [none, none] := by
  refine v_L_eqWorld [.d (.bool (decide (x = y)))] rfl rfl ?_
  have hcx : x.cost = x.fForest.cost + x.fBook.cost + x.fFar.cost + x.fQueue.cost + (x.fOwned.length + sumBy GOwned.cost x.fOwned) := rfl
  have hcy : y.cost = y.fForest.cost + y.fBook.cost + y.fFar.cost + y.fQueue.cost + (y.fOwned.length + sumBy GOwned.cost y.fOwned) := rfl
  refine W_seq (?_)
  refine u_1 ?_
  refine W_seq (W_seq (?_))
  refine u_1 ?_
  refine W_cond rfl (fun h => W_seq ?_) (fun h0 => W_skip ?_)
  · refine u_1 ?_
    have : decide (x = y) = false := by rw [decide_eq_false_iff_not]; intro e; rw [e] at h; simp at h
    refine W_ret ?_
    simp [Fin, this]
    all_goals omega
  refine W_seq (W_seq (?_))
  refine u_1 ?_
  refine W_cond rfl (fun h => W_seq ?_) (fun h1 => W_skip ?_)
  · refine u_1 ?_
    have : decide (x = y) = false := by rw [decide_eq_false_iff_not]; intro e; rw [e] at h; simp at h
    refine W_ret ?_
    simp [Fin, this]
    all_goals omega
  refine W_seq (W_seq (?_))
  refine u_1 ?_
  refine W_cond rfl (fun h => W_seq ?_) (fun h2 => W_skip ?_)
  · refine u_1 ?_
    have : decide (x = y) = false := by rw [decide_eq_false_iff_not]; intro e; rw [e] at h; simp at h
    refine W_ret ?_
    simp [Fin, this]
    all_goals omega
  refine W_seq (W_seq (?_))
  refine u_11 (eqForest_g x.fForest y.fForest (by omega) (by omega)) ?_
  refine W_cond rfl (fun h => W_seq ?_) (fun h3 => W_skip ?_)
  · refine u_1 ?_
    have : decide (x = y) = false := by rw [decide_eq_false_iff_not]; intro e; rw [e] at h; simp at h
    refine W_ret ?_
    simp [Fin, this]
    all_goals omega
  refine W_seq (W_seq (?_))
  refine u_11 (eqBook_g x.fBook y.fBook (by omega) (by omega)) ?_
  refine W_cond rfl (fun h => W_seq ?_) (fun h4 => W_skip ?_)
  · refine u_1 ?_
    have : decide (x = y) = false := by rw [decide_eq_false_iff_not]; intro e; rw [e] at h; simp at h
    refine W_ret ?_
    simp [Fin, this]
    all_goals omega
  refine W_seq (W_seq (?_))
  refine u_11 (eqFar_g x.fFar y.fFar (by omega) (by omega)) ?_
  refine W_cond rfl (fun h => W_seq ?_) (fun h5 => W_skip ?_)
  · refine u_1 ?_
    have : decide (x = y) = false := by rw [decide_eq_false_iff_not]; intro e; rw [e] at h; simp at h
    refine W_ret ?_
    simp [Fin, this]
    all_goals omega
  refine W_seq (W_seq (?_))
  refine u_11 (eqQueue_g x.fQueue y.fQueue (by omega) (by omega)) ?_
  refine W_cond rfl (fun h => W_seq ?_) (fun h6 => W_skip ?_)
  · refine u_1 ?_
    have : decide (x = y) = false := by rw [decide_eq_false_iff_not]; intro e; rw [e] at h; simp at h
    refine W_ret ?_
    simp [Fin, this]
    all_goals omega
  refine W_seq (W_seq (?_))
  refine u_11 (eqOwnedS_g x.fOwned y.fOwned (by omega) (by omega)) ?_
  refine W_cond rfl (fun h => W_seq ?_) (fun h7 => W_skip ?_)
  · refine u_1 ?_
    have : decide (x = y) = false := by rw [decide_eq_false_iff_not]; intro e; rw [e] at h; simp at h
    refine W_ret ?_
    simp [Fin, this]
    all_goals omega
  refine W_seq (?_)
  refine u_1 ?_
  have : decide (x = y) = true := by
    rw [decide_eq_true_iff]
    cases x; cases y
    simp at h0 h1 h2 h3 h4 h5 h6 h7
    simp_all
  refine W_ret ?_
  simp [Fin, this]
  all_goals omega

theorem markWorld_g (x : GWorld) (k : Int) (hx : x.cost ≤ 1099511627776) (hk : 0 ≤ k ∧ k + (x.marksIn : Nat) ≤ 140737488355328) :
    Valid PP GG F_L_markWorld [.agg x.o, .d (.int .i64 k)] (.d (.int .i64 (k + (x.marksIn : Nat)))) [some (.agg (x.markIn k).o), none] := by
  refine v_L_markWorld [.d (.int .i64 (k + (x.marksIn : Nat)))] rfl rfl ?_
  have hco : x.cost = x.fForest.cost + x.fBook.cost + x.fFar.cost + x.fQueue.cost + (x.fOwned.length + sumBy GOwned.cost x.fOwned) := rfl
  have hms : x.marksIn = x.fForest.marksIn + x.fBook.marksIn + x.fFar.marksIn + x.fQueue.marksIn + sumBy GOwned.marks x.fOwned := rfl
  refine W_seq (?_)
  refine u_1 ?_
  have ct := markForest_g (GG := GG) x.fForest k (by omega) (by omega)
  refine W_seq (?_)
  refine u_11 ct ?_
  have ct := markBook_g (GG := GG) x.fBook (k + ((x.fForest.marksIn : Nat) : Int)) (by omega) (by omega)
  refine W_seq (?_)
  refine u_11 ct ?_
  have ct := markFar_g (GG := GG) x.fFar ((k + ((x.fForest.marksIn : Nat) : Int)) + ((x.fBook.marksIn : Nat) : Int)) (by omega) (by omega)
  refine W_seq (?_)
  refine u_11 ct ?_
  have ct := markQueue_g (GG := GG) x.fQueue (((k + ((x.fForest.marksIn : Nat) : Int)) + ((x.fBook.marksIn : Nat) : Int)) + ((x.fFar.marksIn : Nat) : Int)) (by omega) (by omega)
  refine W_seq (?_)
  refine u_11 ct ?_
  have ct := markOwnedS_g (GG := GG) x.fOwned ((((k + ((x.fForest.marksIn : Nat) : Int)) + ((x.fBook.marksIn : Nat) : Int)) + ((x.fFar.marksIn : Nat) : Int)) + ((x.fQueue.marksIn : Nat) : Int)) (by omega) (by omega)
  refine W_seq (?_)
  refine u_11 ct ?_
  refine W_seq (?_)
  refine u_1 ?_
  have hfin : (((((k + ((x.fForest.marksIn : Nat) : Int)) + ((x.fBook.marksIn : Nat) : Int)) + ((x.fFar.marksIn : Nat) : Int)) + ((x.fQueue.marksIn : Nat) : Int)) + ((sumBy GOwned.marks x.fOwned : Nat) : Int)) = k + (x.marksIn : Nat) := by omega
  simp only [GWorld.markIn, GForest.markIn, GBook.markIn, GFar.markIn, GQueue.markIn]
  refine W_ret ?_
  simp [Fin, hfin]
  all_goals omega

@[simp] theorem binA_strgeq (s t : List UInt8) : binA .str .geq (.d (.str s)) (.d (.str t)) = out (.d (.bool (!(Go.Op.bytesLess s t)))) := id rfl

@[simp] theorem binA_strlss (s t : List UInt8) : binA .str .lss (.d (.str s)) (.d (.str t)) = out (.d (.bool (Go.Op.bytesLess s t))) := id rfl

@[simp] theorem binA_strleq (s t : List UInt8) : binA .str .leq (.d (.str s)) (.d (.str t)) = out (.d (.bool (Go.Op.bytesLess s t || s == t))) := id rfl

@[simp] theorem binA_strgtr (s t : List UInt8) : binA .str .gtr (.d (.str s)) (.d (.str t)) = out (.d (.bool (!(Go.Op.bytesLess s t || s == t)))) := id rfl

def okP {α : Type} (q : List α → α → Bool) : List α → List α → Bool
  | _, [] => true
  | pre, x :: r => q pre x && okP q (pre ++ [x]) r

theorem okP_app {α : Type} (q : List α → α → Bool) (b : List α) : ∀ (a pre : List α), okP q pre (a ++ b) = (okP q pre a && okP q (pre ++ a) b) := by
  intro a
  induction a with
  | nil => intro pre; simp [okP]
  | cons x a ih => intro pre; simp [okP, ih, Bool.and_assoc]

theorem okP_step {α : Type} {q : List α → α → Bool} {l : List α} {i : Nat} {x : α} (h : l[i]? = some x) : okP q [] (l.take (i + 1)) = (okP q [] (l.take i) && q (l.take i) x) := by
  rw [List.take_add_one, h, okP_app]
  simp [okP]

theorem okP_bad {α : Type} {q : List α → α → Bool} {l : List α} {i : Nat} {x : α} (h : l[i]? = some x) (hq : q (l.take i) x = false) : okP q [] l = false := by
  have e : l = l.take i ++ (x :: l.drop (i + 1)) := by rw [← drop_get h, List.take_append_drop]
  rw [e, okP_app]
  simp only [okP, List.nil_append, hq, Bool.false_and, Bool.and_false]

def adjB {α : Type} (lt : α → α → Bool) (pre : List α) (x : α) : Bool := match pre.getLast? with | none => true | some p => lt p x

theorem adj_zero {α : Type} (lt : α → α → Bool) (l : List α) (x : α) : adjB lt (l.take 0) x = true := by simp [adjB]

theorem adj_succ {α : Type} (lt : α → α → Bool) {l : List α} {j : Nat} {p : α} (h : l[j]? = some p) (x : α) : adjB lt (l.take (j + 1)) x = lt p x := by
  unfold adjB
  rw [List.take_add_one, h]
  simp

theorem adj_pos {α : Type} (lt : α → α → Bool) {l : List α} {i : Nat} {p : α} (h0 : 0 < i) (h : l[i - 1]? = some p) (x : α) : adjB lt (l.take i) x = lt p x := by
  obtain ⟨j, rfl⟩ : ∃ j, i = j + 1 := ⟨i - 1, by omega⟩
  exact adj_succ lt h x

def nameQ (pre : List (List UInt8)) (x : List UInt8) : Bool := nameOk x && adjB (fun p x => Go.Op.bytesLess p x) pre x

def namesOk (l : List (List UInt8)) : Bool := decide (l.length ≤ 6) && okP nameQ [] l

theorem strs_get (l : List (List UInt8)) (i : Nat) : (strsD l)[i]? = (l[i]?).map fun s => [.str s] := by simp [strsD]

theorem areNames_ok (l : List (List UInt8)) (hl : l.length ≤ 1048576) (hs : ∀ s, s ∈ l → s.length ≤ 1048576) : Valid PP GG F_I_areNames [.d (.slc 1 (strsD l))] (.d (.bool (namesOk l))) [none] := by
  refine v_I_areNames [.d (.bool (namesOk l))] rfl rfl ?_
  have hind := ind_strs l
  have hsl : (strsD l).length = l.length := by simp [strsD]
  refine u_32 hsl ?_
  refine W_loop (fun n st => ∃ i : Nat, n = l.length - i ∧ i ≤ l.length ∧ okP nameQ [] (l.take i) = true ∧ st = ⟨[], [(0, .d (.slc 1 (strsD l))), (5, .d (.slc 1 (strsD l))), (6, .d (.int .i64 l.length)), (7, .d (.int .i64 i))], [], 0⟩) _ ⟨0, rfl, by omega, rfl, ?_⟩ ?_
  · simp [gc, closeN, liveA, gcV, gcO, renA, renAs, renO, namesAs, namesA, namesO, posn]
  rintro n st ⟨i, rfl, hi, hok, rfl⟩
  by_cases hlt : i < l.length
  · have ha := List.getElem?_eq_getElem hlt
    generalize l[i] = x at ha
    have cn := isName_ok (GG := GG) x (by have := hs x (List.mem_of_getElem? ha); omega)
    have hst := okP_step (q := nameQ) ha
    have hbad := fun h => okP_bad (q := nameQ) ha h
    rw [hok, Bool.true_and] at hst
    unfold nameQ at hst hbad
    cases hnx : nameOk x with
    | false =>
      rw [hnx] at cn hbad
      have hb : namesOk l = false := by unfold namesOk nameQ; rw [hbad rfl]; simp
      rw [hb]
      exact u_33 ha cn
    | true =>
      rw [hnx] at cn hst hbad
      simp only [Bool.true_and] at hst hbad
      by_cases h0 : i = 0
      · subst h0
        rw [adj_zero] at hst
        refine u_34 ha cn ?_
        refine ⟨l.length - (0 + 1), by omega, 1, rfl, by omega, hst, ?_⟩
        simp [gc, closeN, liveA, gcV, gcO, renA, renAs, renO, namesAs, namesA, namesO, posn]
        exact wrap_id (by omega) (by omega)
      · have hp := List.getElem?_eq_getElem (show i - 1 < l.length by omega)
        generalize l[i - 1]'_ = p at hp
        rw [adj_pos _ (by omega) hp] at hst hbad
        have hpi : 0 < i := by omega
        have hw1 : IntKind.i64.wrap ((i : Int) - 1) = ((i - 1 : Nat) : Int) := by rw [wrap_id (by omega) (by omega)]; omega
        cases hb : Go.Op.bytesLess p x with
        | true =>
          rw [hb] at hst
          refine u_35 ha hp hpi hw1 hb cn ?_
          refine ⟨l.length - (i + 1), by omega, i + 1, rfl, by omega, hst, ?_⟩
          simp [gc, closeN, liveA, gcV, gcO, renA, renAs, renO, namesAs, namesA, namesO, posn]
          exact wrap_id (by omega) (by omega)
        | false =>
          have hbf : namesOk l = false := by unfold namesOk nameQ; rw [hbad hb]; simp
          rw [hbf]
          exact u_36 ha hp hpi hw1 hb cn
  · have hie : i = l.length := by omega
    subst hie
    rw [List.take_length] at hok
    have : namesOk l = decide ((l.length : Int) ≤ 6) := by unfold namesOk; rw [hok, Bool.and_true]; exact decide_eq_decide.2 (by omega)
    rw [this]
    exact u_37 hsl

theorem s_l08Names_ok (l : List (List UInt8)) (hl : l.length ≤ 1048576) (hs : ∀ s, s ∈ l → s.length ≤ 1048576) : Valid PP GG F_S_l08Names [.d (.slc 1 (strsD l))] (.d (.bool (namesOk l))) [none] := by
  refine v_S_l08Names [.d (.bool (namesOk l))] rfl rfl ?_
  have hind := ind_strs l
  have hsl : (strsD l).length = l.length := by simp [strsD]
  by_cases h6 : l.length ≤ 6
  rotate_left
  · have hb : namesOk l = false := by unfold namesOk; rw [decide_eq_false h6, Bool.false_and]
    rw [hb]
    have hd : 6 < l.length := by omega
    exact u_38 hsl hd
  have hd : ¬ 6 < l.length := by omega
  refine u_39 hsl hd ?_
  refine W_loop (fun n st => ∃ i : Nat, n = l.length - i ∧ i ≤ l.length ∧ okP nameQ [] (l.take i) = true ∧ st = ⟨[], [(0, .d (.slc 1 (strsD l))), (3, .d (.int .i64 i))], [], 0⟩) _ ⟨0, rfl, by omega, rfl, ?_⟩ ?_
  · simp [gc, closeN, liveA, gcV, gcO, renA, renAs, renO, namesAs, namesA, namesO, posn]
  rintro n st ⟨i, rfl, hi, hok, rfl⟩
  by_cases hlt : i < l.length
  · have ha := List.getElem?_eq_getElem hlt
    generalize l[i] = x at ha
    have cn := l01Name_ok (GG := GG) x (by have := hs x (List.mem_of_getElem? ha); omega)
    have hst := okP_step (q := nameQ) ha
    have hbad := fun h => okP_bad (q := nameQ) ha h
    rw [hok, Bool.true_and] at hst
    unfold nameQ at hst hbad
    cases hnx : nameOk x with
    | false =>
      rw [hnx] at cn hbad
      have hb : namesOk l = false := by unfold namesOk nameQ; rw [hbad rfl]; simp
      rw [hb]
      exact u_40 ha hsl cn
    | true =>
      rw [hnx] at cn hst hbad
      simp only [Bool.true_and] at hst hbad
      by_cases h0 : i = 0
      · subst h0
        rw [adj_zero] at hst
        refine u_41 ha hsl cn ?_
        refine ⟨l.length - (0 + 1), by omega, 1, rfl, by omega, hst, ?_⟩
        simp [gc, closeN, liveA, gcV, gcO, renA, renAs, renO, namesAs, namesA, namesO, posn]
        exact wrap_id (by omega) (by omega)
      · have hp := List.getElem?_eq_getElem (show i - 1 < l.length by omega)
        generalize l[i - 1]'_ = p at hp
        rw [adj_pos _ (by omega) hp] at hst hbad
        have hpi : 0 < i := by omega
        have hw1 : IntKind.i64.wrap ((i : Int) - 1) = ((i - 1 : Nat) : Int) := by rw [wrap_id (by omega) (by omega)]; omega
        cases hb : Go.Op.bytesLess p x with
        | true =>
          rw [hb] at hst
          refine u_42 ha hp hsl hpi hw1 hb cn ?_
          refine ⟨l.length - (i + 1), by omega, i + 1, rfl, by omega, hst, ?_⟩
          simp [gc, closeN, liveA, gcV, gcO, renA, renAs, renO, namesAs, namesA, namesO, posn]
          exact wrap_id (by omega) (by omega)
        | false =>
          have hbf : namesOk l = false := by unfold namesOk nameQ; rw [hbad hb]; simp
          rw [hbf]
          exact u_43 ha hp hsl hpi hw1 hb cn
  · have hie : i = l.length := by omega
    subst hie
    rw [List.take_length] at hok
    have : namesOk l = true := by unfold namesOk; rw [hok, decide_eq_true h6]; rfl
    rw [this]
    exact u_37 hsl

def tokenB (t : GToken) : Bool := inB t.fId 1 1000000000 && inB t.fParent 0 (t.fId - 1) && namesOk t.fNames && inB t.fMade 0 1000000000 &&
  (decide (t.fEnds = 0) || inB t.fEnds (t.fMade + 1) 1000000000) &&
  (decide (t.fLimit = 0) || (inB t.fLimit (t.fMade + 1) 1000000000 && !decide (t.fEnds = 0) && decide (t.fEnds ≤ t.fLimit))) && inB t.fUses 0 1000

def fitT (t : GToken) : Prop := t.fNames.length ≤ 1048576 ∧ ∀ s, s ∈ t.fNames → s.length ≤ 1048576

theorem tokenB_wrap (t : GToken) : tokenB t = (inB t.fId 1 1000000000 && inB t.fParent 0 (IntKind.i64.wrap (t.fId - 1)) && namesOk t.fNames && inB t.fMade 0 1000000000 &&
  (decide (t.fEnds = 0) || inB t.fEnds (IntKind.i64.wrap (t.fMade + 1)) 1000000000) &&
  (decide (t.fLimit = 0) || (inB t.fLimit (IntKind.i64.wrap (t.fMade + 1)) 1000000000 && !decide (t.fEnds = 0) && decide (t.fEnds ≤ t.fLimit))) && inB t.fUses 0 1000) := by
  unfold tokenB
  cases h1 : inB t.fId 1 1000000000 with
  | false => simp
  | true =>
    cases h2 : inB t.fMade 0 1000000000 with
    | false => simp
    | true =>
      unfold inB at h1 h2
      simp only [Bool.and_eq_true, decide_eq_true_eq] at h1 h2
      rw [wrap_id (show _ ≤ t.fId - 1 by omega) (by omega), wrap_id (show _ ≤ t.fMade + 1 by omega) (by omega)]

theorem isToken_ok [MaxL GG] (x : GToken) (hx : fitT x) : Valid PP GG F_I_isToken [.agg x.c] (.d (.bool (tokenB x))) [none] := by
  refine v_I_isToken [.d (.bool (tokenB x))] rfl rfl ?_
  have hr := tokenB_wrap x
  obtain ⟨x1, x2, x3, x4, x5, x6, x7⟩ := x
  dsimp only at hr
  have c1 : Valid PP GG F_I_within [.d (.int .i64 x1), .d (.int .i64 1), .d (.int .i64 1000000000)] (.d (.bool (inB x1 1 1000000000))) [none, none, none] := within_ok _ _ _
  have c2 : Valid PP GG F_I_within [.d (.int .i64 x2), .d (.int .i64 0), .d (.int .i64 (IntKind.i64.wrap (x1 - 1)))] (.d (.bool (inB x2 0 (IntKind.i64.wrap (x1 - 1))))) [none, none, none] := within_ok _ _ _
  have c3 := areNames_ok (GG := GG) x3 hx.1 hx.2
  have c4 : Valid PP GG F_I_within [.d (.int .i64 x4), .d (.int .i64 0), .d (.int .i64 1000000000)] (.d (.bool (inB x4 0 1000000000))) [none, none, none] := within_ok _ _ _
  have c5 : Valid PP GG F_I_within [.d (.int .i64 x5), .d (.int .i64 (IntKind.i64.wrap (x4 + 1))), .d (.int .i64 1000000000)] (.d (.bool (inB x5 (IntKind.i64.wrap (x4 + 1)) 1000000000))) [none, none, none] := within_ok _ _ _
  have c6 : Valid PP GG F_I_within [.d (.int .i64 x6), .d (.int .i64 (IntKind.i64.wrap (x4 + 1))), .d (.int .i64 1000000000)] (.d (.bool (inB x6 (IntKind.i64.wrap (x4 + 1)) 1000000000))) [none, none, none] := within_ok _ _ _
  have c7 : Valid PP GG F_I_within [.d (.int .i64 x7), .d (.int .i64 0), .d (.int .i64 1000)] (.d (.bool (inB x7 0 1000))) [none, none, none] := within_ok _ _ _
  have hind := ind_strs x3
  have q5 : (x5 == 0) = decide (x5 = 0) := rfl
  have q6 : (x6 == 0) = decide (x6 = 0) := rfl
  have q7 : (x5 != 0) = !decide (x5 = 0) := rfl
  generalize inB x1 1 1000000000 = p1 at *
  generalize inB x2 0 (IntKind.i64.wrap (x1 - 1)) = p2 at *
  generalize namesOk x3 = p3 at *
  generalize inB x4 0 1000000000 = p4 at *
  generalize inB x5 (IntKind.i64.wrap (x4 + 1)) 1000000000 = p5 at *
  generalize inB x6 (IntKind.i64.wrap (x4 + 1)) 1000000000 = p6 at *
  generalize inB x7 0 1000 = p7 at *
  generalize decide (x5 = 0) = e0 at *
  generalize decide (x6 = 0) = l0 at *
  obtain ⟨le, hle⟩ : ∃ le, decide (x5 ≤ x6) = le := ⟨_, rfl⟩
  rw [hle] at hr
  refine W_seq (?_)
  refine u_1 ?_
  refine W_seq (?_)
  refine u_44 q5 q6 c5 3 (e0 || p5) ?_
  refine W_seq (?_)
  refine u_45 q5 q6 q7 hle c6 4 (l0 || (p6 && !e0 && le)) ?_
  refine W_seq (?_)
  refine u_46 c1 c2 c3 c4 c7 2 (p1 && p2 && p3 && p4 && (e0 || p5) && (l0 || (p6 && !e0 && le)) && p7) ?_
  refine W_ret ?_
  simp [Fin, hr]
  all_goals omega

theorem tokenB_s (t : GToken) : tokenB t = (inB t.fId 1 1000000000 && decide (0 ≤ t.fParent) && decide (t.fParent < t.fId) && namesOk t.fNames && inB t.fMade 0 1000000000 && inB t.fUses 0 1000 &&
  (decide (t.fEnds = 0) || inB t.fEnds (IntKind.i64.wrap (t.fMade + 1)) 1000000000) &&
  (decide (t.fLimit = 0) || (inB t.fLimit (IntKind.i64.wrap (t.fMade + 1)) 1000000000 && !decide (t.fEnds = 0) && decide (t.fEnds ≤ t.fLimit)))) := by
  rw [tokenB_wrap]
  cases h1 : inB t.fId 1 1000000000 with
  | false => simp
  | true =>
    have h2 : inB t.fParent 0 (IntKind.i64.wrap (t.fId - 1)) = (decide (0 ≤ t.fParent) && decide (t.fParent < t.fId)) := by
      unfold inB at h1 ⊢
      simp only [Bool.and_eq_true, decide_eq_true_eq] at h1
      rw [wrap_id (show _ ≤ t.fId - 1 by omega) (by omega)]
      congr 1
      exact decide_eq_decide.2 (by omega)
    rw [h2]
    generalize inB t.fUses 0 1000 = a
    generalize (decide (t.fEnds = 0) || inB t.fEnds (IntKind.i64.wrap (t.fMade + 1)) 1000000000) = b
    generalize (decide (t.fLimit = 0) || (inB t.fLimit (IntKind.i64.wrap (t.fMade + 1)) 1000000000 && !decide (t.fEnds = 0) && decide (t.fEnds ≤ t.fLimit))) = c
    cases a <;> cases b <;> cases c <;> simp

theorem s_l08Token_ok [MaxL GG] (x : GToken) (hx : fitT x) : Valid PP GG F_S_l08Token [.agg x.c] (.d (.bool (tokenB x))) [none] := by
  refine v_S_l08Token [.d (.bool (tokenB x))] rfl rfl ?_
  have hr := tokenB_s x
  obtain ⟨x1, x2, x3, x4, x5, x6, x7⟩ := x
  dsimp only at hr
  have c1 : Valid PP GG F_S_l01In [.d (.int .i64 x1), .d (.int .i64 1), .d (.int .i64 1000000000)] (.d (.bool (inB x1 1 1000000000))) [none, none, none] := l01In_ok _ _ _
  have c3 := s_l08Names_ok (GG := GG) x3 hx.1 hx.2
  have c4 : Valid PP GG F_S_l01In [.d (.int .i64 x4), .d (.int .i64 0), .d (.int .i64 1000000000)] (.d (.bool (inB x4 0 1000000000))) [none, none, none] := l01In_ok _ _ _
  have c5 : Valid PP GG F_S_l01In [.d (.int .i64 x5), .d (.int .i64 (IntKind.i64.wrap (x4 + 1))), .d (.int .i64 1000000000)] (.d (.bool (inB x5 (IntKind.i64.wrap (x4 + 1)) 1000000000))) [none, none, none] := l01In_ok _ _ _
  have c6 : Valid PP GG F_S_l01In [.d (.int .i64 x6), .d (.int .i64 (IntKind.i64.wrap (x4 + 1))), .d (.int .i64 1000000000)] (.d (.bool (inB x6 (IntKind.i64.wrap (x4 + 1)) 1000000000))) [none, none, none] := l01In_ok _ _ _
  have c7 : Valid PP GG F_S_l01In [.d (.int .i64 x7), .d (.int .i64 0), .d (.int .i64 1000)] (.d (.bool (inB x7 0 1000))) [none, none, none] := l01In_ok _ _ _
  have hind := ind_strs x3
  have q5 : (x5 == 0) = decide (x5 = 0) := rfl
  have q6 : (x6 == 0) = decide (x6 = 0) := rfl
  have q7 : (x5 != 0) = !decide (x5 = 0) := rfl
  generalize inB x1 1 1000000000 = p1 at *
  generalize namesOk x3 = p3 at *
  generalize inB x4 0 1000000000 = p4 at *
  generalize inB x5 (IntKind.i64.wrap (x4 + 1)) 1000000000 = p5 at *
  generalize inB x6 (IntKind.i64.wrap (x4 + 1)) 1000000000 = p6 at *
  generalize inB x7 0 1000 = p7 at *
  generalize decide (x5 = 0) = e0 at *
  generalize decide (x6 = 0) = l0 at *
  obtain ⟨le, hle⟩ : ∃ le, decide (x5 ≤ x6) = le := ⟨_, rfl⟩
  obtain ⟨a, ha⟩ : ∃ a, decide (0 ≤ x2) = a := ⟨_, rfl⟩
  obtain ⟨b, hb⟩ : ∃ b, decide (x2 < x1) = b := ⟨_, rfl⟩
  have ha2 : decide (x2 < 0) = !a := by rw [← ha, ← decide_not]; exact decide_eq_decide.2 (by omega)
  have hb2 : decide (x1 ≤ x2) = !b := by rw [← hb, ← decide_not]; exact decide_eq_decide.2 (by omega)
  rw [hle, ha, hb] at hr
  refine W_seq (?_)
  refine u_1 ?_
  refine W_seq (?_)
  refine W_seq (?_)
  refine u_47 ha2 hb2 c1 c3 c4 c7 36 (!p1 || !a || !b || !p3 || !p4 || !p7) ?_
  refine W_cond rfl (fun h => ?_) (fun h => W_skip ?_)
  · have hf : tokenB ⟨x1, x2, x3, x4, x5, x6, x7⟩ = false := by rw [hr]; revert h; cases p1 <;> cases a <;> cases b <;> cases p3 <;> cases p4 <;> cases p7 <;> simp
    rw [hf]
    exact u_48
  have hg : (p1 && a && b && p3 && p4 && p7) = true := by revert h; cases p1 <;> cases a <;> cases b <;> cases p3 <;> cases p4 <;> cases p7 <;> simp
  rw [hg, Bool.true_and] at hr
  refine W_seq (?_)
  refine W_seq (?_)
  refine u_49 q7 c5 48 (!e0 && !p5) ?_
  refine W_cond rfl (fun h => ?_) (fun h => W_skip ?_)
  · have hf : tokenB ⟨x1, x2, x3, x4, x5, x6, x7⟩ = false := by rw [hr]; revert h; cases e0 <;> cases p5 <;> simp
    rw [hf]
    exact u_48
  have hg : (e0 || p5) = true := by revert h; cases e0 <;> cases p5 <;> simp
  rw [hg, Bool.true_and] at hr
  rw [hr]
  cases l0 with
  | true =>
    exact u_37 q6
  | false =>
    refine W_seq (?_)
    refine W_seq (?_)
    refine u_7 q6 ?_
    refine W_cond rfl (fun h => ?_) (fun h => W_skip ?_)
    · exact absurd h (by simp)
    refine W_seq (?_)
    refine u_44 q7 hle c6 2 (p6 && !e0 && le) ?_
    refine W_ret ?_
    simp [Fin]
    all_goals omega

def idxF {α : Type} (p : α → Bool) (a : List α) : Int := match a.findIdx? p with | some i => i | none => -1

theorem idxF_any {α : Type} (p : α → Bool) (a : List α) : decide (0 ≤ idxF p a) = a.any p := by
  unfold idxF
  cases h : a.findIdx? p with
  | none =>
    rw [List.findIdx?_eq_none_iff] at h
    have : a.any p = false := by rw [List.any_eq_false]; intro x hx; simp [h x hx]
    rw [this]; rfl
  | some i =>
    rw [List.findIdx?_eq_some_iff_getElem] at h
    obtain ⟨h1, h2, _⟩ := h
    have : a.any p = true := by rw [List.any_eq_true]; exact ⟨_, List.getElem_mem h1, h2⟩
    rw [this]; exact decide_eq_true (show (0 : Int) ≤ (i : Int) by omega)

theorem idxF_none {α : Type} (p : α → Bool) (a : List α) : decide (idxF p a < 0) = !a.any p := by
  rw [← idxF_any, ← decide_not]; exact decide_eq_decide.2 (by omega)

theorem idxF_hit {α : Type} {p : α → Bool} {a : List α} {i : Nat} {x : α} (ha : a[i]? = some x) (hn : ∀ x, x ∈ a.take i → p x = false) (hx : p x = true) : idxF p a = i := by
  obtain ⟨h, e⟩ := List.getElem?_eq_some_iff.1 ha
  unfold idxF
  have : a.findIdx? p = some i := by
    rw [List.findIdx?_eq_some_iff_getElem]
    refine ⟨h, by rw [e]; exact hx, fun j hj => ?_⟩
    have := hn a[j] (List.mem_take_iff_getElem.2 ⟨j, by omega, rfl⟩); simp [this]
  rw [this]

theorem idxF_miss {α : Type} {p : α → Bool} {a : List α} (hn : ∀ x, x ∈ a → p x = false) : idxF p a = -1 := by
  unfold idxF
  rw [List.findIdx?_eq_none_iff.2 hn]

theorem take_miss {α : Type} {p : α → Bool} {a : List α} {i : Nat} {x : α} (ha : a[i]? = some x) (hn : ∀ x, x ∈ a.take i → p x = false) (hx : p x = false) : ∀ x, x ∈ a.take (i + 1) → p x = false := by
  intro y hy
  rw [List.take_add_one, ha] at hy
  rcases List.mem_append.1 hy with hy | hy
  · exact hn y hy
  · simp at hy; subst hy; exact hx

theorem IndexFuncToken_ok (a : List GToken) (g : FuncId) (caps : List (List D)) (p : GToken → Bool) (hsz : a.length ≤ 281474976710656) (hp : ∀ x, x ∈ a → Valid PP GG g (.agg x.c :: caps.map .rp) (.d (.bool (p x))) [none]) :
    Valid PP GG F_slices_IndexFunc___impl_Token_impl_Token_ [.d (.slc 7 (rToken a)), .d (.fn g caps)] (.d (.int .i64 (idxF p a))) [none, none] := by
  refine v_slices_IndexFunc___impl_Token_impl_Token_ [.d (.int .i64 (idxF p a))] rfl rfl ?_
  refine u_50 ?_
  refine W_loop (fun n st => ∃ i : Nat, n = a.length - i ∧ i ≤ a.length ∧ (∀ x, x ∈ a.take i → p x = false) ∧
    st = ⟨[], [(0, .d (.slc 7 (rToken a))), (1, .d (.fn g caps)), (7, .d (.int .i64 a.length)), (8, .d (.int .i64 i))], [], 0⟩) _ ⟨0, rfl, by omega, fun x hx => by simp at hx, ?_⟩ ?_
  · simp [gc, closeN, liveA, gcV, gcO, renA, renAs, renO, namesAs, namesA, namesO, posn]
  rintro n st ⟨i, rfl, hi, hn, rfl⟩
  by_cases hlt : i < a.length
  · have ha := List.getElem?_eq_getElem hlt
    have hm := List.getElem_mem hlt
    generalize a[i] = x at ha hm
    have cp := hp x hm
    cases hx : p x with
    | true =>
      have e := idxF_hit ha hn hx
      rw [hx] at cp
      rw [e]
      exact u_51 ha cp
    | false =>
      have hn2 := take_miss ha hn hx
      rw [hx] at cp
      refine u_52 ha cp ?_
      refine ⟨a.length - (i + 1), by omega, i + 1, rfl, hlt, hn2, ?_⟩
      simp [gc, closeN, liveA, gcV, gcO, renA, renAs, renO, namesAs, namesA, namesO, posn]
      exact wrap_id (by omega) (by omega)
  · have hie : i = a.length := by omega
    subst hie
    rw [List.take_length] at hn
    rw [idxF_miss hn]
    exact u_48

theorem IndexFuncLease_ok (a : List GLease) (g : FuncId) (caps : List (List D)) (p : GLease → Bool) (hsz : a.length ≤ 281474976710656) (hp : ∀ x, x ∈ a → Valid PP GG g (.agg x.c :: caps.map .rp) (.d (.bool (p x))) [none]) :
    Valid PP GG F_slices_IndexFunc___impl_Lease_impl_Lease_ [.d (.slc 6 (rLease a)), .d (.fn g caps)] (.d (.int .i64 (idxF p a))) [none, none] := by
  refine v_slices_IndexFunc___impl_Lease_impl_Lease_ [.d (.int .i64 (idxF p a))] rfl rfl ?_
  refine u_50 ?_
  refine W_loop (fun n st => ∃ i : Nat, n = a.length - i ∧ i ≤ a.length ∧ (∀ x, x ∈ a.take i → p x = false) ∧
    st = ⟨[], [(0, .d (.slc 6 (rLease a))), (1, .d (.fn g caps)), (7, .d (.int .i64 a.length)), (8, .d (.int .i64 i))], [], 0⟩) _ ⟨0, rfl, by omega, fun x hx => by simp at hx, ?_⟩ ?_
  · simp [gc, closeN, liveA, gcV, gcO, renA, renAs, renO, namesAs, namesA, namesO, posn]
  rintro n st ⟨i, rfl, hi, hn, rfl⟩
  by_cases hlt : i < a.length
  · have ha := List.getElem?_eq_getElem hlt
    have hm := List.getElem_mem hlt
    generalize a[i] = x at ha hm
    have cp := hp x hm
    cases hx : p x with
    | true =>
      have e := idxF_hit ha hn hx
      rw [hx] at cp
      rw [e]
      exact u_51 ha cp
    | false =>
      have hn2 := take_miss ha hn hx
      rw [hx] at cp
      refine u_52 ha cp ?_
      refine ⟨a.length - (i + 1), by omega, i + 1, rfl, hlt, hn2, ?_⟩
      simp [gc, closeN, liveA, gcV, gcO, renA, renAs, renO, namesAs, namesA, namesO, posn]
      exact wrap_id (by omega) (by omega)
  · have hie : i = a.length := by omega
    subst hie
    rw [List.take_length] at hn
    rw [idxF_miss hn]
    exact u_48

theorem IndexFuncOwned_ok (a : List GOwned) (g : FuncId) (caps : List (List D)) (p : GOwned → Bool) (hsz : a.length ≤ 281474976710656) (hp : ∀ x, x ∈ a → Valid PP GG g (.agg x.c :: caps.map .rp) (.d (.bool (p x))) [none]) :
    Valid PP GG F_slices_IndexFunc___impl_Owned_impl_Owned_ [.d (.slc 2 (rOwned a)), .d (.fn g caps)] (.d (.int .i64 (idxF p a))) [none, none] := by
  refine v_slices_IndexFunc___impl_Owned_impl_Owned_ [.d (.int .i64 (idxF p a))] rfl rfl ?_
  refine u_50 ?_
  refine W_loop (fun n st => ∃ i : Nat, n = a.length - i ∧ i ≤ a.length ∧ (∀ x, x ∈ a.take i → p x = false) ∧
    st = ⟨[], [(0, .d (.slc 2 (rOwned a))), (1, .d (.fn g caps)), (7, .d (.int .i64 a.length)), (8, .d (.int .i64 i))], [], 0⟩) _ ⟨0, rfl, by omega, fun x hx => by simp at hx, ?_⟩ ?_
  · simp [gc, closeN, liveA, gcV, gcO, renA, renAs, renO, namesAs, namesA, namesO, posn]
  rintro n st ⟨i, rfl, hi, hn, rfl⟩
  by_cases hlt : i < a.length
  · have ha := List.getElem?_eq_getElem hlt
    have hm := List.getElem_mem hlt
    generalize a[i] = x at ha hm
    have cp := hp x hm
    cases hx : p x with
    | true =>
      have e := idxF_hit ha hn hx
      rw [hx] at cp
      rw [e]
      exact u_51 ha cp
    | false =>
      have hn2 := take_miss ha hn hx
      rw [hx] at cp
      refine u_52 ha cp ?_
      refine ⟨a.length - (i + 1), by omega, i + 1, rfl, hlt, hn2, ?_⟩
      simp [gc, closeN, liveA, gcV, gcO, renA, renAs, renO, namesAs, namesA, namesO, posn]
      exact wrap_id (by omega) (by omega)
  · have hie : i = a.length := by omega
    subst hie
    rw [List.take_length] at hn
    rw [idxF_miss hn]
    exact u_48

theorem IndexFuncJob_ok (a : List GJob) (g : FuncId) (caps : List (List D)) (p : GJob → Bool) (hsz : a.length ≤ 281474976710656) (hp : ∀ x, x ∈ a → Valid PP GG g (.agg x.c :: caps.map .rp) (.d (.bool (p x))) [none]) :
    Valid PP GG F_slices_IndexFunc___impl_Job_impl_Job_ [.d (.slc 3 (rJob a)), .d (.fn g caps)] (.d (.int .i64 (idxF p a))) [none, none] := by
  refine v_slices_IndexFunc___impl_Job_impl_Job_ [.d (.int .i64 (idxF p a))] rfl rfl ?_
  refine u_50 ?_
  refine W_loop (fun n st => ∃ i : Nat, n = a.length - i ∧ i ≤ a.length ∧ (∀ x, x ∈ a.take i → p x = false) ∧
    st = ⟨[], [(0, .d (.slc 3 (rJob a))), (1, .d (.fn g caps)), (7, .d (.int .i64 a.length)), (8, .d (.int .i64 i))], [], 0⟩) _ ⟨0, rfl, by omega, fun x hx => by simp at hx, ?_⟩ ?_
  · simp [gc, closeN, liveA, gcV, gcO, renA, renAs, renO, namesAs, namesA, namesO, posn]
  rintro n st ⟨i, rfl, hi, hn, rfl⟩
  by_cases hlt : i < a.length
  · have ha := List.getElem?_eq_getElem hlt
    have hm := List.getElem_mem hlt
    generalize a[i] = x at ha hm
    have cp := hp x hm
    cases hx : p x with
    | true =>
      have e := idxF_hit ha hn hx
      rw [hx] at cp
      rw [e]
      exact u_51 ha cp
    | false =>
      have hn2 := take_miss ha hn hx
      rw [hx] at cp
      refine u_52 ha cp ?_
      refine ⟨a.length - (i + 1), by omega, i + 1, rfl, hlt, hn2, ?_⟩
      simp [gc, closeN, liveA, gcV, gcO, renA, renAs, renO, namesAs, namesA, namesO, posn]
      exact wrap_id (by omega) (by omega)
  · have hie : i = a.length := by omega
    subst hie
    rw [List.take_length] at hn
    rw [idxF_miss hn]
    exact u_48

theorem ContainsFuncOwned_ok (a : List GOwned) (g : FuncId) (caps : List (List D)) (p : GOwned → Bool) (hsz : a.length ≤ 281474976710656) (hp : ∀ x, x ∈ a → Valid PP GG g (.agg x.c :: caps.map .rp) (.d (.bool (p x))) [none]) :
    Valid PP GG F_slices_ContainsFunc___impl_Owned_impl_Owned_ [.d (.slc 2 (rOwned a)), .d (.fn g caps)] (.d (.bool (a.any p))) [none, none] := by
  refine v_slices_ContainsFunc___impl_Owned_impl_Owned_ [.d (.bool (a.any p))] rfl rfl ?_
  have ci := IndexFuncOwned_ok a g caps p hsz hp
  have e := idxF_any p a
  exact u_51 e ci

theorem ContainsFuncJob_ok (a : List GJob) (g : FuncId) (caps : List (List D)) (p : GJob → Bool) (hsz : a.length ≤ 281474976710656) (hp : ∀ x, x ∈ a → Valid PP GG g (.agg x.c :: caps.map .rp) (.d (.bool (p x))) [none]) :
    Valid PP GG F_slices_ContainsFunc___impl_Job_impl_Job_ [.d (.slc 3 (rJob a)), .d (.fn g caps)] (.d (.bool (a.any p))) [none, none] := by
  refine v_slices_ContainsFunc___impl_Job_impl_Job_ [.d (.bool (a.any p))] rfl rfl ?_
  have ci := IndexFuncJob_ok a g caps p hsz hp
  have e := idxF_any p a
  exact u_51 e ci

theorem tokenIndex_c1_ok (t : GToken) (id : Int) : Valid PP GG F_I_tokenIndex_c1 [.agg t.c, .rp [.int .i64 id]] (.d (.bool (decide (t.fId = id)))) [none] := by
  refine v_I_tokenIndex_c1 [.d (.bool (decide (t.fId = id)))] rfl rfl ?_
  have hind := ind_strs t.fNames
  have hq : (t.fId == id) = decide (t.fId = id) := rfl
  exact u_37 hq

theorem tokenIndex_ok (f : GForest) (id : Int) (hf : f.fTokens.length ≤ 1048576) : Valid PP GG F_I_tokenIndex [.agg f.c, .d (.int .i64 id)] (.d (.int .i64 (idxF (fun t => decide (t.fId = id)) f.fTokens))) [none, none] := by
  refine v_I_tokenIndex [.d (.int .i64 (idxF (fun t => decide (t.fId = id)) f.fTokens))] rfl rfl ?_
  have ci := IndexFuncToken_ok (GG := GG) f.fTokens F_I_tokenIndex_c1 [[.int .i64 id]] (fun t => decide (t.fId = id)) (by omega) fun x _ => tokenIndex_c1_ok x id
  exact u_53 ci

theorem leaseIndex_c1_ok (t : GLease) (id : Int) : Valid PP GG F_I_leaseIndex_c1 [.agg t.c, .rp [.int .i64 id]] (.d (.bool (decide (t.fId = id)))) [none] := by
  refine v_I_leaseIndex_c1 [.d (.bool (decide (t.fId = id)))] rfl rfl ?_
  have hq : (t.fId == id) = decide (t.fId = id) := rfl
  exact u_37 hq

theorem leaseIndex_ok (f : GBook) (id : Int) (hf : f.fLeases.length ≤ 1048576) : Valid PP GG F_I_leaseIndex [.agg f.c, .d (.int .i64 id)] (.d (.int .i64 (idxF (fun t => decide (t.fId = id)) f.fLeases))) [none, none] := by
  refine v_I_leaseIndex [.d (.int .i64 (idxF (fun t => decide (t.fId = id)) f.fLeases))] rfl rfl ?_
  have ci := IndexFuncLease_ok (GG := GG) f.fLeases F_I_leaseIndex_c1 [[.int .i64 id]] (fun t => decide (t.fId = id)) (by omega) fun x _ => leaseIndex_c1_ok x id
  exact u_53 ci

theorem hasJob_c1_ok (t : GJob) (s : List UInt8) : Valid PP GG F_I_hasJob_c1 [.agg t.c, .rp [.str s]] (.d (.bool (t.fName == s))) [none] := by
  refine v_I_hasJob_c1 [.d (.bool (t.fName == s))] rfl rfl ?_
  exact u_48

theorem hasJob_ok (f : GQueue) (s : List UInt8) (hf : f.fJobs.length ≤ 1048576) : Valid PP GG F_I_hasJob [.agg f.c, .d (.str s)] (.d (.bool (f.fJobs.any fun t => t.fName == s))) [none, none] := by
  refine v_I_hasJob [.d (.bool (f.fJobs.any fun t => t.fName == s))] rfl rfl ?_
  have ci := ContainsFuncJob_ok (GG := GG) f.fJobs F_I_hasJob_c1 [[.str s]] (fun t => t.fName == s) (by omega) fun x _ => hasJob_c1_ok x s
  exact u_53 ci

def hasTok (f : GForest) (id : Int) : Bool := f.fTokens.any fun t => decide (t.fId = id)

def tokQ (f : GForest) (pre : List GToken) (t : GToken) : Bool := tokenB t && adjB (fun p x => decide (p.fId < x.fId)) pre t && (decide (t.fParent = 0) || hasTok f t.fParent)

def forestB (f : GForest) : Bool := decide (f.fTokens.length ≤ 120) && okP (tokQ f) [] f.fTokens

def fitF (f : GForest) : Prop := f.fTokens.length ≤ 1048576 ∧ ∀ t, t ∈ f.fTokens → fitT t

theorem s_l08At_ok (f : GForest) (id : Int) (hf : f.fTokens.length ≤ 1048576) : Valid PP GG F_S_l08At [.agg f.c, .d (.int .i64 id)] (.d (.int .i64 (idxF (fun t => decide (t.fId = id)) f.fTokens))) [none, none] := by
  refine v_S_l08At [.d (.int .i64 (idxF (fun t => decide (t.fId = id)) f.fTokens))] rfl rfl ?_
  obtain ⟨a⟩ := f
  dsimp only at hf ⊢
  refine u_50 ?_
  refine W_loop (fun n st => ∃ i : Nat, n = a.length - i ∧ i ≤ a.length ∧ (∀ x, x ∈ a.take i → (decide (x.fId = id)) = false) ∧
    st = ⟨[], [(1, .d (.int .i64 id)), (2, .ptr 0 0), (5, .d (.int .i64 i))], [(0, .box [.d (.slc 7 (rToken a))])], 1⟩) _ ⟨0, rfl, by omega, fun x hx => by simp at hx, ?_⟩ ?_
  · simp [gc, closeN, liveA, gcV, gcO, renA, renAs, renO, namesAs, namesA, namesO, posn]
  rintro n st ⟨i, rfl, hi, hn, rfl⟩
  by_cases hlt : i < a.length
  · have ha := List.getElem?_eq_getElem hlt
    generalize a[i] = x at ha
    by_cases hx : x.fId = id
    · have e := idxF_hit ha hn (decide_eq_true hx)
      have hxb : (x.fId == id) = true := decide_eq_true hx
      rw [e]
      exact u_38 ha hxb
    · have hn2 := take_miss (p := fun x => decide (x.fId = id)) ha hn (decide_eq_false hx)
      have hxb : (x.fId == id) = false := decide_eq_false hx
      refine u_39 ha hxb ?_
      refine ⟨a.length - (i + 1), by omega, i + 1, rfl, hlt, hn2, ?_⟩
      simp [gc, closeN, liveA, gcV, gcO, renA, renAs, renO, namesAs, namesA, namesO, posn]
      exact wrap_id (by omega) (by omega)
  · have hie : i = a.length := by omega
    subst hie
    rw [List.take_length] at hn
    rw [idxF_miss hn]
    exact u_48

theorem isForest_ok [MaxL GG] (f : GForest) (hf : fitF f) : Valid PP GG F_I_isForest [.agg f.c] (.d (.bool (forestB f))) [none] := by
  refine v_I_isForest [.d (.bool (forestB f))] rfl rfl ?_
  obtain ⟨hl, ht⟩ := hf
  have hti : ∀ id, Valid PP GG F_I_tokenIndex [.agg [.d (.slc 7 (rToken f.fTokens))], .d (.int .i64 id)] (.d (.int .i64 (idxF (fun t => decide (t.fId = id)) f.fTokens))) [none, none] := fun id => tokenIndex_ok (GG := GG) f id hl
  generalize hfa : f.fTokens = a at *
  refine u_32 hfa ?_
  refine W_loop (fun n st => ∃ i : Nat, n = a.length - i ∧ i ≤ a.length ∧ okP (tokQ f) [] (a.take i) = true ∧
    st = ⟨[], [(1, .ptr 0 0), (6, .d (.slc 7 (rToken a))), (7, .d (.int .i64 a.length)), (8, .d (.int .i64 i))], [(0, .box [.d (.slc 7 (rToken a))])], 1⟩) _ ⟨0, rfl, by omega, rfl, ?_⟩ ?_
  · simp [gc, closeN, liveA, gcV, gcO, renA, renAs, renO, namesAs, namesA, namesO, posn, hfa]
  rintro n st ⟨i, rfl, hi, hok, rfl⟩
  by_cases hlt : i < a.length
  · have ha := List.getElem?_eq_getElem hlt
    generalize a[i] = x at ha
    have ct := isToken_ok (GG := GG) x (ht x (List.mem_of_getElem? ha))
    have cf := hti x.fParent
    have hbad0 := fun h => okP_bad (q := tokQ f) ha h
    have hst := okP_step (q := tokQ f) ha
    rw [hok, Bool.true_and] at hst
    have hbad : tokQ f (a.take i) x = false → forestB f = false := fun h => by unfold forestB; rw [hfa, hbad0 h, Bool.and_false]
    clear hbad0
    have hq : tokQ f (a.take i) x = (tokenB x && adjB (fun p x => decide (p.fId < x.fId)) (a.take i) x && (decide (x.fParent = 0) || hasTok f x.fParent)) := rfl
    rw [hq] at hst hbad
    clear hq
    obtain ⟨xi, xp, xn, xm, xe, xl, xu⟩ := x
    have hno : decide (idxF (fun t => decide (t.fId = xp)) a < 0) = !hasTok f xp := by rw [idxF_none]; unfold hasTok; rw [hfa]
    dsimp only at cf hst hbad
    generalize idxF (fun t => decide (t.fId = xp)) a = k at cf hno
    cases htb : tokenB ⟨xi, xp, xn, xm, xe, xl, xu⟩ with
    | false =>
      rw [htb] at ct hbad
      have hb := hbad (by simp)
      rw [hb]
      exact u_54 ha hfa ct
    | true =>
      rw [htb] at ct hst hbad
      simp only [Bool.true_and] at hst hbad
      by_cases h0 : i = 0
      · have hpi : ¬ 0 < i := by omega
        have hz : adjB (fun p x : GToken => decide (p.fId < x.fId)) (a.take i) ⟨xi, xp, xn, xm, xe, xl, xu⟩ = true := by rw [h0]; exact adj_zero _ _ _
        rw [hz, Bool.true_and] at hst hbad
        by_cases hp0 : xp = 0
        · have hst1 : okP (tokQ f) [] (a.take (i + 1)) = true := by rw [hst]; simp [hp0]
          have hq0 : (xp != 0) = false := by simp [hp0]
          refine u_55 ha hfa hq0 hpi ct cf ?_
          refine ⟨a.length - (i + 1), by omega, i + 1, rfl, hlt, hst1, ?_⟩
          simp [gc, closeN, liveA, gcV, gcO, renA, renAs, renO, namesAs, namesA, namesO, posn, hfa]
          exact wrap_id (by omega) (by omega)
        · have hq0 : (xp != 0) = true := by simp [hp0]
          have hd0 : decide (xp = 0) = false := decide_eq_false hp0
          cases hh : hasTok f xp with
          | true =>
            have hk : ¬ k < 0 := by rw [hh] at hno; simpa using hno
            have hst1 : okP (tokQ f) [] (a.take (i + 1)) = true := by rw [hst]; simp [hh]
            refine u_56 ha hfa hq0 hpi hk ct cf ?_
            refine ⟨a.length - (i + 1), by omega, i + 1, rfl, hlt, hst1, ?_⟩
            simp [gc, closeN, liveA, gcV, gcO, renA, renAs, renO, namesAs, namesA, namesO, posn, hfa]
            exact wrap_id (by omega) (by omega)
          | false =>
            have hk : k < 0 := by rw [hh] at hno; simpa using hno
            have hb := hbad (by simp [hd0, hh])
            rw [hb]
            exact u_57 ha hfa hq0 hpi hk ct cf
      · have hp := List.getElem?_eq_getElem (show i - 1 < a.length by omega)
        generalize a[i - 1]'_ = p at hp
        rw [adj_pos _ (by omega) hp] at hst hbad
        have hpi : 0 < i := by omega
        have hw1 : IntKind.i64.wrap ((i : Int) - 1) = ((i - 1 : Nat) : Int) := by rw [wrap_id (by omega) (by omega)]; omega
        obtain ⟨yi, yp, yn, ym, ye, yl, yu⟩ := p
        dsimp only at hst hbad
        by_cases hle : xi ≤ yi
        · have hb := hbad (by rw [decide_eq_false (show ¬ yi < xi by omega), Bool.false_and])
          rw [hb]
          exact u_58 ha hp hfa hpi hw1 hle ct
        · rw [decide_eq_true (show yi < xi by omega), Bool.true_and] at hst hbad
          by_cases hp0 : xp = 0
          · have hst1 : okP (tokQ f) [] (a.take (i + 1)) = true := by rw [hst]; simp [hp0]
            have hq0 : (xp != 0) = false := by simp [hp0]
            refine u_59 ha hfa hq0 hp hpi hw1 hle ct cf ?_
            refine ⟨a.length - (i + 1), by omega, i + 1, rfl, hlt, hst1, ?_⟩
            simp [gc, closeN, liveA, gcV, gcO, renA, renAs, renO, namesAs, namesA, namesO, posn, hfa]
            exact wrap_id (by omega) (by omega)
          · have hq0 : (xp != 0) = true := by simp [hp0]
            have hd0 : decide (xp = 0) = false := decide_eq_false hp0
            cases hh : hasTok f xp with
            | true =>
              have hk : ¬ k < 0 := by rw [hh] at hno; simpa using hno
              have hst1 : okP (tokQ f) [] (a.take (i + 1)) = true := by rw [hst]; simp [hh]
              refine u_60 ha hfa hq0 hp hpi hw1 hle hk ct cf ?_
              refine ⟨a.length - (i + 1), by omega, i + 1, rfl, hlt, hst1, ?_⟩
              simp [gc, closeN, liveA, gcV, gcO, renA, renAs, renO, namesAs, namesA, namesO, posn, hfa]
              exact wrap_id (by omega) (by omega)
            | false =>
              have hk : k < 0 := by rw [hh] at hno; simpa using hno
              have hb := hbad (by simp [hd0, hh])
              rw [hb]
              exact u_61 ha hfa hq0 hp hpi hw1 hle hk ct cf
  · have hie : i = a.length := by omega
    subst hie
    rw [List.take_length] at hok
    have e : forestB f = decide ((a.length : Int) ≤ 120) := by unfold forestB; rw [hfa, hok, Bool.and_true]; exact decide_eq_decide.2 (by omega)
    rw [e]
    exact u_48

theorem s_ForestOk_ok [MaxL GG] (f : GForest) (hf : fitF f) : Valid PP GG F_S_ForestOk [.agg f.c] (.d (.bool (forestB f))) [none] := by
  refine v_S_ForestOk [.d (.bool (forestB f))] rfl rfl ?_
  obtain ⟨hl, ht⟩ := hf
  have hti : ∀ id, Valid PP GG F_S_l08At [.agg [.d (.slc 7 (rToken f.fTokens))], .d (.int .i64 id)] (.d (.int .i64 (idxF (fun t => decide (t.fId = id)) f.fTokens))) [none, none] := fun id => s_l08At_ok (GG := GG) f id hl
  generalize hfa : f.fTokens = a at *
  by_cases h6 : a.length ≤ 120
  rotate_left
  · have hb : forestB f = false := by unfold forestB; rw [hfa, decide_eq_false h6, Bool.false_and]
    rw [hb]
    have hd : 120 < a.length := by omega
    exact u_38 hfa hd
  have hd : ¬ 120 < a.length := by omega
  refine u_39 hfa hd ?_
  refine W_loop (fun n st => ∃ i : Nat, n = a.length - i ∧ i ≤ a.length ∧ okP (tokQ f) [] (a.take i) = true ∧
    st = ⟨[], [(1, .ptr 0 0), (3, .d (.int .i64 i))], [(0, .box [.d (.slc 7 (rToken a))])], 1⟩) _ ⟨0, rfl, by omega, rfl, ?_⟩ ?_
  · simp [gc, closeN, liveA, gcV, gcO, renA, renAs, renO, namesAs, namesA, namesO, posn, hfa]
  rintro n st ⟨i, rfl, hi, hok, rfl⟩
  by_cases hlt : i < a.length
  · have ha := List.getElem?_eq_getElem hlt
    generalize a[i] = x at ha
    have ct := s_l08Token_ok (GG := GG) x (ht x (List.mem_of_getElem? ha))
    have cf := hti x.fParent
    have hbad0 := fun h => okP_bad (q := tokQ f) ha h
    have hst := okP_step (q := tokQ f) ha
    rw [hok, Bool.true_and] at hst
    have hbad : tokQ f (a.take i) x = false → forestB f = false := fun h => by unfold forestB; rw [hfa, hbad0 h, Bool.and_false]
    clear hbad0
    have hq : tokQ f (a.take i) x = (tokenB x && adjB (fun p x => decide (p.fId < x.fId)) (a.take i) x && (decide (x.fParent = 0) || hasTok f x.fParent)) := rfl
    rw [hq] at hst hbad
    clear hq
    obtain ⟨xi, xp, xn, xm, xe, xl, xu⟩ := x
    have hno : decide (idxF (fun t => decide (t.fId = xp)) a < 0) = !hasTok f xp := by rw [idxF_none]; unfold hasTok; rw [hfa]
    dsimp only at cf hst hbad
    generalize idxF (fun t => decide (t.fId = xp)) a = k at cf hno
    cases htb : tokenB ⟨xi, xp, xn, xm, xe, xl, xu⟩ with
    | false =>
      rw [htb] at ct hbad
      have hb := hbad (by simp)
      rw [hb]
      exact u_54 ha hfa ct
    | true =>
      rw [htb] at ct hst hbad
      simp only [Bool.true_and] at hst hbad
      by_cases h0 : i = 0
      · have hpi : ¬ 0 < i := by omega
        have hz : adjB (fun p x : GToken => decide (p.fId < x.fId)) (a.take i) ⟨xi, xp, xn, xm, xe, xl, xu⟩ = true := by rw [h0]; exact adj_zero _ _ _
        rw [hz, Bool.true_and] at hst hbad
        by_cases hp0 : xp = 0
        · have hst1 : okP (tokQ f) [] (a.take (i + 1)) = true := by rw [hst]; simp [hp0]
          have hq0 : (xp != 0) = false := by simp [hp0]
          refine u_55 ha hfa hq0 hpi ct cf ?_
          refine ⟨a.length - (i + 1), by omega, i + 1, rfl, hlt, hst1, ?_⟩
          simp [gc, closeN, liveA, gcV, gcO, renA, renAs, renO, namesAs, namesA, namesO, posn, hfa]
          exact wrap_id (by omega) (by omega)
        · have hq0 : (xp != 0) = true := by simp [hp0]
          have hd0 : decide (xp = 0) = false := decide_eq_false hp0
          cases hh : hasTok f xp with
          | true =>
            have hk : ¬ k < 0 := by rw [hh] at hno; simpa using hno
            have hst1 : okP (tokQ f) [] (a.take (i + 1)) = true := by rw [hst]; simp [hh]
            refine u_56 ha hfa hq0 hpi hk ct cf ?_
            refine ⟨a.length - (i + 1), by omega, i + 1, rfl, hlt, hst1, ?_⟩
            simp [gc, closeN, liveA, gcV, gcO, renA, renAs, renO, namesAs, namesA, namesO, posn, hfa]
            exact wrap_id (by omega) (by omega)
          | false =>
            have hk : k < 0 := by rw [hh] at hno; simpa using hno
            have hb := hbad (by simp [hd0, hh])
            rw [hb]
            exact u_57 ha hfa hq0 hpi hk ct cf
      · have hp := List.getElem?_eq_getElem (show i - 1 < a.length by omega)
        generalize a[i - 1]'_ = p at hp
        rw [adj_pos _ (by omega) hp] at hst hbad
        have hpi : 0 < i := by omega
        have hw1 : IntKind.i64.wrap ((i : Int) - 1) = ((i - 1 : Nat) : Int) := by rw [wrap_id (by omega) (by omega)]; omega
        obtain ⟨yi, yp, yn, ym, ye, yl, yu⟩ := p
        dsimp only at hst hbad
        by_cases hle : xi ≤ yi
        · have hb := hbad (by rw [decide_eq_false (show ¬ yi < xi by omega), Bool.false_and])
          rw [hb]
          exact u_58 ha hp hfa hpi hw1 hle ct
        · rw [decide_eq_true (show yi < xi by omega), Bool.true_and] at hst hbad
          by_cases hp0 : xp = 0
          · have hst1 : okP (tokQ f) [] (a.take (i + 1)) = true := by rw [hst]; simp [hp0]
            have hq0 : (xp != 0) = false := by simp [hp0]
            refine u_59 ha hfa hq0 hp hpi hw1 hle ct cf ?_
            refine ⟨a.length - (i + 1), by omega, i + 1, rfl, hlt, hst1, ?_⟩
            simp [gc, closeN, liveA, gcV, gcO, renA, renAs, renO, namesAs, namesA, namesO, posn, hfa]
            exact wrap_id (by omega) (by omega)
          · have hq0 : (xp != 0) = true := by simp [hp0]
            have hd0 : decide (xp = 0) = false := decide_eq_false hp0
            cases hh : hasTok f xp with
            | true =>
              have hk : ¬ k < 0 := by rw [hh] at hno; simpa using hno
              have hst1 : okP (tokQ f) [] (a.take (i + 1)) = true := by rw [hst]; simp [hh]
              refine u_60 ha hfa hq0 hp hpi hw1 hle hk ct cf ?_
              refine ⟨a.length - (i + 1), by omega, i + 1, rfl, hlt, hst1, ?_⟩
              simp [gc, closeN, liveA, gcV, gcO, renA, renAs, renO, namesAs, namesA, namesO, posn, hfa]
              exact wrap_id (by omega) (by omega)
            | false =>
              have hk : k < 0 := by rw [hh] at hno; simpa using hno
              have hb := hbad (by simp [hd0, hh])
              rw [hb]
              exact u_61 ha hfa hq0 hp hpi hw1 hle hk ct cf
  · have hie : i = a.length := by omega
    subst hie
    rw [List.take_length] at hok
    have e : forestB f = true := by unfold forestB; rw [hfa, hok, decide_eq_true h6]; rfl
    rw [e]
    exact u_37 hfa

def leaseB (t : GLease) : Bool := inB t.fId 1 1000000000 && inB t.fToken 0 1000000000 && pathOk t.fPath && inB t.fMade 0 1000000000 &&
  inB t.fLimit (IntKind.i64.wrap (t.fMade + 1)) 1000000000 && inB t.fEnds (IntKind.i64.wrap (t.fMade + 1)) t.fLimit

def leaseQ (pre : List GLease) (t : GLease) : Bool := leaseB t && adjB (fun p x => decide (p.fId < x.fId)) pre t

def bookB (b : GBook) : Bool := decide (b.fLeases.length ≤ 150) && okP leaseQ [] b.fLeases

def fitB (b : GBook) : Prop := b.fLeases.length ≤ 1048576 ∧ ∀ t, t ∈ b.fLeases → t.fPath.length ≤ 1048576

theorem isLease_ok [MaxL GG] (x : GLease) (hx : x.fPath.length ≤ 1048576) : Valid PP GG F_I_isLease [.agg x.c] (.d (.bool (leaseB x))) [none] := by
  refine v_I_isLease [.d (.bool (leaseB x))] rfl rfl ?_
  obtain ⟨x1, x2, x3, x4, x5, x6⟩ := x
  have hr : leaseB ⟨x1, x2, x3, x4, x5, x6⟩ = (inB x1 1 1000000000 && inB x2 0 1000000000 && pathOk x3 && inB x4 0 1000000000 && inB x6 (IntKind.i64.wrap (x4 + 1)) 1000000000 && inB x5 (IntKind.i64.wrap (x4 + 1)) x6) := rfl
  have c1 : Valid PP GG F_I_within [.d (.int .i64 x1), .d (.int .i64 1), .d (.int .i64 1000000000)] (.d (.bool (inB x1 1 1000000000))) [none, none, none] := within_ok _ _ _
  have c2 : Valid PP GG F_I_within [.d (.int .i64 x2), .d (.int .i64 0), .d (.int .i64 1000000000)] (.d (.bool (inB x2 0 1000000000))) [none, none, none] := within_ok _ _ _
  have c3 := isPath_ok (GG := GG) x3 (by dsimp only at hx; omega)
  have c4 : Valid PP GG F_I_within [.d (.int .i64 x4), .d (.int .i64 0), .d (.int .i64 1000000000)] (.d (.bool (inB x4 0 1000000000))) [none, none, none] := within_ok _ _ _
  have c5 : Valid PP GG F_I_within [.d (.int .i64 x6), .d (.int .i64 (IntKind.i64.wrap (x4 + 1))), .d (.int .i64 1000000000)] (.d (.bool (inB x6 (IntKind.i64.wrap (x4 + 1)) 1000000000))) [none, none, none] := within_ok _ _ _
  have c6 : Valid PP GG F_I_within [.d (.int .i64 x5), .d (.int .i64 (IntKind.i64.wrap (x4 + 1))), .d (.int .i64 x6)] (.d (.bool (inB x5 (IntKind.i64.wrap (x4 + 1)) x6))) [none, none, none] := within_ok _ _ _
  generalize inB x1 1 1000000000 = p1 at *
  generalize inB x2 0 1000000000 = p2 at *
  generalize pathOk x3 = p3 at *
  generalize inB x4 0 1000000000 = p4 at *
  generalize inB x6 (IntKind.i64.wrap (x4 + 1)) 1000000000 = p5 at *
  generalize inB x5 (IntKind.i64.wrap (x4 + 1)) x6 = p6 at *
  refine W_seq (?_)
  refine u_1 ?_
  refine W_seq (?_)
  refine u_62 c1 c2 c3 c4 c5 c6 2 (p1 && p2 && p3 && p4 && p5 && p6) ?_
  refine W_ret ?_
  simp [Fin, hr]
  all_goals omega

theorem isBook_ok [MaxL GG] (f : GBook) (hf : fitB f) : Valid PP GG F_I_isBook [.agg f.c] (.d (.bool (bookB f))) [none] := by
  refine v_I_isBook [.d (.bool (bookB f))] rfl rfl ?_
  obtain ⟨hl, ht⟩ := hf
  generalize hfa : f.fLeases = a at *
  refine u_32 hfa ?_
  refine W_loop (fun n st => ∃ i : Nat, n = a.length - i ∧ i ≤ a.length ∧ okP leaseQ [] (a.take i) = true ∧
    st = ⟨[], [(1, .ptr 0 0), (6, .d (.slc 6 (rLease a))), (7, .d (.int .i64 a.length)), (8, .d (.int .i64 i))], [(0, .box [.d (.slc 6 (rLease a))])], 1⟩) _ ⟨0, rfl, by omega, rfl, ?_⟩ ?_
  · simp [gc, closeN, liveA, gcV, gcO, renA, renAs, renO, namesAs, namesA, namesO, posn, hfa]
  rintro n st ⟨i, rfl, hi, hok, rfl⟩
  by_cases hlt : i < a.length
  · have ha := List.getElem?_eq_getElem hlt
    generalize a[i] = x at ha
    have ct := isLease_ok (GG := GG) x (ht x (List.mem_of_getElem? ha))
    have hbad0 := fun h => okP_bad (q := leaseQ) ha h
    have hst := okP_step (q := leaseQ) ha
    rw [hok, Bool.true_and] at hst
    have hbad : leaseQ (a.take i) x = false → bookB f = false := fun h => by unfold bookB; rw [hfa, hbad0 h, Bool.and_false]
    clear hbad0
    have hq : leaseQ (a.take i) x = (leaseB x && adjB (fun p x => decide (p.fId < x.fId)) (a.take i) x) := rfl
    rw [hq] at hst hbad
    clear hq
    obtain ⟨xi, xp, xn, xm, xe, xl⟩ := x
    cases htb : leaseB ⟨xi, xp, xn, xm, xe, xl⟩ with
    | false =>
      rw [htb] at ct hbad
      have hb := hbad (by simp)
      rw [hb]
      exact u_54 ha hfa ct
    | true =>
      rw [htb] at ct hst hbad
      simp only [Bool.true_and] at hst hbad
      by_cases h0 : i = 0
      · have hpi : ¬ 0 < i := by omega
        have hz : adjB (fun p x : GLease => decide (p.fId < x.fId)) (a.take i) ⟨xi, xp, xn, xm, xe, xl⟩ = true := by rw [h0]; exact adj_zero _ _ _
        rw [hz] at hst
        refine u_63 ha hfa hpi ct ?_
        refine ⟨a.length - (i + 1), by omega, i + 1, rfl, hlt, hst, ?_⟩
        simp [gc, closeN, liveA, gcV, gcO, renA, renAs, renO, namesAs, namesA, namesO, posn, hfa]
        exact wrap_id (by omega) (by omega)
      · have hp := List.getElem?_eq_getElem (show i - 1 < a.length by omega)
        generalize a[i - 1]'_ = p at hp
        rw [adj_pos _ (by omega) hp] at hst hbad
        have hpi : 0 < i := by omega
        have hw1 : IntKind.i64.wrap ((i : Int) - 1) = ((i - 1 : Nat) : Int) := by rw [wrap_id (by omega) (by omega)]; omega
        obtain ⟨yi, yp, yn, ym, ye, yl⟩ := p
        dsimp only at hst hbad
        by_cases hle : xi ≤ yi
        · have hb := hbad (decide_eq_false (show ¬ yi < xi by omega))
          rw [hb]
          exact u_58 ha hp hfa hpi hw1 hle ct
        · rw [decide_eq_true (show yi < xi by omega)] at hst
          refine u_64 ha hp hfa hpi hw1 hle ct ?_
          refine ⟨a.length - (i + 1), by omega, i + 1, rfl, hlt, hst, ?_⟩
          simp [gc, closeN, liveA, gcV, gcO, renA, renAs, renO, namesAs, namesA, namesO, posn, hfa]
          exact wrap_id (by omega) (by omega)
  · have hie : i = a.length := by omega
    subst hie
    rw [List.take_length] at hok
    have e : bookB f = decide ((a.length : Int) ≤ 150) := by unfold bookB; rw [hfa, hok, Bool.and_true]; exact decide_eq_decide.2 (by omega)
    rw [e]
    exact u_48

theorem s_l09Lease_ok [MaxL GG] (x : GLease) (hx : x.fPath.length ≤ 1048576) : Valid PP GG F_S_l09Lease [.agg x.c] (.d (.bool (leaseB x))) [none] := by
  refine v_S_l09Lease [.d (.bool (leaseB x))] rfl rfl ?_
  obtain ⟨x1, x2, x3, x4, x5, x6⟩ := x
  have hr : leaseB ⟨x1, x2, x3, x4, x5, x6⟩ = (inB x1 1 1000000000 && inB x2 0 1000000000 && pathOk x3 && inB x4 0 1000000000 && inB x6 (IntKind.i64.wrap (x4 + 1)) 1000000000 && inB x5 (IntKind.i64.wrap (x4 + 1)) x6) := rfl
  have c1 : Valid PP GG F_S_l01In [.d (.int .i64 x1), .d (.int .i64 1), .d (.int .i64 1000000000)] (.d (.bool (inB x1 1 1000000000))) [none, none, none] := l01In_ok _ _ _
  have c2 : Valid PP GG F_S_l01In [.d (.int .i64 x2), .d (.int .i64 0), .d (.int .i64 1000000000)] (.d (.bool (inB x2 0 1000000000))) [none, none, none] := l01In_ok _ _ _
  have c3 := s_PathOk_ok (GG := GG) x3 (by dsimp only at hx; omega)
  have c4 : Valid PP GG F_S_l01In [.d (.int .i64 x4), .d (.int .i64 0), .d (.int .i64 1000000000)] (.d (.bool (inB x4 0 1000000000))) [none, none, none] := l01In_ok _ _ _
  have c5 : Valid PP GG F_S_l01In [.d (.int .i64 x6), .d (.int .i64 (IntKind.i64.wrap (x4 + 1))), .d (.int .i64 1000000000)] (.d (.bool (inB x6 (IntKind.i64.wrap (x4 + 1)) 1000000000))) [none, none, none] := l01In_ok _ _ _
  have c6 : Valid PP GG F_S_l01In [.d (.int .i64 x5), .d (.int .i64 (IntKind.i64.wrap (x4 + 1))), .d (.int .i64 x6)] (.d (.bool (inB x5 (IntKind.i64.wrap (x4 + 1)) x6))) [none, none, none] := l01In_ok _ _ _
  generalize inB x1 1 1000000000 = p1 at *
  generalize inB x2 0 1000000000 = p2 at *
  generalize pathOk x3 = p3 at *
  generalize inB x4 0 1000000000 = p4 at *
  generalize inB x6 (IntKind.i64.wrap (x4 + 1)) 1000000000 = p5 at *
  generalize inB x5 (IntKind.i64.wrap (x4 + 1)) x6 = p6 at *
  refine W_seq (?_)
  refine u_1 ?_
  refine W_seq (?_)
  refine u_62 c1 c2 c3 c4 c5 c6 2 (p1 && p2 && p3 && p4 && p5 && p6) ?_
  refine W_ret ?_
  simp [Fin, hr]
  all_goals omega

theorem s_BookOk_ok [MaxL GG] (f : GBook) (hf : fitB f) : Valid PP GG F_S_BookOk [.agg f.c] (.d (.bool (bookB f))) [none] := by
  refine v_S_BookOk [.d (.bool (bookB f))] rfl rfl ?_
  obtain ⟨hl, ht⟩ := hf
  generalize hfa : f.fLeases = a at *
  by_cases h6 : a.length ≤ 150
  rotate_left
  · have hb : bookB f = false := by unfold bookB; rw [hfa, decide_eq_false h6, Bool.false_and]
    rw [hb]
    have hd : 150 < a.length := by omega
    exact u_38 hfa hd
  have hd : ¬ 150 < a.length := by omega
  refine u_39 hfa hd ?_
  refine W_loop (fun n st => ∃ i : Nat, n = a.length - i ∧ i ≤ a.length ∧ okP leaseQ [] (a.take i) = true ∧
    st = ⟨[], [(1, .ptr 0 0), (3, .d (.int .i64 i))], [(0, .box [.d (.slc 6 (rLease a))])], 1⟩) _ ⟨0, rfl, by omega, rfl, ?_⟩ ?_
  · simp [gc, closeN, liveA, gcV, gcO, renA, renAs, renO, namesAs, namesA, namesO, posn, hfa]
  rintro n st ⟨i, rfl, hi, hok, rfl⟩
  by_cases hlt : i < a.length
  · have ha := List.getElem?_eq_getElem hlt
    generalize a[i] = x at ha
    have ct := s_l09Lease_ok (GG := GG) x (ht x (List.mem_of_getElem? ha))
    have hbad0 := fun h => okP_bad (q := leaseQ) ha h
    have hst := okP_step (q := leaseQ) ha
    rw [hok, Bool.true_and] at hst
    have hbad : leaseQ (a.take i) x = false → bookB f = false := fun h => by unfold bookB; rw [hfa, hbad0 h, Bool.and_false]
    clear hbad0
    have hq : leaseQ (a.take i) x = (leaseB x && adjB (fun p x => decide (p.fId < x.fId)) (a.take i) x) := rfl
    rw [hq] at hst hbad
    clear hq
    obtain ⟨xi, xp, xn, xm, xe, xl⟩ := x
    cases htb : leaseB ⟨xi, xp, xn, xm, xe, xl⟩ with
    | false =>
      rw [htb] at ct hbad
      have hb := hbad (by simp)
      rw [hb]
      exact u_54 ha hfa ct
    | true =>
      rw [htb] at ct hst hbad
      simp only [Bool.true_and] at hst hbad
      by_cases h0 : i = 0
      · have hpi : ¬ 0 < i := by omega
        have hz : adjB (fun p x : GLease => decide (p.fId < x.fId)) (a.take i) ⟨xi, xp, xn, xm, xe, xl⟩ = true := by rw [h0]; exact adj_zero _ _ _
        rw [hz] at hst
        refine u_63 ha hfa hpi ct ?_
        refine ⟨a.length - (i + 1), by omega, i + 1, rfl, hlt, hst, ?_⟩
        simp [gc, closeN, liveA, gcV, gcO, renA, renAs, renO, namesAs, namesA, namesO, posn, hfa]
        exact wrap_id (by omega) (by omega)
      · have hp := List.getElem?_eq_getElem (show i - 1 < a.length by omega)
        generalize a[i - 1]'_ = p at hp
        rw [adj_pos _ (by omega) hp] at hst hbad
        have hpi : 0 < i := by omega
        have hw1 : IntKind.i64.wrap ((i : Int) - 1) = ((i - 1 : Nat) : Int) := by rw [wrap_id (by omega) (by omega)]; omega
        obtain ⟨yi, yp, yn, ym, ye, yl⟩ := p
        dsimp only at hst hbad
        by_cases hle : xi ≤ yi
        · have hb := hbad (decide_eq_false (show ¬ yi < xi by omega))
          rw [hb]
          exact u_58 ha hp hfa hpi hw1 hle ct
        · rw [decide_eq_true (show yi < xi by omega)] at hst
          refine u_64 ha hp hfa hpi hw1 hle ct ?_
          refine ⟨a.length - (i + 1), by omega, i + 1, rfl, hlt, hst, ?_⟩
          simp [gc, closeN, liveA, gcV, gcO, renA, renAs, renO, namesAs, namesA, namesO, posn, hfa]
          exact wrap_id (by omega) (by omega)
  · have hie : i = a.length := by omega
    subst hie
    rw [List.take_length] at hok
    have e : bookB f = true := by unfold bookB; rw [hfa, hok, decide_eq_true h6]; rfl
    rw [e]
    exact u_37 hfa

def farQ (pre : List GUser) (u : GUser) : Bool := nameOk u.fName && adjB (fun p x => Go.Op.bytesLess p.fName x.fName) pre u

def farB (f : GFar) : Bool := decide (f.fUsers.length ≤ 120) && inB f.fFail 0 1000 && inB f.fMade 0 1000000000 && okP farQ [] f.fUsers

def fitFar (f : GFar) : Prop := f.fUsers.length ≤ 1048576 ∧ ∀ u, u ∈ f.fUsers → u.fName.length ≤ 1048576

theorem isFar_ok [MaxL GG] (f : GFar) (hf : fitFar f) : Valid PP GG F_I_isFar [.agg f.c] (.d (.bool (farB f))) [none] := by
  refine v_I_isFar [.d (.bool (farB f))] rfl rfl ?_
  obtain ⟨a, ff, fm⟩ := f
  obtain ⟨hl, ht⟩ := hf
  dsimp only at hl ht
  have c1 : Valid PP GG F_I_within [.d (.int .i64 ff), .d (.int .i64 0), .d (.int .i64 1000)] (.d (.bool (inB ff 0 1000))) [none, none, none] := within_ok _ _ _
  have c2 : Valid PP GG F_I_within [.d (.int .i64 fm), .d (.int .i64 0), .d (.int .i64 1000000000)] (.d (.bool (inB fm 0 1000000000))) [none, none, none] := within_ok _ _ _
  have hB : farB ⟨a, ff, fm⟩ = (decide (a.length ≤ 120) && inB ff 0 1000 && inB fm 0 1000000000 && okP farQ [] a) := rfl
  generalize farB ⟨a, ff, fm⟩ = B at *
  generalize inB ff 0 1000 = p2 at *
  generalize inB fm 0 1000000000 = p3 at *
  refine u_50 ?_
  refine W_loop (fun n st => ∃ i : Nat, n = a.length - i ∧ i ≤ a.length ∧ okP farQ [] (a.take i) = true ∧
    st = ⟨[], [(1, .ptr 0 0), (6, .d (.slc 2 (rUser a))), (7, .d (.int .i64 a.length)), (8, .d (.int .i64 i))], [(0, .box [.d (.slc 2 (rUser a)), .d (.int .i64 ff), .d (.int .i64 fm)])], 1⟩) _ ⟨0, rfl, by omega, rfl, ?_⟩ ?_
  · simp [gc, closeN, liveA, gcV, gcO, renA, renAs, renO, namesAs, namesA, namesO, posn]
  rintro n st ⟨i, rfl, hi, hok, rfl⟩
  by_cases hlt : i < a.length
  · have ha := List.getElem?_eq_getElem hlt
    generalize a[i] = x at ha
    have ct := isName_ok (GG := GG) x.fName (by have := ht x (List.mem_of_getElem? ha); omega)
    have hbad0 := fun h => okP_bad (q := farQ) ha h
    have hst := okP_step (q := farQ) ha
    rw [hok, Bool.true_and] at hst
    have hbad : farQ (a.take i) x = false → B = false := fun h => by rw [hB, hbad0 h, Bool.and_false]
    clear hbad0
    have hq : farQ (a.take i) x = (nameOk x.fName && adjB (fun p x => Go.Op.bytesLess p.fName x.fName) (a.take i) x) := rfl
    rw [hq] at hst hbad
    clear hq
    obtain ⟨xn, xp⟩ := x
    dsimp only at ct hst hbad
    cases htb : nameOk xn with
    | false =>
      rw [htb] at ct hbad
      have hb := hbad (by simp)
      rw [hb]
      exact u_51 ha ct
    | true =>
      rw [htb] at ct hst hbad
      simp only [Bool.true_and] at hst hbad
      by_cases h0 : i = 0
      · have hpi : ¬ 0 < i := by omega
        have hz : adjB (fun p x : GUser => Go.Op.bytesLess p.fName x.fName) (a.take i) ⟨xn, xp⟩ = true := by rw [h0]; exact adj_zero _ _ _
        rw [hz] at hst
        refine u_65 ha hpi ct ?_
        refine ⟨a.length - (i + 1), by omega, i + 1, rfl, hlt, hst, ?_⟩
        simp [gc, closeN, liveA, gcV, gcO, renA, renAs, renO, namesAs, namesA, namesO, posn]
        exact wrap_id (by omega) (by omega)
      · have hp := List.getElem?_eq_getElem (show i - 1 < a.length by omega)
        generalize a[i - 1]'_ = p at hp
        rw [adj_pos _ (by omega) hp] at hst hbad
        have hpi : 0 < i := by omega
        have hw1 : IntKind.i64.wrap ((i : Int) - 1) = ((i - 1 : Nat) : Int) := by rw [wrap_id (by omega) (by omega)]; omega
        obtain ⟨yn, yp⟩ := p
        dsimp only at hst hbad
        cases hbl : Go.Op.bytesLess yn xn with
        | false =>
          have hb := hbad hbl
          rw [hb]
          exact u_66 ha hp hpi hw1 hbl ct
        | true =>
          rw [hbl] at hst
          refine u_67 ha hp hpi hw1 hbl ct ?_
          refine ⟨a.length - (i + 1), by omega, i + 1, rfl, hlt, hst, ?_⟩
          simp [gc, closeN, liveA, gcV, gcO, renA, renAs, renO, namesAs, namesA, namesO, posn]
          exact wrap_id (by omega) (by omega)
  · have hie : i = a.length := by omega
    subst hie
    rw [List.take_length] at hok
    rw [hok, Bool.and_true] at hB
    by_cases h6 : a.length ≤ 120
    · rw [decide_eq_true h6, Bool.true_and] at hB
      cases p2
      · rw [hB]
        exact u_51 h6 c1
      · rw [hB]
        exact u_68 h6 c1 c2
    · rw [decide_eq_false h6] at hB
      simp only [Bool.false_and] at hB
      rw [hB]
      exact u_37 h6

theorem s_FarOk_ok [MaxL GG] (f : GFar) (hf : fitFar f) : Valid PP GG F_S_FarOk [.agg f.c] (.d (.bool (farB f))) [none] := by
  refine v_S_FarOk [.d (.bool (farB f))] rfl rfl ?_
  obtain ⟨a, ff, fm⟩ := f
  obtain ⟨hl, ht⟩ := hf
  dsimp only at hl ht
  have c1 : Valid PP GG F_S_l01In [.d (.int .i64 ff), .d (.int .i64 0), .d (.int .i64 1000)] (.d (.bool (inB ff 0 1000))) [none, none, none] := l01In_ok _ _ _
  have c2 : Valid PP GG F_S_l01In [.d (.int .i64 fm), .d (.int .i64 0), .d (.int .i64 1000000000)] (.d (.bool (inB fm 0 1000000000))) [none, none, none] := l01In_ok _ _ _
  have hB : farB ⟨a, ff, fm⟩ = (decide (a.length ≤ 120) && inB ff 0 1000 && inB fm 0 1000000000 && okP farQ [] a) := rfl
  generalize farB ⟨a, ff, fm⟩ = B at *
  generalize inB ff 0 1000 = p2 at *
  generalize inB fm 0 1000000000 = p3 at *
  by_cases h6 : a.length ≤ 120
  rotate_left
  · have hd : 120 < a.length := by omega
    rw [decide_eq_false h6] at hB
    simp only [Bool.false_and] at hB
    rw [hB]
    exact u_37 hd
  have hd : ¬ 120 < a.length := by omega
  rw [decide_eq_true h6, Bool.true_and] at hB
  cases p2
  · rw [hB]
    exact u_51 hd c1
  cases p3
  · rw [hB]
    exact u_68 hd c1 c2
  rw [Bool.true_and, Bool.true_and] at hB
  refine u_69 hd c1 c2 ?_
  refine W_loop (fun n st => ∃ i : Nat, n = a.length - i ∧ i ≤ a.length ∧ okP farQ [] (a.take i) = true ∧
    st = ⟨[], [(1, .ptr 0 0), (3, .d (.int .i64 i))], [(0, .box [.d (.slc 2 (rUser a)), .d (.int .i64 ff), .d (.int .i64 fm)])], 1⟩) _ ⟨0, rfl, by omega, rfl, ?_⟩ ?_
  · simp [gc, closeN, liveA, gcV, gcO, renA, renAs, renO, namesAs, namesA, namesO, posn]
  rintro n st ⟨i, rfl, hi, hok, rfl⟩
  by_cases hlt : i < a.length
  · have ha := List.getElem?_eq_getElem hlt
    generalize a[i] = x at ha
    have ct := l01Name_ok (GG := GG) x.fName (by have := ht x (List.mem_of_getElem? ha); omega)
    have hbad0 := fun h => okP_bad (q := farQ) ha h
    have hst := okP_step (q := farQ) ha
    rw [hok, Bool.true_and] at hst
    have hbad : farQ (a.take i) x = false → B = false := fun h => by rw [hB, hbad0 h]
    clear hbad0
    have hq : farQ (a.take i) x = (nameOk x.fName && adjB (fun p x => Go.Op.bytesLess p.fName x.fName) (a.take i) x) := rfl
    rw [hq] at hst hbad
    clear hq
    obtain ⟨xn, xp⟩ := x
    dsimp only at ct hst hbad
    cases htb : nameOk xn with
    | false =>
      rw [htb] at ct hbad
      have hb := hbad (by simp)
      rw [hb]
      exact u_51 ha ct
    | true =>
      rw [htb] at ct hst hbad
      simp only [Bool.true_and] at hst hbad
      by_cases h0 : i = 0
      · have hpi : ¬ 0 < i := by omega
        have hz : adjB (fun p x : GUser => Go.Op.bytesLess p.fName x.fName) (a.take i) ⟨xn, xp⟩ = true := by rw [h0]; exact adj_zero _ _ _
        rw [hz] at hst
        refine u_65 ha hpi ct ?_
        refine ⟨a.length - (i + 1), by omega, i + 1, rfl, hlt, hst, ?_⟩
        simp [gc, closeN, liveA, gcV, gcO, renA, renAs, renO, namesAs, namesA, namesO, posn]
        exact wrap_id (by omega) (by omega)
      · have hp := List.getElem?_eq_getElem (show i - 1 < a.length by omega)
        generalize a[i - 1]'_ = p at hp
        rw [adj_pos _ (by omega) hp] at hst hbad
        have hpi : 0 < i := by omega
        have hw1 : IntKind.i64.wrap ((i : Int) - 1) = ((i - 1 : Nat) : Int) := by rw [wrap_id (by omega) (by omega)]; omega
        obtain ⟨yn, yp⟩ := p
        dsimp only at hst hbad
        cases hbl : Go.Op.bytesLess yn xn with
        | false =>
          have hb := hbad hbl
          rw [hb]
          exact u_66 ha hp hpi hw1 hbl ct
        | true =>
          rw [hbl] at hst
          refine u_67 ha hp hpi hw1 hbl ct ?_
          refine ⟨a.length - (i + 1), by omega, i + 1, rfl, hlt, hst, ?_⟩
          simp [gc, closeN, liveA, gcV, gcO, renA, renAs, renO, namesAs, namesA, namesO, posn]
          exact wrap_id (by omega) (by omega)
  · have hie : i = a.length := by omega
    subst hie
    rw [List.take_length] at hok
    rw [hok] at hB
    rw [hB]
    exact u_48

def jobB (j : GJob) : Bool := nameOk j.fName && inB j.fAt 0 2000000000 && inB j.fTries 0 5

def jobQ (pre : List GJob) (j : GJob) : Bool := jobB j && !(pre.any fun t => t.fName == j.fName)

def queueB (q : GQueue) : Bool := decide (q.fJobs.length ≤ 120) && okP jobQ [] q.fJobs

def fitQ (q : GQueue) : Prop := q.fJobs.length ≤ 1048576 ∧ ∀ j, j ∈ q.fJobs → j.fName.length ≤ 1048576

theorem isQueue_ok [MaxL GG] (f : GQueue) (hf : fitQ f) : Valid PP GG F_I_isQueue [.agg f.c] (.d (.bool (queueB f))) [none] := by
  refine v_I_isQueue [.d (.bool (queueB f))] rfl rfl ?_
  obtain ⟨a⟩ := f
  obtain ⟨hl, ht⟩ := hf
  dsimp only at hl ht
  have hB : queueB ⟨a⟩ = (decide (a.length ≤ 120) && okP jobQ [] a) := rfl
  generalize queueB ⟨a⟩ = B at *
  refine u_50 ?_
  refine W_loop (fun n st => ∃ i : Nat, n = a.length - i ∧ i ≤ a.length ∧ okP jobQ [] (a.take i) = true ∧
    st = ⟨[], [(1, .ptr 0 0), (6, .d (.slc 3 (rJob a))), (7, .d (.int .i64 a.length)), (8, .d (.int .i64 i))], [(0, .box [.d (.slc 3 (rJob a))])], 1⟩) _ ⟨0, rfl, by omega, rfl, ?_⟩ ?_
  · simp [gc, closeN, liveA, gcV, gcO, renA, renAs, renO, namesAs, namesA, namesO, posn]
  rintro n st ⟨i, rfl, hi, hok, rfl⟩
  by_cases hlt : i < a.length
  · have ha := List.getElem?_eq_getElem hlt
    generalize a[i] = x at ha
    have ct := isName_ok (GG := GG) x.fName (by have := ht x (List.mem_of_getElem? ha); omega)
    have c1 : Valid PP GG F_I_within [.d (.int .i64 x.fAt), .d (.int .i64 0), .d (.int .i64 2000000000)] (.d (.bool (inB x.fAt 0 2000000000))) [none, none, none] := within_ok _ _ _
    have c2 : Valid PP GG F_I_within [.d (.int .i64 x.fTries), .d (.int .i64 0), .d (.int .i64 5)] (.d (.bool (inB x.fTries 0 5))) [none, none, none] := within_ok _ _ _
    have ch : Valid PP GG F_I_hasJob [.agg [.d (.slc 3 (rJob (a.take i)))], .d (.str x.fName)] (.d (.bool ((a.take i).any fun t => t.fName == x.fName))) [none, none] := hasJob_ok (GG := GG) ⟨a.take i⟩ x.fName (by simp; omega)
    have htk : (rJob a).take i = rJob (a.take i) := by simp [rJob, List.map_take]
    have hbad0 := fun h => okP_bad (q := jobQ) ha h
    have hst := okP_step (q := jobQ) ha
    rw [hok, Bool.true_and] at hst
    have hbad : jobQ (a.take i) x = false → B = false := fun h => by rw [hB, hbad0 h, Bool.and_false]
    clear hbad0
    have hq : jobQ (a.take i) x = (nameOk x.fName && inB x.fAt 0 2000000000 && inB x.fTries 0 5 && !((a.take i).any fun t => t.fName == x.fName)) := rfl
    rw [hq] at hst hbad
    clear hq
    obtain ⟨xn, xa, xt⟩ := x
    dsimp only at ct c1 c2 ch hst hbad
    generalize nameOk xn = p1 at *
    generalize inB xa 0 2000000000 = p2 at *
    generalize inB xt 0 5 = p3 at *
    generalize ((a.take i).any fun t => t.fName == xn) = p4 at *
    cases p1
    · rw [hbad (by simp)]
      exact u_51 ha ct
    cases p2
    · rw [hbad (by simp)]
      exact u_68 ha ct c1
    cases p3
    · rw [hbad (by simp)]
      exact u_70 ha ct c1 c2
    cases p4
    · refine u_71 ha htk ct c1 c2 ch ?_
      refine ⟨a.length - (i + 1), by omega, i + 1, rfl, hlt, hst, ?_⟩
      simp [gc, closeN, liveA, gcV, gcO, renA, renAs, renO, namesAs, namesA, namesO, posn]
      exact wrap_id (by omega) (by omega)
    · rw [hbad (by simp)]
      exact u_72 ha htk ct c1 c2 ch
  · have hie : i = a.length := by omega
    subst hie
    rw [List.take_length] at hok
    rw [hok, Bool.and_true] at hB
    have e : decide ((a.length : Int) ≤ 120) = decide (a.length ≤ 120) := decide_eq_decide.2 (by omega)
    rw [hB, ← e]
    exact u_48

theorem s_QueueOk_ok [MaxL GG] (f : GQueue) (hf : fitQ f) : Valid PP GG F_S_QueueOk [.agg f.c] (.d (.bool (queueB f))) [none] := by
  refine v_S_QueueOk [.d (.bool (queueB f))] rfl rfl ?_
  obtain ⟨a⟩ := f
  obtain ⟨hl, ht⟩ := hf
  dsimp only at hl ht
  have hB : queueB ⟨a⟩ = (decide (a.length ≤ 120) && okP jobQ [] a) := rfl
  generalize queueB ⟨a⟩ = B at *
  by_cases h6 : a.length ≤ 120
  rotate_left
  · have hd : 120 < a.length := by omega
    rw [decide_eq_false h6] at hB
    simp only [Bool.false_and] at hB
    rw [hB]
    exact u_37 hd
  have hd : ¬ 120 < a.length := by omega
  rw [decide_eq_true h6, Bool.true_and] at hB
  refine u_32 hd ?_
  refine W_loop (fun n st => ∃ i : Nat, n = a.length - i ∧ i ≤ a.length ∧ okP jobQ [] (a.take i) = true ∧
    st = ⟨[], [(1, .ptr 0 0), (3, .d (.int .i64 i))], [(0, .box [.d (.slc 3 (rJob a))])], 1⟩) _ ⟨0, rfl, by omega, rfl, ?_⟩ ?_
  · simp [gc, closeN, liveA, gcV, gcO, renA, renAs, renO, namesAs, namesA, namesO, posn]
  rintro n st ⟨i, rfl, hi, hok, rfl⟩
  by_cases hlt : i < a.length
  · have ha := List.getElem?_eq_getElem hlt
    generalize a[i] = x at ha
    have ct := l01Name_ok (GG := GG) x.fName (by have := ht x (List.mem_of_getElem? ha); omega)
    have c1 : Valid PP GG F_S_l01In [.d (.int .i64 x.fAt), .d (.int .i64 0), .d (.int .i64 2000000000)] (.d (.bool (inB x.fAt 0 2000000000))) [none, none, none] := l01In_ok _ _ _
    have c2 : Valid PP GG F_S_l01In [.d (.int .i64 x.fTries), .d (.int .i64 0), .d (.int .i64 5)] (.d (.bool (inB x.fTries 0 5))) [none, none, none] := l01In_ok _ _ _
    have hbad0 := fun h => okP_bad (q := jobQ) ha h
    have hst := okP_step (q := jobQ) ha
    rw [hok, Bool.true_and] at hst
    have hbad : jobQ (a.take i) x = false → B = false := fun h => by rw [hB, hbad0 h]
    clear hbad0
    have hq : jobQ (a.take i) x = (nameOk x.fName && inB x.fAt 0 2000000000 && inB x.fTries 0 5 && !((a.take i).any fun t => t.fName == x.fName)) := rfl
    rw [hq] at hst hbad
    clear hq
    obtain ⟨xn, xa, xt⟩ := x
    dsimp only at ct c1 c2 hst hbad
    generalize nameOk xn = p1 at *
    generalize inB xa 0 2000000000 = p2 at *
    generalize inB xt 0 5 = p3 at *
    cases p1
    · rw [hbad (by simp)]
      exact u_51 ha ct
    cases p2
    · rw [hbad (by simp)]
      exact u_68 ha ct c1
    cases p3
    · rw [hbad (by simp)]
      exact u_70 ha ct c1 c2
    refine u_73 ha ct c1 c2 ?_
    refine W_loop (fun n st => ∃ k : Nat, n = i - k ∧ k ≤ i ∧ (∀ y, y ∈ a.take k → (y.fName == xn) = false) ∧
      st = ⟨[], [(1, .ptr 0 0), (3, .d (.int .i64 i)), (4, .ptr 1 0), (5, .d (.int .i64 k))], [(0, .box [.d (.slc 3 (rJob a))]), (1, .box [.d (.str xn), .d (.int .i64 xa), .d (.int .i64 xt)])], 2⟩) _ ⟨0, rfl, by omega, fun y h => by simp at h, ?_⟩ ?_
    · simp [gc, closeN, liveA, gcV, gcO, renA, renAs, renO, namesAs, namesA, namesO, posn]
    rintro n st ⟨k, rfl, hk, hn, rfl⟩
    by_cases hkl : k < i
    · have hak := List.getElem?_eq_getElem (show k < a.length by omega)
      generalize a[k]'_ = y at hak
      obtain ⟨yn, ya, yt⟩ := y
      cases hyn : (yn == xn) with
      | true =>
        rw [hbad (by
          have : (a.take i).any (fun t => t.fName == xn) = true := by
            rw [List.any_eq_true]
            exact ⟨_, List.mem_of_getElem? (by rw [List.getElem?_take_of_lt hkl]; exact hak), hyn⟩
          rw [this]; rfl)]
        exact u_74 hak hkl hyn
      | false =>
        have hn2 := take_miss (p := fun y : GJob => y.fName == xn) hak hn hyn
        refine u_75 hak hkl hyn ?_
        refine ⟨i - (k + 1), by omega, k + 1, rfl, hkl, hn2, ?_⟩
        simp [gc, closeN, liveA, gcV, gcO, renA, renAs, renO, namesAs, namesA, namesO, posn]
        exact wrap_id (by omega) (by omega)
    · have hke : k = i := by omega
      subst hke
      have : (a.take k).any (fun t => t.fName == xn) = false := by
        rw [List.any_eq_false]; intro y hy; rw [hn y hy]; simp
      rw [this] at hst
      refine u_32 hkl ?_
      refine ⟨a.length - (k + 1), by omega, k + 1, rfl, hlt, hst, ?_⟩
      simp [gc, closeN, liveA, gcV, gcO, renA, renAs, renO, namesAs, namesA, namesO, posn]
      exact wrap_id (by omega) (by omega)
  · have hie : i = a.length := by omega
    subst hie
    rw [List.take_length] at hok
    rw [hok] at hB
    rw [hB]
    exact u_48

theorem okP_get {α : Type} {q : List α → α → Bool} {l : List α} {i : Nat} {x : α} (h : okP q [] l = true) (hi : l[i]? = some x) : q (l.take i) x = true := by
  cases hq : q (l.take i) x with
  | true => rfl
  | false => rw [okP_bad hi hq] at h; cases h

theorem inc_of_step {α : Type} {key : α → Int} {l : List α} (h : ∀ (i : Nat) x y, l[i]? = some y → l[i + 1]? = some x → key y < key x) : l.Pairwise (fun y x => key y < key x) := by
  rw [List.pairwise_iff_getElem]
  intro i j hi hj hij
  obtain ⟨d, rfl⟩ : ∃ d, j = i + 1 + d := ⟨j - i - 1, by omega⟩
  induction d with
  | zero => exact h i _ _ (List.getElem?_eq_getElem hi) (List.getElem?_eq_getElem hj)
  | succ d ih =>
    have h1 := ih (by omega) (by omega)
    have h2 := h (i + 1 + d) _ _ (List.getElem?_eq_getElem (show i + 1 + d < l.length by omega)) (List.getElem?_eq_getElem hj)
    exact Int.lt_trans h1 h2

theorem okP_inc {α : Type} {q : List α → α → Bool} {key : α → Int} (hq : ∀ pre x, q pre x = true → adjB (fun p x => decide (key p < key x)) pre x = true) {l : List α} (h : okP q [] l = true) : l.Pairwise (fun y x => key y < key x) := by
  refine inc_of_step fun i x y hy hx => ?_
  have h1 := hq _ _ (okP_get h hx)
  rw [adj_succ _ hy] at h1
  exact of_decide_eq_true h1

theorem inc_last {α : Type} {key : α → Int} {l : List α} (h : l.Pairwise (fun y x => key y < key x)) {k : Nat} {t : α} (hk : l.length = k + 1) (ht : l[k]? = some t) (n : Int) : l.all (fun x => decide (key x < n)) = decide (key t < n) := by
  rw [List.pairwise_iff_getElem] at h
  obtain ⟨h1, rfl⟩ := List.getElem?_eq_some_iff.1 ht
  by_cases hn : key l[k] < n
  · rw [decide_eq_true hn, List.all_eq_true]
    intro x hx
    obtain ⟨i, hi, rfl⟩ := List.mem_iff_getElem.1 hx
    by_cases hik : i = k
    · subst hik; exact decide_eq_true hn
    · have := h i k hi h1 (by omega)
      exact decide_eq_true (by omega)
  · rw [decide_eq_false hn, List.all_eq_false]
    exact ⟨_, List.getElem_mem h1, by simpa using hn⟩

def belowT (f : GForest) (n : Int) : Bool := f.fTokens.all fun t => decide (t.fId < n)

def belowL (b : GBook) (n : Int) : Bool := b.fLeases.all fun t => decide (t.fId < n)

def hasLease (b : GBook) (id : Int) : Bool := b.fLeases.any fun l => decide (l.fId = id)

def ownQ (b : GBook) (pre : List GOwned) (o : GOwned) : Bool := adjB (fun p x => decide (p.fLease < x.fLease)) pre o && hasLease b o.fLease && nameOk o.fName && !(pre.any fun p => p.fName == o.fName)

def worldB (w : GWorld) : Bool := inB w.fNow 0 1000000000 && inB w.fNext 1 1000000000 && inB w.fLost 0 1000000000 && forestB w.fForest && bookB w.fBook && farB w.fFar && queueB w.fQueue && belowT w.fForest w.fNext && belowL w.fBook w.fNext && okP (ownQ w.fBook) [] w.fOwned

def fitW (w : GWorld) : Prop := fitF w.fForest ∧ fitB w.fBook ∧ fitFar w.fFar ∧ fitQ w.fQueue ∧ w.fOwned.length ≤ 1048576 ∧ ∀ o, o ∈ w.fOwned → o.fName.length ≤ 1048576

theorem forest_inc {f : GForest} (h : forestB f = true) : f.fTokens.Pairwise (fun y x => y.fId < x.fId) := by
  unfold forestB at h
  rw [Bool.and_eq_true] at h
  refine okP_inc (key := GToken.fId) (fun pre x hq => ?_) h.2
  unfold tokQ at hq
  simp only [Bool.and_eq_true] at hq
  exact hq.1.2

theorem book_inc {f : GBook} (h : bookB f = true) : f.fLeases.Pairwise (fun y x => y.fId < x.fId) := by
  unfold bookB at h
  rw [Bool.and_eq_true] at h
  refine okP_inc (key := GLease.fId) (fun pre x hq => ?_) h.2
  unfold leaseQ at hq
  rw [Bool.and_eq_true] at hq
  exact hq.2

theorem own_inc {b : GBook} {l : List GOwned} (h : okP (ownQ b) [] l = true) : l.Pairwise (fun y x => y.fLease < x.fLease) := by
  refine okP_inc (key := GOwned.fLease) (fun pre x hq => ?_) h
  unfold ownQ at hq
  simp only [Bool.and_eq_true] at hq
  exact hq.1.1.1

theorem lastT {f : GForest} (h : forestB f = true) (n : Int) : (f.fTokens = [] ∧ belowT f n = true) ∨ ∃ k t, f.fTokens.length = k + 1 ∧ f.fTokens[k]? = some t ∧ belowT f n = decide (t.fId < n) := by
  by_cases h0 : f.fTokens = []
  · exact .inl ⟨h0, by unfold belowT; rw [h0]; rfl⟩
  · have hl := List.length_pos_iff.2 h0
    refine .inr ⟨f.fTokens.length - 1, f.fTokens[f.fTokens.length - 1], by omega, List.getElem?_eq_getElem (by omega), ?_⟩
    exact inc_last (key := GToken.fId) (forest_inc h) (by omega) (List.getElem?_eq_getElem (by omega)) n

theorem lastL {f : GBook} (h : bookB f = true) (n : Int) : (f.fLeases = [] ∧ belowL f n = true) ∨ ∃ k t, f.fLeases.length = k + 1 ∧ f.fLeases[k]? = some t ∧ belowL f n = decide (t.fId < n) := by
  by_cases h0 : f.fLeases = []
  · exact .inl ⟨h0, by unfold belowL; rw [h0]; rfl⟩
  · have hl := List.length_pos_iff.2 h0
    refine .inr ⟨f.fLeases.length - 1, f.fLeases[f.fLeases.length - 1], by omega, List.getElem?_eq_getElem (by omega), ?_⟩
    exact inc_last (key := GLease.fId) (book_inc h) (by omega) (List.getElem?_eq_getElem (by omega)) n

theorem inc_len {α β : Type} {ka : α → Int} {kb : β → Int} : ∀ (b : List β) (a : List α), a.Pairwise (fun y x => ka y < ka x) → b.Pairwise (fun y x => kb y < kb x) → (∀ x, x ∈ a → ∃ y, y ∈ b ∧ kb y = ka x) → a.length ≤ b.length := by
  intro b
  induction b with
  | nil =>
    intro a _ _ h
    cases a with
    | nil => simp
    | cons x a => obtain ⟨y, hy, _⟩ := h x (by simp); simp at hy
  | cons y b ih =>
    intro a ha hb h
    cases a with
    | nil => simp
    | cons x a =>
      rw [List.pairwise_cons] at ha hb
      by_cases hxy : kb y = ka x
      · have := ih a ha.2 hb.2 fun z hz => by
          obtain ⟨u, hu, e⟩ := h z (by simp [hz])
          have := ha.1 z hz
          rcases List.mem_cons.1 hu with rfl | hu
          · omega
          · exact ⟨u, hu, e⟩
        simp only [List.length_cons]; omega
      · have hgt : ∃ u, u ∈ b ∧ kb u = ka x := by
          obtain ⟨u, hu, e⟩ := h x (by simp)
          rcases List.mem_cons.1 hu with rfl | hu
          · exact absurd e hxy
          · exact ⟨u, hu, e⟩
        obtain ⟨u, hu, e⟩ := hgt
        have hyx := hb.1 u hu
        have := ih (x :: a) (List.pairwise_cons.2 ha) hb.2 fun z hz => by
          obtain ⟨u', hu', e'⟩ := h z hz
          rcases List.mem_cons.1 hu' with rfl | hu'
          · rcases List.mem_cons.1 hz with rfl | hz
            · exact absurd e' hxy
            · have := ha.1 z hz; omega
          · exact ⟨u', hu', e'⟩
        simp only [List.length_cons] at this ⊢; omega

theorem owned_len {b : GBook} {l : List GOwned} (hb : bookB b = true) (h : okP (ownQ b) [] l = true) : l.length ≤ b.fLeases.length := by
  refine inc_len (ka := GOwned.fLease) (kb := GLease.fId) _ _ (own_inc h) (book_inc hb) fun x hx => ?_
  obtain ⟨i, hi⟩ := List.getElem?_of_mem hx
  have := okP_get h hi
  unfold ownQ hasLease at this
  simp only [Bool.and_eq_true, List.any_eq_true, decide_eq_true_eq] at this
  exact this.1.1.2

theorem isWorld_c1_ok (t : GOwned) (l : Int) (s : List UInt8) : Valid PP GG F_I_isWorld_c1 [.agg t.c, .rp [.int .i64 l, .str s]] (.d (.bool (t.fName == s))) [none] := by
  refine v_I_isWorld_c1 [.d (.bool (t.fName == s))] rfl rfl ?_
  exact u_48

theorem adj_cases {α : Type} {lt : α → α → Bool} {a : List α} {i : Nat} {x : α} (hi : i ≤ a.length) : (i = 0 ∧ adjB lt (a.take i) x = true) ∨ ∃ j p, i = j + 1 ∧ a[j]? = some p ∧ adjB lt (a.take i) x = lt p x := by
  cases i with
  | zero => exact .inl ⟨rfl, adj_zero _ _ _⟩
  | succ j =>
    have hp := List.getElem?_eq_getElem (show j < a.length by omega)
    exact .inr ⟨j, _, rfl, hp, adj_succ _ hp _⟩

theorem isWorld_ok [MaxL GG] (w : GWorld) (hf : fitW w) : Valid PP GG F_I_isWorld [.agg w.c] (.d (.bool (worldB w))) [none] := by
  refine v_I_isWorld [.d (.bool (worldB w))] rfl rfl ?_
  obtain ⟨now, next, lost, ⟨tk⟩, ⟨ls⟩, ⟨us, ff, fm⟩, ⟨js⟩, ow⟩ := w
  obtain ⟨hf1, hf2, hf3, hf4, hol, hon⟩ := hf
  dsimp only at hf1 hf2 hf3 hf4 hol hon
  have c1 : Valid PP GG F_I_within [.d (.int .i64 now), .d (.int .i64 0), .d (.int .i64 1000000000)] (.d (.bool (inB now 0 1000000000))) [none, none, none] := within_ok _ _ _
  have c2 : Valid PP GG F_I_within [.d (.int .i64 next), .d (.int .i64 1), .d (.int .i64 1000000000)] (.d (.bool (inB next 1 1000000000))) [none, none, none] := within_ok _ _ _
  have c3 : Valid PP GG F_I_within [.d (.int .i64 lost), .d (.int .i64 0), .d (.int .i64 1000000000)] (.d (.bool (inB lost 0 1000000000))) [none, none, none] := within_ok _ _ _
  have c4 := isForest_ok (GG := GG) ⟨tk⟩ hf1
  have c5 := isBook_ok (GG := GG) ⟨ls⟩ hf2
  have c6 := isFar_ok (GG := GG) ⟨us, ff, fm⟩ hf3
  have c7 := isQueue_ok (GG := GG) ⟨js⟩ hf4
  have hT := fun h => lastT (f := ⟨tk⟩) h next
  have hL := fun h => lastL (f := ⟨ls⟩) h next
  have hli : ∀ id, Valid PP GG F_I_leaseIndex [.agg [.d (.slc 6 (rLease ls))], .d (.int .i64 id)] (.d (.int .i64 (idxF (fun t => decide (t.fId = id)) ls))) [none, none] := fun id => leaseIndex_ok (GG := GG) ⟨ls⟩ id hf2.1
  have hB : worldB ⟨now, next, lost, ⟨tk⟩, ⟨ls⟩, ⟨us, ff, fm⟩, ⟨js⟩, ow⟩ = (inB now 0 1000000000 && inB next 1 1000000000 && inB lost 0 1000000000 && forestB ⟨tk⟩ && bookB ⟨ls⟩ && farB ⟨us, ff, fm⟩ && queueB ⟨js⟩ && belowT ⟨tk⟩ next && belowL ⟨ls⟩ next && okP (ownQ ⟨ls⟩) [] ow) := rfl
  have htl := hf1.1
  have hll := hf2.1
  generalize worldB ⟨now, next, lost, ⟨tk⟩, ⟨ls⟩, ⟨us, ff, fm⟩, ⟨js⟩, ow⟩ = B at *
  dsimp only at c4 c5 c6 c7 hT hL htl hll
  generalize inB now 0 1000000000 = p1 at *
  generalize inB next 1 1000000000 = p2 at *
  generalize inB lost 0 1000000000 = p3 at *
  generalize forestB ⟨tk⟩ = p4 at *
  generalize bookB ⟨ls⟩ = p5 at *
  generalize farB ⟨us, ff, fm⟩ = p6 at *
  generalize queueB ⟨js⟩ = p7 at *
  generalize belowT ⟨tk⟩ next = BT at *
  generalize belowL ⟨ls⟩ next = BL at *
  refine W_seq (?_)
  refine u_1 ?_
  refine W_seq (W_seq ?_)
  refine u_76 c1 c2 c3 c4 c5 c6 c7 46 (!(p1 && p2 && p3 && p4 && p5 && p6 && p7)) ?_
  refine W_cond rfl (fun h => ?_) (fun h => ?_)
  · rw [Bool.not_eq_true'] at h
    have hb : B = false := by rw [hB, h]; simp
    rw [hb]
    exact u_48
  rw [Bool.not_eq_false'] at h
  rw [h, Bool.true_and] at hB
  simp only [Bool.and_eq_true] at h
  have hT := hT h.1.1.1.2
  have hL := hL h.1.1.2
  clear h
  refine W_skip ?_
  refine W_seq (W_seq ?_)
  refine u_1 ?_
  refine W_seq (?_)
  refine W_regBD 65 (!BT) (fun K hK => ?_) ?_
  · rcases hT with ⟨e, hb⟩ | ⟨k, t, hk, ht, hb⟩
    · subst e
      rw [hb] at hK
      simp
      repeat' (first | exact hK _ _ (by clear hK; first | rfl | omega | (exact decide_eq_false (by omega)) | (exact decide_eq_true (by omega)) | (exact (decide_eq_true (by omega)).symm) | (exact (decide_eq_false (by omega)).symm) | (exact decide_eq_decide.2 (by omega)) | (simp only [← decide_not]; exact decide_eq_decide.2 (by omega)) | (simp [*]; done) | (simp [*]; omega) | (simp_all; done) | (simp_all; omega) | (rw [Bool.eq_iff_iff]; simp at *; omega)) | (with_reducible refine goL_split (fun _ => ?_) (fun _ => ?_) <;> simp) | with_reducible refine And.intro ?_ ?_ | with_reducible exact okay_rfl rfl | with_reducible assumption | omega)
    · have hw1 : IntKind.i64.wrap (k : Int) = k := wrap_id (by omega) (by omega)
      have hkc : (tk.length : Int) = (k : Int) + 1 := by omega
      have hpos : (0 : Int) < (k : Int) + 1 := by omega
      rw [hb, hkc] at hK
      simp [hkc, hpos, ht, hw1]
      repeat' (first | exact hK _ _ (by clear hK; first | rfl | omega | (exact decide_eq_false (by omega)) | (exact decide_eq_true (by omega)) | (exact (decide_eq_true (by omega)).symm) | (exact (decide_eq_false (by omega)).symm) | (exact decide_eq_decide.2 (by omega)) | (simp only [← decide_not]; exact decide_eq_decide.2 (by omega)) | (simp [*]; done) | (simp [*]; omega) | (simp_all; done) | (simp_all; omega) | (rw [Bool.eq_iff_iff]; simp at *; omega)) | (with_reducible refine goL_split (fun _ => ?_) (fun _ => ?_) <;> simp [hkc, hpos, ht, hw1]) | with_reducible refine And.intro ?_ ?_ | with_reducible exact okay_rfl rfl | with_reducible assumption | omega)
  refine W_cond rfl (fun h => ?_) (fun h => ?_)
  · rw [Bool.not_eq_true'] at h
    have hb : B = false := by rw [hB, h]; simp
    rw [hb]
    exact u_48
  rw [Bool.not_eq_false'] at h
  rw [h, Bool.true_and] at hB
  clear h hT
  refine W_skip ?_
  refine W_seq (W_seq ?_)
  refine u_1 ?_
  refine W_seq (?_)
  refine W_regBD 84 (!BL) (fun K hK => ?_) ?_
  · rcases hL with ⟨e, hb⟩ | ⟨k, t, hk, ht, hb⟩
    · subst e
      rw [hb] at hK
      simp
      repeat' (first | exact hK _ _ (by clear hK; first | rfl | omega | (exact decide_eq_false (by omega)) | (exact decide_eq_true (by omega)) | (exact (decide_eq_true (by omega)).symm) | (exact (decide_eq_false (by omega)).symm) | (exact decide_eq_decide.2 (by omega)) | (simp only [← decide_not]; exact decide_eq_decide.2 (by omega)) | (simp [*]; done) | (simp [*]; omega) | (simp_all; done) | (simp_all; omega) | (rw [Bool.eq_iff_iff]; simp at *; omega)) | (with_reducible refine goL_split (fun _ => ?_) (fun _ => ?_) <;> simp) | with_reducible refine And.intro ?_ ?_ | with_reducible exact okay_rfl rfl | with_reducible assumption | omega)
    · have hw1 : IntKind.i64.wrap (k : Int) = k := wrap_id (by omega) (by omega)
      have hkc : (ls.length : Int) = (k : Int) + 1 := by omega
      have hpos : (0 : Int) < (k : Int) + 1 := by omega
      rw [hb, hkc] at hK
      simp [hkc, hpos, ht, hw1]
      repeat' (first | exact hK _ _ (by clear hK; first | rfl | omega | (exact decide_eq_false (by omega)) | (exact decide_eq_true (by omega)) | (exact (decide_eq_true (by omega)).symm) | (exact (decide_eq_false (by omega)).symm) | (exact decide_eq_decide.2 (by omega)) | (simp only [← decide_not]; exact decide_eq_decide.2 (by omega)) | (simp [*]; done) | (simp [*]; omega) | (simp_all; done) | (simp_all; omega) | (rw [Bool.eq_iff_iff]; simp at *; omega)) | (with_reducible refine goL_split (fun _ => ?_) (fun _ => ?_) <;> simp [hkc, hpos, ht, hw1]) | with_reducible refine And.intro ?_ ?_ | with_reducible exact okay_rfl rfl | with_reducible assumption | omega)
  refine W_cond rfl (fun h => ?_) (fun h => ?_)
  · rw [Bool.not_eq_true'] at h
    have hb : B = false := by rw [hB, h]; simp
    rw [hb]
    exact u_48
  rw [Bool.not_eq_false'] at h
  rw [h, Bool.true_and] at hB
  clear h hL
  refine u_50 ?_
  refine W_loop (fun n st => ∃ i : Nat, n = ow.length - i ∧ i ≤ ow.length ∧ okP (ownQ ⟨ls⟩) [] (ow.take i) = true ∧
    st = ⟨[], [(1, .ptr 0 0), (86, .d (.slc 2 (rOwned ow))), (87, .d (.int .i64 ow.length)), (88, .d (.int .i64 i))], [(0, .box [.d (.int .i64 now), .d (.int .i64 next), .d (.int .i64 lost), .d (.slc 7 (rToken tk)), .d (.slc 6 (rLease ls)), .d (.slc 2 (rUser us)), .d (.int .i64 ff), .d (.int .i64 fm), .d (.slc 3 (rJob js)), .d (.slc 2 (rOwned ow))])], 1⟩) _ ⟨0, rfl, by omega, rfl, ?_⟩ ?_
  · simp [gc, closeN, liveA, gcV, gcO, renA, renAs, renO, namesAs, namesA, namesO, posn]
  rintro n st ⟨i, rfl, hi, hok, rfl⟩
  by_cases hlt : i < ow.length
  · have ha := List.getElem?_eq_getElem hlt
    generalize ow[i] = x at ha
    have hst := okP_step (q := ownQ ⟨ls⟩) ha
    have hbad : ownQ ⟨ls⟩ (ow.take i) x = false → B = false := fun h => by rw [hB]; exact okP_bad ha h
    rw [hok, Bool.true_and] at hst
    have hq : ownQ ⟨ls⟩ (ow.take i) x = (adjB (fun p x => decide (p.fLease < x.fLease)) (ow.take i) x && hasLease ⟨ls⟩ x.fLease && nameOk x.fName && !((ow.take i).any fun p => p.fName == x.fName)) := rfl
    rw [hq] at hst hbad
    clear hq
    have hA := adj_cases (lt := fun p x : GOwned => decide (p.fLease < x.fLease)) (x := x) hi
    have cn := isName_ok (GG := GG) x.fName (by have := hon x (List.mem_of_getElem? ha); omega)
    have cl := hli x.fLease
    have hno : decide (idxF (fun t => decide (t.fId = x.fLease)) ls < 0) = !hasLease ⟨ls⟩ x.fLease := idxF_none _ _
    have cc := ContainsFuncOwned_ok (GG := GG) (ow.take i) F_I_isWorld_c1 [[.int .i64 x.fLease, .str x.fName]] (fun p => p.fName == x.fName) (by simp; omega) fun t _ => isWorld_c1_ok t _ _
    have htk : (rOwned ow).take i = rOwned (ow.take i) := by simp [rOwned, List.map_take]
    generalize adjB (fun p x : GOwned => decide (p.fLease < x.fLease)) (ow.take i) x = A at *
    obtain ⟨xl, xn⟩ := x
    dsimp only at cn cl hno cc hst hbad hA
    generalize hasLease ⟨ls⟩ xl = L at *
    generalize nameOk xn = N at *
    generalize (ow.take i).any (fun p => p.fName == xn) = C at *
    generalize idxF (fun t => decide (t.fId = xl)) ls = k at *
    refine W_seq (?_)
    refine u_1 ?_
    refine W_seq (W_cond rfl (fun h => W_skip ?_) (fun h => ?_))
    rotate_left
    · exfalso; simp at h; omega
    refine W_seq (W_block (W_seq ?_))
    refine u_7 ha ?_
    refine W_seq (?_)
    refine W_regBD 128 (!(A && L && N && !C)) (fun K hK => ?_) ?_
    · rcases hA with ⟨rfl, hA⟩ | ⟨j, p, rfl, hp, hA⟩
      · subst hA
        simp only [List.take_zero] at cc
        cases L
        · simp only [Bool.not_false] at hno
          simp [hno]
          repeat' (first | exact hK _ _ (by clear hK; first | rfl | omega | (exact decide_eq_false (by omega)) | (exact decide_eq_true (by omega)) | (exact (decide_eq_true (by omega)).symm) | (exact (decide_eq_false (by omega)).symm) | (exact decide_eq_decide.2 (by omega)) | (simp only [← decide_not]; exact decide_eq_decide.2 (by omega)) | (simp [*]; done) | (simp [*]; omega) | (simp_all; done) | (simp_all; omega) | (rw [Bool.eq_iff_iff]; simp at *; omega)) | (with_reducible refine callQ (cl) ?_; simp [hno]) | (with_reducible refine callQ (cn) ?_; simp [hno]) | (with_reducible refine callQ (cc) ?_; simp [hno]) | (with_reducible refine goL_split (fun _ => ?_) (fun _ => ?_) <;> simp [hno]) | with_reducible refine And.intro ?_ ?_ | with_reducible exact okay_rfl rfl | with_reducible assumption | omega)
        · simp only [Bool.not_true] at hno
          simp [hno, htk]
          repeat' (first | exact hK _ _ (by clear hK; first | rfl | omega | (exact decide_eq_false (by omega)) | (exact decide_eq_true (by omega)) | (exact (decide_eq_true (by omega)).symm) | (exact (decide_eq_false (by omega)).symm) | (exact decide_eq_decide.2 (by omega)) | (simp only [← decide_not]; exact decide_eq_decide.2 (by omega)) | (simp [*]; done) | (simp [*]; omega) | (simp_all; done) | (simp_all; omega) | (rw [Bool.eq_iff_iff]; simp at *; omega)) | (with_reducible refine callQ (cl) ?_; simp [hno, htk]) | (with_reducible refine callQ (cn) ?_; simp [hno, htk]) | (with_reducible refine callQ (cc) ?_; simp [hno, htk]) | (with_reducible refine goL_split (fun _ => ?_) (fun _ => ?_) <;> simp [hno, htk]) | with_reducible refine And.intro ?_ ?_ | with_reducible exact okay_rfl rfl | with_reducible assumption | omega)
      · have hw1 : IntKind.i64.wrap (j : Int) = j := wrap_id (by omega) (by omega)
        rw [hA] at hK
        cases L
        · simp only [Bool.not_false] at hno
          simp [hp, hw1, htk, hno]
          repeat' (first | exact hK _ _ (by clear hK; first | rfl | omega | (exact decide_eq_false (by omega)) | (exact decide_eq_true (by omega)) | (exact (decide_eq_true (by omega)).symm) | (exact (decide_eq_false (by omega)).symm) | (exact decide_eq_decide.2 (by omega)) | (simp only [← decide_not]; exact decide_eq_decide.2 (by omega)) | (simp [*]; done) | (simp [*]; omega) | (simp_all; done) | (simp_all; omega) | (rw [Bool.eq_iff_iff]; simp at *; omega)) | (with_reducible refine callQ (cl) ?_; simp [hp, hw1, htk, hno]) | (with_reducible refine callQ (cn) ?_; simp [hp, hw1, htk, hno]) | (with_reducible refine callQ (cc) ?_; simp [hp, hw1, htk, hno]) | (with_reducible refine goL_split (fun _ => ?_) (fun _ => ?_) <;> simp [hp, hw1, htk, hno]) | with_reducible refine And.intro ?_ ?_ | with_reducible exact okay_rfl rfl | with_reducible assumption | omega)
        · simp only [Bool.not_true] at hno
          simp [hp, hw1, htk, hno]
          repeat' (first | exact hK _ _ (by clear hK; first | rfl | omega | (exact decide_eq_false (by omega)) | (exact decide_eq_true (by omega)) | (exact (decide_eq_true (by omega)).symm) | (exact (decide_eq_false (by omega)).symm) | (exact decide_eq_decide.2 (by omega)) | (simp only [← decide_not]; exact decide_eq_decide.2 (by omega)) | (simp [*]; done) | (simp [*]; omega) | (simp_all; done) | (simp_all; omega) | (rw [Bool.eq_iff_iff]; simp at *; omega)) | (with_reducible refine callQ (cl) ?_; simp [hp, hw1, htk, hno]) | (with_reducible refine callQ (cn) ?_; simp [hp, hw1, htk, hno]) | (with_reducible refine callQ (cc) ?_; simp [hp, hw1, htk, hno]) | (with_reducible refine goL_split (fun _ => ?_) (fun _ => ?_) <;> simp [hp, hw1, htk, hno]) | with_reducible refine And.intro ?_ ?_ | with_reducible exact okay_rfl rfl | with_reducible assumption | omega)
    refine W_cond rfl (fun h => ?_) (fun h => ?_)
    · rw [Bool.not_eq_true'] at h
      rw [hbad h]
      exact u_48
    rw [Bool.not_eq_false'] at h
    rw [h] at hst
    refine u_50 ?_
    refine ⟨ow.length - (i + 1), by omega, i + 1, rfl, hlt, hst, ?_⟩
    simp [gc, closeN, liveA, gcV, gcO, renA, renAs, renO, namesAs, namesA, namesO, posn]
    exact wrap_id (by omega) (by omega)
  · have hie : i = ow.length := by omega
    subst hie
    rw [List.take_length] at hok
    rw [hok] at hB
    rw [hB]
    exact u_48

def zLease : GLease := ⟨0, 0, [], 0, 0, 0⟩

def findL (b : GBook) (id : Int) : GLease := if bookB b then (b.fLeases.find? fun l => decide (l.fId = id)).getD zLease else zLease

theorem find_hit {α : Type} {p : α → Bool} {a : List α} {i : Nat} {x : α} (ha : a[i]? = some x) (hn : ∀ x, x ∈ a.take i → p x = false) (hx : p x = true) : a.find? p = some x ∧ a.any p = true := by
  constructor
  · rw [List.find?_eq_some_iff_getElem]
    obtain ⟨h, e⟩ := List.getElem?_eq_some_iff.1 ha
    refine ⟨hx, i, h, e, fun j hj => ?_⟩
    have := hn a[j] (List.mem_take_iff_getElem.2 ⟨j, by omega, rfl⟩); simp [this]
  · rw [List.any_eq_true]; exact ⟨x, List.mem_of_getElem? ha, hx⟩

theorem find_miss {α : Type} {p : α → Bool} {a : List α} (hn : ∀ x, x ∈ a → p x = false) : a.find? p = none ∧ a.any p = false := by
  constructor
  · rw [List.find?_eq_none]; intro x hx; simp [hn x hx]
  · rw [List.any_eq_false]; intro x hx; simp [hn x hx]

theorem s_FindLease_ok [MaxL GG] (b : GBook) (id : Int) (hf : fitB b) : Valid PP GG F_S_FindLease [.agg b.c, .d (.int .i64 id)] (.tup [.agg (findL b id).o, .d (.bool (bookB b && hasLease b id))]) [none, none] := by
  refine v_S_FindLease [.agg (findL b id).o, .d (.bool (bookB b && hasLease b id))] rfl rfl ?_
  obtain ⟨a⟩ := b
  have cb := s_BookOk_ok (GG := GG) ⟨a⟩ hf
  have hl := hf.1
  dsimp only at hl cb
  have hF : findL ⟨a⟩ id = if bookB ⟨a⟩ then (a.find? fun l => decide (l.fId = id)).getD zLease else zLease := rfl
  have hH : hasLease ⟨a⟩ id = a.any fun l => decide (l.fId = id) := rfl
  generalize findL ⟨a⟩ id = F at *
  generalize hasLease ⟨a⟩ id = H at *
  cases hb : bookB ⟨a⟩ with
  | false =>
    rw [hb] at cb hF
    simp only [Bool.false_eq_true, if_false] at hF
    subst hF
    exact u_77 cb
  | true =>
    rw [hb] at cb hF
    simp only [if_true] at hF
    refine u_78 cb ?_
    refine W_loop (fun n st => ∃ i : Nat, n = a.length - i ∧ i ≤ a.length ∧ (∀ x, x ∈ a.take i → (decide (x.fId = id)) = false) ∧
      st = ⟨[], [(1, .d (.int .i64 id)), (2, .ptr 0 0), (4, .ptr 1 0), (6, .d (.int .i64 i))], [(0, .box [.d (.slc 6 (rLease a))]), (1, .box [.d (.int .i64 0), .d (.int .i64 0), .d (.str []), .d (.int .i64 0), .d (.int .i64 0), .d (.int .i64 0)])], 2⟩) _ ⟨0, rfl, by omega, fun x hx => by simp at hx, ?_⟩ ?_
    · simp [gc, closeN, liveA, gcV, gcO, renA, renAs, renO, namesAs, namesA, namesO, posn]
    rintro n st ⟨i, rfl, hi, hn, rfl⟩
    by_cases hlt : i < a.length
    · have ha := List.getElem?_eq_getElem hlt
      generalize a[i] = x at ha
      by_cases hx : x.fId = id
      · obtain ⟨e1, e2⟩ := find_hit ha hn (decide_eq_true hx)
        rw [e1] at hF
        rw [e2] at hH
        simp only [Option.getD_some] at hF
        have hxb : (x.fId == id) = true := decide_eq_true hx
        subst hF hH
        exact u_38 ha hxb
      · have hn2 := take_miss (p := fun x : GLease => decide (x.fId = id)) ha hn (decide_eq_false hx)
        have hxb : (x.fId == id) = false := decide_eq_false hx
        refine u_39 ha hxb ?_
        refine ⟨a.length - (i + 1), by omega, i + 1, rfl, hlt, hn2, ?_⟩
        simp [gc, closeN, liveA, gcV, gcO, renA, renAs, renO, namesAs, namesA, namesO, posn]
        exact wrap_id (by omega) (by omega)
    · have hie : i = a.length := by omega
      subst hie
      rw [List.take_length] at hn
      obtain ⟨e1, e2⟩ := find_miss hn
      rw [e1] at hF
      rw [e2] at hH
      simp only [Option.getD_none] at hF
      subst hF hH
      exact u_79

theorem s_WorldOk_ok [MaxL GG] (w : GWorld) (hf : fitW w) : Valid PP GG F_S_WorldOk [.agg w.c] (.d (.bool (worldB w))) [none] := by
  refine v_S_WorldOk [.d (.bool (worldB w))] rfl rfl ?_
  obtain ⟨now, next, lost, ⟨tk⟩, ⟨ls⟩, ⟨us, ff, fm⟩, ⟨js⟩, ow⟩ := w
  obtain ⟨hf1, hf2, hf3, hf4, hol, hon⟩ := hf
  dsimp only at hf1 hf2 hf3 hf4 hol hon
  have c1 : Valid PP GG F_S_l01In [.d (.int .i64 now), .d (.int .i64 0), .d (.int .i64 1000000000)] (.d (.bool (inB now 0 1000000000))) [none, none, none] := l01In_ok _ _ _
  have c2 : Valid PP GG F_S_l01In [.d (.int .i64 next), .d (.int .i64 1), .d (.int .i64 1000000000)] (.d (.bool (inB next 1 1000000000))) [none, none, none] := l01In_ok _ _ _
  have c3 : Valid PP GG F_S_l01In [.d (.int .i64 lost), .d (.int .i64 0), .d (.int .i64 1000000000)] (.d (.bool (inB lost 0 1000000000))) [none, none, none] := l01In_ok _ _ _
  have c4 := s_ForestOk_ok (GG := GG) ⟨tk⟩ hf1
  have c5 := s_BookOk_ok (GG := GG) ⟨ls⟩ hf2
  have c6 := s_FarOk_ok (GG := GG) ⟨us, ff, fm⟩ hf3
  have c7 := s_QueueOk_ok (GG := GG) ⟨js⟩ hf4
  have hfl := fun id => s_FindLease_ok (GG := GG) ⟨ls⟩ id hf2
  have hOL := fun h h' => owned_len (b := ⟨ls⟩) (l := ow) h h'
  have hB : worldB ⟨now, next, lost, ⟨tk⟩, ⟨ls⟩, ⟨us, ff, fm⟩, ⟨js⟩, ow⟩ = (inB now 0 1000000000 && inB next 1 1000000000 && inB lost 0 1000000000 && forestB ⟨tk⟩ && bookB ⟨ls⟩ && farB ⟨us, ff, fm⟩ && queueB ⟨js⟩ && belowT ⟨tk⟩ next && belowL ⟨ls⟩ next && okP (ownQ ⟨ls⟩) [] ow) := rfl
  have hBT : belowT ⟨tk⟩ next = tk.all fun t => decide (t.fId < next) := rfl
  have hBL : belowL ⟨ls⟩ next = ls.all fun t => decide (t.fId < next) := rfl
  have htl := hf1.1
  have hll := hf2.1
  generalize worldB ⟨now, next, lost, ⟨tk⟩, ⟨ls⟩, ⟨us, ff, fm⟩, ⟨js⟩, ow⟩ = B at *
  dsimp only at c4 c5 c6 c7 htl hll hOL
  generalize inB now 0 1000000000 = p1 at *
  generalize inB next 1 1000000000 = p2 at *
  generalize inB lost 0 1000000000 = p3 at *
  generalize forestB ⟨tk⟩ = p4 at *
  generalize bookB ⟨ls⟩ = p5 at *
  generalize farB ⟨us, ff, fm⟩ = p6 at *
  generalize queueB ⟨js⟩ = p7 at *
  generalize belowT ⟨tk⟩ next = BT at *
  generalize belowL ⟨ls⟩ next = BL at *
  refine W_seq (?_)
  refine u_1 ?_
  refine W_seq (W_seq ?_)
  refine u_76 c1 c2 c3 c4 c5 c6 c7 48 (!(p1 && p2 && p3 && p4 && p5 && p6 && p7)) ?_
  refine W_cond rfl (fun h => ?_) (fun h => ?_)
  · rw [Bool.not_eq_true'] at h
    have hb : B = false := by rw [hB, h]; simp
    rw [hb]
    exact u_48
  rw [Bool.not_eq_false'] at h
  rw [h, Bool.true_and] at hB
  simp only [Bool.and_eq_true] at h
  have hp5 := h.1.1.2
  subst hp5
  simp only [Bool.true_and] at hfl
  have hOL := hOL rfl
  clear h
  refine W_skip ?_
  refine u_50 ?_
  refine W_loop (fun n st => ∃ i : Nat, n = tk.length - i ∧ i ≤ tk.length ∧ (∀ x, x ∈ tk.take i → (!decide (x.fId < next)) = false) ∧
    st = ⟨[], [(1, .ptr 0 0), (3, .d (.int .i64 i))], [(0, .box [.d (.int .i64 now), .d (.int .i64 next), .d (.int .i64 lost), .d (.slc 7 (rToken tk)), .d (.slc 6 (rLease ls)), .d (.slc 2 (rUser us)), .d (.int .i64 ff), .d (.int .i64 fm), .d (.slc 3 (rJob js)), .d (.slc 2 (rOwned ow))])], 1⟩) _ ⟨0, rfl, by omega, fun x hx => by simp at hx, ?_⟩ ?_
  · simp [gc, closeN, liveA, gcV, gcO, renA, renAs, renO, namesAs, namesA, namesO, posn]
  rintro n st ⟨i, rfl, hi, hn, rfl⟩
  by_cases hlt : i < tk.length
  · have ha := List.getElem?_eq_getElem hlt
    generalize tk[i] = x at ha
    by_cases hx : next ≤ x.fId
    · have hb : BT = false := by
        rw [hBT, List.all_eq_false]
        exact ⟨x, List.mem_of_getElem? ha, by simp; omega⟩
      rw [hB, hb]
      exact u_38 ha hx
    · have hn2 := take_miss (p := fun x : GToken => !decide (x.fId < next)) ha hn (by simp; omega)
      refine u_39 ha hx ?_
      refine ⟨tk.length - (i + 1), by omega, i + 1, rfl, hlt, hn2, ?_⟩
      simp [gc, closeN, liveA, gcV, gcO, renA, renAs, renO, namesAs, namesA, namesO, posn]
      exact wrap_id (by omega) (by omega)
  have hie : i = tk.length := by omega
  subst hie
  rw [List.take_length] at hn
  have hb : BT = true := by
    rw [hBT, List.all_eq_true]; intro x hx; simpa using hn x hx
  subst hb
  clear hn hi hlt
  rw [Bool.true_and] at hB
  refine u_50 ?_
  refine W_loop (fun n st => ∃ i : Nat, n = ls.length - i ∧ i ≤ ls.length ∧ (∀ x, x ∈ ls.take i → (!decide (x.fId < next)) = false) ∧
    st = ⟨[], [(1, .ptr 0 0), (4, .d (.int .i64 i))], [(0, .box [.d (.int .i64 now), .d (.int .i64 next), .d (.int .i64 lost), .d (.slc 7 (rToken tk)), .d (.slc 6 (rLease ls)), .d (.slc 2 (rUser us)), .d (.int .i64 ff), .d (.int .i64 fm), .d (.slc 3 (rJob js)), .d (.slc 2 (rOwned ow))])], 1⟩) _ ⟨0, rfl, by omega, fun x hx => by simp at hx, ?_⟩ ?_
  · simp [gc, closeN, liveA, gcV, gcO, renA, renAs, renO, namesAs, namesA, namesO, posn]
  rintro n st ⟨i, rfl, hi, hn, rfl⟩
  by_cases hlt : i < ls.length
  · have ha := List.getElem?_eq_getElem hlt
    generalize ls[i] = x at ha
    by_cases hx : next ≤ x.fId
    · have hb : BL = false := by
        rw [hBL, List.all_eq_false]
        exact ⟨x, List.mem_of_getElem? ha, by simp; omega⟩
      rw [hB, hb]
      exact u_38 ha hx
    · have hn2 := take_miss (p := fun x : GLease => !decide (x.fId < next)) ha hn (by simp; omega)
      refine u_39 ha hx ?_
      refine ⟨ls.length - (i + 1), by omega, i + 1, rfl, hlt, hn2, ?_⟩
      simp [gc, closeN, liveA, gcV, gcO, renA, renAs, renO, namesAs, namesA, namesO, posn]
      exact wrap_id (by omega) (by omega)
  have hie : i = ls.length := by omega
  subst hie
  rw [List.take_length] at hn
  have hb : BL = true := by
    rw [hBL, List.all_eq_true]; intro x hx; simpa using hn x hx
  subst hb
  clear hn hi hlt
  rw [Bool.true_and] at hB
  by_cases hol2 : ls.length < ow.length
  · have hb : B = false := by
      rw [hB]
      cases h : okP (ownQ ⟨ls⟩) [] ow with
      | false => rfl
      | true => have := hOL h; omega
    rw [hb]
    exact u_37 hol2
  clear hOL
  refine u_32 hol2 ?_
  refine W_loop (fun n st => ∃ i : Nat, n = ow.length - i ∧ i ≤ ow.length ∧ okP (ownQ ⟨ls⟩) [] (ow.take i) = true ∧
    st = ⟨[], [(1, .ptr 0 0), (5, .d (.int .i64 i))], [(0, .box [.d (.int .i64 now), .d (.int .i64 next), .d (.int .i64 lost), .d (.slc 7 (rToken tk)), .d (.slc 6 (rLease ls)), .d (.slc 2 (rUser us)), .d (.int .i64 ff), .d (.int .i64 fm), .d (.slc 3 (rJob js)), .d (.slc 2 (rOwned ow))])], 1⟩) _ ⟨0, rfl, by omega, rfl, ?_⟩ ?_
  · simp [gc, closeN, liveA, gcV, gcO, renA, renAs, renO, namesAs, namesA, namesO, posn]
  rintro n st ⟨i, rfl, hi, hok, rfl⟩
  by_cases hlt : i < ow.length
  rotate_left
  · have hie : i = ow.length := by omega
    subst hie
    rw [List.take_length] at hok
    rw [hok] at hB
    rw [hB]
    exact u_48
  have ha := List.getElem?_eq_getElem hlt
  generalize ow[i] = x at ha
  have hst := okP_step (q := ownQ ⟨ls⟩) ha
  have hbad : ownQ ⟨ls⟩ (ow.take i) x = false → B = false := fun h => by rw [hB]; exact okP_bad ha h
  rw [hok, Bool.true_and] at hst
  have hq : ownQ ⟨ls⟩ (ow.take i) x = (adjB (fun p x => decide (p.fLease < x.fLease)) (ow.take i) x && hasLease ⟨ls⟩ x.fLease && nameOk x.fName && !((ow.take i).any fun p => p.fName == x.fName)) := rfl
  rw [hq] at hst hbad
  clear hq
  have hA := adj_cases (lt := fun p x : GOwned => decide (p.fLease < x.fLease)) (x := x) hi
  have cn := l01Name_ok (GG := GG) x.fName (by have := hon x (List.mem_of_getElem? ha); omega)
  have cl := hfl x.fLease
  generalize adjB (fun p x : GOwned => decide (p.fLease < x.fLease)) (ow.take i) x = A at *
  obtain ⟨xl, xn⟩ := x
  dsimp only at cn cl hst hbad hA
  generalize hasLease ⟨ls⟩ xl = L at *
  generalize nameOk xn = N at *
  generalize findL ⟨ls⟩ xl = FL at *
  refine W_seq (W_seq ?_)
  refine u_1 ?_
  refine W_cond rfl (fun h => W_skip ?_) (fun h => ?_)
  rotate_left
  · exfalso; simp at h; omega
  refine W_seq (W_block (W_seq ?_))
  refine u_80 ha cl ?_
  refine W_seq (W_seq ?_)
  refine W_regBD 143 (!(A && L && N)) (fun K hK => ?_) ?_
  · rcases hA with ⟨rfl, hA⟩ | ⟨j, p, rfl, hp, hA⟩
    · subst hA
      simp [ha]
      repeat' (first | exact hK _ _ (by clear hK; first | rfl | omega | (exact decide_eq_false (by omega)) | (exact decide_eq_true (by omega)) | (exact (decide_eq_true (by omega)).symm) | (exact (decide_eq_false (by omega)).symm) | (exact decide_eq_decide.2 (by omega)) | (simp only [← decide_not]; exact decide_eq_decide.2 (by omega)) | (simp [*]; done) | (simp [*]; omega) | (simp_all; done) | (simp_all; omega) | (rw [Bool.eq_iff_iff]; simp at *; omega)) | (with_reducible refine callQ (cn) ?_; simp [ha]) | (with_reducible refine goL_split (fun _ => ?_) (fun _ => ?_) <;> simp [ha]) | with_reducible refine And.intro ?_ ?_ | with_reducible exact okay_rfl rfl | with_reducible assumption | omega)
    · have hw1 : IntKind.i64.wrap (j : Int) = j := wrap_id (by omega) (by omega)
      rw [hA] at hK
      cases L
      · simp [hp, ha, hw1]
        repeat' (first | exact hK _ _ (by clear hK; first | rfl | omega | (exact decide_eq_false (by omega)) | (exact decide_eq_true (by omega)) | (exact (decide_eq_true (by omega)).symm) | (exact (decide_eq_false (by omega)).symm) | (exact decide_eq_decide.2 (by omega)) | (simp only [← decide_not]; exact decide_eq_decide.2 (by omega)) | (simp [*]; done) | (simp [*]; omega) | (simp_all; done) | (simp_all; omega) | (rw [Bool.eq_iff_iff]; simp at *; omega)) | (with_reducible refine callQ (cn) ?_; simp [hp, ha, hw1]) | (with_reducible refine goL_split (fun _ => ?_) (fun _ => ?_) <;> simp [hp, ha, hw1]) | with_reducible refine And.intro ?_ ?_ | with_reducible exact okay_rfl rfl | with_reducible assumption | omega)
      · cases N
        · simp [hp, ha, hw1]
          repeat' (first | exact hK _ _ (by clear hK; first | rfl | omega | (exact decide_eq_false (by omega)) | (exact decide_eq_true (by omega)) | (exact (decide_eq_true (by omega)).symm) | (exact (decide_eq_false (by omega)).symm) | (exact decide_eq_decide.2 (by omega)) | (simp only [← decide_not]; exact decide_eq_decide.2 (by omega)) | (simp [*]; done) | (simp [*]; omega) | (simp_all; done) | (simp_all; omega) | (rw [Bool.eq_iff_iff]; simp at *; omega)) | (with_reducible refine callQ (cn) ?_; simp [hp, ha, hw1]) | (with_reducible refine goL_split (fun _ => ?_) (fun _ => ?_) <;> simp [hp, ha, hw1]) | with_reducible refine And.intro ?_ ?_ | with_reducible exact okay_rfl rfl | with_reducible assumption | omega)
        · simp only [Bool.and_true] at hK
          simp [hp, ha, hw1]
          repeat' (first | exact hK _ _ (by clear hK; first | rfl | omega | (exact decide_eq_false (by omega)) | (exact decide_eq_true (by omega)) | (exact (decide_eq_true (by omega)).symm) | (exact (decide_eq_false (by omega)).symm) | (exact decide_eq_decide.2 (by omega)) | (simp only [← decide_not]; exact decide_eq_decide.2 (by omega)) | (simp [*]; done) | (simp [*]; omega) | (simp_all; done) | (simp_all; omega) | (rw [Bool.eq_iff_iff]; simp at *; omega)) | (with_reducible refine callQ (cn) ?_; simp [hp, ha, hw1]) | (with_reducible refine goL_split (fun _ => ?_) (fun _ => ?_) <;> simp [hp, ha, hw1]) | with_reducible refine And.intro ?_ ?_ | with_reducible exact okay_rfl rfl | with_reducible assumption | omega)
  refine W_cond rfl (fun h => ?_) (fun h => ?_)
  · rw [Bool.not_eq_true'] at h
    rw [h] at hbad
    rw [hbad rfl]
    exact u_48
  rw [Bool.not_eq_false'] at h
  rw [h, Bool.true_and] at hst hbad
  clear h hA
  refine W_skip ?_
  refine u_50 ?_
  refine W_loop (fun n st => ∃ k : Nat, n = i - k ∧ k ≤ i ∧ (∀ y, y ∈ ow.take k → (y.fName == xn) = false) ∧
    st = ⟨[], [(1, .ptr 0 0), (5, .d (.int .i64 i)), (8, .d (.int .i64 k))], [(0, .box [.d (.int .i64 now), .d (.int .i64 next), .d (.int .i64 lost), .d (.slc 7 (rToken tk)), .d (.slc 6 (rLease ls)), .d (.slc 2 (rUser us)), .d (.int .i64 ff), .d (.int .i64 fm), .d (.slc 3 (rJob js)), .d (.slc 2 (rOwned ow))])], 1⟩) _ ⟨0, rfl, by omega, fun y h => by simp at h, ?_⟩ ?_
  · simp [gc, closeN, liveA, gcV, gcO, renA, renAs, renO, namesAs, namesA, namesO, posn]
  rintro n st ⟨k, rfl, hk, hn, rfl⟩
  by_cases hkl : k < i
  · have hak := List.getElem?_eq_getElem (show k < ow.length by omega)
    generalize ow[k]'_ = y at hak
    obtain ⟨yl, yn⟩ := y
    cases hyn : (yn == xn) with
    | true =>
      rw [hbad (by
        have : (ow.take i).any (fun t => t.fName == xn) = true := by
          rw [List.any_eq_true]
          exact ⟨_, List.mem_of_getElem? (by rw [List.getElem?_take_of_lt hkl]; exact hak), hyn⟩
        rw [this]; rfl)]
      exact u_81 hak ha hkl hyn
    | false =>
      have hn2 := take_miss (p := fun y : GOwned => y.fName == xn) hak hn hyn
      refine u_82 hak ha hkl hyn ?_
      refine ⟨i - (k + 1), by omega, k + 1, rfl, hkl, hn2, ?_⟩
      simp [gc, closeN, liveA, gcV, gcO, renA, renAs, renO, namesAs, namesA, namesO, posn]
      exact wrap_id (by omega) (by omega)
  · have hke : k = i := by omega
    subst hke
    have : (ow.take k).any (fun t => t.fName == xn) = false := by
      rw [List.any_eq_false]; intro y hy; rw [hn y hy]; simp
    rw [this] at hst
    refine u_32 hkl ?_
    refine ⟨ow.length - (k + 1), by omega, k + 1, rfl, hlt, hst, ?_⟩
    simp [gc, closeN, liveA, gcV, gcO, renA, renAs, renO, namesAs, namesA, namesO, posn]
    exact wrap_id (by omega) (by omega)

theorem fitW_of {w : GWorld} (h : w.cost ≤ 1048576) : fitW w := by
  have e : w.cost = w.fForest.cost + w.fBook.cost + w.fFar.cost + w.fQueue.cost + (w.fOwned.length + sumBy GOwned.cost w.fOwned) := rfl
  have e1 : w.fForest.cost = w.fForest.fTokens.length + sumBy GToken.cost w.fForest.fTokens := rfl
  have e2 : w.fBook.cost = w.fBook.fLeases.length + sumBy GLease.cost w.fBook.fLeases := rfl
  have e3 : w.fFar.cost = w.fFar.fUsers.length + sumBy GUser.cost w.fFar.fUsers := rfl
  have e4 : w.fQueue.cost = w.fQueue.fJobs.length + sumBy GJob.cost w.fQueue.fJobs := rfl
  refine ⟨⟨by omega, fun t ht => ?_⟩, ⟨by omega, fun t ht => ?_⟩, ⟨by omega, fun t ht => ?_⟩, ⟨by omega, fun t ht => ?_⟩, by omega, fun t ht => ?_⟩
  · have h1 := sumBy_mem (f := GToken.cost) ht
    have e5 : t.cost = t.fNames.length + sumBy List.length t.fNames := rfl
    refine ⟨by omega, fun s hs => ?_⟩
    have := sumBy_mem (f := List.length) hs
    omega
  · have h1 := sumBy_mem (f := GLease.cost) ht
    have e5 : t.cost = t.fPath.length := rfl
    omega
  · have h1 := sumBy_mem (f := GUser.cost) ht
    have e5 : t.cost = t.fName.length + t.fPass.length := rfl
    omega
  · have h1 := sumBy_mem (f := GJob.cost) ht
    have e5 : t.cost = t.fName.length := rfl
    omega
  · have h1 := sumBy_mem (f := GOwned.cost) ht
    have e5 : t.cost = t.fName.length := rfl
    omega

theorem snoc_ind {α : Type} {P : List α → Prop} (h0 : P []) (h1 : ∀ l x, P l → P (l ++ [x])) : ∀ l, P l := by
  intro l
  rw [← List.reverse_reverse l]
  induction l.reverse with
  | nil => exact h0
  | cons x r ih => rw [List.reverse_cons]; exact h1 _ _ ih

def wstep (p : GToken → Bool) (s : List GToken × List Int) (t : GToken) : List GToken × List Int :=
  if (p t || s.2.contains t.fParent) = true then (s.1, s.2 ++ [t.fId]) else (s.1 ++ [t], s.2)

def wo (p : GToken → Bool) (l : List GToken) : List GToken × List Int := l.foldl (wstep p) ([], [])

theorem wo_snoc (p : GToken → Bool) (l : List GToken) (t : GToken) : wo p (l ++ [t]) = wstep p (wo p l) t := by
  unfold wo; rw [List.foldl_append]; rfl

theorem wo_succ {p : GToken → Bool} {l : List GToken} {i : Nat} {t : GToken} (h : l[i]? = some t) : wo p (l.take (i + 1)) = wstep p (wo p (l.take i)) t := by
  rw [List.take_add_one, h]; exact wo_snoc p _ t

theorem wo_len (p : GToken → Bool) (l : List GToken) : (wo p l).1.length + (wo p l).2.length = l.length := by
  induction l using snoc_ind with
  | h0 => rfl
  | h1 l t ih =>
    rw [wo_snoc]; unfold wstep
    split <;> simp <;> omega

structure WoOk (p : GToken → Bool) (l : List GToken) (r : List GToken) (G : List Int) : Prop where
  sub : ∀ x, x ∈ G → ∃ t, t ∈ l ∧ t.fId = x
  rec_ : ∀ t, t ∈ l → G.contains t.fId = (p t || G.contains t.fParent)
  rest : r = l.filter fun t => !G.contains t.fId
  ids : G = (l.filter fun t => G.contains t.fId).map GToken.fId

theorem contains_app (G : List Int) (y x : Int) : (G ++ [y]).contains x = (G.contains x || decide (x = y)) := by
  rw [Bool.eq_iff_iff]; simp [List.contains_iff_mem]

theorem wo_ok (p : GToken → Bool) (l : List GToken) : l.Pairwise (fun y x => y.fId < x.fId) → (∀ t, t ∈ l → t.fParent < t.fId) → WoOk p l (wo p l).1 (wo p l).2 := by
  induction l using snoc_ind with
  | h0 => intro _ _; exact ⟨fun x h => by simp [wo] at h, fun t h => by simp at h, rfl, rfl⟩
  | h1 l t ih =>
    intro hinc hpar
    rw [List.pairwise_append] at hinc
    obtain ⟨hi1, _, hi2⟩ := hinc
    have hlt : ∀ s, s ∈ l → s.fId < t.fId := fun s hs => hi2 s hs t (by simp)
    obtain ⟨sub, hrec, rest, ids⟩ := ih hi1 fun s hs => hpar s (by simp [hs])
    have htp := hpar t (by simp)
    rw [wo_snoc]
    generalize wo p l = s at sub hrec rest ids ⊢
    obtain ⟨r, G⟩ := s
    dsimp only at sub hrec rest ids ⊢
    have hGt : ∀ y, y ∈ G → y < t.fId := fun y hy => by obtain ⟨s, hs, rfl⟩ := sub y hy; exact hlt s hs
    have hct : G.contains t.fId = false := by
      cases h : G.contains t.fId with
      | false => rfl
      | true => have := hGt _ (List.contains_iff_mem.1 h); omega
    unfold wstep
    by_cases hd : (p t || G.contains t.fParent) = true
    · rw [if_pos hd]
      have hc : ∀ x, x < t.fId → (G ++ [t.fId]).contains x = G.contains x := fun x hx => by
        rw [contains_app, decide_eq_false (by omega), Bool.or_false]
      have hc2 : (G ++ [t.fId]).contains t.fId = true := by rw [contains_app, decide_eq_true rfl, Bool.or_true]
      refine ⟨fun x hx => ?_, fun s hs => ?_, ?_, ?_⟩
      · rcases List.mem_append.1 hx with h | h
        · obtain ⟨s, hs, e⟩ := sub x h; exact ⟨s, by simp [hs], e⟩
        · simp at h; exact ⟨t, by simp, h.symm⟩
      · rcases List.mem_append.1 hs with h | h
        · have h1 := hlt s h
          have h2 := hpar s hs
          rw [hc _ h1, hc _ (by omega)]
          exact hrec s h
        · simp at h; subst h
          rw [hc2, hc _ htp, hd]
      · simp only
        rw [List.filter_append, List.filter_congr (q := fun s => !G.contains s.fId) fun s hs => by rw [hc _ (hlt s hs)], ← rest]
        simp [hc2]
      · simp only
        rw [List.filter_append, List.filter_congr (q := fun s => G.contains s.fId) fun s hs => by rw [hc _ (hlt s hs)], List.map_append, ← ids]
        simp
    · rw [if_neg hd]
      simp only [Bool.not_eq_true] at hd
      refine ⟨fun x hx => ?_, fun s hs => ?_, ?_, ?_⟩
      · obtain ⟨s, hs, e⟩ := sub x hx; exact ⟨s, by simp [hs], e⟩
      · rcases List.mem_append.1 hs with h | h
        · exact hrec s h
        · simp at h; subst h; rw [hct, hd]
      · simp only
        rw [List.filter_append, ← rest]
        simp only [List.filter_cons, List.filter_nil, hct]; simp
      · simp only
        rw [List.filter_append, List.map_append, ← ids]
        simp only [List.filter_cons, List.filter_nil, hct]; simp

theorem wo_none (p : GToken → Bool) (l : List GToken) : (∀ t, t ∈ l → p t = false) → wo p l = (l, []) := by
  induction l using snoc_ind with
  | h0 => intro _; rfl
  | h1 l t ih =>
    intro h
    rw [wo_snoc, ih fun s hs => h s (by simp [hs])]
    unfold wstep
    rw [h t (by simp)]
    simp

theorem forest_par {f : GForest} (h : forestB f = true) : (∀ t, t ∈ f.fTokens → t.fParent < t.fId) ∧ (∀ t, t ∈ f.fTokens → 0 ≤ t.fParent ∧ 1 ≤ t.fId ∧ t.fId ≤ 1000000000) ∧ (∀ t, t ∈ f.fTokens → t.fParent = 0 ∨ hasTok f t.fParent = true) := by
  unfold forestB at h
  rw [Bool.and_eq_true] at h
  have key : ∀ t, t ∈ f.fTokens → t.fParent < t.fId ∧ 0 ≤ t.fParent ∧ 1 ≤ t.fId ∧ t.fId ≤ 1000000000 ∧ (t.fParent = 0 ∨ hasTok f t.fParent = true) := by
    intro t ht
    obtain ⟨i, hi⟩ := List.getElem?_of_mem ht
    have hq := okP_get h.2 hi
    unfold tokQ tokenB at hq
    simp only [Bool.and_eq_true, Bool.or_eq_true, decide_eq_true_eq] at hq
    have h1 := inB_true hq.1.1.1.1.1.1.1.1
    have h2 := inB_true hq.1.1.1.1.1.1.1.2
    exact ⟨by omega, by omega, by omega, by omega, hq.2⟩
  exact ⟨fun t ht => (key t ht).1, fun t ht => ⟨(key t ht).2.1, (key t ht).2.2.1, (key t ht).2.2.2.1⟩, fun t ht => (key t ht).2.2.2.2⟩

theorem forest_wo {f : GForest} (h : forestB f = true) (p : GToken → Bool) : WoOk p f.fTokens (wo p f.fTokens).1 (wo p f.fTokens).2 := wo_ok p _ (forest_inc h) (forest_par h).1

theorem idxF_some {α : Type} {p : α → Bool} {l : List α} (h : l.any p = true) : ∃ (k : Nat) (t : α), idxF p l = k ∧ l[k]? = some t ∧ p t = true := by
  unfold idxF
  cases hf : l.findIdx? p with
  | none =>
    rw [List.findIdx?_eq_none_iff] at hf
    rw [List.any_eq_true] at h
    obtain ⟨x, hx, hp⟩ := h
    rw [hf x hx] at hp; cases hp
  | some i =>
    rw [List.findIdx?_eq_some_iff_getElem] at hf
    obtain ⟨h1, h2, _⟩ := hf
    exact ⟨i, _, rfl, List.getElem?_eq_getElem h1, h2⟩

theorem wo_zero {f : GForest} (h : forestB f = true) (p : GToken → Bool) : (wo p f.fTokens).2.contains 0 = false := by
  cases hc : (wo p f.fTokens).2.contains 0 with
  | false => rfl
  | true =>
    obtain ⟨t, ht, e⟩ := (forest_wo h p).sub 0 (List.contains_iff_mem.1 hc)
    have := ((forest_par h).2.1 t ht).2.1
    omega

theorem filter_succ {α β : Type} {p : α → Bool} {f : α → β} {a : List α} {k : Nat} {x : α} (h : a[k]? = some x) : ((a.take (k + 1)).filter p).map f = ((a.take k).filter p).map f ++ (if p x then [f x] else []) := by
  rw [List.take_add_one, h, List.filter_append, List.map_append]
  simp only [Option.toList_some, List.filter_cons, List.filter_nil]
  split <;> simp

theorem filter_take_len {α β : Type} (p : α → Bool) (f : α → β) (a : List α) (k : Nat) : (((a.take k).filter p).map f).length ≤ k := by
  rw [List.length_map]
  have h1 := List.length_filter_le p (a.take k)
  have h2 : (a.take k).length ≤ k := by simp; omega
  omega

theorem strs_row (l : List (List UInt8)) : ∀ r, r ∈ strsD l → r.length = 1 := by
  intro r h
  simp only [strsD, List.mem_map] at h
  obtain ⟨x, _, rfl⟩ := h
  rfl

def clnString_ren : Go.Shelf.Ren := ⟨fun | 41 => 198 | n => n, fun | 22 => 57 | 23 => 9 | n => n, fun n => n⟩

theorem clnString : Go.Proofs.SlLaysE0.n41 PP clnString_ren := {
  mixed := by kernel_rfl
  f41 := ⟨"slices.Clone[[]string,string]", by decide, Tryz.func198.trans (congrArg some (by kernel_rfl))⟩
  t4 := Tryz.underlying4
  a4 := Tryz.isAgg4
  z4 := Tryz.sizeOf4
  v4 := Tryz.zeroValue4
  t22 := Tryz.underlying57
  a22 := Tryz.isAgg57
  z22 := Tryz.sizeOf57
  v22 := Tryz.zeroValue57
}

theorem CloneString_ok (l : List (List UInt8)) (hN : l.length ≤ 1099511627776) : Valid PP GG 198 [.d (.slc 1 (strsD l))] (.own 0 1 (strsD l)) [none] :=
  clone_valid clnString ⟨Tryz.f198, Tryz.func198, by kernel_rfl, by kernel_rfl⟩ 1 16 (by kernel_rfl) (by kernel_rfl) (by kernel_rfl) (by kernel_rfl) (by omega) (by omega) Tryz.sizeOf9 _ (strs_row l) (by rw [strsD_len]; exact hN)

theorem ints_get (l : List Int) (i : Nat) : (intsD l)[i]? = (l[i]?).map fun s => [.int .i64 s] := by simp [intsD]

theorem ints_len (l : List Int) : (intsD l).length = l.length := by simp [intsD]

theorem idxF_contains (x : Int) (a : List Int) : decide (0 ≤ idxF (fun y => y == x) a) = a.contains x := by
  rw [idxF_any, Bool.eq_iff_iff, List.contains_iff_mem, List.any_eq_true]
  constructor
  · rintro ⟨y, h1, h2⟩; exact (beq_iff_eq.1 h2) ▸ h1
  · intro h; exact ⟨x, h, beq_self_eq_true x⟩

theorem IndexInt_ok (a : List Int) (x : Int) (hsz : a.length ≤ 281474976710656) :
    Valid PP GG F_slices_Index___int_int_ [.d (.slc 1 (intsD a)), .d (.int .i64 x)] (.d (.int .i64 (idxF (fun y => y == x) a))) [none, none] := by
  refine v_slices_Index___int_int_ [.d (.int .i64 (idxF (fun y => y == x) a))] rfl rfl ?_
  refine u_83 ?_
  refine W_loop (fun n st => ∃ i : Nat, n = a.length - i ∧ i ≤ a.length ∧ (∀ y, y ∈ a.take i → (y == x) = false) ∧
    st = ⟨[], [(0, .d (.slc 1 (intsD a))), (1, .d (.int .i64 x)), (7, .d (.int .i64 a.length)), (8, .d (.int .i64 i))], [], 0⟩) _ ⟨0, rfl, by omega, fun x hx => by simp at hx, ?_⟩ ?_
  · simp [gc, closeN, liveA, gcV, gcO, renA, renAs, renO, namesAs, namesA, namesO, posn, ints_len]
  rintro n st ⟨i, rfl, hi, hn, rfl⟩
  by_cases hlt : i < a.length
  · have ha := List.getElem?_eq_getElem hlt
    generalize a[i] = y at ha
    cases hx : (y == x) with
    | true =>
      have e := idxF_hit (p := fun y => y == x) ha hn hx
      have hx' : (x == y) = true := by rw [beq_iff_eq] at hx ⊢; exact hx.symm
      rw [e]
      exact u_84 ha hx hx'
    | false =>
      have hn2 := take_miss (p := fun y => y == x) ha hn hx
      have hx' : (x == y) = false := by rw [beq_eq_false_iff_ne] at hx ⊢; exact fun e => hx e.symm
      refine u_85 ha hx hx' ?_
      refine ⟨a.length - (i + 1), by omega, i + 1, rfl, hlt, hn2, ?_⟩
      simp [gc, closeN, liveA, gcV, gcO, renA, renAs, renO, namesAs, namesA, namesO, posn, ints_len]
      exact wrap_id (by omega) (by omega)
  · have hie : i = a.length := by omega
    subst hie
    rw [List.take_length] at hn
    rw [idxF_miss hn]
    exact u_48

theorem ContainsInt_ok (a : List Int) (x : Int) (hsz : a.length ≤ 281474976710656) : Valid PP GG F_slices_Contains___int_int_ [.d (.slc 1 (intsD a)), .d (.int .i64 x)] (.d (.bool (a.contains x))) [none, none] := by
  refine v_slices_Contains___int_int_ [.d (.bool (a.contains x))] rfl rfl ?_
  have ci := IndexInt_ok (GG := GG) a x hsz
  have e := idxF_contains x a
  exact u_51 e ci

theorem l01Has_ok (a : List Int) (x : Int) (hsz : a.length ≤ 281474976710656) : Valid PP GG F_S_l01Has [.d (.slc 1 (intsD a)), .d (.int .i64 x)] (.d (.bool (a.contains x))) [none, none] := by
  refine v_S_l01Has [.d (.bool (a.contains x))] rfl rfl ?_
  have hany := idxF_contains x a
  rw [idxF_any] at hany
  refine u_83 ?_
  refine W_loop (fun n st => ∃ i : Nat, n = a.length - i ∧ i ≤ a.length ∧ (∀ y, y ∈ a.take i → (y == x) = false) ∧
    st = ⟨[], [(0, .d (.slc 1 (intsD a))), (1, .d (.int .i64 x)), (5, .d (.int .i64 i))], [], 0⟩) _ ⟨0, rfl, by omega, fun x hx => by simp at hx, ?_⟩ ?_
  · simp [gc, closeN, liveA, gcV, gcO, renA, renAs, renO, namesAs, namesA, namesO, posn, ints_len]
  rintro n st ⟨i, rfl, hi, hn, rfl⟩
  by_cases hlt : i < a.length
  · have ha := List.getElem?_eq_getElem hlt
    generalize a[i] = y at ha
    cases hx : (y == x) with
    | true =>
      have e := (find_hit (p := fun y => y == x) ha hn hx).2
      rw [e] at hany
      rw [← hany]
      exact u_86 ha hx
    | false =>
      have hn2 := take_miss (p := fun y => y == x) ha hn hx
      refine u_87 ha hx ?_
      refine ⟨a.length - (i + 1), by omega, i + 1, rfl, hlt, hn2, ?_⟩
      simp [gc, closeN, liveA, gcV, gcO, renA, renAs, renO, namesAs, namesA, namesO, posn, ints_len]
      exact wrap_id (by omega) (by omega)
  · have hie : i = a.length := by omega
    subst hie
    rw [List.take_length] at hn
    rw [(find_miss hn).2] at hany
    rw [← hany]
    exact u_88

theorem cloneToken_ok (t : GToken) (ht : fitT t) : Valid PP GG F_I_cloneToken [.agg t.c] (.agg t.o) [none] := by
  refine v_I_cloneToken [.agg t.o] rfl rfl ?_
  have cc := CloneString_ok (GG := GG) t.fNames (by have := ht.1; omega)
  exact u_53 cc

theorem ind_rToken (l : List GToken) : ∀ row, row ∈ rToken l → ∀ d, d ∈ row → IndD 1 d := by
  intro row h d hd
  simp only [rToken, List.mem_map] at h
  obtain ⟨x, _, rfl⟩ := h
  simp only [GToken.row, List.mem_cons, List.not_mem_nil, or_false] at hd
  rcases hd with rfl | rfl | rfl | rfl | rfl | rfl | rfl <;> simp only [IndD]
  exact ind_strs x.fNames

theorem without_ok (a : List GToken) (g : FuncId) (caps : List (List D)) (p : GToken → Bool) (hf : fitF ⟨a⟩) (hp : ∀ x, x ∈ a → Valid PP GG g (.agg x.c :: caps.map .rp) (.d (.bool (p x))) [none]) :
    Valid PP GG F_I_without [.agg [.d (.slc 7 (rToken a))], .d (.fn g caps)] (.tup [.agg [.own 1 7 (rToken (wo p a).1)], .own 0 1 (intsD (wo p a).2)]) [none, none] := by
  refine v_I_without [.agg [.own 1 7 (rToken (wo p a).1)], .own 0 1 (intsD (wo p a).2)] rfl rfl ?_
  obtain ⟨hl, ht⟩ := hf
  dsimp only at hl ht
  refine W_seq (?_)
  refine u_1 ?_
  refine W_seq (?_)
  refine u_1 ?_
  refine W_nilP 6 0 rfl rfl rfl ?_
  refine W_seq (?_)
  refine u_1 ?_
  refine W_nilV 7 rfl ?_
  refine u_50 ?_
  refine W_loop (fun n st => ∃ i : Nat, n = a.length - i ∧ i ≤ a.length ∧ ∃ v : Nat,
    st = ⟨[], [(1, .d (.fn g caps)), (4, .ptr 0 0), (6, .ptr 1 0), (7, .sl 2), (11, .d (.slc 7 (rToken a))), (12, .d (.int .i64 a.length)), (13, .d (.int .i64 i))],
      [(0, .box [.nil 1 7]), (1, .box [.sl 3]), (2, .arr 0 0 1 (intsD (wo p (a.take i)).2)), (3, .arr v 1 7 (rToken (wo p (a.take i)).1))], 4⟩) _ ⟨0, rfl, by omega, 0, ?_⟩ ?_
  · simp [gc, closeN, liveA, gcV, gcO, renA, renAs, renO, namesAs, namesA, namesO, posn, wo, rToken, intsD]
  rintro n st ⟨i, rfl, hi, v, rfl⟩
  by_cases hlt : i < a.length
  rotate_left
  · have hie : i = a.length := by omega
    subst hie
    rw [List.take_length]
    exact u_48
  have ha := List.getElem?_eq_getElem hlt
  have hm := List.getElem_mem hlt
  generalize a[i] = x at ha hm
  have cp := hp x hm
  have hw := wo_succ (p := p) ha
  have hwl := wo_len p (a.take i)
  rw [List.length_take] at hwl
  have hct := cloneToken_ok (GG := GG) x (ht x hm)
  have hir := ind_rToken (wo p (a.take i)).1
  generalize wo p (a.take i) = s at *
  obtain ⟨r, G⟩ := s
  dsimp only at hwl hir
  have cc := ContainsInt_ok (GG := GG) G x.fParent (by omega)
  have hig := ind_ints G
  unfold wstep at hw
  dsimp only at hw
  obtain ⟨xi, xp, xn, xm, xe, xl, xu⟩ := x
  dsimp only at cc hct hw
  generalize hcp : p ⟨xi, xp, xn, xm, xe, xl, xu⟩ = b at *
  generalize G.contains xp = c at *
  have hin := ind_strs xn
  cases b
  · cases c
    · rw [if_neg (by simp)] at hw
      refine u_89 ha cp cc hct ?_
      refine ⟨a.length - (i + 1), by omega, i + 1, rfl, hlt, 0, ?_⟩
      rw [hw]
      simp [gc, closeN, liveA, gcV, gcO, renA, renAs, renO, namesAs, namesA, namesO, posn, ints_len, rToken]
      exact wrap_id (by omega) (by omega)
    · rw [if_pos (by simp)] at hw
      refine u_90 ha cp cc ?_
      refine ⟨a.length - (i + 1), by omega, i + 1, rfl, hlt, 0, ?_⟩
      rw [hw]
      simp [gc, closeN, liveA, gcV, gcO, renA, renAs, renO, namesAs, namesA, namesO, posn, intsD_snoc]
      exact wrap_id (by omega) (by omega)
  · rw [if_pos (by simp)] at hw
    refine u_91 ha cp ?_
    refine ⟨a.length - (i + 1), by omega, i + 1, rfl, hlt, 0, ?_⟩
    rw [hw]
    simp [gc, closeN, liveA, gcV, gcO, renA, renAs, renO, namesAs, namesA, namesO, posn, intsD_snoc]
    exact wrap_id (by omega) (by omega)

theorem s_l08Under_ok [MaxL GG] (f : GForest) (id top : Int) (hf : fitF f) (hb : forestB f = true) (hid : id = 0 ∨ hasTok f id = true) :
    Valid PP GG F_S_l08Under [.agg f.c, .d (.int .i64 id), .d (.int .i64 top)] (.d (.bool ((wo (fun t => decide (t.fId = top)) f.fTokens).2.contains id))) [none, none, none] := by
  refine v_S_l08Under [.d (.bool ((wo (fun t => decide (t.fId = top)) f.fTokens).2.contains id))] rfl rfl ?_
  have hw := forest_wo hb (fun t => decide (t.fId = top))
  have hz := wo_zero hb (fun t => decide (t.fId = top))
  obtain ⟨hp1, hp2, hp3⟩ := forest_par hb
  have hat := fun id => s_l08At_ok (GG := GG) f id hf.1
  obtain ⟨a⟩ := f
  dsimp only at hw hz hp1 hp2 hp3 hat
  generalize (wo (fun t => decide (t.fId = top)) a).2 = G at *
  generalize hR : G.contains id = R
  refine u_50 ?_
  refine W_loop (fun n st => ∃ x : Int, n = x.toNat ∧ (x = 0 ∨ hasTok ⟨a⟩ x = true) ∧ G.contains x = R ∧
    st = ⟨[], [(1, .d (.int .i64 x)), (2, .d (.int .i64 top)), (3, .ptr 0 0)], [(0, .box [.d (.slc 7 (rToken a))])], 1⟩) _ ⟨id, rfl, hid, hR, ?_⟩ ?_
  · simp [gc, closeN, liveA, gcV, gcO, renA, renAs, renO, namesAs, namesA, namesO, posn]
  rintro n st ⟨x, rfl, hx, hxR, rfl⟩
  by_cases h0 : x = 0
  · subst h0
    rw [hz] at hxR
    subst hxR
    exact u_48
  have hne : (x != 0) = true := by simpa using h0
  have hx := hx.resolve_left h0
  obtain ⟨k, t, hk, ht, htx⟩ := idxF_some (p := fun t : GToken => decide (t.fId = x)) (l := a) hx
  have htx : t.fId = x := by simpa using htx
  have hm := List.mem_of_getElem? ht
  have hrec := hw.rec_ t hm
  rw [htx, hxR] at hrec
  have hat := hat x
  rw [hk] at hat
  have h1 := hp1 t hm
  have h2 := hp2 t hm
  have h3 := hp3 t hm
  obtain ⟨ti, tp, tn, tm, te, tl, tu⟩ := t
  dsimp only at htx hrec h1 h2 h3
  by_cases htop : x = top
  · have hd : decide (x = top) = true := decide_eq_true htop
    have hq : (x == top) = true := by simpa using htop
    rw [hd] at hrec
    simp only [Bool.true_or] at hrec
    subst hrec
    exact u_38 hne hq
  · have hd : decide (x = top) = false := decide_eq_false htop
    have hq : (x == top) = false := by simpa using htop
    rw [hd, Bool.false_or] at hrec
    have hkl := (List.getElem?_eq_some_iff.1 ht).1
    refine u_63 hne hq ht hat ?_
    refine ⟨tp.toNat, by omega, tp, rfl, h3, ?_, ?_⟩
    · simpa using hrec.symm
    · simp [gc, closeN, liveA, gcV, gcO, renA, renAs, renO, namesAs, namesA, namesO, posn]

def goneT (f : GForest) (id : Int) : List Int := if forestB f then (wo (fun t => decide (t.fId = id)) f.fTokens).2 else []

theorem goneT_len (f : GForest) (id : Int) : (goneT f id).length ≤ f.fTokens.length := by
  unfold goneT
  split
  · have := wo_len (fun t => decide (t.fId = id)) f.fTokens; omega
  · simp

theorem s_Below_ok [MaxL GG] (f : GForest) (id : Int) (hf : fitF f) : Valid PP GG F_S_Below [.agg f.c, .d (.int .i64 id)] (.own 0 1 (intsD (goneT f id))) [none, none] := by
  refine v_S_Below [.own 0 1 (intsD (goneT f id))] rfl rfl ?_
  have cf := s_ForestOk_ok (GG := GG) f hf
  have cat := s_l08At_ok (GG := GG) f id hf.1
  have hno : decide (idxF (fun t => decide (t.fId = id)) f.fTokens < 0) = !hasTok f id := idxF_none _ _
  have hV : goneT f id = if forestB f then (wo (fun t => decide (t.fId = id)) f.fTokens).2 else [] := rfl
  have hl := hf.1
  have hun := fun (h : forestB f = true) x hx => s_l08Under_ok (GG := GG) f x id hf h hx
  have hw := fun (h : forestB f = true) => forest_wo h (fun t => decide (t.fId = id))
  have hnone : hasTok f id = false → (wo (fun t => decide (t.fId = id)) f.fTokens).2 = [] := fun h => by
    rw [wo_none]
    intro t ht
    unfold hasTok at h
    rw [List.any_eq_false] at h
    simpa using h t ht
  have hhas : ∀ (i : Nat) t, f.fTokens[i]? = some t → hasTok f t.fId = true := fun i t h => by
    unfold hasTok; rw [List.any_eq_true]; exact ⟨t, List.mem_of_getElem? h, by simp⟩
  obtain ⟨a⟩ := f
  dsimp only at cf cat hno hV hl hun hw hnone hhas
  generalize goneT ⟨a⟩ id = V at *
  generalize (wo (fun t => decide (t.fId = id)) a).2 = G at *
  generalize idxF (fun t => decide (t.fId = id)) a = k at *
  generalize forestB ⟨a⟩ = B at *
  cases B
  · simp only [Bool.false_eq_true, if_false] at hV
    subst hV
    exact u_92 cf
  simp only [if_true] at hV
  subst hV
  have hw := hw rfl
  have hun := hun rfl
  cases hh : hasTok ⟨a⟩ id with
  | false =>
    rw [hh] at hno
    simp only [Bool.not_false] at hno
    have hG := hnone hh
    subst hG
    exact u_93 hno cf cat
  | true =>
    rw [hh] at hno
    simp only [Bool.not_true] at hno
    refine u_69 hno cf cat ?_
    refine W_loop (fun n st => ∃ i : Nat, n = a.length - i ∧ i ≤ a.length ∧
      st = ⟨[], [(1, .d (.int .i64 id)), (2, .ptr 0 0), (5, .sl 1), (6, .d (.int .i64 i))], [(0, .box [.d (.slc 7 (rToken a))]), (1, .arr 0 0 1 (intsD (((a.take i).filter fun t => V.contains t.fId).map GToken.fId)))], 2⟩) _ ⟨0, rfl, by omega, ?_⟩ ?_
    · simp [gc, closeN, liveA, gcV, gcO, renA, renAs, renO, namesAs, namesA, namesO, posn, intsD]
    rintro n st ⟨i, rfl, hi, rfl⟩
    by_cases hlt : i < a.length
    rotate_left
    · have hie : i = a.length := by omega
      subst hie
      rw [List.take_length, ← hw.ids]
      exact u_48
    have ha := List.getElem?_eq_getElem hlt
    generalize a[i] = x at ha
    have hsc := filter_succ (p := fun t : GToken => V.contains t.fId) (f := GToken.fId) ha
    have hlen := filter_take_len (fun t : GToken => V.contains t.fId) GToken.fId a i
    generalize ((a.take i).filter fun t : GToken => V.contains t.fId).map GToken.fId = L at *
    have cu := hun x.fId (.inr (hhas i x ha))
    obtain ⟨xi, xp, xn, xm, xe, xl, xu⟩ := x
    dsimp only at hsc cu
    cases hc : V.contains xi with
    | true =>
      rw [hc] at hsc cu
      simp only [if_true] at hsc
      refine u_91 ha cu ?_
      refine ⟨a.length - (i + 1), by omega, i + 1, rfl, hlt, ?_⟩
      rw [hsc]
      simp [gc, closeN, liveA, gcV, gcO, renA, renAs, renO, namesAs, namesA, namesO, posn, intsD_snoc]
      exact wrap_id (by omega) (by omega)
    | false =>
      rw [hc] at hsc cu
      simp only [Bool.false_eq_true, if_false, List.append_nil] at hsc
      refine u_52 ha cu ?_
      refine ⟨a.length - (i + 1), by omega, i + 1, rfl, hlt, ?_⟩
      rw [hsc]
      simp [gc, closeN, liveA, gcV, gcO, renA, renAs, renO, namesAs, namesA, namesO, posn]
      exact wrap_id (by omega) (by omega)

def liveOf (G : List Int) (ls : List GLease) : List Int := (ls.filter fun l => G.contains l.fToken).map GLease.fId

def liveV (w : GWorld) (id : Int) : List Int := if worldB w then liveOf (goneT w.fForest id) w.fBook.fLeases else []

theorem world_forest {w : GWorld} (h : worldB w = true) : forestB w.fForest = true := by
  unfold worldB at h; simp only [Bool.and_eq_true] at h; exact h.1.1.1.1.1.1.2

theorem s_LiveLeases_ok [MaxL GG] (w : GWorld) (id : Int) (hf : fitW w) : Valid PP GG F_S_LiveLeases [.agg w.c, .d (.int .i64 id)] (.own 0 1 (intsD (liveV w id))) [none, none] := by
  refine v_S_LiveLeases [.own 0 1 (intsD (liveV w id))] rfl rfl ?_
  have cw := s_WorldOk_ok (GG := GG) w hf
  have hV : liveV w id = if worldB w then liveOf (goneT w.fForest id) w.fBook.fLeases else [] := rfl
  have cb := s_Below_ok (GG := GG) w.fForest id hf.1
  have hgl := goneT_len w.fForest id
  have htl := hf.1.1
  have hll := hf.2.1.1
  obtain ⟨now, next, lost, ⟨tk⟩, ⟨ls⟩, ⟨us, ff, fm⟩, ⟨js⟩, ow⟩ := w
  dsimp only at hV hll cw cb hgl htl
  generalize liveV ⟨now, next, lost, ⟨tk⟩, ⟨ls⟩, ⟨us, ff, fm⟩, ⟨js⟩, ow⟩ id = R at *
  generalize worldB ⟨now, next, lost, ⟨tk⟩, ⟨ls⟩, ⟨us, ff, fm⟩, ⟨js⟩, ow⟩ = B at *
  generalize goneT ⟨tk⟩ id = G at *
  cases B
  · simp at hV
    subst hV
    exact u_92 cw
  simp only [if_true] at hV
  have hig := ind_ints G
  have chas := fun x => l01Has_ok (GG := GG) G x (by omega)
  refine u_94 cw cb ?_
  refine W_loop (fun n st => ∃ i : Nat, n = ls.length - i ∧ i ≤ ls.length ∧
    st = ⟨[], [(2, .ptr 0 0), (5, .sl 1), (6, .sl 2), (7, .d (.int .i64 i))], [(0, .box [.d (.int .i64 now), .d (.int .i64 next), .d (.int .i64 lost), .d (.slc 7 (rToken tk)), .d (.slc 6 (rLease ls)), .d (.slc 2 (rUser us)), .d (.int .i64 ff), .d (.int .i64 fm), .d (.slc 3 (rJob js)), .d (.slc 2 (rOwned ow))]), (1, .arr 0 0 1 (intsD (liveOf G (ls.take i)))), (2, .arr 0 0 1 (intsD G))], 3⟩) _ ⟨0, rfl, by omega, ?_⟩ ?_
  · simp [gc, closeN, liveA, gcV, gcO, renA, renAs, renO, namesAs, namesA, namesO, posn, liveOf, intsD]
  rintro n st ⟨i, rfl, hi, rfl⟩
  by_cases hlt : i < ls.length
  rotate_left
  · have hie : i = ls.length := by omega
    subst hie
    rw [List.take_length, ← hV]
    exact u_48
  have ha := List.getElem?_eq_getElem hlt
  generalize ls[i] = x at ha
  have hsc := filter_succ (p := fun l : GLease => G.contains l.fToken) (f := GLease.fId) ha
  have hlen := filter_take_len (fun l : GLease => G.contains l.fToken) GLease.fId ls i
  rw [show ∀ l, (l.filter fun l : GLease => G.contains l.fToken).map GLease.fId = liveOf G l from fun l => rfl] at hsc hlen
  rw [show ∀ l, (l.filter fun l : GLease => G.contains l.fToken).map GLease.fId = liveOf G l from fun l => rfl] at hsc
  have ch := chas x.fToken
  generalize liveOf G (ls.take i) = L at *
  obtain ⟨xi, xt, xp, xm, xe, xl⟩ := x
  dsimp only at hsc ch
  cases hc : G.contains xt with
  | true =>
    rw [hc] at hsc ch
    simp only [if_true] at hsc
    refine u_91 ha ch ?_
    refine ⟨ls.length - (i + 1), by omega, i + 1, rfl, hlt, ?_⟩
    rw [hsc]
    simp [gc, closeN, liveA, gcV, gcO, renA, renAs, renO, namesAs, namesA, namesO, posn, intsD_snoc]
    exact wrap_id (by omega) (by omega)
  | false =>
    rw [hc] at hsc ch
    simp only [Bool.false_eq_true, if_false, List.append_nil] at hsc
    refine u_52 ha ch ?_
    refine ⟨ls.length - (i + 1), by omega, i + 1, rfl, hlt, ?_⟩
    rw [hsc]
    simp [gc, closeN, liveA, gcV, gcO, renA, renAs, renO, namesAs, namesA, namesO, posn]
    exact wrap_id (by omega) (by omega)

theorem LiveLeases_c1_ok (t : GToken) (id : Int) : Valid PP GG F_I_LiveLeases_c1 [.agg t.c, .rp [.int .i64 id]] (.d (.bool (decide (t.fId = id)))) [none] := by
  refine v_I_LiveLeases_c1 [.d (.bool (decide (t.fId = id)))] rfl rfl ?_
  have hind := ind_strs t.fNames
  have hq : (t.fId == id) = decide (t.fId = id) := rfl
  exact u_37 hq

theorem i_LiveLeases_ok [MaxL GG] (w : GWorld) (id : Int) (hf : fitW w) : Valid PP GG F_I_LiveLeases [.agg w.c, .d (.int .i64 id)] (.own 0 1 (intsD (liveV w id))) [none, none] := by
  refine v_I_LiveLeases [.own 0 1 (intsD (liveV w id))] rfl rfl ?_
  have cw := isWorld_ok (GG := GG) w hf
  have hV : liveV w id = if worldB w then liveOf (goneT w.fForest id) w.fBook.fLeases else [] := rfl
  have hG := fun (h : worldB w = true) => (show goneT w.fForest id = (wo (fun t => decide (t.fId = id)) w.fForest.fTokens).2 by unfold goneT; rw [if_pos (world_forest h)])
  have co := without_ok (GG := GG) w.fForest.fTokens F_I_LiveLeases_c1 [[.int .i64 id]] (fun t => decide (t.fId = id)) hf.1 fun t _ => LiveLeases_c1_ok t id
  have hgl := goneT_len w.fForest id
  have htl := hf.1.1
  have hll := hf.2.1.1
  obtain ⟨now, next, lost, ⟨tk⟩, ⟨ls⟩, ⟨us, ff, fm⟩, ⟨js⟩, ow⟩ := w
  dsimp only at hV hll cw co hgl htl hG
  generalize liveV ⟨now, next, lost, ⟨tk⟩, ⟨ls⟩, ⟨us, ff, fm⟩, ⟨js⟩, ow⟩ id = R at *
  generalize worldB ⟨now, next, lost, ⟨tk⟩, ⟨ls⟩, ⟨us, ff, fm⟩, ⟨js⟩, ow⟩ = B at *
  generalize goneT ⟨tk⟩ id = G at *
  cases B
  · simp at hV
    subst hV
    exact u_92 cw
  simp only [if_true] at hV
  rw [← hG rfl] at co
  generalize (wo (fun t => decide (t.fId = id)) tk).1 = T at *
  have hig := ind_ints G
  have hit := ind_rToken T
  have chas := fun x => ContainsInt_ok (GG := GG) G x (by omega)
  refine W_seq (?_)
  refine u_1 ?_
  refine W_seq (W_seq ?_)
  refine u_11 cw ?_
  refine W_cond rfl (fun h => by simp at h) (fun h => W_skip ?_)
  refine W_seq (?_)
  refine u_11 co ?_
  refine W_seq (?_)
  refine u_1 ?_
  refine W_nilV 7 rfl ?_
  refine u_50 ?_
  refine W_loop (fun n st => ∃ i : Nat, n = ls.length - i ∧ i ≤ ls.length ∧
    st = ⟨[], [(6, .sl 0), (7, .sl 1), (22, .d (.slc 6 (rLease ls))), (23, .d (.int .i64 ls.length)), (24, .d (.int .i64 i))], [(0, .arr 0 0 1 (intsD G)), (1, .arr 0 0 1 (intsD (liveOf G (ls.take i))))], 2⟩) _ ⟨0, rfl, by omega, ?_⟩ ?_
  · simp [gc, closeN, liveA, gcV, gcO, renA, renAs, renO, namesAs, namesA, namesO, posn, liveOf, intsD]
  rintro n st ⟨i, rfl, hi, rfl⟩
  by_cases hlt : i < ls.length
  rotate_left
  · have hie : i = ls.length := by omega
    subst hie
    rw [List.take_length, ← hV]
    exact u_48
  have ha := List.getElem?_eq_getElem hlt
  generalize ls[i] = x at ha
  have hsc := filter_succ (p := fun l : GLease => G.contains l.fToken) (f := GLease.fId) ha
  have hlen := filter_take_len (fun l : GLease => G.contains l.fToken) GLease.fId ls i
  rw [show ∀ l, (l.filter fun l : GLease => G.contains l.fToken).map GLease.fId = liveOf G l from fun l => rfl] at hsc hlen
  rw [show ∀ l, (l.filter fun l : GLease => G.contains l.fToken).map GLease.fId = liveOf G l from fun l => rfl] at hsc
  have ch := chas x.fToken
  generalize liveOf G (ls.take i) = L at *
  obtain ⟨xi, xt, xp, xm, xe, xl⟩ := x
  dsimp only at hsc ch
  cases hc : G.contains xt with
  | true =>
    rw [hc] at hsc ch
    simp only [if_true] at hsc
    refine u_91 ha ch ?_
    refine ⟨ls.length - (i + 1), by omega, i + 1, rfl, hlt, ?_⟩
    rw [hsc]
    simp [gc, closeN, liveA, gcV, gcO, renA, renAs, renO, namesAs, namesA, namesO, posn, intsD_snoc]
    exact wrap_id (by omega) (by omega)
  | false =>
    rw [hc] at hsc ch
    simp only [Bool.false_eq_true, if_false, List.append_nil] at hsc
    refine u_52 ha ch ?_
    refine ⟨ls.length - (i + 1), by omega, i + 1, rfl, hlt, ?_⟩
    rw [hsc]
    simp [gc, closeN, liveA, gcV, gcO, renA, renAs, renO, namesAs, namesA, namesO, posn]
    exact wrap_id (by omega) (by omega)

theorem world_marks {w : GWorld} (h : w.cost ≤ 4194304) : w.marksIn ≤ 1000000000 := by
  have e : w.cost = w.fForest.cost + w.fBook.cost + w.fFar.cost + w.fQueue.cost + (w.fOwned.length + sumBy GOwned.cost w.fOwned) := rfl
  have e1 : w.fForest.cost = w.fForest.fTokens.length + sumBy GToken.cost w.fForest.fTokens := rfl
  have e2 : w.fBook.cost = w.fBook.fLeases.length + sumBy GLease.cost w.fBook.fLeases := rfl
  have e3 : w.fFar.cost = w.fFar.fUsers.length + sumBy GUser.cost w.fFar.fUsers := rfl
  have e4 : w.fQueue.cost = w.fQueue.fJobs.length + sumBy GJob.cost w.fQueue.fJobs := rfl
  have h1 := sumBy_le GToken.marks_le w.fForest.fTokens
  have h2 := sumBy_le GLease.marks_le w.fBook.fLeases
  have h3 := sumBy_le GUser.marks_le w.fFar.fUsers
  have h4 := sumBy_le GJob.marks_le w.fQueue.fJobs
  have h5 := sumBy_le GOwned.marks_le w.fOwned
  show sumBy GToken.marks w.fForest.fTokens + sumBy GLease.marks w.fBook.fLeases + sumBy GUser.marks w.fFar.fUsers + sumBy GJob.marks w.fQueue.fJobs + sumBy GOwned.marks w.fOwned ≤ _
  omega

theorem law_LiveLeases [MaxL GG] (w : GWorld) (id : Int) (hok : w.ok) : Valid PP GG F_L_FnExactLiveLeases [.agg w.c, .d (.int .i64 id)] (.d (.bool true)) [none, none] := by
  refine v_L_FnExactLiveLeases [.d (.bool true)] rfl rfl ?_
  have csz := szWorld_g (GG := GG) w 1048576 hok ⟨by omega, by omega⟩
  by_cases hcost : w.cost ≤ 1048576
  · rw [leftR_yes (by omega)] at csz
    have ct := toWorld_g (GG := GG) w (by omega)
    have cex := eqWorld_g (GG := GG) w w (by omega) (by omega)
    rw [decide_eq_true rfl] at cex
    have hmr := world_marks (w := w) (by omega)
    have ck := markWorld_g (GG := GG) w 1 (by omega) ⟨by omega, by omega⟩
    simp only [GWorld.markIn] at ck
    have cs := s_LiveLeases_ok (GG := GG) w id (fitW_of hcost)
    have ci := i_LiveLeases_ok (GG := GG) w id (fitW_of hcost)
    have hrl : (liveV w id).length ≤ 1048576 := by
      unfold liveV liveOf
      have := (fitW_of hcost).2.1.1
      have h2 := List.length_filter_le (fun l : GLease => (goneT w.fForest id).contains l.fToken) w.fBook.fLeases
      split
      · rw [List.length_map]; omega
      · simp
    generalize liveV w id = r at cs ci hrl
    have hind := ind_ints r
    have cx := eqIntS_ok (GG := GG) r r (by omega)
    rw [beq_self_eq_true] at cx
    have cm := markIntS_ok (GG := GG) (intsD r) 1 (rows_ints _) (by simp; omega) (by omega)
    simp only [intsD_len] at cm
    have ch := heldIntS_ok (GG := GG) r.length 1 (by omega) (by omega)
    exact u_95 csz ct cs ci cex cx ck cm ch
  · rw [leftR_no (by omega)] at csz
    exact u_53 csz


end Go.Proofs.YtdckkojgnkoabaaGreatDoor.Ab

