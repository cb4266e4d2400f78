/-
  A part of a proof about the given program; what is proved is said where each theorem stands.
-/
import Derived.Test.YtdckkojgnkoabaaGreatDoorFrameA
import Derived.Test.YtdckkojgnkoabaaGreatDoorFrameB
import Derived.Test.YtdckkojgnkoabaaGreatDoorFrameC
import Derived.Test.YtdckkojgnkoabaaGreatDoorFrameD
import Derived.Test.YtdckkojgnkoabaaGreatDoorFrameE
import Derived.Test.YtdckkojgnkoabaaGreatDoorCodesA
import Derived.Test.YtdckkojgnkoabaaGreatDoorCodesB
import Derived.Test.YtdckkojgnkoabaaGreatDoorShelf
import Derived.Test.YtdckkojgnkoabaaGreatDoorPartA
namespace Go.Proofs
end Go.Proofs
set_option linter.unusedSimpArgs false
set_option linter.unusedVariables false
set_option maxRecDepth 100000
set_option maxHeartbeats 2000000
namespace Go.Proofs.YtdckkojgnkoabaaGreatDoor.Ab
open Go.Proofs
variable {GG : GV}
@[simp] abbrev GFar.row (x : GFar) : List D := [.slc 2 (rUser x.fUsers), .int .i64 x.fFail, .int .i64 x.fMade]
@[simp] abbrev GFar.c (x : GFar) : List C := [.d (.slc 2 (rUser x.fUsers)), .d (.int .i64 x.fFail), .d (.int .i64 x.fMade)]
@[simp] abbrev GFar.o (x : GFar) : List C := [.own 0 2 (rUser x.fUsers), .d (.int .i64 x.fFail), .d (.int .i64 x.fMade)]
def GFar.cost (x : GFar) : Nat := (x.fUsers.length + sumBy GUser.cost x.fUsers)
def GFar.ok (x : GFar) : Prop := x.fUsers.length ≤ maxLen ∧ (∀ y, y ∈ x.fUsers → y.ok) ∧ int64 x.fFail ∧ int64 x.fMade
def GFar.mark (x : GFar) (k : Int) : GFar := { fUsers := markL GUser.mark GUser.marks x.fUsers (k), fFail := k + ((sumBy GUser.marks x.fUsers : Nat) : Int), fMade := k + ((sumBy GUser.marks x.fUsers : Nat) : Int) + 1 }
def GFar.marks (x : GFar) : Nat := sumBy GUser.marks x.fUsers + 1 + 1
def GFar.markIn (x : GFar) (k : Int) : GFar := { fUsers := markL GUser.mark GUser.marks x.fUsers (k), fFail := x.fFail, fMade := x.fMade }
def GFar.marksIn (x : GFar) : Nat := sumBy GUser.marks x.fUsers
theorem GFar.marks_fix (x : GFar) : x.marks ≤ 2 + 32 * x.cost := by
  have := sumBy_le GUser.marks_le x.fUsers
  unfold GFar.marks GFar.cost
  omega
theorem GFar.marks_le (x : GFar) : x.marks ≤ 32 * (1 + x.cost) := by
  have := x.marks_fix
  omega
structure GJob where
  fName : List UInt8
  fAt : Int
  fTries : Int
  deriving DecidableEq
@[simp] abbrev GJob.row (x : GJob) : List D := [.str x.fName, .int .i64 x.fAt, .int .i64 x.fTries]
@[simp] abbrev GJob.c (x : GJob) : List C := [.d (.str x.fName), .d (.int .i64 x.fAt), .d (.int .i64 x.fTries)]
@[simp] abbrev GJob.o (x : GJob) : List C := [.d (.str x.fName), .d (.int .i64 x.fAt), .d (.int .i64 x.fTries)]
def rJob (l : List GJob) : List (List D) := l.map GJob.row
@[simp] theorem rJob_len (l : List GJob) : (rJob l).length = l.length := by simp [rJob]
@[simp] theorem rJob_get (l : List GJob) (i : Nat) : (rJob l)[i]? = (l[i]?).map GJob.row := by simp [rJob]
theorem rJob_app (a b : List GJob) : rJob (a ++ b) = rJob a ++ rJob b := by simp [rJob]
theorem rJob_row (l : List GJob) : ∀ r, r ∈ rJob l → r.length = 3 := by intro r h; simp only [rJob, List.mem_map] at h; obtain ⟨x, _, rfl⟩ := h; rfl
def GJob.cost (x : GJob) : Nat := x.fName.length
def GJob.ok (x : GJob) : Prop := x.fName.length ≤ maxLen ∧ int64 x.fAt ∧ int64 x.fTries
def GJob.mark (x : GJob) (k : Int) : GJob := { fName := markT (k), fAt := k + 1, fTries := k + 1 + 1 }
def GJob.marks (x : GJob) : Nat := 1 + 1 + 1
theorem GJob.marks_fix (x : GJob) : x.marks ≤ 3 + 32 * x.cost := by
  unfold GJob.marks GJob.cost
  omega
theorem GJob.marks_le (x : GJob) : x.marks ≤ 32 * (1 + x.cost) := by
  have := x.marks_fix
  omega
structure GQueue where
  fJobs : List GJob
  deriving DecidableEq
@[simp] abbrev GQueue.row (x : GQueue) : List D := [.slc 3 (rJob x.fJobs)]
@[simp] abbrev GQueue.c (x : GQueue) : List C := [.d (.slc 3 (rJob x.fJobs))]
@[simp] abbrev GQueue.o (x : GQueue) : List C := [.own 0 3 (rJob x.fJobs)]
def GQueue.cost (x : GQueue) : Nat := (x.fJobs.length + sumBy GJob.cost x.fJobs)
def GQueue.ok (x : GQueue) : Prop := x.fJobs.length ≤ maxLen ∧ (∀ y, y ∈ x.fJobs → y.ok)
def GQueue.mark (x : GQueue) (k : Int) : GQueue := { fJobs := markL GJob.mark GJob.marks x.fJobs (k) }
def GQueue.marks (x : GQueue) : Nat := sumBy GJob.marks x.fJobs
def GQueue.markIn (x : GQueue) (k : Int) : GQueue := { fJobs := markL GJob.mark GJob.marks x.fJobs (k) }
def GQueue.marksIn (x : GQueue) : Nat := sumBy GJob.marks x.fJobs
theorem GQueue.marks_fix (x : GQueue) : x.marks ≤ 0 + 32 * x.cost := by
  have := sumBy_le GJob.marks_le x.fJobs
  unfold GQueue.marks GQueue.cost
  omega
theorem GQueue.marks_le (x : GQueue) : x.marks ≤ 32 * (1 + x.cost) := by
  have := x.marks_fix
  omega
structure GOwned where
  fLease : Int
  fName : List UInt8
  deriving DecidableEq
@[simp] abbrev GOwned.row (x : GOwned) : List D := [.int .i64 x.fLease, .str x.fName]
@[simp] abbrev GOwned.c (x : GOwned) : List C := [.d (.int .i64 x.fLease), .d (.str x.fName)]
@[simp] abbrev GOwned.o (x : GOwned) : List C := [.d (.int .i64 x.fLease), .d (.str x.fName)]
def rOwned (l : List GOwned) : List (List D) := l.map GOwned.row
@[simp] theorem rOwned_len (l : List GOwned) : (rOwned l).length = l.length := by simp [rOwned]
@[simp] theorem rOwned_get (l : List GOwned) (i : Nat) : (rOwned l)[i]? = (l[i]?).map GOwned.row := by simp [rOwned]
theorem rOwned_app (a b : List GOwned) : rOwned (a ++ b) = rOwned a ++ rOwned b := by simp [rOwned]
theorem rOwned_row (l : List GOwned) : ∀ r, r ∈ rOwned l → r.length = 2 := by intro r h; simp only [rOwned, List.mem_map] at h; obtain ⟨x, _, rfl⟩ := h; rfl
def GOwned.cost (x : GOwned) : Nat := x.fName.length
def GOwned.ok (x : GOwned) : Prop := int64 x.fLease ∧ x.fName.length ≤ maxLen
def GOwned.mark (x : GOwned) (k : Int) : GOwned := { fLease := k, fName := markT (k + 1) }
def GOwned.marks (x : GOwned) : Nat := 1 + 1
theorem GOwned.marks_fix (x : GOwned) : x.marks ≤ 2 + 32 * x.cost := by
  unfold GOwned.marks GOwned.cost
  omega
theorem GOwned.marks_le (x : GOwned) : x.marks ≤ 32 * (1 + x.cost) := by
  have := x.marks_fix
  omega
structure GWorld where
  fNow : Int
  fNext : Int
  fLost : Int
  fForest : GForest
  fBook : GBook
  fFar : GFar
  fQueue : GQueue
  fOwned : List GOwned
  deriving DecidableEq
@[simp] abbrev GWorld.row (x : GWorld) : List D := [.int .i64 x.fNow, .int .i64 x.fNext, .int .i64 x.fLost, .slc 7 (rToken x.fForest.fTokens), .slc 6 (rLease x.fBook.fLeases), .slc 2 (rUser x.fFar.fUsers), .int .i64 x.fFar.fFail, .int .i64 x.fFar.fMade, .slc 3 (rJob x.fQueue.fJobs), .slc 2 (rOwned x.fOwned)]
@[simp] abbrev GWorld.c (x : GWorld) : List C := [.d (.int .i64 x.fNow), .d (.int .i64 x.fNext), .d (.int .i64 x.fLost), .d (.slc 7 (rToken x.fForest.fTokens)), .d (.slc 6 (rLease x.fBook.fLeases)), .d (.slc 2 (rUser x.fFar.fUsers)), .d (.int .i64 x.fFar.fFail), .d (.int .i64 x.fFar.fMade), .d (.slc 3 (rJob x.fQueue.fJobs)), .d (.slc 2 (rOwned x.fOwned))]
@[simp] abbrev GWorld.o (x : GWorld) : List C := [.d (.int .i64 x.fNow), .d (.int .i64 x.fNext), .d (.int .i64 x.fLost), .own 1 7 (rToken x.fForest.fTokens), .own 0 6 (rLease x.fBook.fLeases), .own 0 2 (rUser x.fFar.fUsers), .d (.int .i64 x.fFar.fFail), .d (.int .i64 x.fFar.fMade), .own 0 3 (rJob x.fQueue.fJobs), .own 0 2 (rOwned x.fOwned)]
def GWorld.cost (x : GWorld) : Nat := x.fForest.cost + x.fBook.cost + x.fFar.cost + x.fQueue.cost + (x.fOwned.length + sumBy GOwned.cost x.fOwned)
def GWorld.ok (x : GWorld) : Prop := int64 x.fNow ∧ int64 x.fNext ∧ int64 x.fLost ∧ x.fForest.ok ∧ x.fBook.ok ∧ x.fFar.ok ∧ x.fQueue.ok ∧ x.fOwned.length ≤ maxLen ∧ (∀ y, y ∈ x.fOwned → y.ok)
def GWorld.mark (x : GWorld) (k : Int) : GWorld := { fNow := k, fNext := k + 1, fLost := k + 1 + 1, fForest := x.fForest.mark (k + 1 + 1 + 1), fBook := x.fBook.mark (k + 1 + 1 + 1 + ((x.fForest.marks : Nat) : Int)), fFar := x.fFar.mark (k + 1 + 1 + 1 + ((x.fForest.marks : Nat) : Int) + ((x.fBook.marks : Nat) : Int)), fQueue := x.fQueue.mark (k + 1 + 1 + 1 + ((x.fForest.marks : Nat) : Int) + ((x.fBook.marks : Nat) : Int) + ((x.fFar.marks : Nat) : Int)), fOwned := markL GOwned.mark GOwned.marks x.fOwned (k + 1 + 1 + 1 + ((x.fForest.marks : Nat) : Int) + ((x.fBook.marks : Nat) : Int) + ((x.fFar.marks : Nat) : Int) + ((x.fQueue.marks : Nat) : Int)) }
def GWorld.marks (x : GWorld) : Nat := 1 + 1 + 1 + x.fForest.marks + x.fBook.marks + x.fFar.marks + x.fQueue.marks + sumBy GOwned.marks x.fOwned
def GWorld.markIn (x : GWorld) (k : Int) : GWorld := { fNow := x.fNow, fNext := x.fNext, fLost := x.fLost, fForest := x.fForest.markIn (k), fBook := x.fBook.markIn (k + ((x.fForest.marksIn : Nat) : Int)), fFar := x.fFar.markIn (k + ((x.fForest.marksIn : Nat) : Int) + ((x.fBook.marksIn : Nat) : Int)), fQueue := x.fQueue.markIn (k + ((x.fForest.marksIn : Nat) : Int) + ((x.fBook.marksIn : Nat) : Int) + ((x.fFar.marksIn : Nat) : Int)), fOwned := markL GOwned.mark GOwned.marks x.fOwned (k + ((x.fForest.marksIn : Nat) : Int) + ((x.fBook.marksIn : Nat) : Int) + ((x.fFar.marksIn : Nat) : Int) + ((x.fQueue.marksIn : Nat) : Int)) }
def GWorld.marksIn (x : GWorld) : Nat := x.fForest.marksIn + x.fBook.marksIn + x.fFar.marksIn + x.fQueue.marksIn + sumBy GOwned.marks x.fOwned
theorem GWorld.marks_fix (x : GWorld) : x.marks ≤ 5 + 32 * x.cost := by
  have := GForest.marks_fix x.fForest
  have := GBook.marks_fix x.fBook
  have := GFar.marks_fix x.fFar
  have := GQueue.marks_fix x.fQueue
  have := sumBy_le GOwned.marks_le x.fOwned
  unfold GWorld.marks GWorld.cost
  omega
theorem GWorld.marks_le (x : GWorld) : x.marks ≤ 32 * (1 + x.cost) := by
  have := x.marks_fix
  omega
theorem szToken_g (x : GToken) (l : Int) (hx : x.ok) (h0 : 0 ≤ l ∧ l ≤ 1048576) : Valid PP GG F_L_szToken [.agg x.c, .d (.int .i64 l)] (.d (.int .i64 (leftR x.cost l))) [none, none] := by
  refine v_L_szToken [.d (.int .i64 (leftR x.cost l))] rfl rfl ?_
  have hco : x.cost = (x.fNames.length + sumBy List.length x.fNames) := rfl
  unfold GToken.ok maxLen at hx
  obtain ⟨okId0, okParent0, okNames0, okNames1, okMade0, okEnds0, okLimit0, okUses0⟩ := hx
  generalize x.cost = co at hco
  refine W_seq (?_)
  refine u_1 ?_
  have ct := szStringS_g (GG := GG) x.fNames l (by unfold maxLen; omega) (by unfold maxLen; exact okNames1) ⟨by omega, by omega⟩
  obtain ⟨l1, el1⟩ : ∃ z : Int, leftR (x.fNames.length + sumBy List.length x.fNames) l = z := ⟨_, rfl⟩
  rw [el1] at ct
  refine W_seq (?_)
  refine u_10 ct ?_
  clear ct
  refine W_seq (W_seq (?_))
  refine u_1 ?_
  refine W_cond rfl (fun hh0 => W_seq ?_) (fun hh0 => W_skip ?_)
  · refine u_1 ?_
    simp at hh0
    rw [← el1] at hh0
    have hn := leftR_neg (by omega) hh0
    have : leftR co l = -1 := leftR_no (by omega)
    refine W_ret ?_
    simp [Fin, this]
    all_goals omega
  simp at hh0
  rw [← el1] at hh0
  obtain ⟨gl1, jl1⟩ := leftR_pos (Int.not_lt.2 hh0)
  rw [el1] at jl1 hh0
  refine W_seq (?_)
  refine u_1 ?_
  have : leftR co l = l1 := by rw [leftR_yes (by omega)]; omega
  refine W_ret ?_
  simp [Fin, this]
  all_goals omega
theorem szTokenS_g (a : List GToken) (l : Int) (hlen : a.length ≤ maxLen) (hx : ∀ x, x ∈ a → x.ok) (h0 : 0 ≤ l ∧ l ≤ 1048576) :
    Valid PP GG F_L_szTokenS [.d (.slc 7 (rToken a)), .d (.int .i64 l)] (.d (.int .i64 (leftR (a.length + sumBy GToken.cost a) l))) [none, none] := by
  refine v_L_szTokenS [.d (.int .i64 (leftR (a.length + sumBy GToken.cost a) l))] rfl rfl ?_
  unfold maxLen at hlen
  obtain ⟨m, hm⟩ : ∃ z : Int, l - a.length = z := ⟨_, rfl⟩
  have hw : IntKind.i64.wrap (l - a.length) = m := by rw [wrap_id (by omega) (by omega)]; exact hm
  refine W_seq (?_)
  refine u_1 ?_
  refine W_seq (?_)
  refine u_6 hw ?_
  refine W_seq (W_seq (?_))
  refine u_1 ?_
  refine W_cond rfl (fun h => W_seq ?_) (fun h => W_skip ?_)
  · refine u_1 ?_
    simp at h
    have : leftR (a.length + sumBy GToken.cost a) l = -1 := leftR_no (by omega)
    refine W_ret ?_
    simp [Fin, this]
    all_goals omega
  simp at h
  refine W_seq (W_seq (?_))
  refine u_1 ?_
  refine W_block (W_loop (fun n st => ∃ (i : Nat) (v : Int), n = a.length - i ∧ i ≤ a.length ∧ 0 ≤ v ∧ v = m - (sumBy GToken.cost (a.take i) : Nat) ∧
    st = ⟨[], [(0, .d (.slc 7 (rToken a))), (1, .d (.int .i64 v)), (5, .d (.int .i64 i))], [], 0⟩) _ ⟨0, m, rfl, by omega, h, by simp [sumBy], rfl⟩ ?_)
  rintro n st ⟨i, v, rfl, hi, hv, he, rfl⟩
  refine W_seq (W_seq (?_))
  refine u_1 ?_
  refine W_cond rfl (fun h2 => W_skip ?_) (fun h2 => W_exit ?_)
  · simp at h2
    have ha := List.getElem?_eq_getElem h2
    generalize a[i] = x at ha
    have hs := sumBy_succ (f := GToken.cost) ha
    have ht := sumBy_take GToken.cost a (i + 1)
    have ct := szToken_g (GG := GG) x v (hx x (List.mem_of_getElem? ha)) ⟨hv, by omega⟩
    obtain ⟨v2, hv2⟩ : ∃ z : Int, leftR x.cost v = z := ⟨_, rfl⟩
    rw [hv2] at ct
    refine W_seq (W_block (W_seq ?_))
    refine u_13 ha ct ?_
    refine W_seq (?_)
    refine u_1 ?_
    refine W_cond rfl (fun h3 => W_seq ?_) (fun h3 => W_skip ?_)
    · refine u_1 ?_
      simp at h3
      rw [← hv2] at h3
      have hn := leftR_neg (by omega) h3
      have : leftR (a.length + sumBy GToken.cost a) l = -1 := leftR_no (by omega)
      refine W_ret ?_
      simp [Fin, this]
      all_goals omega
    simp at h3
    rw [← hv2] at h3
    obtain ⟨g1, g2⟩ := leftR_pos (Int.not_lt.2 h3)
    rw [hv2] at g2
    refine u_1 ?_
    exact ⟨a.length - (i + 1), by omega, i + 1, v2, rfl, h2, by omega, by omega, by simp [gc, closeN, liveA, gcV, gcO, renA, namesAs, namesA]; rw [wrap_id (by omega) (by omega)]⟩
  · simp at h2
    rw [if_pos rfl]
    rw [List.take_of_length_le h2] at he
    refine W_seq (?_)
    refine u_1 ?_
    have : leftR (a.length + sumBy GToken.cost a) l = v := by rw [leftR_yes (by omega)]; omega
    refine W_ret ?_
    simp [Fin, this]
    all_goals omega
theorem toToken_g (x : GToken) (hx : x.cost ≤ 1099511627776) : Valid PP GG F_L_toToken [.agg x.c] (.agg x.o) [none] := by
  refine v_L_toToken [.agg x.o] rfl rfl ?_
  have hco : x.cost = (x.fNames.length + sumBy List.length x.fNames) := rfl
  refine W_seq (?_)
  refine u_1 ?_
  refine W_seq (?_)
  refine u_1 ?_
  refine W_seq (?_)
  refine u_1 ?_
  refine W_seq (?_)
  refine u_1 ?_
  refine W_seq (?_)
  refine u_10 (toStringS_ok x.fNames (by omega)) ?_
  refine W_seq (?_)
  refine u_1 ?_
  refine W_seq (?_)
  refine u_1 ?_
  refine W_seq (?_)
  refine u_1 ?_
  refine W_seq (?_)
  refine u_1 ?_
  refine W_seq (?_)
  refine u_1 ?_
  refine W_ret ?_
  simp [Fin]
  all_goals omega
theorem toTokenS_g (a : List GToken) (hx : a.length + sumBy GToken.cost a ≤ 1099511627776) : Valid PP GG F_L_toTokenS [.d (.slc 7 (rToken a))] (.own 1 7 (rToken a)) [none] := by
  refine v_L_toTokenS [.own 1 7 (rToken a)] rfl rfl ?_
  refine W_seq (?_)
  refine u_1 ?_
  refine W_seq (?_)
  refine u_3 ?_
  refine W_seq (W_seq (?_))
  refine u_1 ?_
  refine W_block (W_loop (fun n st => ∃ (i : Nat) (R : List (List D)), n = a.length - i ∧ i ≤ a.length ∧ R.length = a.length ∧ (∀ r, r ∈ R → r.length = 7) ∧ R.take i = rToken (a.take i) ∧
    st = ⟨[], [(0, .d (.slc 7 (rToken a))), (3, .sl 0), (4, .d (.int .i64 i))], [(0, .arr 0 1 7 R)], 1⟩) _ ⟨0, List.replicate a.length [.int .i64 0, .int .i64 0, .slc 1 [], .int .i64 0, .int .i64 0, .int .i64 0, .int .i64 0], rfl, by omega, by simp, by intro r hr; rw [List.eq_of_mem_replicate hr]; rfl, rfl, rfl⟩ ?_)
  rintro n st ⟨i, R, rfl, hi, hl, h1, hR, rfl⟩
  refine W_seq (W_seq (?_))
  refine u_1 ?_
  refine W_cond rfl (fun h => W_skip ?_) (fun h => W_exit ?_)
  · simp at h
    have ha := List.getElem?_eq_getElem h
    generalize a[i] = x at ha
    have hg := sumBy_get (f := GToken.cost) ha
    obtain ⟨y0, y1, y2, y3, y4, y5, y6, hd⟩ := rows7 h1 (show i < R.length by omega)
    refine W_seq (W_block ?_)
    refine u_15 ha hd hl (toToken_g x (by omega)) ?_
    refine u_1 ?_
    exact ⟨a.length - (i + 1), by omega, i + 1, R.set i x.row, rfl, h, by simpa using hl, set7 h1 rfl, by rw [take_set_succ (by omega), hR, List.take_add_one, ha, rToken_app]; rfl,
      by simp [gc, closeN, liveA, gcV, gcO, renA, renO, namesAs, namesA, namesO, posn]; rw [wrap_id (by omega) (by omega)]⟩
  · simp at h
    have e : R = rToken a := by rwa [List.take_of_length_le (by omega), List.take_of_length_le (by omega)] at hR
    subst e
    rw [if_pos rfl]
    refine W_seq (?_)
    refine u_1 ?_
    refine W_ret ?_
    simp [Fin]
    all_goals omega
theorem eqToken_g (x y : GToken) (hx : x.cost ≤ 1099511627776) (hy : y.cost ≤ 1099511627776) : Valid PP GG F_L_eqToken [.agg x.c, .agg y.c] (.d (.bool (decide (x = y)))) [none, none] := by
  refine v_L_eqToken [.d (.bool (decide (x = y)))] rfl rfl ?_
  have hcx : x.cost = (x.fNames.length + sumBy List.length x.fNames) := rfl
  have hcy : y.cost = (y.fNames.length + sumBy List.length y.fNames) := rfl
  refine W_seq (?_)
  refine u_1 ?_
  refine W_seq (W_seq (?_))
  refine u_1 ?_
  refine W_cond rfl (fun h => W_seq ?_) (fun h0 => W_skip ?_)
  · refine u_1 ?_
    have : decide (x = y) = false := by rw [decide_eq_false_iff_not]; intro e; rw [e] at h; simp at h
    refine W_ret ?_
    simp [Fin, this]
    all_goals omega
  refine W_seq (W_seq (?_))
  refine u_1 ?_
  refine W_cond rfl (fun h => W_seq ?_) (fun h1 => W_skip ?_)
  · refine u_1 ?_
    have : decide (x = y) = false := by rw [decide_eq_false_iff_not]; intro e; rw [e] at h; simp at h
    refine W_ret ?_
    simp [Fin, this]
    all_goals omega
  refine W_seq (W_seq (?_))
  refine u_10 (eqStringS_ok x.fNames y.fNames (by omega)) ?_
  refine W_cond rfl (fun h => W_seq ?_) (fun h2 => W_skip ?_)
  · refine u_1 ?_
    have : decide (x = y) = false := by rw [decide_eq_false_iff_not]; intro e; rw [e] at h; simp at h
    refine W_ret ?_
    simp [Fin, this]
    all_goals omega
  refine W_seq (W_seq (?_))
  refine u_1 ?_
  refine W_cond rfl (fun h => W_seq ?_) (fun h3 => W_skip ?_)
  · refine u_1 ?_
    have : decide (x = y) = false := by rw [decide_eq_false_iff_not]; intro e; rw [e] at h; simp at h
    refine W_ret ?_
    simp [Fin, this]
    all_goals omega
  refine W_seq (W_seq (?_))
  refine u_1 ?_
  refine W_cond rfl (fun h => W_seq ?_) (fun h4 => W_skip ?_)
  · refine u_1 ?_
    have : decide (x = y) = false := by rw [decide_eq_false_iff_not]; intro e; rw [e] at h; simp at h
    refine W_ret ?_
    simp [Fin, this]
    all_goals omega
  refine W_seq (W_seq (?_))
  refine u_1 ?_
  refine W_cond rfl (fun h => W_seq ?_) (fun h5 => W_skip ?_)
  · refine u_1 ?_
    have : decide (x = y) = false := by rw [decide_eq_false_iff_not]; intro e; rw [e] at h; simp at h
    refine W_ret ?_
    simp [Fin, this]
    all_goals omega
  refine W_seq (W_seq (?_))
  refine u_1 ?_
  refine W_cond rfl (fun h => W_seq ?_) (fun h6 => W_skip ?_)
  · refine u_1 ?_
    have : decide (x = y) = false := by rw [decide_eq_false_iff_not]; intro e; rw [e] at h; simp at h
    refine W_ret ?_
    simp [Fin, this]
    all_goals omega
  refine W_seq (?_)
  refine u_1 ?_
  have : decide (x = y) = true := by
    rw [decide_eq_true_iff]
    cases x; cases y
    simp at h0 h1 h2 h3 h4 h5 h6
    simp_all
  refine W_ret ?_
  simp [Fin, this]
  all_goals omega
theorem eqTokenS_g (a b : List GToken) (hx : a.length + sumBy GToken.cost a ≤ 1099511627776) (hy : b.length + sumBy GToken.cost b ≤ 1099511627776) : Valid PP GG F_L_eqTokenS [.d (.slc 7 (rToken a)), .d (.slc 7 (rToken b))] (.d (.bool (decide (a = b)))) [none, none] := by
  refine v_L_eqTokenS [.d (.bool (decide (a = b)))] rfl rfl ?_
  refine W_seq (?_)
  refine u_1 ?_
  refine W_seq (W_seq (?_))
  refine u_1 ?_
  refine W_cond rfl (fun h => W_seq ?_) (fun hlen => W_skip ?_)
  · refine u_1 ?_
    have : decide (a = b) = false := by rw [decide_eq_false_iff_not]; intro e; subst e; simp at h
    refine W_ret ?_
    simp [Fin, this]
    all_goals omega
  refine W_seq (W_seq (?_))
  simp at hlen
  refine u_1 ?_
  refine W_block (W_loop (fun n st => ∃ i : Nat, n = a.length - i ∧ i ≤ a.length ∧ a.take i = b.take i ∧ st = ⟨[], [(0, .d (.slc 7 (rToken a))), (1, .d (.slc 7 (rToken b))), (5, .d (.int .i64 i))], [], 0⟩) _ ⟨0, rfl, by omega, rfl, rfl⟩ ?_)
  rintro n st ⟨i, rfl, hi, he, rfl⟩
  refine W_seq (W_seq (?_))
  refine u_1 ?_
  refine W_cond rfl (fun h => W_skip ?_) (fun h => W_exit ?_)
  · simp at h
    have ha := List.getElem?_eq_getElem h
    have hb := List.getElem?_eq_getElem (show i < b.length by omega)
    generalize a[i] = x at ha
    generalize b[i]'_ = y at hb
    have ga := sumBy_get (f := GToken.cost) ha
    have gb := sumBy_get (f := GToken.cost) hb
    refine W_seq (W_block (W_seq ?_))
    refine u_9 ha hb (eqToken_g x y (by omega) (by omega)) ?_
    refine W_cond rfl (fun h2 => W_seq ?_) (fun h2 => W_skip ?_)
    · refine u_1 ?_
      have : decide (a = b) = false := by rw [decide_eq_false_iff_not]; intro e; subst e; rw [ha] at hb; cases hb; simp at h2
      refine W_ret ?_
      simp [Fin, this]
      all_goals omega
    refine u_1 ?_
    have hxy : x = y := by simpa using h2
    subst hxy
    exact ⟨a.length - (i + 1), by omega, i + 1, rfl, h, take_succ_eq he ha hb, by simp [gc, closeN, liveA, gcV, gcO, renA, namesAs, namesA]; rw [wrap_id (by omega) (by omega)]⟩
  · simp at h
    rw [if_pos rfl]
    refine W_seq (?_)
    refine u_1 ?_
    have : decide (a = b) = true := by
      rw [decide_eq_true_iff]
      rwa [List.take_of_length_le h, List.take_of_length_le (by omega)] at he
    refine W_ret ?_
    simp [Fin, this]
    all_goals omega
theorem markTokenS_g (a : List GToken) (k : Int) (hx : a.length + sumBy GToken.cost a ≤ 1099511627776) (hk : 0 ≤ k ∧ k + (sumBy GToken.marks a : Nat) ≤ 140737488355328) :
    Valid PP GG F_L_markTokenS [.own 1 7 (rToken a), .d (.int .i64 k)] (.d (.int .i64 (k + (sumBy GToken.marks a : Nat)))) [some (.own 1 7 (rToken (markL GToken.mark GToken.marks a k))), none] := by
  refine v_L_markTokenS [.d (.int .i64 (k + (sumBy GToken.marks a : Nat)))] rfl rfl ?_
  have hml := sumBy_le GToken.marks_le a
  refine W_seq (?_)
  refine u_1 ?_
  refine W_seq (W_seq (?_))
  refine u_1 ?_
  refine W_block (W_loop (fun n st => ∃ (i : Nat) (R : List (List D)) (q : Int), n = a.length - i ∧ i ≤ a.length ∧ R = rToken (markL GToken.mark GToken.marks (a.take i) k ++ a.drop i) ∧ q = k + (sumBy GToken.marks (a.take i) : Nat) ∧
    st = ⟨[], [(0, .sl 0), (1, .d (.int .i64 q)), (5, .d (.int .i64 i))], [(0, .arr 0 1 7 R)], 1⟩) _ ⟨0, rToken a, k, rfl, by omega, rfl, by simp [sumBy], by simp [gc, closeN, liveA, gcV, gcO, renA, renO, namesAs, namesA, namesO, posn]⟩ ?_)
  rintro n st ⟨i, R, q, rfl, hi, hR, hq, rfl⟩
  have hl : R.length = a.length := by rw [hR]; simp [markL_len]; omega
  refine W_seq (W_seq (?_))
  refine u_1 ?_
  refine W_cond rfl (fun h => W_skip ?_) (fun h => W_exit ?_)
  · simp [hl] at h
    have ha := List.getElem?_eq_getElem h
    generalize a[i] = x at ha
    have hg := sumBy_get (f := GToken.cost) ha
    have hs := sumBy_succ (f := GToken.marks) ha
    have ht := sumBy_take GToken.marks a (i + 1)
    have hsucc : R.set i (x.mark q).row = rToken (markL GToken.mark GToken.marks (a.take (i + 1)) k ++ a.drop (i + 1)) := by
      rw [hR, drop_get ha, rToken_app]
      show (rToken (markL GToken.mark GToken.marks (a.take i) k) ++ x.row :: rToken (a.drop (i + 1))).set i (x.mark q).row = _
      rw [set_mid (by simp [markL_len]; omega), markL_succ k ha, rToken_app, rToken_app, hq]; rfl
    have hd : R[i]? = some x.row := by
      rw [hR, drop_get ha, rToken_app]
      exact mid_get (by simp [markL_len]; omega)
    have hset := fun y => set_get hd y
    have hme : x.mark q = { fId := q, fParent := q + 1, fNames := marksString (q + 1 + 1) x.fNames.length, fMade := q + 1 + 1 + ((x.fNames.length : Nat) : Int), fEnds := q + 1 + 1 + ((x.fNames.length : Nat) : Int) + 1, fLimit := q + 1 + 1 + ((x.fNames.length : Nat) : Int) + 1 + 1, fUses := q + 1 + 1 + ((x.fNames.length : Nat) : Int) + 1 + 1 + 1 } := rfl
    have hms : x.marks = 1 + 1 + x.fNames.length + 1 + 1 + 1 + 1 := rfl
    have hco : x.cost = (x.fNames.length + sumBy List.length x.fNames) := rfl
    clear hR
    refine W_seq (W_block (W_seq ?_))
    simp only [GToken.row] at hd
    refine u_4 hd hset hl ?_
    obtain ⟨q1, hq1⟩ : ∃ z : Int, q + 1 = z := ⟨_, rfl⟩
    have wq1 : IntKind.i64.wrap (q + 1) = q1 := by rw [wrap_id (by omega) (by omega)]; exact hq1
    refine W_seq (?_)
    refine u_16 ?_
    refine W_seq (?_)
    refine u_4 hd hset hl ?_
    obtain ⟨q2, hq2⟩ : ∃ z : Int, q1 + 1 = z := ⟨_, rfl⟩
    have wq2 : IntKind.i64.wrap (q1 + 1) = q2 := by rw [wrap_id (by omega) (by omega)]; exact hq2
    refine W_seq (?_)
    refine u_17 ?_
    have ct := markStringS_ok (GG := GG) (strsD x.fNames) q2 (by simp [strsD]) (by simp; omega) (by omega)
    simp only [strsD_len] at ct
    obtain ⟨q3, hq3⟩ : ∃ z : Int, q2 + x.fNames.length = z := ⟨_, rfl⟩
    rw [hq3] at ct
    refine W_seq (?_)
    refine u_15 hd hset hl ct ?_
    clear ct
    refine W_seq (?_)
    refine u_4 hd hset hl ?_
    obtain ⟨q4, hq4⟩ : ∃ z : Int, q3 + 1 = z := ⟨_, rfl⟩
    have wq4 : IntKind.i64.wrap (q3 + 1) = q4 := by rw [wrap_id (by omega) (by omega)]; exact hq4
    refine W_seq (?_)
    refine u_18 ?_
    refine W_seq (?_)
    refine u_4 hd hset hl ?_
    obtain ⟨q5, hq5⟩ : ∃ z : Int, q4 + 1 = z := ⟨_, rfl⟩
    have wq5 : IntKind.i64.wrap (q4 + 1) = q5 := by rw [wrap_id (by omega) (by omega)]; exact hq5
    refine W_seq (?_)
    refine u_19 ?_
    refine W_seq (?_)
    refine u_4 hd hset hl ?_
    obtain ⟨q6, hq6⟩ : ∃ z : Int, q5 + 1 = z := ⟨_, rfl⟩
    have wq6 : IntKind.i64.wrap (q5 + 1) = q6 := by rw [wrap_id (by omega) (by omega)]; exact hq6
    refine W_seq (?_)
    refine u_20 ?_
    refine W_seq (?_)
    refine u_4 hd hset hl ?_
    obtain ⟨q7, hq7⟩ : ∃ z : Int, q6 + 1 = z := ⟨_, rfl⟩
    have wq7 : IntKind.i64.wrap (q6 + 1) = q7 := by rw [wrap_id (by omega) (by omega)]; exact hq7
    refine u_21 ?_
    refine u_1 ?_
    refine ⟨a.length - (i + 1), by omega, i + 1, R.set i (x.mark q).row, q7, rfl, h, hsucc, by omega, ?_⟩
    simp [gc, closeN, liveA, gcV, gcO, renA, renO, namesAs, namesA, namesO, posn]
    refine ⟨wrap_id (by omega) (by omega), ?_⟩
    simp only [hme, hq1, hq2, hq3, hq4, hq5, hq6, hq7]
  · simp [hl] at h
    have e : R = rToken (markL GToken.mark GToken.marks a k) := by
      rw [List.take_of_length_le h, List.drop_eq_nil_of_le h] at hR; simpa using hR
    rw [List.take_of_length_le h] at hq
    subst e
    rw [if_pos rfl]
    refine W_seq (?_)
    refine u_1 ?_
    subst hq
    refine W_ret ?_
    simp [Fin]
    all_goals omega
theorem heldTokenS_g (a : List GToken) (k : Int) (hx : a.length + sumBy GToken.cost a ≤ 1099511627776) (hk : 0 ≤ k ∧ k + (sumBy GToken.marks a : Nat) ≤ 140737488355328) :
    Valid PP GG F_L_heldTokenS [.d (.slc 7 (rToken (markL GToken.mark GToken.marks a k))), .d (.int .i64 k)] (.d (.int .i64 (k + (sumBy GToken.marks a : Nat)))) [none, none] := by
  refine v_L_heldTokenS [.d (.int .i64 (k + (sumBy GToken.marks a : Nat)))] rfl rfl ?_
  have hl : (rToken (markL GToken.mark GToken.marks a k)).length = a.length := by simp [markL_len]
  have hget : ∀ (i : Nat) x, a[i]? = some x → (rToken (markL GToken.mark GToken.marks a k))[i]? = some (x.mark (k + (sumBy GToken.marks (a.take i) : Nat))).row := fun i x h => by rw [rToken_get, markL_get k h]; rfl
  generalize rToken (markL GToken.mark GToken.marks a k) = B at hl hget ⊢
  refine W_seq (?_)
  refine u_1 ?_
  refine W_seq (W_seq (?_))
  refine u_1 ?_
  refine W_block (W_loop (fun n st => ∃ (i : Nat) (q : Int), n = a.length - i ∧ i ≤ a.length ∧ q = k + (sumBy GToken.marks (a.take i) : Nat) ∧
    st = ⟨[], [(0, .d (.slc 7 B)), (1, .d (.int .i64 q)), (5, .d (.int .i64 i))], [], 0⟩) _ ⟨0, k, rfl, by omega, by simp [sumBy], by simp [gc, closeN, liveA, gcV, gcO, renA, renO, namesAs, namesA, namesO, posn]⟩ ?_)
  rintro n st ⟨i, q, rfl, hi, hq, rfl⟩
  refine W_seq (W_seq (?_))
  refine u_1 ?_
  refine W_cond rfl (fun h => W_skip ?_) (fun h => W_exit ?_)
  · simp [hl] at h
    have ha := List.getElem?_eq_getElem h
    generalize a[i] = x at ha
    have hg := sumBy_get (f := GToken.cost) ha
    have hs := sumBy_succ (f := GToken.marks) ha
    have ht := sumBy_take GToken.marks a (i + 1)
    have hd := hget i x ha
    rw [← hq] at hd
    have hco : x.cost = (x.fNames.length + sumBy List.length x.fNames) := rfl
    have hms : x.marks = 1 + 1 + x.fNames.length + 1 + 1 + 1 + 1 := rfl
    simp only [GToken.row, GToken.mark] at hd
    refine W_seq (W_block ?_)
    refine W_seq (W_seq (?_))
    refine u_7 hd hl ?_
    refine W_cond rfl (fun h4 => ?_) (fun h4 => W_skip ?_)
    · simp at h4
    obtain ⟨q1, hq1⟩ : ∃ z : Int, q + 1 = z := ⟨_, rfl⟩
    have wq1 : IntKind.i64.wrap (q + 1) = q1 := by rw [wrap_id (by omega) (by omega)]; exact hq1
    refine W_seq (?_)
    refine u_16 ?_
    simp only [hq1] at hd
    refine W_seq (W_seq (?_))
    refine u_7 hd hl ?_
    refine W_cond rfl (fun h4 => ?_) (fun h4 => W_skip ?_)
    · simp at h4
    obtain ⟨q2, hq2⟩ : ∃ z : Int, q1 + 1 = z := ⟨_, rfl⟩
    have wq2 : IntKind.i64.wrap (q1 + 1) = q2 := by rw [wrap_id (by omega) (by omega)]; exact hq2
    refine W_seq (?_)
    refine u_17 ?_
    simp only [hq2] at hd
    have ct := heldStringS_ok (GG := GG) x.fNames.length q2 (by omega) (by omega)
    obtain ⟨q3, hq3⟩ : ∃ z : Int, q2 + x.fNames.length = z := ⟨_, rfl⟩
    rw [hq3] at ct
    refine W_seq (?_)
    refine u_8 hd hl ct ?_
    clear ct
    simp only [hq3] at hd
    refine W_seq (W_seq (?_))
    refine u_1 ?_
    refine W_cond rfl (fun h4 => ?_) (fun h4 => W_skip ?_)
    · simp at h4; omega
    refine W_seq (W_seq (?_))
    refine u_7 hd hl ?_
    refine W_cond rfl (fun h4 => ?_) (fun h4 => W_skip ?_)
    · simp at h4
    obtain ⟨q4, hq4⟩ : ∃ z : Int, q3 + 1 = z := ⟨_, rfl⟩
    have wq4 : IntKind.i64.wrap (q3 + 1) = q4 := by rw [wrap_id (by omega) (by omega)]; exact hq4
    refine W_seq (?_)
    refine u_18 ?_
    simp only [hq4] at hd
    refine W_seq (W_seq (?_))
    refine u_7 hd hl ?_
    refine W_cond rfl (fun h4 => ?_) (fun h4 => W_skip ?_)
    · simp at h4
    obtain ⟨q5, hq5⟩ : ∃ z : Int, q4 + 1 = z := ⟨_, rfl⟩
    have wq5 : IntKind.i64.wrap (q4 + 1) = q5 := by rw [wrap_id (by omega) (by omega)]; exact hq5
    refine W_seq (?_)
    refine u_19 ?_
    simp only [hq5] at hd
    refine W_seq (W_seq (?_))
    refine u_7 hd hl ?_
    refine W_cond rfl (fun h4 => ?_) (fun h4 => W_skip ?_)
    · simp at h4
    obtain ⟨q6, hq6⟩ : ∃ z : Int, q5 + 1 = z := ⟨_, rfl⟩
    have wq6 : IntKind.i64.wrap (q5 + 1) = q6 := by rw [wrap_id (by omega) (by omega)]; exact hq6
    refine W_seq (?_)
    refine u_20 ?_
    simp only [hq6] at hd
    refine W_seq (W_seq (?_))
    refine u_7 hd hl ?_
    refine W_cond rfl (fun h4 => ?_) (fun h4 => W_skip ?_)
    · simp at h4
    obtain ⟨q7, hq7⟩ : ∃ z : Int, q6 + 1 = z := ⟨_, rfl⟩
    have wq7 : IntKind.i64.wrap (q6 + 1) = q7 := by rw [wrap_id (by omega) (by omega)]; exact hq7
    refine u_21 ?_
    refine u_1 ?_
    refine ⟨a.length - (i + 1), by omega, i + 1, q7, rfl, h, by omega, ?_⟩
    simp [gc, closeN, liveA, gcV, gcO, renA, renO, namesAs, namesA, namesO, posn]
    rw [wrap_id (by omega) (by omega)]
  · simp [hl] at h
    rw [List.take_of_length_le h] at hq
    rw [if_pos rfl]
    refine W_seq (?_)
    refine u_1 ?_
    subst hq
    refine W_ret ?_
    simp [Fin]
    all_goals omega
theorem szForest_g (x : GForest) (l : Int) (hx : x.ok) (h0 : 0 ≤ l ∧ l ≤ 1048576) : Valid PP GG F_L_szForest [.agg x.c, .d (.int .i64 l)] (.d (.int .i64 (leftR x.cost l))) [none, none] := by
  refine v_L_szForest [.d (.int .i64 (leftR x.cost l))] rfl rfl ?_
  have hco : x.cost = (x.fTokens.length + sumBy GToken.cost x.fTokens) := rfl
  unfold GForest.ok maxLen at hx
  obtain ⟨okTokens0, okTokens1⟩ := hx
  generalize x.cost = co at hco
  refine W_seq (?_)
  refine u_1 ?_
  have ct := szTokenS_g (GG := GG) x.fTokens l (by unfold maxLen; omega) okTokens1 ⟨by omega, by omega⟩
  obtain ⟨l1, el1⟩ : ∃ z : Int, leftR (x.fTokens.length + sumBy GToken.cost x.fTokens) l = z := ⟨_, rfl⟩
  rw [el1] at ct
  refine W_seq (?_)
  refine u_10 ct ?_
  clear ct
  refine W_seq (W_seq (?_))
  refine u_1 ?_
  refine W_cond rfl (fun hh0 => W_seq ?_) (fun hh0 => W_skip ?_)
  · refine u_1 ?_
    simp at hh0
    rw [← el1] at hh0
    have hn := leftR_neg (by omega) hh0
    have : leftR co l = -1 := leftR_no (by omega)
    refine W_ret ?_
    simp [Fin, this]
    all_goals omega
  simp at hh0
  rw [← el1] at hh0
  obtain ⟨gl1, jl1⟩ := leftR_pos (Int.not_lt.2 hh0)
  rw [el1] at jl1 hh0
  refine W_seq (?_)
  refine u_1 ?_
  have : leftR co l = l1 := by rw [leftR_yes (by omega)]; omega
  refine W_ret ?_
  simp [Fin, this]
  all_goals omega
theorem toForest_g (x : GForest) (hx : x.cost ≤ 1099511627776) : Valid PP GG F_L_toForest [.agg x.c] (.agg x.o) [none] := by
  refine v_L_toForest [.agg x.o] rfl rfl ?_
  have hco : x.cost = (x.fTokens.length + sumBy GToken.cost x.fTokens) := rfl
  refine W_seq (?_)
  refine u_1 ?_
  refine W_seq (?_)
  refine u_1 ?_
  refine W_seq (?_)
  refine u_10 (toTokenS_g x.fTokens (by omega)) ?_
  refine W_seq (?_)
  refine u_1 ?_
  refine W_ret ?_
  simp [Fin]
  all_goals omega
theorem eqForest_g (x y : GForest) (hx : x.cost ≤ 1099511627776) (hy : y.cost ≤ 1099511627776) : Valid PP GG F_L_eqForest [.agg x.c, .agg y.c] (.d (.bool (decide (x = y)))) [none, none] := by
  refine v_L_eqForest [.d (.bool (decide (x = y)))] rfl rfl ?_
  have hcx : x.cost = (x.fTokens.length + sumBy GToken.cost x.fTokens) := rfl
  have hcy : y.cost = (y.fTokens.length + sumBy GToken.cost y.fTokens) := rfl
  refine W_seq (?_)
  refine u_1 ?_
  refine W_seq (W_seq (?_))
  refine u_10 (eqTokenS_g x.fTokens y.fTokens (by omega) (by omega)) ?_
  refine W_cond rfl (fun h => W_seq ?_) (fun h0 => W_skip ?_)
  · refine u_1 ?_
    have : decide (x = y) = false := by rw [decide_eq_false_iff_not]; intro e; rw [e] at h; simp at h
    refine W_ret ?_
    simp [Fin, this]
    all_goals omega
  refine W_seq (?_)
  refine u_1 ?_
  have : decide (x = y) = true := by
    rw [decide_eq_true_iff]
    cases x; cases y
    simp at h0
    simp_all
  refine W_ret ?_
  simp [Fin, this]
  all_goals omega
theorem markForest_g (x : GForest) (k : Int) (hx : x.cost ≤ 1099511627776) (hk : 0 ≤ k ∧ k + (x.marksIn : Nat) ≤ 140737488355328) :
    Valid PP GG F_L_markForest [.agg x.o, .d (.int .i64 k)] (.d (.int .i64 (k + (x.marksIn : Nat)))) [some (.agg (x.markIn k).o), none] := by
  refine v_L_markForest [.d (.int .i64 (k + (x.marksIn : Nat)))] rfl rfl ?_
  have hco : x.cost = (x.fTokens.length + sumBy GToken.cost x.fTokens) := rfl
  have hms : x.marksIn = sumBy GToken.marks x.fTokens := rfl
  refine W_seq (?_)
  refine u_1 ?_
  have ct := markTokenS_g (GG := GG) x.fTokens k (by omega) (by omega)
  refine W_seq (?_)
  refine u_10 ct ?_
  refine W_seq (?_)
  refine u_1 ?_
  have hfin : (k + ((sumBy GToken.marks x.fTokens : Nat) : Int)) = k + (x.marksIn : Nat) := by omega
  simp only [GForest.markIn]
  refine W_ret ?_
  simp [Fin, hfin]
  all_goals omega
theorem heldForest_g (x : GForest) (k : Int) (hx : x.cost ≤ 1099511627776) (hk : 0 ≤ k ∧ k + (x.marksIn : Nat) ≤ 140737488355328) :
    Valid PP GG F_L_heldForest [.agg (x.markIn k).c, .d (.int .i64 k)] (.d (.int .i64 (k + (x.marksIn : Nat)))) [none, none] := by
  refine v_L_heldForest [.d (.int .i64 (k + (x.marksIn : Nat)))] rfl rfl ?_
  have hco : x.cost = (x.fTokens.length + sumBy GToken.cost x.fTokens) := rfl
  have hms : x.marksIn = sumBy GToken.marks x.fTokens := rfl
  simp only [GForest.markIn]
  refine W_seq (?_)
  refine u_1 ?_
  have ct := heldTokenS_g (GG := GG) x.fTokens k (by omega) (by omega)
  refine W_seq (?_)
  refine u_10 ct ?_
  refine W_seq (W_seq (?_))
  refine u_1 ?_
  refine W_cond rfl (fun h => ?_) (fun h => W_skip ?_)
  · simp at h; omega
  refine W_seq (?_)
  refine u_1 ?_
  have hfin : (k + ((sumBy GToken.marks x.fTokens : Nat) : Int)) = k + (x.marksIn : Nat) := by omega
  refine W_ret ?_
  simp [Fin, hfin]
  all_goals omega
theorem szLease_g (x : GLease) (l : Int) (hx : x.ok) (h0 : 0 ≤ l ∧ l ≤ 1048576) : Valid PP GG F_L_szLease [.agg x.c, .d (.int .i64 l)] (.d (.int .i64 (leftR x.cost l))) [none, none] := by
  refine v_L_szLease [.d (.int .i64 (leftR x.cost l))] rfl rfl ?_
  have hco : x.cost = x.fPath.length := rfl
  unfold GLease.ok maxLen at hx
  obtain ⟨okId0, okToken0, okPath0, okMade0, okEnds0, okLimit0⟩ := hx
  generalize x.cost = co at hco
  refine W_seq (?_)
  refine u_1 ?_
  obtain ⟨l1, el1⟩ : ∃ z : Int, l - x.fPath.length = z := ⟨_, rfl⟩
  have wl1 : IntKind.i64.wrap (l - x.fPath.length) = l1 := by rw [wrap_id (by omega) (by omega)]; exact el1
  refine W_seq (?_)
  refine u_22 ?_
  refine W_seq (W_seq (?_))
  refine u_1 ?_
  refine W_cond rfl (fun hh0 => W_seq ?_) (fun hh0 => W_skip ?_)
  · refine u_1 ?_
    simp at hh0
    have : leftR co l = -1 := leftR_no (by omega)
    refine W_ret ?_
    simp [Fin, this]
    all_goals omega
  simp at hh0
  refine W_seq (?_)
  refine u_1 ?_
  have : leftR co l = l1 := by rw [leftR_yes (by omega)]; omega
  refine W_ret ?_
  simp [Fin, this]
  all_goals omega
theorem szLeaseS_g (a : List GLease) (l : Int) (hlen : a.length ≤ maxLen) (hx : ∀ x, x ∈ a → x.ok) (h0 : 0 ≤ l ∧ l ≤ 1048576) :
    Valid PP GG F_L_szLeaseS [.d (.slc 6 (rLease a)), .d (.int .i64 l)] (.d (.int .i64 (leftR (a.length + sumBy GLease.cost a) l))) [none, none] := by
  refine v_L_szLeaseS [.d (.int .i64 (leftR (a.length + sumBy GLease.cost a) l))] rfl rfl ?_
  unfold maxLen at hlen
  obtain ⟨m, hm⟩ : ∃ z : Int, l - a.length = z := ⟨_, rfl⟩
  have hw : IntKind.i64.wrap (l - a.length) = m := by rw [wrap_id (by omega) (by omega)]; exact hm
  refine W_seq (?_)
  refine u_1 ?_
  refine W_seq (?_)
  refine u_6 hw ?_
  refine W_seq (W_seq (?_))
  refine u_1 ?_
  refine W_cond rfl (fun h => W_seq ?_) (fun h => W_skip ?_)
  · refine u_1 ?_
    simp at h
    have : leftR (a.length + sumBy GLease.cost a) l = -1 := leftR_no (by omega)
    refine W_ret ?_
    simp [Fin, this]
    all_goals omega
  simp at h
  refine W_seq (W_seq (?_))
  refine u_1 ?_
  refine W_block (W_loop (fun n st => ∃ (i : Nat) (v : Int), n = a.length - i ∧ i ≤ a.length ∧ 0 ≤ v ∧ v = m - (sumBy GLease.cost (a.take i) : Nat) ∧
    st = ⟨[], [(0, .d (.slc 6 (rLease a))), (1, .d (.int .i64 v)), (5, .d (.int .i64 i))], [], 0⟩) _ ⟨0, m, rfl, by omega, h, by simp [sumBy], rfl⟩ ?_)
  rintro n st ⟨i, v, rfl, hi, hv, he, rfl⟩
  refine W_seq (W_seq (?_))
  refine u_1 ?_
  refine W_cond rfl (fun h2 => W_skip ?_) (fun h2 => W_exit ?_)
  · simp at h2
    have ha := List.getElem?_eq_getElem h2
    generalize a[i] = x at ha
    have hs := sumBy_succ (f := GLease.cost) ha
    have ht := sumBy_take GLease.cost a (i + 1)
    have ct := szLease_g (GG := GG) x v (hx x (List.mem_of_getElem? ha)) ⟨hv, by omega⟩
    obtain ⟨v2, hv2⟩ : ∃ z : Int, leftR x.cost v = z := ⟨_, rfl⟩
    rw [hv2] at ct
    refine W_seq (W_block (W_seq ?_))
    refine u_13 ha ct ?_
    refine W_seq (?_)
    refine u_1 ?_
    refine W_cond rfl (fun h3 => W_seq ?_) (fun h3 => W_skip ?_)
    · refine u_1 ?_
      simp at h3
      rw [← hv2] at h3
      have hn := leftR_neg (by omega) h3
      have : leftR (a.length + sumBy GLease.cost a) l = -1 := leftR_no (by omega)
      refine W_ret ?_
      simp [Fin, this]
      all_goals omega
    simp at h3
    rw [← hv2] at h3
    obtain ⟨g1, g2⟩ := leftR_pos (Int.not_lt.2 h3)
    rw [hv2] at g2
    refine u_1 ?_
    exact ⟨a.length - (i + 1), by omega, i + 1, v2, rfl, h2, by omega, by omega, by simp [gc, closeN, liveA, gcV, gcO, renA, namesAs, namesA]; rw [wrap_id (by omega) (by omega)]⟩
  · simp at h2
    rw [if_pos rfl]
    rw [List.take_of_length_le h2] at he
    refine W_seq (?_)
    refine u_1 ?_
    have : leftR (a.length + sumBy GLease.cost a) l = v := by rw [leftR_yes (by omega)]; omega
    refine W_ret ?_
    simp [Fin, this]
    all_goals omega
theorem toLease_g (x : GLease) (hx : x.cost ≤ 1099511627776) : Valid PP GG F_L_toLease [.agg x.c] (.agg x.o) [none] := by
  refine v_L_toLease [.agg x.o] rfl rfl ?_
  have hco : x.cost = x.fPath.length := rfl
  refine W_seq (?_)
  refine u_1 ?_
  refine W_seq (?_)
  refine u_1 ?_
  refine W_seq (?_)
  refine u_1 ?_
  refine W_seq (?_)
  refine u_1 ?_
  refine W_seq (?_)
  refine u_1 ?_
  refine W_seq (?_)
  refine u_1 ?_
  refine W_seq (?_)
  refine u_1 ?_
  refine W_seq (?_)
  refine u_1 ?_
  refine W_seq (?_)
  refine u_1 ?_
  refine W_ret ?_
  simp [Fin]
  all_goals omega
theorem toLeaseS_g (a : List GLease) (hx : a.length + sumBy GLease.cost a ≤ 1099511627776) : Valid PP GG F_L_toLeaseS [.d (.slc 6 (rLease a))] (.own 0 6 (rLease a)) [none] := by
  refine v_L_toLeaseS [.own 0 6 (rLease a)] rfl rfl ?_
  refine W_seq (?_)
  refine u_1 ?_
  refine W_seq (?_)
  refine u_3 ?_
  refine W_seq (W_seq (?_))
  refine u_1 ?_
  refine W_block (W_loop (fun n st => ∃ (i : Nat) (R : List (List D)), n = a.length - i ∧ i ≤ a.length ∧ R.length = a.length ∧ (∀ r, r ∈ R → r.length = 6) ∧ R.take i = rLease (a.take i) ∧
    st = ⟨[], [(0, .d (.slc 6 (rLease a))), (3, .sl 0), (4, .d (.int .i64 i))], [(0, .arr 0 0 6 R)], 1⟩) _ ⟨0, List.replicate a.length [.int .i64 0, .int .i64 0, .str [], .int .i64 0, .int .i64 0, .int .i64 0], rfl, by omega, by simp, by intro r hr; rw [List.eq_of_mem_replicate hr]; rfl, rfl, rfl⟩ ?_)
  rintro n st ⟨i, R, rfl, hi, hl, h1, hR, rfl⟩
  refine W_seq (W_seq (?_))
  refine u_1 ?_
  refine W_cond rfl (fun h => W_skip ?_) (fun h => W_exit ?_)
  · simp at h
    have ha := List.getElem?_eq_getElem h
    generalize a[i] = x at ha
    have hg := sumBy_get (f := GLease.cost) ha
    obtain ⟨y0, y1, y2, y3, y4, y5, hd⟩ := rows6 h1 (show i < R.length by omega)
    refine W_seq (W_block ?_)
    refine u_15 ha hd hl (toLease_g x (by omega)) ?_
    refine u_1 ?_
    exact ⟨a.length - (i + 1), by omega, i + 1, R.set i x.row, rfl, h, by simpa using hl, set6 h1 rfl, by rw [take_set_succ (by omega), hR, List.take_add_one, ha, rLease_app]; rfl,
      by simp [gc, closeN, liveA, gcV, gcO, renA, renO, namesAs, namesA, namesO, posn]; rw [wrap_id (by omega) (by omega)]⟩
  · simp at h
    have e : R = rLease a := by rwa [List.take_of_length_le (by omega), List.take_of_length_le (by omega)] at hR
    subst e
    rw [if_pos rfl]
    refine W_seq (?_)
    refine u_1 ?_
    refine W_ret ?_
    simp [Fin]
    all_goals omega
theorem eqLease_g (x y : GLease) (hx : x.cost ≤ 1099511627776) (hy : y.cost ≤ 1099511627776) : Valid PP GG F_L_eqLease [.agg x.c, .agg y.c] (.d (.bool (decide (x = y)))) [none, none] := by
  refine v_L_eqLease [.d (.bool (decide (x = y)))] rfl rfl ?_
  have hcx : x.cost = x.fPath.length := rfl
  have hcy : y.cost = y.fPath.length := rfl
  refine W_seq (?_)
  refine u_1 ?_
  refine W_seq (W_seq (?_))
  refine u_1 ?_
  refine W_cond rfl (fun h => W_seq ?_) (fun h0 => W_skip ?_)
  · refine u_1 ?_
    have : decide (x = y) = false := by rw [decide_eq_false_iff_not]; intro e; rw [e] at h; simp at h
    refine W_ret ?_
    simp [Fin, this]
    all_goals omega
  refine W_seq (W_seq (?_))
  refine u_1 ?_
  refine W_cond rfl (fun h => W_seq ?_) (fun h1 => W_skip ?_)
  · refine u_1 ?_
    have : decide (x = y) = false := by rw [decide_eq_false_iff_not]; intro e; rw [e] at h; simp at h
    refine W_ret ?_
    simp [Fin, this]
    all_goals omega
  refine W_seq (W_seq (?_))
  refine u_1 ?_
  refine W_cond rfl (fun h => W_seq ?_) (fun h2 => W_skip ?_)
  · refine u_1 ?_
    have : decide (x = y) = false := by rw [decide_eq_false_iff_not]; intro e; rw [e] at h; simp at h
    refine W_ret ?_
    simp [Fin, this]
    all_goals omega
  refine W_seq (W_seq (?_))
  refine u_1 ?_
  refine W_cond rfl (fun h => W_seq ?_) (fun h3 => W_skip ?_)
  · refine u_1 ?_
    have : decide (x = y) = false := by rw [decide_eq_false_iff_not]; intro e; rw [e] at h; simp at h
    refine W_ret ?_
    simp [Fin, this]
    all_goals omega
  refine W_seq (W_seq (?_))
  refine u_1 ?_
  refine W_cond rfl (fun h => W_seq ?_) (fun h4 => W_skip ?_)
  · refine u_1 ?_
    have : decide (x = y) = false := by rw [decide_eq_false_iff_not]; intro e; rw [e] at h; simp at h
    refine W_ret ?_
    simp [Fin, this]
    all_goals omega
  refine W_seq (W_seq (?_))
  refine u_1 ?_
  refine W_cond rfl (fun h => W_seq ?_) (fun h5 => W_skip ?_)
  · refine u_1 ?_
    have : decide (x = y) = false := by rw [decide_eq_false_iff_not]; intro e; rw [e] at h; simp at h
    refine W_ret ?_
    simp [Fin, this]
    all_goals omega
  refine W_seq (?_)
  refine u_1 ?_
  have : decide (x = y) = true := by
    rw [decide_eq_true_iff]
    cases x; cases y
    simp at h0 h1 h2 h3 h4 h5
    simp_all
  refine W_ret ?_
  simp [Fin, this]
  all_goals omega
theorem eqLeaseS_g (a b : List GLease) (hx : a.length + sumBy GLease.cost a ≤ 1099511627776) (hy : b.length + sumBy GLease.cost b ≤ 1099511627776) : Valid PP GG F_L_eqLeaseS [.d (.slc 6 (rLease a)), .d (.slc 6 (rLease b))] (.d (.bool (decide (a = b)))) [none, none] := by
  refine v_L_eqLeaseS [.d (.bool (decide (a = b)))] rfl rfl ?_
  refine W_seq (?_)
  refine u_1 ?_
  refine W_seq (W_seq (?_))
  refine u_1 ?_
  refine W_cond rfl (fun h => W_seq ?_) (fun hlen => W_skip ?_)
  · refine u_1 ?_
    have : decide (a = b) = false := by rw [decide_eq_false_iff_not]; intro e; subst e; simp at h
    refine W_ret ?_
    simp [Fin, this]
    all_goals omega
  refine W_seq (W_seq (?_))
  simp at hlen
  refine u_1 ?_
  refine W_block (W_loop (fun n st => ∃ i : Nat, n = a.length - i ∧ i ≤ a.length ∧ a.take i = b.take i ∧ st = ⟨[], [(0, .d (.slc 6 (rLease a))), (1, .d (.slc 6 (rLease b))), (5, .d (.int .i64 i))], [], 0⟩) _ ⟨0, rfl, by omega, rfl, rfl⟩ ?_)
  rintro n st ⟨i, rfl, hi, he, rfl⟩
  refine W_seq (W_seq (?_))
  refine u_1 ?_
  refine W_cond rfl (fun h => W_skip ?_) (fun h => W_exit ?_)
  · simp at h
    have ha := List.getElem?_eq_getElem h
    have hb := List.getElem?_eq_getElem (show i < b.length by omega)
    generalize a[i] = x at ha
    generalize b[i]'_ = y at hb
    have ga := sumBy_get (f := GLease.cost) ha
    have gb := sumBy_get (f := GLease.cost) hb
    refine W_seq (W_block (W_seq ?_))
    refine u_9 ha hb (eqLease_g x y (by omega) (by omega)) ?_
    refine W_cond rfl (fun h2 => W_seq ?_) (fun h2 => W_skip ?_)
    · refine u_1 ?_
      have : decide (a = b) = false := by rw [decide_eq_false_iff_not]; intro e; subst e; rw [ha] at hb; cases hb; simp at h2
      refine W_ret ?_
      simp [Fin, this]
      all_goals omega
    refine u_1 ?_
    have hxy : x = y := by simpa using h2
    subst hxy
    exact ⟨a.length - (i + 1), by omega, i + 1, rfl, h, take_succ_eq he ha hb, by simp [gc, closeN, liveA, gcV, gcO, renA, namesAs, namesA]; rw [wrap_id (by omega) (by omega)]⟩
  · simp at h
    rw [if_pos rfl]
    refine W_seq (?_)
    refine u_1 ?_
    have : decide (a = b) = true := by
      rw [decide_eq_true_iff]
      rwa [List.take_of_length_le h, List.take_of_length_le (by omega)] at he
    refine W_ret ?_
    simp [Fin, this]
    all_goals omega
theorem markLeaseS_g (a : List GLease) (k : Int) (hx : a.length + sumBy GLease.cost a ≤ 1099511627776) (hk : 0 ≤ k ∧ k + (sumBy GLease.marks a : Nat) ≤ 140737488355328) :
    Valid PP GG F_L_markLeaseS [.own 0 6 (rLease a), .d (.int .i64 k)] (.d (.int .i64 (k + (sumBy GLease.marks a : Nat)))) [some (.own 0 6 (rLease (markL GLease.mark GLease.marks a k))), none] := by
  refine v_L_markLeaseS [.d (.int .i64 (k + (sumBy GLease.marks a : Nat)))] rfl rfl ?_
  have hml := sumBy_le GLease.marks_le a
  refine W_seq (?_)
  refine u_1 ?_
  refine W_seq (W_seq (?_))
  refine u_1 ?_
  refine W_block (W_loop (fun n st => ∃ (i : Nat) (R : List (List D)) (q : Int), n = a.length - i ∧ i ≤ a.length ∧ R = rLease (markL GLease.mark GLease.marks (a.take i) k ++ a.drop i) ∧ q = k + (sumBy GLease.marks (a.take i) : Nat) ∧
    st = ⟨[], [(0, .sl 0), (1, .d (.int .i64 q)), (5, .d (.int .i64 i))], [(0, .arr 0 0 6 R)], 1⟩) _ ⟨0, rLease a, k, rfl, by omega, rfl, by simp [sumBy], by simp [gc, closeN, liveA, gcV, gcO, renA, renO, namesAs, namesA, namesO, posn]⟩ ?_)
  rintro n st ⟨i, R, q, rfl, hi, hR, hq, rfl⟩
  have hl : R.length = a.length := by rw [hR]; simp [markL_len]; omega
  refine W_seq (W_seq (?_))
  refine u_1 ?_
  refine W_cond rfl (fun h => W_skip ?_) (fun h => W_exit ?_)
  · simp [hl] at h
    have ha := List.getElem?_eq_getElem h
    generalize a[i] = x at ha
    have hg := sumBy_get (f := GLease.cost) ha
    have hs := sumBy_succ (f := GLease.marks) ha
    have ht := sumBy_take GLease.marks a (i + 1)
    have hsucc : R.set i (x.mark q).row = rLease (markL GLease.mark GLease.marks (a.take (i + 1)) k ++ a.drop (i + 1)) := by
      rw [hR, drop_get ha, rLease_app]
      show (rLease (markL GLease.mark GLease.marks (a.take i) k) ++ x.row :: rLease (a.drop (i + 1))).set i (x.mark q).row = _
      rw [set_mid (by simp [markL_len]; omega), markL_succ k ha, rLease_app, rLease_app, hq]; rfl
    have hd : R[i]? = some x.row := by
      rw [hR, drop_get ha, rLease_app]
      exact mid_get (by simp [markL_len]; omega)
    have hset := fun y => set_get hd y
    have hme : x.mark q = { fId := q, fToken := q + 1, fPath := markT (q + 1 + 1), fMade := q + 1 + 1 + 1, fEnds := q + 1 + 1 + 1 + 1, fLimit := q + 1 + 1 + 1 + 1 + 1 } := rfl
    have hms : x.marks = 1 + 1 + 1 + 1 + 1 + 1 := rfl
    have hco : x.cost = x.fPath.length := rfl
    clear hR
    refine W_seq (W_block (W_seq ?_))
    simp only [GLease.row] at hd
    refine u_4 hd hset hl ?_
    obtain ⟨q1, hq1⟩ : ∃ z : Int, q + 1 = z := ⟨_, rfl⟩
    have wq1 : IntKind.i64.wrap (q + 1) = q1 := by rw [wrap_id (by omega) (by omega)]; exact hq1
    refine W_seq (?_)
    refine u_16 ?_
    refine W_seq (?_)
    refine u_4 hd hset hl ?_
    obtain ⟨q2, hq2⟩ : ∃ z : Int, q1 + 1 = z := ⟨_, rfl⟩
    have wq2 : IntKind.i64.wrap (q1 + 1) = q2 := by rw [wrap_id (by omega) (by omega)]; exact hq2
    refine W_seq (?_)
    refine u_17 ?_
    refine W_seq (?_)
    refine u_15 hd hset hl (markText_ok q2 (by omega)) ?_
    obtain ⟨q3, hq3⟩ : ∃ z : Int, q2 + 1 = z := ⟨_, rfl⟩
    have wq3 : IntKind.i64.wrap (q2 + 1) = q3 := by rw [wrap_id (by omega) (by omega)]; exact hq3
    refine W_seq (?_)
    refine u_23 ?_
    refine W_seq (?_)
    refine u_4 hd hset hl ?_
    obtain ⟨q4, hq4⟩ : ∃ z : Int, q3 + 1 = z := ⟨_, rfl⟩
    have wq4 : IntKind.i64.wrap (q3 + 1) = q4 := by rw [wrap_id (by omega) (by omega)]; exact hq4
    refine W_seq (?_)
    refine u_18 ?_
    refine W_seq (?_)
    refine u_4 hd hset hl ?_
    obtain ⟨q5, hq5⟩ : ∃ z : Int, q4 + 1 = z := ⟨_, rfl⟩
    have wq5 : IntKind.i64.wrap (q4 + 1) = q5 := by rw [wrap_id (by omega) (by omega)]; exact hq5
    refine W_seq (?_)
    refine u_19 ?_
    refine W_seq (?_)
    refine u_4 hd hset hl ?_
    obtain ⟨q6, hq6⟩ : ∃ z : Int, q5 + 1 = z := ⟨_, rfl⟩
    have wq6 : IntKind.i64.wrap (q5 + 1) = q6 := by rw [wrap_id (by omega) (by omega)]; exact hq6
    refine u_20 ?_
    refine u_1 ?_
    refine ⟨a.length - (i + 1), by omega, i + 1, R.set i (x.mark q).row, q6, rfl, h, hsucc, by omega, ?_⟩
    simp [gc, closeN, liveA, gcV, gcO, renA, renO, namesAs, namesA, namesO, posn]
    refine ⟨wrap_id (by omega) (by omega), ?_⟩
    simp only [hme, hq1, hq2, hq3, hq4, hq5, hq6]
  · simp [hl] at h
    have e : R = rLease (markL GLease.mark GLease.marks a k) := by
      rw [List.take_of_length_le h, List.drop_eq_nil_of_le h] at hR; simpa using hR
    rw [List.take_of_length_le h] at hq
    subst e
    rw [if_pos rfl]
    refine W_seq (?_)
    refine u_1 ?_
    subst hq
    refine W_ret ?_
    simp [Fin]
    all_goals omega
theorem heldLeaseS_g (a : List GLease) (k : Int) (hx : a.length + sumBy GLease.cost a ≤ 1099511627776) (hk : 0 ≤ k ∧ k + (sumBy GLease.marks a : Nat) ≤ 140737488355328) :
    Valid PP GG F_L_heldLeaseS [.d (.slc 6 (rLease (markL GLease.mark GLease.marks a k))), .d (.int .i64 k)] (.d (.int .i64 (k + (sumBy GLease.marks a : Nat)))) [none, none] := by
  refine v_L_heldLeaseS [.d (.int .i64 (k + (sumBy GLease.marks a : Nat)))] rfl rfl ?_
  have hl : (rLease (markL GLease.mark GLease.marks a k)).length = a.length := by simp [markL_len]
  have hget : ∀ (i : Nat) x, a[i]? = some x → (rLease (markL GLease.mark GLease.marks a k))[i]? = some (x.mark (k + (sumBy GLease.marks (a.take i) : Nat))).row := fun i x h => by rw [rLease_get, markL_get k h]; rfl
  generalize rLease (markL GLease.mark GLease.marks a k) = B at hl hget ⊢
  refine W_seq (?_)
  refine u_1 ?_
  refine W_seq (W_seq (?_))
  refine u_1 ?_
  refine W_block (W_loop (fun n st => ∃ (i : Nat) (q : Int), n = a.length - i ∧ i ≤ a.length ∧ q = k + (sumBy GLease.marks (a.take i) : Nat) ∧
    st = ⟨[], [(0, .d (.slc 6 B)), (1, .d (.int .i64 q)), (5, .d (.int .i64 i))], [], 0⟩) _ ⟨0, k, rfl, by omega, by simp [sumBy], by simp [gc, closeN, liveA, gcV, gcO, renA, renO, namesAs, namesA, namesO, posn]⟩ ?_)
  rintro n st ⟨i, q, rfl, hi, hq, rfl⟩
  refine W_seq (W_seq (?_))
  refine u_1 ?_
  refine W_cond rfl (fun h => W_skip ?_) (fun h => W_exit ?_)
  · simp [hl] at h
    have ha := List.getElem?_eq_getElem h
    generalize a[i] = x at ha
    have hg := sumBy_get (f := GLease.cost) ha
    have hs := sumBy_succ (f := GLease.marks) ha
    have ht := sumBy_take GLease.marks a (i + 1)
    have hd := hget i x ha
    rw [← hq] at hd
    have hco : x.cost = x.fPath.length := rfl
    have hms : x.marks = 1 + 1 + 1 + 1 + 1 + 1 := rfl
    simp only [GLease.row, GLease.mark] at hd
    refine W_seq (W_block ?_)
    refine W_seq (W_seq (?_))
    refine u_7 hd hl ?_
    refine W_cond rfl (fun h4 => ?_) (fun h4 => W_skip ?_)
    · simp at h4
    obtain ⟨q1, hq1⟩ : ∃ z : Int, q + 1 = z := ⟨_, rfl⟩
    have wq1 : IntKind.i64.wrap (q + 1) = q1 := by rw [wrap_id (by omega) (by omega)]; exact hq1
    refine W_seq (?_)
    refine u_16 ?_
    simp only [hq1] at hd
    refine W_seq (W_seq (?_))
    refine u_7 hd hl ?_
    refine W_cond rfl (fun h4 => ?_) (fun h4 => W_skip ?_)
    · simp at h4
    obtain ⟨q2, hq2⟩ : ∃ z : Int, q1 + 1 = z := ⟨_, rfl⟩
    have wq2 : IntKind.i64.wrap (q1 + 1) = q2 := by rw [wrap_id (by omega) (by omega)]; exact hq2
    refine W_seq (?_)
    refine u_17 ?_
    simp only [hq2] at hd
    refine W_seq (W_seq (?_))
    refine u_9 hd hl (markText_ok q2 (by omega)) ?_
    refine W_cond rfl (fun h4 => ?_) (fun h4 => W_skip ?_)
    · simp at h4
    obtain ⟨q3, hq3⟩ : ∃ z : Int, q2 + 1 = z := ⟨_, rfl⟩
    have wq3 : IntKind.i64.wrap (q2 + 1) = q3 := by rw [wrap_id (by omega) (by omega)]; exact hq3
    refine W_seq (?_)
    refine u_23 ?_
    simp only [hq3] at hd
    refine W_seq (W_seq (?_))
    refine u_7 hd hl ?_
    refine W_cond rfl (fun h4 => ?_) (fun h4 => W_skip ?_)
    · simp at h4
    obtain ⟨q4, hq4⟩ : ∃ z : Int, q3 + 1 = z := ⟨_, rfl⟩
    have wq4 : IntKind.i64.wrap (q3 + 1) = q4 := by rw [wrap_id (by omega) (by omega)]; exact hq4
    refine W_seq (?_)
    refine u_18 ?_
    simp only [hq4] at hd
    refine W_seq (W_seq (?_))
    refine u_7 hd hl ?_
    refine W_cond rfl (fun h4 => ?_) (fun h4 => W_skip ?_)
    · simp at h4
    obtain ⟨q5, hq5⟩ : ∃ z : Int, q4 + 1 = z := ⟨_, rfl⟩
    have wq5 : IntKind.i64.wrap (q4 + 1) = q5 := by rw [wrap_id (by omega) (by omega)]; exact hq5
    refine W_seq (?_)
    refine u_19 ?_
    simp only [hq5] at hd
    refine W_seq (W_seq (?_))
    refine u_7 hd hl ?_
    refine W_cond rfl (fun h4 => ?_) (fun h4 => W_skip ?_)
    · simp at h4
    obtain ⟨q6, hq6⟩ : ∃ z : Int, q5 + 1 = z := ⟨_, rfl⟩
    have wq6 : IntKind.i64.wrap (q5 + 1) = q6 := by rw [wrap_id (by omega) (by omega)]; exact hq6
    refine u_20 ?_
    refine u_1 ?_
    refine ⟨a.length - (i + 1), by omega, i + 1, q6, rfl, h, by omega, ?_⟩
    simp [gc, closeN, liveA, gcV, gcO, renA, renO, namesAs, namesA, namesO, posn]
    rw [wrap_id (by omega) (by omega)]
  · simp [hl] at h
    rw [List.take_of_length_le h] at hq
    rw [if_pos rfl]
    refine W_seq (?_)
    refine u_1 ?_
    subst hq
    refine W_ret ?_
    simp [Fin]
    all_goals omega
theorem szBook_g (x : GBook) (l : Int) (hx : x.ok) (h0 : 0 ≤ l ∧ l ≤ 1048576) : Valid PP GG F_L_szBook [.agg x.c, .d (.int .i64 l)] (.d (.int .i64 (leftR x.cost l))) [none, none] := by
  refine v_L_szBook [.d (.int .i64 (leftR x.cost l))] rfl rfl ?_
  have hco : x.cost = (x.fLeases.length + sumBy GLease.cost x.fLeases) := rfl
  unfold GBook.ok maxLen at hx
  obtain ⟨okLeases0, okLeases1⟩ := hx
  generalize x.cost = co at hco
  refine W_seq (?_)
  refine u_1 ?_
  have ct := szLeaseS_g (GG := GG) x.fLeases l (by unfold maxLen; omega) okLeases1 ⟨by omega, by omega⟩
  obtain ⟨l1, el1⟩ : ∃ z : Int, leftR (x.fLeases.length + sumBy GLease.cost x.fLeases) l = z := ⟨_, rfl⟩
  rw [el1] at ct
  refine W_seq (?_)
  refine u_10 ct ?_
  clear ct
  refine W_seq (W_seq (?_))
  refine u_1 ?_
  refine W_cond rfl (fun hh0 => W_seq ?_) (fun hh0 => W_skip ?_)
  · refine u_1 ?_
    simp at hh0
    rw [← el1] at hh0
    have hn := leftR_neg (by omega) hh0
    have : leftR co l = -1 := leftR_no (by omega)
    refine W_ret ?_
    simp [Fin, this]
    all_goals omega
  simp at hh0
  rw [← el1] at hh0
  obtain ⟨gl1, jl1⟩ := leftR_pos (Int.not_lt.2 hh0)
  rw [el1] at jl1 hh0
  refine W_seq (?_)
  refine u_1 ?_
  have : leftR co l = l1 := by rw [leftR_yes (by omega)]; omega
  refine W_ret ?_
  simp [Fin, this]
  all_goals omega
theorem toBook_g (x : GBook) (hx : x.cost ≤ 1099511627776) : Valid PP GG F_L_toBook [.agg x.c] (.agg x.o) [none] := by
  refine v_L_toBook [.agg x.o] rfl rfl ?_
  have hco : x.cost = (x.fLeases.length + sumBy GLease.cost x.fLeases) := rfl
  refine W_seq (?_)
  refine u_1 ?_
  refine W_seq (?_)
  refine u_1 ?_
  refine W_seq (?_)
  refine u_10 (toLeaseS_g x.fLeases (by omega)) ?_
  refine W_seq (?_)
  refine u_1 ?_
  refine W_ret ?_
  simp [Fin]
  all_goals omega
theorem eqBook_g (x y : GBook) (hx : x.cost ≤ 1099511627776) (hy : y.cost ≤ 1099511627776) : Valid PP GG F_L_eqBook [.agg x.c, .agg y.c] (.d (.bool (decide (x = y)))) [none, none] := by
  refine v_L_eqBook [.d (.bool (decide (x = y)))] rfl rfl ?_
  have hcx : x.cost = (x.fLeases.length + sumBy GLease.cost x.fLeases) := rfl
  have hcy : y.cost = (y.fLeases.length + sumBy GLease.cost y.fLeases) := rfl
  refine W_seq (?_)
  refine u_1 ?_
  refine W_seq (W_seq (?_))
  refine u_10 (eqLeaseS_g x.fLeases y.fLeases (by omega) (by omega)) ?_
  refine W_cond rfl (fun h => W_seq ?_) (fun h0 => W_skip ?_)
  · refine u_1 ?_
    have : decide (x = y) = false := by rw [decide_eq_false_iff_not]; intro e; rw [e] at h; simp at h
    refine W_ret ?_
    simp [Fin, this]
    all_goals omega
  refine W_seq (?_)
  refine u_1 ?_
  have : decide (x = y) = true := by
    rw [decide_eq_true_iff]
    cases x; cases y
    simp at h0
    simp_all
  refine W_ret ?_
  simp [Fin, this]
  all_goals omega
theorem markBook_g (x : GBook) (k : Int) (hx : x.cost ≤ 1099511627776) (hk : 0 ≤ k ∧ k + (x.marksIn : Nat) ≤ 140737488355328) :
    Valid PP GG F_L_markBook [.agg x.o, .d (.int .i64 k)] (.d (.int .i64 (k + (x.marksIn : Nat)))) [some (.agg (x.markIn k).o), none] := by
  refine v_L_markBook [.d (.int .i64 (k + (x.marksIn : Nat)))] rfl rfl ?_
  have hco : x.cost = (x.fLeases.length + sumBy GLease.cost x.fLeases) := rfl
  have hms : x.marksIn = sumBy GLease.marks x.fLeases := rfl
  refine W_seq (?_)
  refine u_1 ?_
  have ct := markLeaseS_g (GG := GG) x.fLeases k (by omega) (by omega)
  refine W_seq (?_)
  refine u_10 ct ?_
  refine W_seq (?_)
  refine u_1 ?_
  have hfin : (k + ((sumBy GLease.marks x.fLeases : Nat) : Int)) = k + (x.marksIn : Nat) := by omega
  simp only [GBook.markIn]
  refine W_ret ?_
  simp [Fin, hfin]
  all_goals omega
theorem heldBook_g (x : GBook) (k : Int) (hx : x.cost ≤ 1099511627776) (hk : 0 ≤ k ∧ k + (x.marksIn : Nat) ≤ 140737488355328) :
    Valid PP GG F_L_heldBook [.agg (x.markIn k).c, .d (.int .i64 k)] (.d (.int .i64 (k + (x.marksIn : Nat)))) [none, none] := by
  refine v_L_heldBook [.d (.int .i64 (k + (x.marksIn : Nat)))] rfl rfl ?_
  have hco : x.cost = (x.fLeases.length + sumBy GLease.cost x.fLeases) := rfl
  have hms : x.marksIn = sumBy GLease.marks x.fLeases := rfl
  simp only [GBook.markIn]
  refine W_seq (?_)
  refine u_1 ?_
  have ct := heldLeaseS_g (GG := GG) x.fLeases k (by omega) (by omega)
  refine W_seq (?_)
  refine u_10 ct ?_
  refine W_seq (W_seq (?_))
  refine u_1 ?_
  refine W_cond rfl (fun h => ?_) (fun h => W_skip ?_)
  · simp at h; omega
  refine W_seq (?_)
  refine u_1 ?_
  have hfin : (k + ((sumBy GLease.marks x.fLeases : Nat) : Int)) = k + (x.marksIn : Nat) := by omega
  refine W_ret ?_
  simp [Fin, hfin]
  all_goals omega
theorem szUser_g (x : GUser) (l : Int) (hx : x.ok) (h0 : 0 ≤ l ∧ l ≤ 1048576) : Valid PP GG F_L_szUser [.agg x.c, .d (.int .i64 l)] (.d (.int .i64 (leftR x.cost l))) [none, none] := by
  refine v_L_szUser [.d (.int .i64 (leftR x.cost l))] rfl rfl ?_
  have hco : x.cost = x.fName.length + x.fPass.length := rfl
  unfold GUser.ok maxLen at hx
  obtain ⟨okName0, okPass0⟩ := hx
  generalize x.cost = co at hco
  refine W_seq (?_)
  refine u_1 ?_
  obtain ⟨l1, el1⟩ : ∃ z : Int, l - x.fName.length = z := ⟨_, rfl⟩
  have wl1 : IntKind.i64.wrap (l - x.fName.length) = l1 := by rw [wrap_id (by omega) (by omega)]; exact el1
  refine W_seq (?_)
  refine u_22 ?_
  refine W_seq (W_seq (?_))
  refine u_1 ?_
  refine W_cond rfl (fun hh0 => W_seq ?_) (fun hh0 => W_skip ?_)
  · refine u_1 ?_
    simp at hh0
    have : leftR co l = -1 := leftR_no (by omega)
    refine W_ret ?_
    simp [Fin, this]
    all_goals omega
  simp at hh0
  obtain ⟨l2, el2⟩ : ∃ z : Int, l1 - x.fPass.length = z := ⟨_, rfl⟩
  have wl2 : IntKind.i64.wrap (l1 - x.fPass.length) = l2 := by rw [wrap_id (by omega) (by omega)]; exact el2
  refine W_seq (?_)
  apply W_regS
  · intro K hK
    simp [wl2]
    repeat' (first | with_reducible exact hK | (with_reducible refine goL_split (fun _ => ?_) (fun _ => ?_) <;> simp [wl2]) | with_reducible refine And.intro ?_ ?_ | with_reducible exact okay_rfl rfl | with_reducible assumption | omega)
  refine W_seq (W_seq (?_))
  refine u_1 ?_
  refine W_cond rfl (fun hh1 => W_seq ?_) (fun hh1 => W_skip ?_)
  · refine u_1 ?_
    simp at hh1
    have : leftR co l = -1 := leftR_no (by omega)
    refine W_ret ?_
    simp [Fin, this]
    all_goals omega
  simp at hh1
  refine W_seq (?_)
  refine u_1 ?_
  have : leftR co l = l2 := by rw [leftR_yes (by omega)]; omega
  refine W_ret ?_
  simp [Fin, this]
  all_goals omega
theorem szUserS_g (a : List GUser) (l : Int) (hlen : a.length ≤ maxLen) (hx : ∀ x, x ∈ a → x.ok) (h0 : 0 ≤ l ∧ l ≤ 1048576) :
    Valid PP GG F_L_szUserS [.d (.slc 2 (rUser a)), .d (.int .i64 l)] (.d (.int .i64 (leftR (a.length + sumBy GUser.cost a) l))) [none, none] := by
  refine v_L_szUserS [.d (.int .i64 (leftR (a.length + sumBy GUser.cost a) l))] rfl rfl ?_
  unfold maxLen at hlen
  obtain ⟨m, hm⟩ : ∃ z : Int, l - a.length = z := ⟨_, rfl⟩
  have hw : IntKind.i64.wrap (l - a.length) = m := by rw [wrap_id (by omega) (by omega)]; exact hm
  refine W_seq (?_)
  refine u_1 ?_
  refine W_seq (?_)
  refine u_6 hw ?_
  refine W_seq (W_seq (?_))
  refine u_1 ?_
  refine W_cond rfl (fun h => W_seq ?_) (fun h => W_skip ?_)
  · refine u_1 ?_
    simp at h
    have : leftR (a.length + sumBy GUser.cost a) l = -1 := leftR_no (by omega)
    refine W_ret ?_
    simp [Fin, this]
    all_goals omega
  simp at h
  refine W_seq (W_seq (?_))
  refine u_1 ?_
  refine W_block (W_loop (fun n st => ∃ (i : Nat) (v : Int), n = a.length - i ∧ i ≤ a.length ∧ 0 ≤ v ∧ v = m - (sumBy GUser.cost (a.take i) : Nat) ∧
    st = ⟨[], [(0, .d (.slc 2 (rUser a))), (1, .d (.int .i64 v)), (5, .d (.int .i64 i))], [], 0⟩) _ ⟨0, m, rfl, by omega, h, by simp [sumBy], rfl⟩ ?_)
  rintro n st ⟨i, v, rfl, hi, hv, he, rfl⟩
  refine W_seq (W_seq (?_))
  refine u_1 ?_
  refine W_cond rfl (fun h2 => W_skip ?_) (fun h2 => W_exit ?_)
  · simp at h2
    have ha := List.getElem?_eq_getElem h2
    generalize a[i] = x at ha
    have hs := sumBy_succ (f := GUser.cost) ha
    have ht := sumBy_take GUser.cost a (i + 1)
    have ct := szUser_g (GG := GG) x v (hx x (List.mem_of_getElem? ha)) ⟨hv, by omega⟩
    obtain ⟨v2, hv2⟩ : ∃ z : Int, leftR x.cost v = z := ⟨_, rfl⟩
    rw [hv2] at ct
    refine W_seq (W_block (W_seq ?_))
    refine u_13 ha ct ?_
    refine W_seq (?_)
    refine u_1 ?_
    refine W_cond rfl (fun h3 => W_seq ?_) (fun h3 => W_skip ?_)
    · refine u_1 ?_
      simp at h3
      rw [← hv2] at h3
      have hn := leftR_neg (by omega) h3
      have : leftR (a.length + sumBy GUser.cost a) l = -1 := leftR_no (by omega)
      refine W_ret ?_
      simp [Fin, this]
      all_goals omega
    simp at h3
    rw [← hv2] at h3
    obtain ⟨g1, g2⟩ := leftR_pos (Int.not_lt.2 h3)
    rw [hv2] at g2
    refine u_1 ?_
    exact ⟨a.length - (i + 1), by omega, i + 1, v2, rfl, h2, by omega, by omega, by simp [gc, closeN, liveA, gcV, gcO, renA, namesAs, namesA]; rw [wrap_id (by omega) (by omega)]⟩
  · simp at h2
    rw [if_pos rfl]
    rw [List.take_of_length_le h2] at he
    refine W_seq (?_)
    refine u_1 ?_
    have : leftR (a.length + sumBy GUser.cost a) l = v := by rw [leftR_yes (by omega)]; omega
    refine W_ret ?_
    simp [Fin, this]
    all_goals omega
theorem toUser_g (x : GUser) (hx : x.cost ≤ 1099511627776) : Valid PP GG F_L_toUser [.agg x.c] (.agg x.o) [none] := by
  refine v_L_toUser [.agg x.o] rfl rfl ?_
  have hco : x.cost = x.fName.length + x.fPass.length := rfl
  refine W_seq (?_)
  refine u_1 ?_
  refine W_seq (?_)
  refine u_1 ?_
  refine W_seq (?_)
  refine u_1 ?_
  refine W_seq (?_)
  refine u_1 ?_
  refine W_seq (?_)
  refine u_1 ?_
  refine W_ret ?_
  simp [Fin]
  all_goals omega
theorem rows2 {R : List (List D)} {i : Nat} (h : ∀ r, r ∈ R → r.length = 2) (hi : i < R.length) : ∃ y0 y1, R[i]? = some [y0, y1] := by
  have h1 := h _ (List.getElem_mem hi)
  have h2 := List.getElem?_eq_getElem hi
  generalize R[i] = r at h1 h2
  match r, h1 with
  | [y0, y1], _ => exact ⟨y0, y1, h2⟩
theorem set2 {R : List (List D)} {i : Nat} {row : List D} (h : ∀ r, r ∈ R → r.length = 2) (hr : row.length = 2) : ∀ r, r ∈ R.set i row → r.length = 2 := by
  intro r hm
  rcases List.mem_or_eq_of_mem_set hm with hm | rfl
  · exact h r hm
  · exact hr
theorem toUserS_g (a : List GUser) (hx : a.length + sumBy GUser.cost a ≤ 1099511627776) : Valid PP GG F_L_toUserS [.d (.slc 2 (rUser a))] (.own 0 2 (rUser a)) [none] := by
  refine v_L_toUserS [.own 0 2 (rUser a)] rfl rfl ?_
  refine W_seq (?_)
  refine u_1 ?_
  refine W_seq (?_)
  refine u_3 ?_
  refine W_seq (W_seq (?_))
  refine u_1 ?_
  refine W_block (W_loop (fun n st => ∃ (i : Nat) (R : List (List D)), n = a.length - i ∧ i ≤ a.length ∧ R.length = a.length ∧ (∀ r, r ∈ R → r.length = 2) ∧ R.take i = rUser (a.take i) ∧
    st = ⟨[], [(0, .d (.slc 2 (rUser a))), (3, .sl 0), (4, .d (.int .i64 i))], [(0, .arr 0 0 2 R)], 1⟩) _ ⟨0, List.replicate a.length [.str [], .str []], rfl, by omega, by simp, by intro r hr; rw [List.eq_of_mem_replicate hr]; rfl, rfl, rfl⟩ ?_)
  rintro n st ⟨i, R, rfl, hi, hl, h1, hR, rfl⟩
  refine W_seq (W_seq (?_))
  refine u_1 ?_
  refine W_cond rfl (fun h => W_skip ?_) (fun h => W_exit ?_)
  · simp at h
    have ha := List.getElem?_eq_getElem h
    generalize a[i] = x at ha
    have hg := sumBy_get (f := GUser.cost) ha
    obtain ⟨y0, y1, hd⟩ := rows2 h1 (show i < R.length by omega)
    refine W_seq (W_block ?_)
    refine u_15 ha hd hl (toUser_g x (by omega)) ?_
    refine u_1 ?_
    exact ⟨a.length - (i + 1), by omega, i + 1, R.set i x.row, rfl, h, by simpa using hl, set2 h1 rfl, by rw [take_set_succ (by omega), hR, List.take_add_one, ha, rUser_app]; rfl,
      by simp [gc, closeN, liveA, gcV, gcO, renA, renO, namesAs, namesA, namesO, posn]; rw [wrap_id (by omega) (by omega)]⟩
  · simp at h
    have e : R = rUser a := by rwa [List.take_of_length_le (by omega), List.take_of_length_le (by omega)] at hR
    subst e
    rw [if_pos rfl]
    refine W_seq (?_)
    refine u_1 ?_
    refine W_ret ?_
    simp [Fin]
    all_goals omega
theorem eqUser_g (x y : GUser) (hx : x.cost ≤ 1099511627776) (hy : y.cost ≤ 1099511627776) : Valid PP GG F_L_eqUser [.agg x.c, .agg y.c] (.d (.bool (decide (x = y)))) [none, none] := by
  refine v_L_eqUser [.d (.bool (decide (x = y)))] rfl rfl ?_
  have hcx : x.cost = x.fName.length + x.fPass.length := rfl
  have hcy : y.cost = y.fName.length + y.fPass.length := rfl
  refine W_seq (?_)
  refine u_1 ?_
  refine W_seq (W_seq (?_))
  refine u_1 ?_
  refine W_cond rfl (fun h => W_seq ?_) (fun h0 => W_skip ?_)
  · refine u_1 ?_
    have : decide (x = y) = false := by rw [decide_eq_false_iff_not]; intro e; rw [e] at h; simp at h
    refine W_ret ?_
    simp [Fin, this]
    all_goals omega
  refine W_seq (W_seq (?_))
  refine u_1 ?_
  refine W_cond rfl (fun h => W_seq ?_) (fun h1 => W_skip ?_)
  · refine u_1 ?_
    have : decide (x = y) = false := by rw [decide_eq_false_iff_not]; intro e; rw [e] at h; simp at h
    refine W_ret ?_
    simp [Fin, this]
    all_goals omega
  refine W_seq (?_)
  refine u_1 ?_
  have : decide (x = y) = true := by
    rw [decide_eq_true_iff]
    cases x; cases y
    simp at h0 h1
    simp_all
  refine W_ret ?_
  simp [Fin, this]
  all_goals omega
theorem eqUserS_g (a b : List GUser) (hx : a.length + sumBy GUser.cost a ≤ 1099511627776) (hy : b.length + sumBy GUser.cost b ≤ 1099511627776) : Valid PP GG F_L_eqUserS [.d (.slc 2 (rUser a)), .d (.slc 2 (rUser b))] (.d (.bool (decide (a = b)))) [none, none] := by
  refine v_L_eqUserS [.d (.bool (decide (a = b)))] rfl rfl ?_
  refine W_seq (?_)
  refine u_1 ?_
  refine W_seq (W_seq (?_))
  refine u_1 ?_
  refine W_cond rfl (fun h => W_seq ?_) (fun hlen => W_skip ?_)
  · refine u_1 ?_
    have : decide (a = b) = false := by rw [decide_eq_false_iff_not]; intro e; subst e; simp at h
    refine W_ret ?_
    simp [Fin, this]
    all_goals omega
  refine W_seq (W_seq (?_))
  simp at hlen
  refine u_1 ?_
  refine W_block (W_loop (fun n st => ∃ i : Nat, n = a.length - i ∧ i ≤ a.length ∧ a.take i = b.take i ∧ st = ⟨[], [(0, .d (.slc 2 (rUser a))), (1, .d (.slc 2 (rUser b))), (5, .d (.int .i64 i))], [], 0⟩) _ ⟨0, rfl, by omega, rfl, rfl⟩ ?_)
  rintro n st ⟨i, rfl, hi, he, rfl⟩
  refine W_seq (W_seq (?_))
  refine u_1 ?_
  refine W_cond rfl (fun h => W_skip ?_) (fun h => W_exit ?_)
  · simp at h
    have ha := List.getElem?_eq_getElem h
    have hb := List.getElem?_eq_getElem (show i < b.length by omega)
    generalize a[i] = x at ha
    generalize b[i]'_ = y at hb
    have ga := sumBy_get (f := GUser.cost) ha
    have gb := sumBy_get (f := GUser.cost) hb
    refine W_seq (W_block (W_seq ?_))
    refine u_9 ha hb (eqUser_g x y (by omega) (by omega)) ?_
    refine W_cond rfl (fun h2 => W_seq ?_) (fun h2 => W_skip ?_)
    · refine u_1 ?_
      have : decide (a = b) = false := by rw [decide_eq_false_iff_not]; intro e; subst e; rw [ha] at hb; cases hb; simp at h2
      refine W_ret ?_
      simp [Fin, this]
      all_goals omega
    refine u_1 ?_
    have hxy : x = y := by simpa using h2
    subst hxy
    exact ⟨a.length - (i + 1), by omega, i + 1, rfl, h, take_succ_eq he ha hb, by simp [gc, closeN, liveA, gcV, gcO, renA, namesAs, namesA]; rw [wrap_id (by omega) (by omega)]⟩
  · simp at h
    rw [if_pos rfl]
    refine W_seq (?_)
    refine u_1 ?_
    have : decide (a = b) = true := by
      rw [decide_eq_true_iff]
      rwa [List.take_of_length_le h, List.take_of_length_le (by omega)] at he
    refine W_ret ?_
    simp [Fin, this]
    all_goals omega
theorem markUserS_g (a : List GUser) (k : Int) (hx : a.length + sumBy GUser.cost a ≤ 1099511627776) (hk : 0 ≤ k ∧ k + (sumBy GUser.marks a : Nat) ≤ 140737488355328) :
    Valid PP GG F_L_markUserS [.own 0 2 (rUser a), .d (.int .i64 k)] (.d (.int .i64 (k + (sumBy GUser.marks a : Nat)))) [some (.own 0 2 (rUser (markL GUser.mark GUser.marks a k))), none] := by
  refine v_L_markUserS [.d (.int .i64 (k + (sumBy GUser.marks a : Nat)))] rfl rfl ?_
  have hml := sumBy_le GUser.marks_le a
  refine W_seq (?_)
  refine u_1 ?_
  refine W_seq (W_seq (?_))
  refine u_1 ?_
  refine W_block (W_loop (fun n st => ∃ (i : Nat) (R : List (List D)) (q : Int), n = a.length - i ∧ i ≤ a.length ∧ R = rUser (markL GUser.mark GUser.marks (a.take i) k ++ a.drop i) ∧ q = k + (sumBy GUser.marks (a.take i) : Nat) ∧
    st = ⟨[], [(0, .sl 0), (1, .d (.int .i64 q)), (5, .d (.int .i64 i))], [(0, .arr 0 0 2 R)], 1⟩) _ ⟨0, rUser a, k, rfl, by omega, rfl, by simp [sumBy], by simp [gc, closeN, liveA, gcV, gcO, renA, renO, namesAs, namesA, namesO, posn]⟩ ?_)
  rintro n st ⟨i, R, q, rfl, hi, hR, hq, rfl⟩
  have hl : R.length = a.length := by rw [hR]; simp [markL_len]; omega
  refine W_seq (W_seq (?_))
  refine u_1 ?_
  refine W_cond rfl (fun h => W_skip ?_) (fun h => W_exit ?_)
  · simp [hl] at h
    have ha := List.getElem?_eq_getElem h
    generalize a[i] = x at ha
    have hg := sumBy_get (f := GUser.cost) ha
    have hs := sumBy_succ (f := GUser.marks) ha
    have ht := sumBy_take GUser.marks a (i + 1)
    have hsucc : R.set i (x.mark q).row = rUser (markL GUser.mark GUser.marks (a.take (i + 1)) k ++ a.drop (i + 1)) := by
      rw [hR, drop_get ha, rUser_app]
      show (rUser (markL GUser.mark GUser.marks (a.take i) k) ++ x.row :: rUser (a.drop (i + 1))).set i (x.mark q).row = _
      rw [set_mid (by simp [markL_len]; omega), markL_succ k ha, rUser_app, rUser_app, hq]; rfl
    have hd : R[i]? = some x.row := by
      rw [hR, drop_get ha, rUser_app]
      exact mid_get (by simp [markL_len]; omega)
    have hset := fun y => set_get hd y
    have hme : x.mark q = { fName := markT (q), fPass := markT (q + 1) } := rfl
    have hms : x.marks = 1 + 1 := rfl
    have hco : x.cost = x.fName.length + x.fPass.length := rfl
    clear hR
    refine W_seq (W_block (W_seq ?_))
    simp only [GUser.row] at hd
    refine u_15 hd hset hl (markText_ok q (by omega)) ?_
    obtain ⟨q1, hq1⟩ : ∃ z : Int, q + 1 = z := ⟨_, rfl⟩
    have wq1 : IntKind.i64.wrap (q + 1) = q1 := by rw [wrap_id (by omega) (by omega)]; exact hq1
    refine W_seq (?_)
    refine u_16 ?_
    refine W_seq (?_)
    refine u_15 hd hset hl (markText_ok q1 (by omega)) ?_
    obtain ⟨q2, hq2⟩ : ∃ z : Int, q1 + 1 = z := ⟨_, rfl⟩
    have wq2 : IntKind.i64.wrap (q1 + 1) = q2 := by rw [wrap_id (by omega) (by omega)]; exact hq2
    refine u_17 ?_
    refine u_1 ?_
    refine ⟨a.length - (i + 1), by omega, i + 1, R.set i (x.mark q).row, q2, rfl, h, hsucc, by omega, ?_⟩
    simp [gc, closeN, liveA, gcV, gcO, renA, renO, namesAs, namesA, namesO, posn]
    refine ⟨wrap_id (by omega) (by omega), ?_⟩
    simp only [hme, hq1, hq2]
  · simp [hl] at h
    have e : R = rUser (markL GUser.mark GUser.marks a k) := by
      rw [List.take_of_length_le h, List.drop_eq_nil_of_le h] at hR; simpa using hR
    rw [List.take_of_length_le h] at hq
    subst e
    rw [if_pos rfl]
    refine W_seq (?_)
    refine u_1 ?_
    subst hq
    refine W_ret ?_
    simp [Fin]
    all_goals omega
theorem heldUserS_g (a : List GUser) (k : Int) (hx : a.length + sumBy GUser.cost a ≤ 1099511627776) (hk : 0 ≤ k ∧ k + (sumBy GUser.marks a : Nat) ≤ 140737488355328) :
    Valid PP GG F_L_heldUserS [.d (.slc 2 (rUser (markL GUser.mark GUser.marks a k))), .d (.int .i64 k)] (.d (.int .i64 (k + (sumBy GUser.marks a : Nat)))) [none, none] := by
  refine v_L_heldUserS [.d (.int .i64 (k + (sumBy GUser.marks a : Nat)))] rfl rfl ?_
  have hl : (rUser (markL GUser.mark GUser.marks a k)).length = a.length := by simp [markL_len]
  have hget : ∀ (i : Nat) x, a[i]? = some x → (rUser (markL GUser.mark GUser.marks a k))[i]? = some (x.mark (k + (sumBy GUser.marks (a.take i) : Nat))).row := fun i x h => by rw [rUser_get, markL_get k h]; rfl
  generalize rUser (markL GUser.mark GUser.marks a k) = B at hl hget ⊢
  refine W_seq (?_)
  refine u_1 ?_
  refine W_seq (W_seq (?_))
  refine u_1 ?_
  refine W_block (W_loop (fun n st => ∃ (i : Nat) (q : Int), n = a.length - i ∧ i ≤ a.length ∧ q = k + (sumBy GUser.marks (a.take i) : Nat) ∧
    st = ⟨[], [(0, .d (.slc 2 B)), (1, .d (.int .i64 q)), (5, .d (.int .i64 i))], [], 0⟩) _ ⟨0, k, rfl, by omega, by simp [sumBy], by simp [gc, closeN, liveA, gcV, gcO, renA, renO, namesAs, namesA, namesO, posn]⟩ ?_)
  rintro n st ⟨i, q, rfl, hi, hq, rfl⟩
  refine W_seq (W_seq (?_))
  refine u_1 ?_
  refine W_cond rfl (fun h => W_skip ?_) (fun h => W_exit ?_)
  · simp [hl] at h
    have ha := List.getElem?_eq_getElem h
    generalize a[i] = x at ha
    have hg := sumBy_get (f := GUser.cost) ha
    have hs := sumBy_succ (f := GUser.marks) ha
    have ht := sumBy_take GUser.marks a (i + 1)
    have hd := hget i x ha
    rw [← hq] at hd
    have hco : x.cost = x.fName.length + x.fPass.length := rfl
    have hms : x.marks = 1 + 1 := rfl
    simp only [GUser.row, GUser.mark] at hd
    refine W_seq (W_block ?_)
    refine W_seq (W_seq (?_))
    refine u_9 hd hl (markText_ok q (by omega)) ?_
    refine W_cond rfl (fun h4 => ?_) (fun h4 => W_skip ?_)
    · simp at h4
    obtain ⟨q1, hq1⟩ : ∃ z : Int, q + 1 = z := ⟨_, rfl⟩
    have wq1 : IntKind.i64.wrap (q + 1) = q1 := by rw [wrap_id (by omega) (by omega)]; exact hq1
    refine W_seq (?_)
    refine u_16 ?_
    simp only [hq1] at hd
    refine W_seq (W_seq (?_))
    refine u_9 hd hl (markText_ok q1 (by omega)) ?_
    refine W_cond rfl (fun h4 => ?_) (fun h4 => W_skip ?_)
    · simp at h4
    obtain ⟨q2, hq2⟩ : ∃ z : Int, q1 + 1 = z := ⟨_, rfl⟩
    have wq2 : IntKind.i64.wrap (q1 + 1) = q2 := by rw [wrap_id (by omega) (by omega)]; exact hq2
    refine u_17 ?_
    refine u_1 ?_
    refine ⟨a.length - (i + 1), by omega, i + 1, q2, rfl, h, by omega, ?_⟩
    simp [gc, closeN, liveA, gcV, gcO, renA, renO, namesAs, namesA, namesO, posn]
    rw [wrap_id (by omega) (by omega)]
  · simp [hl] at h
    rw [List.take_of_length_le h] at hq
    rw [if_pos rfl]
    refine W_seq (?_)
    refine u_1 ?_
    subst hq
    refine W_ret ?_
    simp [Fin]
    all_goals omega
theorem szFar_g (x : GFar) (l : Int) (hx : x.ok) (h0 : 0 ≤ l ∧ l ≤ 1048576) : Valid PP GG F_L_szFar [.agg x.c, .d (.int .i64 l)] (.d (.int .i64 (leftR x.cost l))) [none, none] := by
  refine v_L_szFar [.d (.int .i64 (leftR x.cost l))] rfl rfl ?_
  have hco : x.cost = (x.fUsers.length + sumBy GUser.cost x.fUsers) := rfl
  unfold GFar.ok maxLen at hx
  obtain ⟨okUsers0, okUsers1, okFail0, okMade0⟩ := hx
  generalize x.cost = co at hco
  refine W_seq (?_)
  refine u_1 ?_
  have ct := szUserS_g (GG := GG) x.fUsers l (by unfold maxLen; omega) okUsers1 ⟨by omega, by omega⟩
  obtain ⟨l1, el1⟩ : ∃ z : Int, leftR (x.fUsers.length + sumBy GUser.cost x.fUsers) l = z := ⟨_, rfl⟩
  rw [el1] at ct
  refine W_seq (?_)
  refine u_10 ct ?_
  clear ct
  refine W_seq (W_seq (?_))
  refine u_1 ?_
  refine W_cond rfl (fun hh0 => W_seq ?_) (fun hh0 => W_skip ?_)
  · refine u_1 ?_
    simp at hh0
    rw [← el1] at hh0
    have hn := leftR_neg (by omega) hh0
    have : leftR co l = -1 := leftR_no (by omega)
    refine W_ret ?_
    simp [Fin, this]
    all_goals omega
  simp at hh0
  rw [← el1] at hh0
  obtain ⟨gl1, jl1⟩ := leftR_pos (Int.not_lt.2 hh0)
  rw [el1] at jl1 hh0
  refine W_seq (?_)
  refine u_1 ?_
  have : leftR co l = l1 := by rw [leftR_yes (by omega)]; omega
  refine W_ret ?_
  simp [Fin, this]
  all_goals omega
theorem toFar_g (x : GFar) (hx : x.cost ≤ 1099511627776) : Valid PP GG F_L_toFar [.agg x.c] (.agg x.o) [none] := by
  refine v_L_toFar [.agg x.o] rfl rfl ?_
  have hco : x.cost = (x.fUsers.length + sumBy GUser.cost x.fUsers) := rfl
  refine W_seq (?_)
  refine u_1 ?_
  refine W_seq (?_)
  refine u_1 ?_
  refine W_seq (?_)
  refine u_10 (toUserS_g x.fUsers (by omega)) ?_
  refine W_seq (?_)
  refine u_1 ?_
  refine W_seq (?_)
  refine u_1 ?_
  refine W_seq (?_)
  refine u_1 ?_
  refine W_ret ?_
  simp [Fin]
  all_goals omega
theorem eqFar_g (x y : GFar) (hx : x.cost ≤ 1099511627776) (hy : y.cost ≤ 1099511627776) : Valid PP GG F_L_eqFar [.agg x.c, .agg y.c] (.d (.bool (decide (x = y)))) [none, none] := by
  refine v_L_eqFar [.d (.bool (decide (x = y)))] rfl rfl ?_
  have hcx : x.cost = (x.fUsers.length + sumBy GUser.cost x.fUsers) := rfl
  have hcy : y.cost = (y.fUsers.length + sumBy GUser.cost y.fUsers) := rfl
  refine W_seq (?_)
  refine u_1 ?_
  refine W_seq (W_seq (?_))
  refine u_10 (eqUserS_g x.fUsers y.fUsers (by omega) (by omega)) ?_
  refine W_cond rfl (fun h => W_seq ?_) (fun h0 => W_skip ?_)
  · refine u_1 ?_
    have : decide (x = y) = false := by rw [decide_eq_false_iff_not]; intro e; rw [e] at h; simp at h
    refine W_ret ?_
    simp [Fin, this]
    all_goals omega
  refine W_seq (W_seq (?_))
  refine u_1 ?_
  refine W_cond rfl (fun h => W_seq ?_) (fun h1 => W_skip ?_)
  · refine u_1 ?_
    have : decide (x = y) = false := by rw [decide_eq_false_iff_not]; intro e; rw [e] at h; simp at h
    refine W_ret ?_
    simp [Fin, this]
    all_goals omega
  refine W_seq (W_seq (?_))
  refine u_1 ?_
  refine W_cond rfl (fun h => W_seq ?_) (fun h2 => W_skip ?_)
  · refine u_1 ?_
    have : decide (x = y) = false := by rw [decide_eq_false_iff_not]; intro e; rw [e] at h; simp at h
    refine W_ret ?_
    simp [Fin, this]
    all_goals omega
  refine W_seq (?_)
  refine u_1 ?_
  have : decide (x = y) = true := by
    rw [decide_eq_true_iff]
    cases x; cases y
    simp at h0 h1 h2
    simp_all
  refine W_ret ?_
  simp [Fin, this]
  all_goals omega
theorem markFar_g (x : GFar) (k : Int) (hx : x.cost ≤ 1099511627776) (hk : 0 ≤ k ∧ k + (x.marksIn : Nat) ≤ 140737488355328) :
    Valid PP GG F_L_markFar [.agg x.o, .d (.int .i64 k)] (.d (.int .i64 (k + (x.marksIn : Nat)))) [some (.agg (x.markIn k).o), none] := by
  refine v_L_markFar [.d (.int .i64 (k + (x.marksIn : Nat)))] rfl rfl ?_
  have hco : x.cost = (x.fUsers.length + sumBy GUser.cost x.fUsers) := rfl
  have hms : x.marksIn = sumBy GUser.marks x.fUsers := rfl
  refine W_seq (?_)
  refine u_1 ?_
  have ct := markUserS_g (GG := GG) x.fUsers k (by omega) (by omega)
  refine W_seq (?_)
  refine u_10 ct ?_
  refine W_seq (?_)
  refine u_1 ?_
  have hfin : (k + ((sumBy GUser.marks x.fUsers : Nat) : Int)) = k + (x.marksIn : Nat) := by omega
  simp only [GFar.markIn]
  refine W_ret ?_
  simp [Fin, hfin]
  all_goals omega
theorem heldFar_g (x : GFar) (k : Int) (hx : x.cost ≤ 1099511627776) (hk : 0 ≤ k ∧ k + (x.marksIn : Nat) ≤ 140737488355328) :
    Valid PP GG F_L_heldFar [.agg (x.markIn k).c, .d (.int .i64 k)] (.d (.int .i64 (k + (x.marksIn : Nat)))) [none, none] := by
  refine v_L_heldFar [.d (.int .i64 (k + (x.marksIn : Nat)))] rfl rfl ?_
  have hco : x.cost = (x.fUsers.length + sumBy GUser.cost x.fUsers) := rfl
  have hms : x.marksIn = sumBy GUser.marks x.fUsers := rfl
  simp only [GFar.markIn]
  refine W_seq (?_)
  refine u_1 ?_
  have ct := heldUserS_g (GG := GG) x.fUsers k (by omega) (by omega)
  refine W_seq (?_)
  refine u_10 ct ?_
  refine W_seq (W_seq (?_))
  refine u_1 ?_
  refine W_cond rfl (fun h => ?_) (fun h => W_skip ?_)
  · simp at h; omega
  refine W_seq (?_)
  refine u_1 ?_
  have hfin : (k + ((sumBy GUser.marks x.fUsers : Nat) : Int)) = k + (x.marksIn : Nat) := by omega
  refine W_ret ?_
  simp [Fin, hfin]
  all_goals omega
theorem szJob_g (x : GJob) (l : Int) (hx : x.ok) (h0 : 0 ≤ l ∧ l ≤ 1048576) : Valid PP GG F_L_szJob [.agg x.c, .d (.int .i64 l)] (.d (.int .i64 (leftR x.cost l))) [none, none] := by
  refine v_L_szJob [.d (.int .i64 (leftR x.cost l))] rfl rfl ?_
  have hco : x.cost = x.fName.length := rfl
  unfold GJob.ok maxLen at hx
  obtain ⟨okName0, okAt0, okTries0⟩ := hx
  generalize x.cost = co at hco
  refine W_seq (?_)
  refine u_1 ?_
  obtain ⟨l1, el1⟩ : ∃ z : Int, l - x.fName.length = z := ⟨_, rfl⟩
  have wl1 : IntKind.i64.wrap (l - x.fName.length) = l1 := by rw [wrap_id (by omega) (by omega)]; exact el1
  refine W_seq (?_)
  refine u_22 ?_
  refine W_seq (W_seq (?_))
  refine u_1 ?_
  refine W_cond rfl (fun hh0 => W_seq ?_) (fun hh0 => W_skip ?_)
  · refine u_1 ?_
    simp at hh0
    have : leftR co l = -1 := leftR_no (by omega)
    refine W_ret ?_
    simp [Fin, this]
    all_goals omega
  simp at hh0
  refine W_seq (?_)
  refine u_1 ?_
  have : leftR co l = l1 := by rw [leftR_yes (by omega)]; omega
  refine W_ret ?_
  simp [Fin, this]
  all_goals omega
theorem szJobS_g (a : List GJob) (l : Int) (hlen : a.length ≤ maxLen) (hx : ∀ x, x ∈ a → x.ok) (h0 : 0 ≤ l ∧ l ≤ 1048576) :
    Valid PP GG F_L_szJobS [.d (.slc 3 (rJob a)), .d (.int .i64 l)] (.d (.int .i64 (leftR (a.length + sumBy GJob.cost a) l))) [none, none] := by
  refine v_L_szJobS [.d (.int .i64 (leftR (a.length + sumBy GJob.cost a) l))] rfl rfl ?_
  unfold maxLen at hlen
  obtain ⟨m, hm⟩ : ∃ z : Int, l - a.length = z := ⟨_, rfl⟩
  have hw : IntKind.i64.wrap (l - a.length) = m := by rw [wrap_id (by omega) (by omega)]; exact hm
  refine W_seq (?_)
  refine u_1 ?_
  refine W_seq (?_)
  refine u_6 hw ?_
  refine W_seq (W_seq (?_))
  refine u_1 ?_
  refine W_cond rfl (fun h => W_seq ?_) (fun h => W_skip ?_)
  · refine u_1 ?_
    simp at h
    have : leftR (a.length + sumBy GJob.cost a) l = -1 := leftR_no (by omega)
    refine W_ret ?_
    simp [Fin, this]
    all_goals omega
  simp at h
  refine W_seq (W_seq (?_))
  refine u_1 ?_
  refine W_block (W_loop (fun n st => ∃ (i : Nat) (v : Int), n = a.length - i ∧ i ≤ a.length ∧ 0 ≤ v ∧ v = m - (sumBy GJob.cost (a.take i) : Nat) ∧
    st = ⟨[], [(0, .d (.slc 3 (rJob a))), (1, .d (.int .i64 v)), (5, .d (.int .i64 i))], [], 0⟩) _ ⟨0, m, rfl, by omega, h, by simp [sumBy], rfl⟩ ?_)
  rintro n st ⟨i, v, rfl, hi, hv, he, rfl⟩
  refine W_seq (W_seq (?_))
  refine u_1 ?_
  refine W_cond rfl (fun h2 => W_skip ?_) (fun h2 => W_exit ?_)
  · simp at h2
    have ha := List.getElem?_eq_getElem h2
    generalize a[i] = x at ha
    have hs := sumBy_succ (f := GJob.cost) ha
    have ht := sumBy_take GJob.cost a (i + 1)
    have ct := szJob_g (GG := GG) x v (hx x (List.mem_of_getElem? ha)) ⟨hv, by omega⟩
    obtain ⟨v2, hv2⟩ : ∃ z : Int, leftR x.cost v = z := ⟨_, rfl⟩
    rw [hv2] at ct
    refine W_seq (W_block (W_seq ?_))
    refine u_13 ha ct ?_
    refine W_seq (?_)
    refine u_1 ?_
    refine W_cond rfl (fun h3 => W_seq ?_) (fun h3 => W_skip ?_)
    · refine u_1 ?_
      simp at h3
      rw [← hv2] at h3
      have hn := leftR_neg (by omega) h3
      have : leftR (a.length + sumBy GJob.cost a) l = -1 := leftR_no (by omega)
      refine W_ret ?_
      simp [Fin, this]
      all_goals omega
    simp at h3
    rw [← hv2] at h3
    obtain ⟨g1, g2⟩ := leftR_pos (Int.not_lt.2 h3)
    rw [hv2] at g2
    refine u_1 ?_
    exact ⟨a.length - (i + 1), by omega, i + 1, v2, rfl, h2, by omega, by omega, by simp [gc, closeN, liveA, gcV, gcO, renA, namesAs, namesA]; rw [wrap_id (by omega) (by omega)]⟩
  · simp at h2
    rw [if_pos rfl]
    rw [List.take_of_length_le h2] at he
    refine W_seq (?_)
    refine u_1 ?_
    have : leftR (a.length + sumBy GJob.cost a) l = v := by rw [leftR_yes (by omega)]; omega
    refine W_ret ?_
    simp [Fin, this]
    all_goals omega
theorem toJob_g (x : GJob) (hx : x.cost ≤ 1099511627776) : Valid PP GG F_L_toJob [.agg x.c] (.agg x.o) [none] := by
  refine v_L_toJob [.agg x.o] rfl rfl ?_
  have hco : x.cost = x.fName.length := rfl
  refine W_seq (?_)
  refine u_1 ?_
  refine W_seq (?_)
  refine u_1 ?_
  refine W_seq (?_)
  refine u_1 ?_
  refine W_seq (?_)
  refine u_1 ?_
  refine W_seq (?_)
  refine u_1 ?_
  refine W_seq (?_)
  refine u_1 ?_
  refine W_ret ?_
  simp [Fin]
  all_goals omega
theorem toJobS_g (a : List GJob) (hx : a.length + sumBy GJob.cost a ≤ 1099511627776) : Valid PP GG F_L_toJobS [.d (.slc 3 (rJob a))] (.own 0 3 (rJob a)) [none] := by
  refine v_L_toJobS [.own 0 3 (rJob a)] rfl rfl ?_
  refine W_seq (?_)
  refine u_1 ?_
  refine W_seq (?_)
  refine u_3 ?_
  refine W_seq (W_seq (?_))
  refine u_1 ?_
  refine W_block (W_loop (fun n st => ∃ (i : Nat) (R : List (List D)), n = a.length - i ∧ i ≤ a.length ∧ R.length = a.length ∧ (∀ r, r ∈ R → r.length = 3) ∧ R.take i = rJob (a.take i) ∧
    st = ⟨[], [(0, .d (.slc 3 (rJob a))), (3, .sl 0), (4, .d (.int .i64 i))], [(0, .arr 0 0 3 R)], 1⟩) _ ⟨0, List.replicate a.length [.str [], .int .i64 0, .int .i64 0], rfl, by omega, by simp, by intro r hr; rw [List.eq_of_mem_replicate hr]; rfl, rfl, rfl⟩ ?_)
  rintro n st ⟨i, R, rfl, hi, hl, h1, hR, rfl⟩
  refine W_seq (W_seq (?_))
  refine u_1 ?_
  refine W_cond rfl (fun h => W_skip ?_) (fun h => W_exit ?_)
  · simp at h
    have ha := List.getElem?_eq_getElem h
    generalize a[i] = x at ha
    have hg := sumBy_get (f := GJob.cost) ha
    obtain ⟨y0, y1, y2, hd⟩ := rows3 h1 (show i < R.length by omega)
    refine W_seq (W_block ?_)
    refine u_15 ha hd hl (toJob_g x (by omega)) ?_
    refine u_1 ?_
    exact ⟨a.length - (i + 1), by omega, i + 1, R.set i x.row, rfl, h, by simpa using hl, set3 h1 rfl, by rw [take_set_succ (by omega), hR, List.take_add_one, ha, rJob_app]; rfl,
      by simp [gc, closeN, liveA, gcV, gcO, renA, renO, namesAs, namesA, namesO, posn]; rw [wrap_id (by omega) (by omega)]⟩
  · simp at h
    have e : R = rJob a := by rwa [List.take_of_length_le (by omega), List.take_of_length_le (by omega)] at hR
    subst e
    rw [if_pos rfl]
    refine W_seq (?_)
    refine u_1 ?_
    refine W_ret ?_
    simp [Fin]
    all_goals omega
theorem eqJob_g (x y : GJob) (hx : x.cost ≤ 1099511627776) (hy : y.cost ≤ 1099511627776) : Valid PP GG F_L_eqJob [.agg x.c, .agg y.c] (.d (.bool (decide (x = y)))) [none, none] := by
  refine v_L_eqJob [.d (.bool (decide (x = y)))] rfl rfl ?_
  have hcx : x.cost = x.fName.length := rfl
  have hcy : y.cost = y.fName.length := rfl
  refine W_seq (?_)
  refine u_1 ?_
  refine W_seq (W_seq (?_))
  refine u_1 ?_
  refine W_cond rfl (fun h => W_seq ?_) (fun h0 => W_skip ?_)
  · refine u_1 ?_
    have : decide (x = y) = false := by rw [decide_eq_false_iff_not]; intro e; rw [e] at h; simp at h
    refine W_ret ?_
    simp [Fin, this]
    all_goals omega
  refine W_seq (W_seq (?_))
  refine u_1 ?_
  refine W_cond rfl (fun h => W_seq ?_) (fun h1 => W_skip ?_)
  · refine u_1 ?_
    have : decide (x = y) = false := by rw [decide_eq_false_iff_not]; intro e; rw [e] at h; simp at h
    refine W_ret ?_
    simp [Fin, this]
    all_goals omega
  refine W_seq (W_seq (?_))
  refine u_1 ?_
  refine W_cond rfl (fun h => W_seq ?_) (fun h2 => W_skip ?_)
  · refine u_1 ?_
    have : decide (x = y) = false := by rw [decide_eq_false_iff_not]; intro e; rw [e] at h; simp at h
    refine W_ret ?_
    simp [Fin, this]
    all_goals omega
  refine W_seq (?_)
  refine u_1 ?_
  have : decide (x = y) = true := by
    rw [decide_eq_true_iff]
    cases x; cases y
    simp at h0 h1 h2
    simp_all
  refine W_ret ?_
  simp [Fin, this]
  all_goals omega
theorem eqJobS_g (a b : List GJob) (hx : a.length + sumBy GJob.cost a ≤ 1099511627776) (hy : b.length + sumBy GJob.cost b ≤ 1099511627776) : Valid PP GG F_L_eqJobS [.d (.slc 3 (rJob a)), .d (.slc 3 (rJob b))] (.d (.bool (decide (a = b)))) [none, none] := by
  refine v_L_eqJobS [.d (.bool (decide (a = b)))] rfl rfl ?_
  refine W_seq (?_)
  refine u_1 ?_
  refine W_seq (W_seq (?_))
  refine u_1 ?_
  refine W_cond rfl (fun h => W_seq ?_) (fun hlen => W_skip ?_)
  · refine u_1 ?_
    have : decide (a = b) = false := by rw [decide_eq_false_iff_not]; intro e; subst e; simp at h
    refine W_ret ?_
    simp [Fin, this]
    all_goals omega
  refine W_seq (W_seq (?_))
  simp at hlen
  refine u_1 ?_
  refine W_block (W_loop (fun n st => ∃ i : Nat, n = a.length - i ∧ i ≤ a.length ∧ a.take i = b.take i ∧ st = ⟨[], [(0, .d (.slc 3 (rJob a))), (1, .d (.slc 3 (rJob b))), (5, .d (.int .i64 i))], [], 0⟩) _ ⟨0, rfl, by omega, rfl, rfl⟩ ?_)
  rintro n st ⟨i, rfl, hi, he, rfl⟩
  refine W_seq (W_seq (?_))
  refine u_1 ?_
  refine W_cond rfl (fun h => W_skip ?_) (fun h => W_exit ?_)
  · simp at h
    have ha := List.getElem?_eq_getElem h
    have hb := List.getElem?_eq_getElem (show i < b.length by omega)
    generalize a[i] = x at ha
    generalize b[i]'_ = y at hb
    have ga := sumBy_get (f := GJob.cost) ha
    have gb := sumBy_get (f := GJob.cost) hb
    refine W_seq (W_block (W_seq ?_))
    refine u_9 ha hb (eqJob_g x y (by omega) (by omega)) ?_
    refine W_cond rfl (fun h2 => W_seq ?_) (fun h2 => W_skip ?_)
    · refine u_1 ?_
      have : decide (a = b) = false := by rw [decide_eq_false_iff_not]; intro e; subst e; rw [ha] at hb; cases hb; simp at h2
      refine W_ret ?_
      simp [Fin, this]
      all_goals omega
    refine u_1 ?_
    have hxy : x = y := by simpa using h2
    subst hxy
    exact ⟨a.length - (i + 1), by omega, i + 1, rfl, h, take_succ_eq he ha hb, by simp [gc, closeN, liveA, gcV, gcO, renA, namesAs, namesA]; rw [wrap_id (by omega) (by omega)]⟩
  · simp at h
    rw [if_pos rfl]
    refine W_seq (?_)
    refine u_1 ?_
    have : decide (a = b) = true := by
      rw [decide_eq_true_iff]
      rwa [List.take_of_length_le h, List.take_of_length_le (by omega)] at he
    refine W_ret ?_
    simp [Fin, this]
    all_goals omega
theorem markJobS_g (a : List GJob) (k : Int) (hx : a.length + sumBy GJob.cost a ≤ 1099511627776) (hk : 0 ≤ k ∧ k + (sumBy GJob.marks a : Nat) ≤ 140737488355328) :
    Valid PP GG F_L_markJobS [.own 0 3 (rJob a), .d (.int .i64 k)] (.d (.int .i64 (k + (sumBy GJob.marks a : Nat)))) [some (.own 0 3 (rJob (markL GJob.mark GJob.marks a k))), none] := by
  refine v_L_markJobS [.d (.int .i64 (k + (sumBy GJob.marks a : Nat)))] rfl rfl ?_
  have hml := sumBy_le GJob.marks_le a
  refine W_seq (?_)
  refine u_1 ?_
  refine W_seq (W_seq (?_))
  refine u_1 ?_
  refine W_block (W_loop (fun n st => ∃ (i : Nat) (R : List (List D)) (q : Int), n = a.length - i ∧ i ≤ a.length ∧ R = rJob (markL GJob.mark GJob.marks (a.take i) k ++ a.drop i) ∧ q = k + (sumBy GJob.marks (a.take i) : Nat) ∧
    st = ⟨[], [(0, .sl 0), (1, .d (.int .i64 q)), (5, .d (.int .i64 i))], [(0, .arr 0 0 3 R)], 1⟩) _ ⟨0, rJob a, k, rfl, by omega, rfl, by simp [sumBy], by simp [gc, closeN, liveA, gcV, gcO, renA, renO, namesAs, namesA, namesO, posn]⟩ ?_)
  rintro n st ⟨i, R, q, rfl, hi, hR, hq, rfl⟩
  have hl : R.length = a.length := by rw [hR]; simp [markL_len]; omega
  refine W_seq (W_seq (?_))
  refine u_1 ?_
  refine W_cond rfl (fun h => W_skip ?_) (fun h => W_exit ?_)
  · simp [hl] at h
    have ha := List.getElem?_eq_getElem h
    generalize a[i] = x at ha
    have hg := sumBy_get (f := GJob.cost) ha
    have hs := sumBy_succ (f := GJob.marks) ha
    have ht := sumBy_take GJob.marks a (i + 1)
    have hsucc : R.set i (x.mark q).row = rJob (markL GJob.mark GJob.marks (a.take (i + 1)) k ++ a.drop (i + 1)) := by
      rw [hR, drop_get ha, rJob_app]
      show (rJob (markL GJob.mark GJob.marks (a.take i) k) ++ x.row :: rJob (a.drop (i + 1))).set i (x.mark q).row = _
      rw [set_mid (by simp [markL_len]; omega), markL_succ k ha, rJob_app, rJob_app, hq]; rfl
    have hd : R[i]? = some x.row := by
      rw [hR, drop_get ha, rJob_app]
      exact mid_get (by simp [markL_len]; omega)
    have hset := fun y => set_get hd y
    have hme : x.mark q = { fName := markT (q), fAt := q + 1, fTries := q + 1 + 1 } := rfl
    have hms : x.marks = 1 + 1 + 1 := rfl
    have hco : x.cost = x.fName.length := rfl
    clear hR
    refine W_seq (W_block (W_seq ?_))
    simp only [GJob.row] at hd
    refine u_15 hd hset hl (markText_ok q (by omega)) ?_
    obtain ⟨q1, hq1⟩ : ∃ z : Int, q + 1 = z := ⟨_, rfl⟩
    have wq1 : IntKind.i64.wrap (q + 1) = q1 := by rw [wrap_id (by omega) (by omega)]; exact hq1
    refine W_seq (?_)
    refine u_16 ?_
    refine W_seq (?_)
    refine u_4 hd hset hl ?_
    obtain ⟨q2, hq2⟩ : ∃ z : Int, q1 + 1 = z := ⟨_, rfl⟩
    have wq2 : IntKind.i64.wrap (q1 + 1) = q2 := by rw [wrap_id (by omega) (by omega)]; exact hq2
    refine W_seq (?_)
    refine u_17 ?_
    refine W_seq (?_)
    refine u_4 hd hset hl ?_
    obtain ⟨q3, hq3⟩ : ∃ z : Int, q2 + 1 = z := ⟨_, rfl⟩
    have wq3 : IntKind.i64.wrap (q2 + 1) = q3 := by rw [wrap_id (by omega) (by omega)]; exact hq3
    refine u_23 ?_
    refine u_1 ?_
    refine ⟨a.length - (i + 1), by omega, i + 1, R.set i (x.mark q).row, q3, rfl, h, hsucc, by omega, ?_⟩
    simp [gc, closeN, liveA, gcV, gcO, renA, renO, namesAs, namesA, namesO, posn]
    refine ⟨wrap_id (by omega) (by omega), ?_⟩
    simp only [hme, hq1, hq2, hq3]
  · simp [hl] at h
    have e : R = rJob (markL GJob.mark GJob.marks a k) := by
      rw [List.take_of_length_le h, List.drop_eq_nil_of_le h] at hR; simpa using hR
    rw [List.take_of_length_le h] at hq
    subst e
    rw [if_pos rfl]
    refine W_seq (?_)
    refine u_1 ?_
    subst hq
    refine W_ret ?_
    simp [Fin]
    all_goals omega
theorem heldJobS_g (a : List GJob) (k : Int) (hx : a.length + sumBy GJob.cost a ≤ 1099511627776) (hk : 0 ≤ k ∧ k + (sumBy GJob.marks a : Nat) ≤ 140737488355328) :
    Valid PP GG F_L_heldJobS [.d (.slc 3 (rJob (markL GJob.mark GJob.marks a k))), .d (.int .i64 k)] (.d (.int .i64 (k + (sumBy GJob.marks a : Nat)))) [none, none] := by
  refine v_L_heldJobS [.d (.int .i64 (k + (sumBy GJob.marks a : Nat)))] rfl rfl ?_
  have hl : (rJob (markL GJob.mark GJob.marks a k)).length = a.length := by simp [markL_len]
  have hget : ∀ (i : Nat) x, a[i]? = some x → (rJob (markL GJob.mark GJob.marks a k))[i]? = some (x.mark (k + (sumBy GJob.marks (a.take i) : Nat))).row := fun i x h => by rw [rJob_get, markL_get k h]; rfl
  generalize rJob (markL GJob.mark GJob.marks a k) = B at hl hget ⊢
  refine W_seq (?_)
  refine u_1 ?_
  refine W_seq (W_seq (?_))
  refine u_1 ?_
  refine W_block (W_loop (fun n st => ∃ (i : Nat) (q : Int), n = a.length - i ∧ i ≤ a.length ∧ q = k + (sumBy GJob.marks (a.take i) : Nat) ∧
    st = ⟨[], [(0, .d (.slc 3 B)), (1, .d (.int .i64 q)), (5, .d (.int .i64 i))], [], 0⟩) _ ⟨0, k, rfl, by omega, by simp [sumBy], by simp [gc, closeN, liveA, gcV, gcO, renA, renO, namesAs, namesA, namesO, posn]⟩ ?_)
  rintro n st ⟨i, q, rfl, hi, hq, rfl⟩
  refine W_seq (W_seq (?_))
  refine u_1 ?_
  refine W_cond rfl (fun h => W_skip ?_) (fun h => W_exit ?_)
  · simp [hl] at h
    have ha := List.getElem?_eq_getElem h
    generalize a[i] = x at ha
    have hg := sumBy_get (f := GJob.cost) ha
    have hs := sumBy_succ (f := GJob.marks) ha
    have ht := sumBy_take GJob.marks a (i + 1)
    have hd := hget i x ha
    rw [← hq] at hd
    have hco : x.cost = x.fName.length := rfl
    have hms : x.marks = 1 + 1 + 1 := rfl
    simp only [GJob.row, GJob.mark] at hd
    refine W_seq (W_block ?_)
    refine W_seq (W_seq (?_))
    refine u_9 hd hl (markText_ok q (by omega)) ?_
    refine W_cond rfl (fun h4 => ?_) (fun h4 => W_skip ?_)
    · simp at h4
    obtain ⟨q1, hq1⟩ : ∃ z : Int, q + 1 = z := ⟨_, rfl⟩
    have wq1 : IntKind.i64.wrap (q + 1) = q1 := by rw [wrap_id (by omega) (by omega)]; exact hq1
    refine W_seq (?_)
    refine u_16 ?_
    simp only [hq1] at hd
    refine W_seq (W_seq (?_))
    refine u_7 hd hl ?_
    refine W_cond rfl (fun h4 => ?_) (fun h4 => W_skip ?_)
    · simp at h4
    obtain ⟨q2, hq2⟩ : ∃ z : Int, q1 + 1 = z := ⟨_, rfl⟩
    have wq2 : IntKind.i64.wrap (q1 + 1) = q2 := by rw [wrap_id (by omega) (by omega)]; exact hq2
    refine W_seq (?_)
    refine u_17 ?_
    simp only [hq2] at hd
    refine W_seq (W_seq (?_))
    refine u_7 hd hl ?_
    refine W_cond rfl (fun h4 => ?_) (fun h4 => W_skip ?_)
    · simp at h4
    obtain ⟨q3, hq3⟩ : ∃ z : Int, q2 + 1 = z := ⟨_, rfl⟩
    have wq3 : IntKind.i64.wrap (q2 + 1) = q3 := by rw [wrap_id (by omega) (by omega)]; exact hq3
    refine u_23 ?_
    refine u_1 ?_
    refine ⟨a.length - (i + 1), by omega, i + 1, q3, rfl, h, by omega, ?_⟩
    simp [gc, closeN, liveA, gcV, gcO, renA, renO, namesAs, namesA, namesO, posn]
    rw [wrap_id (by omega) (by omega)]
  · simp [hl] at h
    rw [List.take_of_length_le h] at hq
    rw [if_pos rfl]
    refine W_seq (?_)
    refine u_1 ?_
    subst hq
    refine W_ret ?_
    simp [Fin]
    all_goals omega
theorem szQueue_g (x : GQueue) (l : Int) (hx : x.ok) (h0 : 0 ≤ l ∧ l ≤ 1048576) : Valid PP GG F_L_szQueue [.agg x.c, .d (.int .i64 l)] (.d (.int .i64 (leftR x.cost l))) [none, none] := by
  refine v_L_szQueue [.d (.int .i64 (leftR x.cost l))] rfl rfl ?_
  have hco : x.cost = (x.fJobs.length + sumBy GJob.cost x.fJobs) := rfl
  unfold GQueue.ok maxLen at hx
  obtain ⟨okJobs0, okJobs1⟩ := hx
  generalize x.cost = co at hco
  refine W_seq (?_)
  refine u_1 ?_
  have ct := szJobS_g (GG := GG) x.fJobs l (by unfold maxLen; omega) okJobs1 ⟨by omega, by omega⟩
  obtain ⟨l1, el1⟩ : ∃ z : Int, leftR (x.fJobs.length + sumBy GJob.cost x.fJobs) l = z := ⟨_, rfl⟩
  rw [el1] at ct
  refine W_seq (?_)
  refine u_10 ct ?_
  clear ct
  refine W_seq (W_seq (?_))
  refine u_1 ?_
  refine W_cond rfl (fun hh0 => W_seq ?_) (fun hh0 => W_skip ?_)
  · refine u_1 ?_
    simp at hh0
    rw [← el1] at hh0
    have hn := leftR_neg (by omega) hh0
    have : leftR co l = -1 := leftR_no (by omega)
    refine W_ret ?_
    simp [Fin, this]
    all_goals omega
  simp at hh0
  rw [← el1] at hh0
  obtain ⟨gl1, jl1⟩ := leftR_pos (Int.not_lt.2 hh0)
  rw [el1] at jl1 hh0
  refine W_seq (?_)
  refine u_1 ?_
  have : leftR co l = l1 := by rw [leftR_yes (by omega)]; omega
  refine W_ret ?_
  simp [Fin, this]
  all_goals omega
theorem toQueue_g (x : GQueue) (hx : x.cost ≤ 1099511627776) : Valid PP GG F_L_toQueue [.agg x.c] (.agg x.o) [none] := by
  refine v_L_toQueue [.agg x.o] rfl rfl ?_
  have hco : x.cost = (x.fJobs.length + sumBy GJob.cost x.fJobs) := rfl
  refine W_seq (?_)
  refine u_1 ?_
  refine W_seq (?_)
  refine u_1 ?_
  refine W_seq (?_)
  refine u_10 (toJobS_g x.fJobs (by omega)) ?_
  refine W_seq (?_)
  refine u_1 ?_
  refine W_ret ?_
  simp [Fin]
  all_goals omega
theorem eqQueue_g (x y : GQueue) (hx : x.cost ≤ 1099511627776) (hy : y.cost ≤ 1099511627776) : Valid PP GG F_L_eqQueue [.agg x.c, .agg y.c] (.d (.bool (decide (x = y)))) [none, none] := by
  refine v_L_eqQueue [.d (.bool (decide (x = y)))] rfl rfl ?_
  have hcx : x.cost = (x.fJobs.length + sumBy GJob.cost x.fJobs) := rfl
  have hcy : y.cost = (y.fJobs.length + sumBy GJob.cost y.fJobs) := rfl
  refine W_seq (?_)
  refine u_1 ?_
  refine W_seq (W_seq (?_))
  refine u_10 (eqJobS_g x.fJobs y.fJobs (by omega) (by omega)) ?_
  refine W_cond rfl (fun h => W_seq ?_) (fun h0 => W_skip ?_)
  · refine u_1 ?_
    have : decide (x = y) = false := by rw [decide_eq_false_iff_not]; intro e; rw [e] at h; simp at h
    refine W_ret ?_
    simp [Fin, this]
    all_goals omega
  refine W_seq (?_)
  refine u_1 ?_
  have : decide (x = y) = true := by
    rw [decide_eq_true_iff]
    cases x; cases y
    simp at h0
    simp_all
  refine W_ret ?_
  simp [Fin, this]
  all_goals omega
theorem markQueue_g (x : GQueue) (k : Int) (hx : x.cost ≤ 1099511627776) (hk : 0 ≤ k ∧ k + (x.marksIn : Nat) ≤ 140737488355328) :
    Valid PP GG F_L_markQueue [.agg x.o, .d (.int .i64 k)] (.d (.int .i64 (k + (x.marksIn : Nat)))) [some (.agg (x.markIn k).o), none] := by
  refine v_L_markQueue [.d (.int .i64 (k + (x.marksIn : Nat)))] rfl rfl ?_
  have hco : x.cost = (x.fJobs.length + sumBy GJob.cost x.fJobs) := rfl
  have hms : x.marksIn = sumBy GJob.marks x.fJobs := rfl
  refine W_seq (?_)
  refine u_1 ?_
  have ct := markJobS_g (GG := GG) x.fJobs k (by omega) (by omega)
  refine W_seq (?_)
  refine u_10 ct ?_
  refine W_seq (?_)
  refine u_1 ?_
  have hfin : (k + ((sumBy GJob.marks x.fJobs : Nat) : Int)) = k + (x.marksIn : Nat) := by omega
  simp only [GQueue.markIn]
  refine W_ret ?_
  simp [Fin, hfin]
  all_goals omega
theorem heldQueue_g (x : GQueue) (k : Int) (hx : x.cost ≤ 1099511627776) (hk : 0 ≤ k ∧ k + (x.marksIn : Nat) ≤ 140737488355328) :
    Valid PP GG F_L_heldQueue [.agg (x.markIn k).c, .d (.int .i64 k)] (.d (.int .i64 (k + (x.marksIn : Nat)))) [none, none] := by
  refine v_L_heldQueue [.d (.int .i64 (k + (x.marksIn : Nat)))] rfl rfl ?_
  have hco : x.cost = (x.fJobs.length + sumBy GJob.cost x.fJobs) := rfl
  have hms : x.marksIn = sumBy GJob.marks x.fJobs := rfl
  simp only [GQueue.markIn]
  refine W_seq (?_)
  refine u_1 ?_
  have ct := heldJobS_g (GG := GG) x.fJobs k (by omega) (by omega)
  refine W_seq (?_)
  refine u_10 ct ?_
  refine W_seq (W_seq (?_))
  refine u_1 ?_
  refine W_cond rfl (fun h => ?_) (fun h => W_skip ?_)
  · simp at h; omega
  refine W_seq (?_)
  refine u_1 ?_
  have hfin : (k + ((sumBy GJob.marks x.fJobs : Nat) : Int)) = k + (x.marksIn : Nat) := by omega
  refine W_ret ?_
  simp [Fin, hfin]
  all_goals omega
theorem szOwned_g (x : GOwned) (l : Int) (hx : x.ok) (h0 : 0 ≤ l ∧ l ≤ 1048576) : Valid PP GG F_L_szOwned [.agg x.c, .d (.int .i64 l)] (.d (.int .i64 (leftR x.cost l))) [none, none] := by
  refine v_L_szOwned [.d (.int .i64 (leftR x.cost l))] rfl rfl ?_
  have hco : x.cost = x.fName.length := rfl
  unfold GOwned.ok maxLen at hx
  obtain ⟨okLease0, okName0⟩ := hx
  generalize x.cost = co at hco
  refine W_seq (?_)
  refine u_1 ?_
  obtain ⟨l1, el1⟩ : ∃ z : Int, l - x.fName.length = z := ⟨_, rfl⟩
  have wl1 : IntKind.i64.wrap (l - x.fName.length) = l1 := by rw [wrap_id (by omega) (by omega)]; exact el1
  refine W_seq (?_)
  refine u_22 ?_
  refine W_seq (W_seq (?_))
  refine u_1 ?_
  refine W_cond rfl (fun hh0 => W_seq ?_) (fun hh0 => W_skip ?_)
  · refine u_1 ?_
    simp at hh0
    have : leftR co l = -1 := leftR_no (by omega)
    refine W_ret ?_
    simp [Fin, this]
    all_goals omega
  simp at hh0
  refine W_seq (?_)
  refine u_1 ?_
  have : leftR co l = l1 := by rw [leftR_yes (by omega)]; omega
  refine W_ret ?_
  simp [Fin, this]
  all_goals omega
theorem szOwnedS_g (a : List GOwned) (l : Int) (hlen : a.length ≤ maxLen) (hx : ∀ x, x ∈ a → x.ok) (h0 : 0 ≤ l ∧ l ≤ 1048576) :
    Valid PP GG F_L_szOwnedS [.d (.slc 2 (rOwned a)), .d (.int .i64 l)] (.d (.int .i64 (leftR (a.length + sumBy GOwned.cost a) l))) [none, none] := by
  refine v_L_szOwnedS [.d (.int .i64 (leftR (a.length + sumBy GOwned.cost a) l))] rfl rfl ?_
  unfold maxLen at hlen
  obtain ⟨m, hm⟩ : ∃ z : Int, l - a.length = z := ⟨_, rfl⟩
  have hw : IntKind.i64.wrap (l - a.length) = m := by rw [wrap_id (by omega) (by omega)]; exact hm
  refine W_seq (?_)
  refine u_1 ?_
  refine W_seq (?_)
  refine u_6 hw ?_
  refine W_seq (W_seq (?_))
  refine u_1 ?_
  refine W_cond rfl (fun h => W_seq ?_) (fun h => W_skip ?_)
  · refine u_1 ?_
    simp at h
    have : leftR (a.length + sumBy GOwned.cost a) l = -1 := leftR_no (by omega)
    refine W_ret ?_
    simp [Fin, this]
    all_goals omega
  simp at h
  refine W_seq (W_seq (?_))
  refine u_1 ?_
  refine W_block (W_loop (fun n st => ∃ (i : Nat) (v : Int), n = a.length - i ∧ i ≤ a.length ∧ 0 ≤ v ∧ v = m - (sumBy GOwned.cost (a.take i) : Nat) ∧
    st = ⟨[], [(0, .d (.slc 2 (rOwned a))), (1, .d (.int .i64 v)), (5, .d (.int .i64 i))], [], 0⟩) _ ⟨0, m, rfl, by omega, h, by simp [sumBy], rfl⟩ ?_)
  rintro n st ⟨i, v, rfl, hi, hv, he, rfl⟩
  refine W_seq (W_seq (?_))
  refine u_1 ?_
  refine W_cond rfl (fun h2 => W_skip ?_) (fun h2 => W_exit ?_)
  · simp at h2
    have ha := List.getElem?_eq_getElem h2
    generalize a[i] = x at ha
    have hs := sumBy_succ (f := GOwned.cost) ha
    have ht := sumBy_take GOwned.cost a (i + 1)
    have ct := szOwned_g (GG := GG) x v (hx x (List.mem_of_getElem? ha)) ⟨hv, by omega⟩
    obtain ⟨v2, hv2⟩ : ∃ z : Int, leftR x.cost v = z := ⟨_, rfl⟩
    rw [hv2] at ct
    refine W_seq (W_block (W_seq ?_))
    refine u_13 ha ct ?_
    refine W_seq (?_)
    refine u_1 ?_
    refine W_cond rfl (fun h3 => W_seq ?_) (fun h3 => W_skip ?_)
    · refine u_1 ?_
      simp at h3
      rw [← hv2] at h3
      have hn := leftR_neg (by omega) h3
      have : leftR (a.length + sumBy GOwned.cost a) l = -1 := leftR_no (by omega)
      refine W_ret ?_
      simp [Fin, this]
      all_goals omega
    simp at h3
    rw [← hv2] at h3
    obtain ⟨g1, g2⟩ := leftR_pos (Int.not_lt.2 h3)
    rw [hv2] at g2
    refine u_1 ?_
    exact ⟨a.length - (i + 1), by omega, i + 1, v2, rfl, h2, by omega, by omega, by simp [gc, closeN, liveA, gcV, gcO, renA, namesAs, namesA]; rw [wrap_id (by omega) (by omega)]⟩
  · simp at h2
    rw [if_pos rfl]
    rw [List.take_of_length_le h2] at he
    refine W_seq (?_)
    refine u_1 ?_
    have : leftR (a.length + sumBy GOwned.cost a) l = v := by rw [leftR_yes (by omega)]; omega
    refine W_ret ?_
    simp [Fin, this]
    all_goals omega
theorem toOwned_g (x : GOwned) (hx : x.cost ≤ 1099511627776) : Valid PP GG F_L_toOwned [.agg x.c] (.agg x.o) [none] := by
  refine v_L_toOwned [.agg x.o] rfl rfl ?_
  have hco : x.cost = x.fName.length := rfl
  refine W_seq (?_)
  refine u_1 ?_
  refine W_seq (?_)
  refine u_1 ?_
  refine W_seq (?_)
  refine u_1 ?_
  refine W_seq (?_)
  refine u_1 ?_
  refine W_seq (?_)
  refine u_1 ?_
  refine W_ret ?_
  simp [Fin]
  all_goals omega
theorem toOwnedS_g (a : List GOwned) (hx : a.length + sumBy GOwned.cost a ≤ 1099511627776) : Valid PP GG F_L_toOwnedS [.d (.slc 2 (rOwned a))] (.own 0 2 (rOwned a)) [none] := by
  refine v_L_toOwnedS [.own 0 2 (rOwned a)] rfl rfl ?_
  refine W_seq (?_)
  refine u_1 ?_
  refine W_seq (?_)
  refine u_3 ?_
  refine W_seq (W_seq (?_))
  refine u_1 ?_
  refine W_block (W_loop (fun n st => ∃ (i : Nat) (R : List (List D)), n = a.length - i ∧ i ≤ a.length ∧ R.length = a.length ∧ (∀ r, r ∈ R → r.length = 2) ∧ R.take i = rOwned (a.take i) ∧
    st = ⟨[], [(0, .d (.slc 2 (rOwned a))), (3, .sl 0), (4, .d (.int .i64 i))], [(0, .arr 0 0 2 R)], 1⟩) _ ⟨0, List.replicate a.length [.int .i64 0, .str []], rfl, by omega, by simp, by intro r hr; rw [List.eq_of_mem_replicate hr]; rfl, rfl, rfl⟩ ?_)
  rintro n st ⟨i, R, rfl, hi, hl, h1, hR, rfl⟩
  refine W_seq (W_seq (?_))
  refine u_1 ?_
  refine W_cond rfl (fun h => W_skip ?_) (fun h => W_exit ?_)
  · simp at h
    have ha := List.getElem?_eq_getElem h
    generalize a[i] = x at ha
    have hg := sumBy_get (f := GOwned.cost) ha
    obtain ⟨y0, y1, hd⟩ := rows2 h1 (show i < R.length by omega)
    refine W_seq (W_block ?_)
    refine u_15 ha hd hl (toOwned_g x (by omega)) ?_
    refine u_1 ?_
    exact ⟨a.length - (i + 1), by omega, i + 1, R.set i x.row, rfl, h, by simpa using hl, set2 h1 rfl, by rw [take_set_succ (by omega), hR, List.take_add_one, ha, rOwned_app]; rfl,
      by simp [gc, closeN, liveA, gcV, gcO, renA, renO, namesAs, namesA, namesO, posn]; rw [wrap_id (by omega) (by omega)]⟩
  · simp at h
    have e : R = rOwned a := by rwa [List.take_of_length_le (by omega), List.take_of_length_le (by omega)] at hR
    subst e
    rw [if_pos rfl]
    refine W_seq (?_)
    refine u_1 ?_
    refine W_ret ?_
    simp [Fin]
    all_goals omega
theorem eqOwned_g (x y : GOwned) (hx : x.cost ≤ 1099511627776) (hy : y.cost ≤ 1099511627776) : Valid PP GG F_L_eqOwned [.agg x.c, .agg y.c] (.d (.bool (decide (x = y)))) [none, none] := by
  refine v_L_eqOwned [.d (.bool (decide (x = y)))] rfl rfl ?_
  have hcx : x.cost = x.fName.length := rfl
  have hcy : y.cost = y.fName.length := rfl
  refine W_seq (?_)
  refine u_1 ?_
  refine W_seq (W_seq (?_))
  refine u_1 ?_
  refine W_cond rfl (fun h => W_seq ?_) (fun h0 => W_skip ?_)
  · refine u_1 ?_
    have : decide (x = y) = false := by rw [decide_eq_false_iff_not]; intro e; rw [e] at h; simp at h
    refine W_ret ?_
    simp [Fin, this]
    all_goals omega
  refine W_seq (W_seq (?_))
  refine u_1 ?_
  refine W_cond rfl (fun h => W_seq ?_) (fun h1 => W_skip ?_)
  · refine u_1 ?_
    have : decide (x = y) = false := by rw [decide_eq_false_iff_not]; intro e; rw [e] at h; simp at h
    refine W_ret ?_
    simp [Fin, this]
    all_goals omega
  refine W_seq (?_)
  refine u_1 ?_
  have : decide (x = y) = true := by
    rw [decide_eq_true_iff]
    cases x; cases y
    simp at h0 h1
    simp_all
  refine W_ret ?_
  simp [Fin, this]
  all_goals omega
theorem eqOwnedS_g (a b : List GOwned) (hx : a.length + sumBy GOwned.cost a ≤ 1099511627776) (hy : b.length + sumBy GOwned.cost b ≤ 1099511627776) : Valid PP GG F_L_eqOwnedS [.d (.slc 2 (rOwned a)), .d (.slc 2 (rOwned b))] (.d (.bool (decide (a = b)))) [none, none] := by
  refine v_L_eqOwnedS [.d (.bool (decide (a = b)))] rfl rfl ?_
  refine W_seq (?_)
  refine u_1 ?_
  refine W_seq (W_seq (?_))
  refine u_1 ?_
  refine W_cond rfl (fun h => W_seq ?_) (fun hlen => W_skip ?_)
  · refine u_1 ?_
    have : decide (a = b) = false := by rw [decide_eq_false_iff_not]; intro e; subst e; simp at h
    refine W_ret ?_
    simp [Fin, this]
    all_goals omega
  refine W_seq (W_seq (?_))
  simp at hlen
  refine u_1 ?_
  refine W_block (W_loop (fun n st => ∃ i : Nat, n = a.length - i ∧ i ≤ a.length ∧ a.take i = b.take i ∧ st = ⟨[], [(0, .d (.slc 2 (rOwned a))), (1, .d (.slc 2 (rOwned b))), (5, .d (.int .i64 i))], [], 0⟩) _ ⟨0, rfl, by omega, rfl, rfl⟩ ?_)
  rintro n st ⟨i, rfl, hi, he, rfl⟩
  refine W_seq (W_seq (?_))
  refine u_1 ?_
  refine W_cond rfl (fun h => W_skip ?_) (fun h => W_exit ?_)
  · simp at h
    have ha := List.getElem?_eq_getElem h
    have hb := List.getElem?_eq_getElem (show i < b.length by omega)
    generalize a[i] = x at ha
    generalize b[i]'_ = y at hb
    have ga := sumBy_get (f := GOwned.cost) ha
    have gb := sumBy_get (f := GOwned.cost) hb
    refine W_seq (W_block (W_seq ?_))
    refine u_9 ha hb (eqOwned_g x y (by omega) (by omega)) ?_
    refine W_cond rfl (fun h2 => W_seq ?_) (fun h2 => W_skip ?_)
    · refine u_1 ?_
      have : decide (a = b) = false := by rw [decide_eq_false_iff_not]; intro e; subst e; rw [ha] at hb; cases hb; simp at h2
      refine W_ret ?_
      simp [Fin, this]
      all_goals omega
    refine u_1 ?_
    have hxy : x = y := by simpa using h2
    subst hxy
    exact ⟨a.length - (i + 1), by omega, i + 1, rfl, h, take_succ_eq he ha hb, by simp [gc, closeN, liveA, gcV, gcO, renA, namesAs, namesA]; rw [wrap_id (by omega) (by omega)]⟩
  · simp at h
    rw [if_pos rfl]
    refine W_seq (?_)
    refine u_1 ?_
    have : decide (a = b) = true := by
      rw [decide_eq_true_iff]
      rwa [List.take_of_length_le h, List.take_of_length_le (by omega)] at he
    refine W_ret ?_
    simp [Fin, this]
    all_goals omega
theorem markOwnedS_g (a : List GOwned) (k : Int) (hx : a.length + sumBy GOwned.cost a ≤ 1099511627776) (hk : 0 ≤ k ∧ k + (sumBy GOwned.marks a : Nat) ≤ 140737488355328) :
    Valid PP GG F_L_markOwnedS [.own 0 2 (rOwned a), .d (.int .i64 k)] (.d (.int .i64 (k + (sumBy GOwned.marks a : Nat)))) [some (.own 0 2 (rOwned (markL GOwned.mark GOwned.marks a k))), none] := by
  refine v_L_markOwnedS [.d (.int .i64 (k + (sumBy GOwned.marks a : Nat)))] rfl rfl ?_
  have hml := sumBy_le GOwned.marks_le a
  refine W_seq (?_)
  refine u_1 ?_
  refine W_seq (W_seq (?_))
  refine u_1 ?_
  refine W_block (W_loop (fun n st => ∃ (i : Nat) (R : List (List D)) (q : Int), n = a.length - i ∧ i ≤ a.length ∧ R = rOwned (markL GOwned.mark GOwned.marks (a.take i) k ++ a.drop i) ∧ q = k + (sumBy GOwned.marks (a.take i) : Nat) ∧
    st = ⟨[], [(0, .sl 0), (1, .d (.int .i64 q)), (5, .d (.int .i64 i))], [(0, .arr 0 0 2 R)], 1⟩) _ ⟨0, rOwned a, k, rfl, by omega, rfl, by simp [sumBy], by simp [gc, closeN, liveA, gcV, gcO, renA, renO, namesAs, namesA, namesO, posn]⟩ ?_)
  rintro n st ⟨i, R, q, rfl, hi, hR, hq, rfl⟩
  have hl : R.length = a.length := by rw [hR]; simp [markL_len]; omega
  refine W_seq (W_seq (?_))
  refine u_1 ?_
  refine W_cond rfl (fun h => W_skip ?_) (fun h => W_exit ?_)
  · simp [hl] at h
    have ha := List.getElem?_eq_getElem h
    generalize a[i] = x at ha
    have hg := sumBy_get (f := GOwned.cost) ha
    have hs := sumBy_succ (f := GOwned.marks) ha
    have ht := sumBy_take GOwned.marks a (i + 1)
    have hsucc : R.set i (x.mark q).row = rOwned (markL GOwned.mark GOwned.marks (a.take (i + 1)) k ++ a.drop (i + 1)) := by
      rw [hR, drop_get ha, rOwned_app]
      show (rOwned (markL GOwned.mark GOwned.marks (a.take i) k) ++ x.row :: rOwned (a.drop (i + 1))).set i (x.mark q).row = _
      rw [set_mid (by simp [markL_len]; omega), markL_succ k ha, rOwned_app, rOwned_app, hq]; rfl
    have hd : R[i]? = some x.row := by
      rw [hR, drop_get ha, rOwned_app]
      exact mid_get (by simp [markL_len]; omega)
    have hset := fun y => set_get hd y
    have hme : x.mark q = { fLease := q, fName := markT (q + 1) } := rfl
    have hms : x.marks = 1 + 1 := rfl
    have hco : x.cost = x.fName.length := rfl
    clear hR
    refine W_seq (W_block (W_seq ?_))
    simp only [GOwned.row] at hd
    refine u_4 hd hset hl ?_
    obtain ⟨q1, hq1⟩ : ∃ z : Int, q + 1 = z := ⟨_, rfl⟩
    have wq1 : IntKind.i64.wrap (q + 1) = q1 := by rw [wrap_id (by omega) (by omega)]; exact hq1
    refine W_seq (?_)
    refine u_16 ?_
    refine W_seq (?_)
    refine u_15 hd hset hl (markText_ok q1 (by omega)) ?_
    obtain ⟨q2, hq2⟩ : ∃ z : Int, q1 + 1 = z := ⟨_, rfl⟩
    have wq2 : IntKind.i64.wrap (q1 + 1) = q2 := by rw [wrap_id (by omega) (by omega)]; exact hq2
    refine u_17 ?_
    refine u_1 ?_
    refine ⟨a.length - (i + 1), by omega, i + 1, R.set i (x.mark q).row, q2, rfl, h, hsucc, by omega, ?_⟩
    simp [gc, closeN, liveA, gcV, gcO, renA, renO, namesAs, namesA, namesO, posn]
    refine ⟨wrap_id (by omega) (by omega), ?_⟩
    simp only [hme, hq1, hq2]
  · simp [hl] at h
    have e : R = rOwned (markL GOwned.mark GOwned.marks a k) := by
      rw [List.take_of_length_le h, List.drop_eq_nil_of_le h] at hR; simpa using hR
    rw [List.take_of_length_le h] at hq
    subst e
    rw [if_pos rfl]
    refine W_seq (?_)
    refine u_1 ?_
    subst hq
    refine W_ret ?_
    simp [Fin]
    all_goals omega
theorem heldOwnedS_g (a : List GOwned) (k : Int) (hx : a.length + sumBy GOwned.cost a ≤ 1099511627776) (hk : 0 ≤ k ∧ k + (sumBy GOwned.marks a : Nat) ≤ 140737488355328) :
    Valid PP GG F_L_heldOwnedS [.d (.slc 2 (rOwned (markL GOwned.mark GOwned.marks a k))), .d (.int .i64 k)] (.d (.int .i64 (k + (sumBy GOwned.marks a : Nat)))) [none, none] := by
  refine v_L_heldOwnedS [.d (.int .i64 (k + (sumBy GOwned.marks a : Nat)))] rfl rfl ?_
  have hl : (rOwned (markL GOwned.mark GOwned.marks a k)).length = a.length := by simp [markL_len]
  have hget : ∀ (i : Nat) x, a[i]? = some x → (rOwned (markL GOwned.mark GOwned.marks a k))[i]? = some (x.mark (k + (sumBy GOwned.marks (a.take i) : Nat))).row := fun i x h => by rw [rOwned_get, markL_get k h]; rfl
  generalize rOwned (markL GOwned.mark GOwned.marks a k) = B at hl hget ⊢
  refine W_seq (?_)
  refine u_1 ?_
  refine W_seq (W_seq (?_))
  refine u_1 ?_
  refine W_block (W_loop (fun n st => ∃ (i : Nat) (q : Int), n = a.length - i ∧ i ≤ a.length ∧ q = k + (sumBy GOwned.marks (a.take i) : Nat) ∧
    st = ⟨[], [(0, .d (.slc 2 B)), (1, .d (.int .i64 q)), (5, .d (.int .i64 i))], [], 0⟩) _ ⟨0, k, rfl, by omega, by simp [sumBy], by simp [gc, closeN, liveA, gcV, gcO, renA, renO, namesAs, namesA, namesO, posn]⟩ ?_)
  rintro n st ⟨i, q, rfl, hi, hq, rfl⟩
  refine W_seq (W_seq (?_))
  refine u_1 ?_
  refine W_cond rfl (fun h => W_skip ?_) (fun h => W_exit ?_)
  · simp [hl] at h
    have ha := List.getElem?_eq_getElem h
    generalize a[i] = x at ha
    have hg := sumBy_get (f := GOwned.cost) ha
    have hs := sumBy_succ (f := GOwned.marks) ha
    have ht := sumBy_take GOwned.marks a (i + 1)
    have hd := hget i x ha
    rw [← hq] at hd
    have hco : x.cost = x.fName.length := rfl
    have hms : x.marks = 1 + 1 := rfl
    simp only [GOwned.row, GOwned.mark] at hd
    refine W_seq (W_block ?_)
    refine W_seq (W_seq (?_))
    refine u_7 hd hl ?_
    refine W_cond rfl (fun h4 => ?_) (fun h4 => W_skip ?_)
    · simp at h4
    obtain ⟨q1, hq1⟩ : ∃ z : Int, q + 1 = z := ⟨_, rfl⟩
    have wq1 : IntKind.i64.wrap (q + 1) = q1 := by rw [wrap_id (by omega) (by omega)]; exact hq1
    refine W_seq (?_)
    refine u_16 ?_
    simp only [hq1] at hd
    refine W_seq (W_seq (?_))
    refine u_9 hd hl (markText_ok q1 (by omega)) ?_
    refine W_cond rfl (fun h4 => ?_) (fun h4 => W_skip ?_)
    · simp at h4
    obtain ⟨q2, hq2⟩ : ∃ z : Int, q1 + 1 = z := ⟨_, rfl⟩
    have wq2 : IntKind.i64.wrap (q1 + 1) = q2 := by rw [wrap_id (by omega) (by omega)]; exact hq2
    refine u_17 ?_
    refine u_1 ?_
    refine ⟨a.length - (i + 1), by omega, i + 1, q2, rfl, h, by omega, ?_⟩
    simp [gc, closeN, liveA, gcV, gcO, renA, renO, namesAs, namesA, namesO, posn]
    rw [wrap_id (by omega) (by omega)]
  · simp [hl] at h
    rw [List.take_of_length_le h] at hq
    rw [if_pos rfl]
    refine W_seq (?_)
    refine u_1 ?_
    subst hq
    refine W_ret ?_
    simp [Fin]
    all_goals omega
end Go.Proofs.YtdckkojgnkoabaaGreatDoor.Ab
