/-
  A part of a proof about the given program; what is proved is said where each theorem stands.
-/
import Derived.Test.YtdckkojgnkoabaaGreatDoorFrameA
import Derived.Test.YtdckkojgnkoabaaGreatDoorFrameB
import Derived.Test.YtdckkojgnkoabaaGreatDoorFrameC
import Derived.Test.YtdckkojgnkoabaaGreatDoorFrameD
import Derived.Test.YtdckkojgnkoabaaGreatDoorFrameE
import Derived.Test.YtdckkojgnkoabaaGreatDoorHead
import Derived.Test.YtdckkojgnkoabaaGreatDoorShelf
import Derived.Test.YtdckkojgnkoabaaGreatDoorPartA
import Derived.Test.YtdckkojgnkoabaaGreatDoorPartB
import Derived.Test.YtdckkojgnkoabaaGreatDoorPartC
namespace Go.Proofs
end Go.Proofs
set_option linter.unusedSimpArgs false
set_option linter.unusedVariables false
set_option maxRecDepth 100000
set_option maxHeartbeats 2000000
namespace Go.Proofs.YtdckkojgnkoabaaGreatDoor.Ab
open Go.Proofs
variable {GG : GV}
theorem runQueue_ok (q : GQueue) (f : GFar) (now : Int) (hq : fitQ q) (hf : fitFar f) (hqb : queueB q = true) (hfb : farB f = true) (hnow : 0 ≤ now ∧ now ≤ 1000000000) :
    Valid PP GG 167 [.agg q.c, .agg f.c, .d (.int .i64 now)] (.tup [.agg (GQueue.mk (rq now q.fJobs f).jobs).o, .agg (rq now q.fJobs f).far.o, .own 0 1 (strsD (rq now q.fJobs f).done), .own 0 1 (strsD (rq now q.fJobs f).failed)]) [none, none, none] := by
  refine cv Tryz.func167 [.agg (GQueue.mk (rq now q.fJobs f).jobs).o, .agg (rq now q.fJobs f).far.o, .own 0 1 (strsD (rq now q.fJobs f).done), .own 0 1 (strsD (rq now q.fJobs f).failed)] ?_
  have ccp := cloneFar_ok (GG := GG) f.fUsers f.fFail f.fMade (by have := hf.1; omega)
  have hfa := fun l => rq_far (now := now) hfb hf l
  have htr := fun (i : Nat) (j : GJob) h => job_tries (q := q) hqb (i := i) (j := j) h
  have hl := hq.1
  have hi3 := ind_rUser f.fUsers
  obtain ⟨a⟩ := q
  obtain ⟨us, ff, fm⟩ := f
  dsimp only at ccp htr hl hi3
  refine u_1 ?_
  refine u_1 ?_
  refine W_nilP 10 0 rfl rfl rfl ?_
  refine u_1 ?_
  refine W_nilV 11 rfl ?_
  refine W_nilV 12 rfl ?_
  refine u_37 (Z1 ccp) ?_
  refine W_loop (fun n st => ∃ i : Nat, n = a.length - i ∧ i ≤ a.length ∧
    st = ⟨[], [(2, .d (.int .i64 now)), (4, .ptr 0 0), (6, .ptr 1 0), (7, .ptr 2 0), (10, .ptr 3 0), (11, .sl 4), (12, .sl 5), (20, .d (.slc 3 (rJob a))), (21, .d (.int .i64 a.length)), (22, .d (.int .i64 i))],
      [(0, .box [.sl 6, .d (.int .i64 (rq now (a.take i) ⟨us, ff, fm⟩).far.fFail), .d (.int .i64 (rq now (a.take i) ⟨us, ff, fm⟩).far.fMade)]), (1, .box [.nil 0 3]), (2, .box [.nil 0 2, .d (.int .i64 0), .d (.int .i64 0)]), (3, .box [.sl 7]),
       (4, .arr 0 0 1 (strsD (rq now (a.take i) ⟨us, ff, fm⟩).done)), (5, .arr 0 0 1 (strsD (rq now (a.take i) ⟨us, ff, fm⟩).failed)), (6, .arr 0 0 2 (rUser (rq now (a.take i) ⟨us, ff, fm⟩).far.fUsers)), (7, .arr 0 0 3 (rJob (rq now (a.take i) ⟨us, ff, fm⟩).jobs))], 8⟩) _ ⟨0, rfl, by omega, ?_⟩ ?_
  · exact u_57
  rintro n st ⟨i, rfl, hi, rfl⟩
  by_cases hlt : i < a.length
  rotate_left
  · have hie : i = a.length := by omega
    subst hie
    rw [List.take_length]
    exact u_29
  have ha := List.getElem?_eq_getElem hlt
  generalize a[i] = x at ha
  have hsu := rq_succ (now := now) (f := ⟨us, ff, fm⟩) ha
  have hlen := rq_len now (a.take i) ⟨us, ff, fm⟩
  rw [List.length_take] at hlen
  obtain ⟨hfb2, hff2⟩ := hfa (a.take i)
  have ht := htr i x ha
  generalize rq now (a.take i) ⟨us, ff, fm⟩ = R at *
  obtain ⟨rj, rf, rd, rl⟩ := R
  dsimp only at hlen hfb2 hff2
  have cd := dropUser_ok (GG := GG) rf x.fName hff2 hfb2
  unfold rqStep at hsu
  dsimp only at hsu
  obtain ⟨xn, xa, xt⟩ := x
  dsimp only at cd hsu ht
  have hi4 := ind_rUser (dropF rf xn).fUsers
  have hdc : dropC rf = 0 ∨ dropC rf = 2 := by unfold dropC; split <;> simp
  have hi5 := ind_rUser rf.fUsers
  have hl1 : (strsD rd).length ≤ i := by rw [strsD_len]; omega
  have hl2 : (strsD rl).length ≤ i := by rw [strsD_len]; omega
  have hl3 : (rJob rj).length ≤ i := by rw [rJob_len]; omega
  by_cases hat : now < xa
  · rw [if_pos hat] at hsu
    refine u_53 (Y2 ha hat) ?_
    refine ⟨a.length - (i + 1), by omega, i + 1, rfl, hlt, ?_⟩
    rw [hsu]
    refine u_58 ?_
    exact wrap_id (by omega) (by omega)
  · rw [if_neg hat] at hsu
    generalize dropC rf = DC at *
    generalize dropF rf xn = DF at *
    obtain ⟨du, df, dm⟩ := DF
    obtain ⟨ru, rff, rfm⟩ := rf
    dsimp only at hi4 hi5
    rcases hdc with rfl | rfl
    · rw [if_pos rfl] at hsu
      refine u_50 (Y2 ha hat) (Z1 cd) ?_
      refine ⟨a.length - (i + 1), by omega, i + 1, rfl, hlt, ?_⟩
      rw [hsu]
      refine u_59 ?_
      exact wrap_id (by omega) (by omega)
    · rw [if_neg (by omega)] at hsu
      have hw1 : IntKind.i64.wrap (xt + 1) = xt + 1 := wrap_id (by omega) (by omega)
      by_cases h6 : xt + 1 = 6
      · rw [if_pos h6] at hsu
        have hq6 : (xt + 1 == 6) = true := by simpa using h6
        refine u_50 (Y4 ha hat hw1 hq6) (Z1 cd) ?_
        refine ⟨a.length - (i + 1), by omega, i + 1, rfl, hlt, ?_⟩
        rw [hsu]
        refine u_59 ?_
        exact wrap_id (by omega) (by omega)
      · rw [if_neg h6] at hsu
        have hq6 : (xt + 1 == 6) = false := by simpa using h6
        obtain ⟨hs1, hs2, hs3⟩ := shl_one (t := xt + 1) (by omega) (by omega)
        have hw2 : IntKind.i64.wrap (now + 2 ^ (xt + 1).toNat) = now + 2 ^ (xt + 1).toNat := wrap_id (by omega) (by omega)
        have hnn : 0 ≤ xt + 1 := by omega
        refine u_61 (Y7 ha hat hw1 hq6 hnn hs1 hw2) (Z1 cd) ?_
        refine ⟨a.length - (i + 1), by omega, i + 1, rfl, hlt, ?_⟩
        rw [hsu]
        refine u_58 ?_
        refine ⟨wrap_id (by omega) (by omega), ?_⟩
        rw [Nat.min_eq_left (by omega), wrap_id (n := 2 ^ (xt + 1).toNat) (by omega) (by omega)]
        exact hw2
theorem s_RunQueue_ok [MaxL GG] (q : GQueue) (f : GFar) (now : Int) (hq : fitQ q) (hf : fitFar f) (hqb : queueB q = true) (hfb : farB f = true) (hnow : 0 ≤ now ∧ now ≤ 1000000000) :
    Valid PP GG 161 [.agg q.c, .agg f.c, .d (.int .i64 now)] (.tup [.agg (GQueue.mk (rq now q.fJobs f).jobs).o, .agg (rq now q.fJobs f).far.o, .own 0 1 (strsD (rq now q.fJobs f).done), .own 0 1 (strsD (rq now q.fJobs f).failed)]) [none, none, none] := by
  refine cv Tryz.func161 [.agg (GQueue.mk (rq now q.fJobs f).jobs).o, .agg (rq now q.fJobs f).far.o, .own 0 1 (strsD (rq now q.fJobs f).done), .own 0 1 (strsD (rq now q.fJobs f).failed)] ?_
  have ccp := s_l11Copy_ok (GG := GG) f.fUsers f.fFail f.fMade (by have := hf.1; omega)
  have cqo := s_QueueOk_ok (GG := GG) q hq
  have cfo := s_FarOk_ok (GG := GG) f hf
  have cin := l01In_ok (GG := GG) now 0 1000000000
  rw [hqb] at cqo
  rw [hfb] at cfo
  rw [decide_eq_true hnow.1, decide_eq_true hnow.2, Bool.and_self] at cin
  have hfa := fun l => rq_far (now := now) hfb hf l
  have htr := fun (i : Nat) (j : GJob) h => job_tries (q := q) hqb (i := i) (j := j) h
  have hl := hq.1
  have hi3 := ind_rUser f.fUsers
  obtain ⟨a⟩ := q
  obtain ⟨us, ff, fm⟩ := f
  dsimp only at ccp cqo cfo htr hl hi3
  refine u_1 ?_
  refine u_14 (Z1 ccp) ?_
  refine W_seq (W_seq ?_)
  refine u_55 (Z3 cqo cfo cin) ?_
  refine W_cond rfl (fun h => by simp at h) (fun h => W_skip ?_)
  refine u_1 ?_
  refine W_nilP 11 0 rfl rfl rfl ?_
  refine u_30 ?_
  refine W_loop (fun n st => ∃ i : Nat, n = a.length - i ∧ i ≤ a.length ∧
    st = ⟨[], [(2, .d (.int .i64 now)), (3, .ptr 0 0), (6, .ptr 1 0), (7, .ptr 2 0), (10, .ptr 3 0), (11, .ptr 4 0), (12, .sl 5), (13, .sl 6), (14, .d (.int .i64 i))],
      [(0, .box [.d (.slc 3 (rJob a))]), (1, .box [.nil 0 3]), (2, .box [.nil 0 2, .d (.int .i64 0), .d (.int .i64 0)]), (3, .box [.sl 7, .d (.int .i64 (rq now (a.take i) ⟨us, ff, fm⟩).far.fFail), .d (.int .i64 (rq now (a.take i) ⟨us, ff, fm⟩).far.fMade)]), (4, .box [.sl 8]),
       (5, .arr 0 0 1 (strsD (rq now (a.take i) ⟨us, ff, fm⟩).done)), (6, .arr 0 0 1 (strsD (rq now (a.take i) ⟨us, ff, fm⟩).failed)), (7, .arr 0 0 2 (rUser (rq now (a.take i) ⟨us, ff, fm⟩).far.fUsers)), (8, .arr 0 0 3 (rJob (rq now (a.take i) ⟨us, ff, fm⟩).jobs))], 9⟩) _ ⟨0, rfl, by omega, ?_⟩ ?_
  · exact u_57
  rintro n st ⟨i, rfl, hi, rfl⟩
  by_cases hlt : i < a.length
  rotate_left
  · have hie : i = a.length := by omega
    subst hie
    rw [List.take_length]
    exact u_29
  have ha := List.getElem?_eq_getElem hlt
  generalize a[i] = x at ha
  have hsu := rq_succ (now := now) (f := ⟨us, ff, fm⟩) ha
  have hlen := rq_len now (a.take i) ⟨us, ff, fm⟩
  rw [List.length_take] at hlen
  obtain ⟨hfb2, hff2⟩ := hfa (a.take i)
  have ht := htr i x ha
  generalize rq now (a.take i) ⟨us, ff, fm⟩ = R at *
  obtain ⟨rj, rf, rd, rl⟩ := R
  dsimp only at hlen hfb2 hff2
  have cd := s_DropUser_ok (GG := GG) rf x.fName hff2 hfb2
  unfold rqStep at hsu
  dsimp only at hsu
  obtain ⟨xn, xa, xt⟩ := x
  dsimp only at cd hsu ht
  have hi4 := ind_rUser (dropF rf xn).fUsers
  have hdc : dropC rf = 0 ∨ dropC rf = 2 := by unfold dropC; split <;> simp
  have hi5 := ind_rUser rf.fUsers
  have hl1 : (strsD rd).length ≤ i := by rw [strsD_len]; omega
  have hl2 : (strsD rl).length ≤ i := by rw [strsD_len]; omega
  have hl3 : (rJob rj).length ≤ i := by rw [rJob_len]; omega
  by_cases hat : now < xa
  · rw [if_pos hat] at hsu
    refine u_53 (Y2 ha hat) ?_
    refine ⟨a.length - (i + 1), by omega, i + 1, rfl, hlt, ?_⟩
    rw [hsu]
    refine u_58 ?_
    exact wrap_id (by omega) (by omega)
  · rw [if_neg hat] at hsu
    generalize dropC rf = DC at *
    generalize dropF rf xn = DF at *
    obtain ⟨du, df, dm⟩ := DF
    obtain ⟨ru, rff, rfm⟩ := rf
    dsimp only at hi4 hi5
    rcases hdc with rfl | rfl
    · rw [if_pos rfl] at hsu
      refine u_50 (Y2 ha hat) (Z1 cd) ?_
      refine ⟨a.length - (i + 1), by omega, i + 1, rfl, hlt, ?_⟩
      rw [hsu]
      refine u_59 ?_
      exact wrap_id (by omega) (by omega)
    · rw [if_neg (by omega)] at hsu
      have hw1 : IntKind.i64.wrap (xt + 1) = xt + 1 := wrap_id (by omega) (by omega)
      by_cases h6 : xt + 1 = 6
      · rw [if_pos h6] at hsu
        have hq6 : (xt + 1 == 6) = true := by simpa using h6
        refine u_50 (Y4 ha hat hw1 hq6) (Z1 cd) ?_
        refine ⟨a.length - (i + 1), by omega, i + 1, rfl, hlt, ?_⟩
        rw [hsu]
        refine u_59 ?_
        exact wrap_id (by omega) (by omega)
      · rw [if_neg h6] at hsu
        have hq6 : (xt + 1 == 6) = false := by simpa using h6
        obtain ⟨hs1, hs2, hs3⟩ := shl_one (t := xt + 1) (by omega) (by omega)
        have hw2 : IntKind.i64.wrap (now + 2 ^ (xt + 1).toNat) = now + 2 ^ (xt + 1).toNat := wrap_id (by omega) (by omega)
        have hnn : 0 ≤ xt + 1 := by omega
        have hwu : IntKind.u64.wrap (xt + 1) = xt + 1 := by rw [IntKind.wrap_u64]; omega
        refine u_61 (Y8 ha hat hw1 hq6 hwu hnn hs1 hw2) (Z1 cd) ?_
        refine ⟨a.length - (i + 1), by omega, i + 1, rfl, hlt, ?_⟩
        rw [hsu]
        refine u_58 ?_
        refine ⟨wrap_id (by omega) (by omega), ?_⟩
        rw [Nat.min_eq_left (by omega), wrap_id (n := 2 ^ (xt + 1).toNat) (by omega) (by omega)]
        exact hw2
def loseW (w : GWorld) (n : Int) : GWorld := { w with fLost := if 1000000000 < w.fLost + n then 1000000000 else w.fLost + n }
def letHit (w : GWorld) (o : GOwned) : GWorld :=
  if qDropB w.fQueue o.fName w.fNow then { w with fQueue := qDropQ w.fQueue o.fName w.fNow } else loseW { w with fQueue := qDropQ w.fQueue o.fName w.fNow } 1
def letStep (id : Int) (s : GWorld × List GOwned) (o : GOwned) : GWorld × List GOwned :=
  if o.fLease = id then (letHit s.1 o, s.2) else (s.1, s.2 ++ [o])
def letFold (w : GWorld) (id : Int) (os : List GOwned) : GWorld × List GOwned := os.foldl (letStep id) (w, [])
def letOne (w : GWorld) (l : GLease) : GWorld := { (letFold w l.fId w.fOwned).1 with fOwned := (letFold w l.fId w.fOwned).2 }
def letAll (w : GWorld) (ls : List GLease) : GWorld := ls.foldl letOne w
def letRun (w : GWorld) : RQ := rq w.fNow w.fQueue.fJobs w.fFar
def letGo (w : GWorld) (ls : List GLease) : GWorld :=
  loseW { letAll w ls with fQueue := ⟨(letRun (letAll w ls)).jobs⟩, fFar := (letRun (letAll w ls)).far } (letRun (letAll w ls)).failed.length
structure LetOk (w : GWorld) : Prop where
  now : 0 ≤ w.fNow ∧ w.fNow ≤ 1000000000
  lost : 0 ≤ w.fLost ∧ w.fLost ≤ 1000000000
  qb : queueB w.fQueue = true
  qf : fitQ w.fQueue
  fb : farB w.fFar = true
  ff : fitFar w.fFar
  ol : w.fOwned.length ≤ 1048576
  on : ∀ o, o ∈ w.fOwned → o.fName.length ≤ 1048576
theorem qDrop_ok {q : GQueue} {s : List UInt8} (now : Int) (h : queueB q = true) (hf : fitQ q) (hs : s.length ≤ 1048576) : queueB (qDropQ q s now) = true ∧ fitQ (qDropQ q s now) := by
  unfold qDropQ
  split
  · exact ⟨h, hf⟩
  · split
    · next h2 => exact ⟨h2, fitQ_app now h hf hs⟩
    · exact ⟨h, hf⟩
theorem lose_ok {w : GWorld} {n : Int} (h : LetOk w) (hn : 0 ≤ n) : LetOk (loseW w n) := by
  obtain ⟨h1, h2, h3, h4, h5, h6, h7, h8⟩ := h
  refine ⟨h1, ?_, h3, h4, h5, h6, h7, h8⟩
  unfold loseW
  dsimp only
  split <;> omega
theorem hit_ok {w : GWorld} {o : GOwned} (h : LetOk w) (ho : o.fName.length ≤ 1048576) : LetOk (letHit w o) := by
  have hq := qDrop_ok w.fNow h.qb h.qf ho
  have h' : LetOk { w with fQueue := qDropQ w.fQueue o.fName w.fNow } := ⟨h.now, h.lost, hq.1, hq.2, h.fb, h.ff, h.ol, h.on⟩
  unfold letHit
  split
  · exact h'
  · exact lose_ok h' (by omega)
theorem letFold_succ {w : GWorld} {id : Int} {os : List GOwned} {i : Nat} {o : GOwned} (h : os[i]? = some o) : letFold w id (os.take (i + 1)) = letStep id (letFold w id (os.take i)) o := by
  unfold letFold; rw [List.take_add_one, h, List.foldl_append]; rfl
theorem letFold_snoc (w : GWorld) (id : Int) (l : List GOwned) (x : GOwned) : letFold w id (l ++ [x]) = letStep id (letFold w id l) x := by
  unfold letFold; rw [List.foldl_append]; rfl
theorem letFold_ok {w : GWorld} (id : Int) (h : LetOk w) (os : List GOwned) (ho : ∀ o, o ∈ os → o.fName.length ≤ 1048576) : LetOk (letFold w id os).1 ∧ (letFold w id os).2.length ≤ os.length ∧ ∀ o, o ∈ (letFold w id os).2 → o ∈ os := by
  induction os using snoc_ind with
  | h0 => exact ⟨h, Nat.le_refl _, fun o ho => ho⟩
  | h1 l x ih =>
    obtain ⟨i1, i2, i3⟩ := ih fun o h => ho o (List.mem_append_left _ h)
    rw [letFold_snoc, List.length_append]
    unfold letStep
    split
    · exact ⟨hit_ok i1 (ho x (by simp)), by simp; omega, fun o h => List.mem_append_left _ (i3 o h)⟩
    · refine ⟨i1, by simp; omega, fun o h => ?_⟩
      rcases List.mem_append.1 h with h | h
      · exact List.mem_append_left _ (i3 o h)
      · exact List.mem_append_right _ h
theorem letOne_ok {w : GWorld} (l : GLease) (h : LetOk w) : LetOk (letOne w l) := by
  obtain ⟨h1, h2, h3⟩ := letFold_ok l.fId h w.fOwned h.on
  exact ⟨h1.now, h1.lost, h1.qb, h1.qf, h1.fb, h1.ff, by unfold letOne; dsimp only; have := h.ol; omega, fun o ho => h.on o (h3 o ho)⟩
theorem letAll_ok {w : GWorld} (h : LetOk w) (ls : List GLease) : LetOk (letAll w ls) := by
  unfold letAll
  induction ls generalizing w with
  | nil => exact h
  | cons l r ih => exact ih (letOne_ok l h)
theorem letAll_succ {w : GWorld} {ls : List GLease} {i : Nat} {l : GLease} (h : ls[i]? = some l) : letAll w (ls.take (i + 1)) = letOne (letAll w (ls.take i)) l := by
  unfold letAll; rw [List.take_add_one, h, List.foldl_append]; rfl
theorem s_l16Lose_ok (w : GWorld) (n : Int) (h : 0 ≤ w.fLost ∧ w.fLost ≤ 1000000000) (hn : 0 ≤ n ∧ n ≤ 1000000000) :
    Valid PP GG 160 [.agg w.o, .d (.int .i64 n)] (.agg (loseW w n).o) [none, none] := by
  refine cv Tryz.func160 [.agg (loseW w n).o] ?_
  have hL : loseW w n = { w with fLost := if 1000000000 < w.fLost + n then 1000000000 else w.fLost + n } := rfl
  obtain ⟨a, b, c, ⟨tk⟩, ⟨bk⟩, ⟨us, ff, fm⟩, ⟨jb⟩, ow⟩ := w
  dsimp only at hL h
  have hi1 := ind_rToken tk
  have hi2 := ind_rLease bk
  have hi3 := ind_rUser us
  have hi4 := ind_rJob jb
  have hi5 := ind_rOwned ow
  have hw : IntKind.i64.wrap (c + n) = c + n := wrap_id (by omega) (by omega)
  by_cases hc : 1000000000 < c + n
  · rw [if_pos hc] at hL
    rw [hL]
    exact u_22 (Y2 hw hc)
  · rw [if_neg hc] at hL
    rw [hL]
    exact u_22 (Y2 hw hc)
theorem rOwned_one (l : List GOwned) (x : GOwned) : rOwned l ++ [x.row] = rOwned (l ++ [x]) := by simp [rOwned]
abbrev goVs (ls : List GLease) (i : Nat) : List (Nat × A) := [(1, .d (.slc 6 (rLease ls))), (2, .ptr 0 0), (4, .ptr 1 0), (7, .d (.int .i64 i))]
abbrev goOs (W : GWorld) : List (Nat × O) := [(0, .box [.d (.int .i64 W.fNow), .d (.int .i64 W.fNext), .d (.int .i64 W.fLost), .sl 2, .sl 3, .sl 4, .d (.int .i64 W.fFar.fFail), .d (.int .i64 W.fFar.fMade), .sl 5, .sl 6]), (1, .box [.d (.int .i64 0), .d (.int .i64 0), .d (.int .i64 0), .nil 1 7, .nil 0 6, .nil 0 2, .d (.int .i64 0), .d (.int .i64 0), .nil 0 3, .nil 0 2]), (2, .arr 0 1 7 (rToken W.fForest.fTokens)), (3, .arr 0 0 6 (rLease W.fBook.fLeases)), (4, .arr 0 0 2 (rUser W.fFar.fUsers)), (5, .arr 0 0 3 (rJob W.fQueue.fJobs)), (6, .arr 0 0 2 (rOwned W.fOwned))]
abbrev goOt (W : GWorld) (r : List GOwned) : List (Nat × O) := [(0, .box [.d (.int .i64 W.fNow), .d (.int .i64 W.fNext), .d (.int .i64 W.fLost), .sl 3, .sl 4, .sl 5, .d (.int .i64 W.fFar.fFail), .d (.int .i64 W.fFar.fMade), .sl 6, .sl 7]), (1, .box [.d (.int .i64 0), .d (.int .i64 0), .d (.int .i64 0), .nil 1 7, .nil 0 6, .nil 0 2, .d (.int .i64 0), .d (.int .i64 0), .nil 0 3, .nil 0 2]), (2, .arr 0 0 2 (rOwned r)), (3, .arr 0 1 7 (rToken W.fForest.fTokens)), (4, .arr 0 0 6 (rLease W.fBook.fLeases)), (5, .arr 0 0 2 (rUser W.fFar.fUsers)), (6, .arr 0 0 3 (rJob W.fQueue.fJobs)), (7, .arr 0 0 2 (rOwned W.fOwned))]
theorem s_l16LetGo_ok [MaxL GG] (w : GWorld) (ls : List GLease) (h : LetOk w) (hls : ls.length ≤ 1048576) :
    Valid PP GG 93 [.agg w.o, .d (.slc 6 (rLease ls))] (.tup [.agg (letGo w ls).o, .own 0 1 (strsD (letRun (letAll w ls)).done), .own 0 1 (strsD (letRun (letAll w ls)).failed)]) [none, none] := by
  refine cv Tryz.func93 [.agg (letGo w ls).o, .own 0 1 (strsD (letRun (letAll w ls)).done), .own 0 1 (strsD (letRun (letAll w ls)).failed)] ?_
  refine u_30 ?_
  refine W_loop (fun n st => ∃ i : Nat, n = ls.length - i ∧ i ≤ ls.length ∧ st = ⟨[], goVs ls i, goOs (letAll w (ls.take i)), 7⟩) _ ⟨0, rfl, by omega, ?_⟩ ?_
  · obtain ⟨a, b, c, ⟨tk⟩, ⟨bk⟩, ⟨us, ff, fm⟩, ⟨jb⟩, ow⟩ := w
    exact u_62
  rintro n st ⟨i, rfl, hi, rfl⟩
  by_cases hlt : i < ls.length
  · have hli := List.getElem?_eq_getElem hlt
    generalize ls[i] = l at hli
    have hsu := letAll_succ (w := w) hli
    have hW := letAll_ok h (ls.take i)
    generalize letAll w (ls.take i) = W at *
    unfold letOne at hsu
    have hfo := fun os => letFold_ok (w := W) l.fId hW os
    repeat' (first | refine W_seq ?_ | refine W_skip ?_ | refine W_block ?_ | refine W_exit ?_ | refine pick_pos rfl ?_ | refine pick_neg rfl ?_ | ((first | refine W_regP fun K hK => ?_ | refine W_regPD fun K hK => ?_ | refine W_ret ?_); simp [Fin, litA]) | (with_reducible refine hK _ ?_; clear hK K) | (with_reducible refine goL_split (fun h => ?_) (fun h => ?_) <;> first | (exfalso; simp at h; first | done | omega | contradiction) | ((try simp at h); simp [litA])) | with_reducible refine And.intro ?_ ?_ | with_reducible exact okay_rfl rfl | with_reducible assumption | (refine W_cond rfl (fun h => ?_) (fun h => ?_) <;> first | (exfalso; simp at h; first | done | omega | contradiction) | (exfalso; simp_all; done) | (try simp at h)) | omega)
    refine W_loop (fun n st => ∃ j : Nat, n = W.fOwned.length - j ∧ j ≤ W.fOwned.length ∧ st = ⟨[], goVs ls i ++ [(8, .sl 2), (9, .d (.int .i64 j))], goOt { (letFold W l.fId (W.fOwned.take j)).1 with fOwned := W.fOwned } (letFold W l.fId (W.fOwned.take j)).2, 8⟩) _ ⟨0, rfl, by omega, ?_⟩ ?_
    · simp [gc, closeN, liveA, gcV, gcO, renA, renAs, renO, namesAs, namesA, namesO, posn, letFold, rOwned]
    rintro n st ⟨j, rfl, hj, rfl⟩
    by_cases hjt : j < W.fOwned.length
    · have hoj := List.getElem?_eq_getElem hjt
      have hom := List.getElem_mem hjt
      generalize W.fOwned[j] = o at hoj hom
      have hsj := letFold_succ (w := W) (id := l.fId) hoj
      obtain ⟨hV, hrl, -⟩ := hfo (W.fOwned.take j) fun o ho => hW.on o (List.mem_of_mem_take ho)
      rw [List.length_take] at hrl
      have hol := hW.ol
      have hon := hW.on o hom
      have hi5 := ind_rOwned W.fOwned
      generalize letFold W l.fId (W.fOwned.take j) = S at *
      obtain ⟨V, r⟩ := S
      dsimp only at hV hrl
      unfold letStep at hsj
      dsimp only at hsj
      have hr2 : (rOwned r).length ≤ j := by rw [rOwned_len]; omega
      have hi6 := ind_rOwned r
      obtain ⟨on, ol⟩ := o
      by_cases hne : on = l.fId
      · rw [if_pos hne] at hsj
        have cqd := s_QueueDrop_ok (GG := GG) V.fQueue ol V.fNow hV.qf hon hV.qb
        have clo := s_l16Lose_ok (GG := GG) { V with fQueue := qDropQ V.fQueue ol V.fNow, fOwned := W.fOwned } 1 hV.lost ⟨by omega, by omega⟩
        unfold letHit at hsj
        dsimp only at hsj
        subst hne
        obtain ⟨Vn, Vx, Vl, ⟨Vf⟩, ⟨Vb⟩, ⟨Vu, Vfl, Vfm⟩, ⟨Vq⟩, Vo⟩ := V
        dsimp only at cqd clo hsj
        have hi1 := ind_rToken Vf
        have hi2 := ind_rLease Vb
        have hi3 := ind_rUser Vu
        generalize qDropB ⟨Vq⟩ ol Vn = DB at *
        generalize qDropQ ⟨Vq⟩ ol Vn = DQ at *
        obtain ⟨dj⟩ := DQ
        have hi4 := ind_rJob dj
        cases DB
        · simp only [Bool.false_eq_true, if_false] at hsj
          repeat' (first | refine W_seq ?_ | refine W_skip ?_ | refine W_block ?_ | refine W_exit ?_ | refine pick_pos rfl ?_ | refine pick_neg rfl ?_ | ((first | refine W_regP fun K hK => ?_ | refine W_regPD fun K hK => ?_ | refine W_ret ?_ | with_reducible refine callQ (cqd) ?_ | with_reducible refine callQ (clo) ?_); simp [Fin, hli, hoj, limit, loseW]) | (with_reducible refine hK _ ?_; clear hK K) | (with_reducible refine goL_split (fun h => ?_) (fun h => ?_) <;> first | (exfalso; simp at h; first | done | omega | contradiction) | ((try simp at h); simp [hli, hoj, limit, loseW])) | with_reducible refine And.intro ?_ ?_ | with_reducible exact okay_rfl rfl | with_reducible assumption | (refine W_cond rfl (fun h => ?_) (fun h => ?_) <;> first | (exfalso; simp at h; first | done | omega | contradiction) | (exfalso; simp_all; done) | (try simp at h)) | omega)
          refine ⟨W.fOwned.length - (j + 1), by omega, j + 1, rfl, hjt, ?_⟩
          rw [hsj]
          refine u_63 ?_
          exact wrap_id (by omega) (by omega)
        · simp only [if_true] at hsj
          refine u_50 (Y2 hli hoj) (Z1 cqd) ?_
          refine ⟨W.fOwned.length - (j + 1), by omega, j + 1, rfl, hjt, ?_⟩
          rw [hsj]
          refine u_27 ?_
          exact wrap_id (by omega) (by omega)
      · rw [if_neg hne] at hsj
        refine u_53 (Y3 hli hoj hne) ?_
        refine ⟨W.fOwned.length - (j + 1), by omega, j + 1, rfl, hjt, ?_⟩
        rw [hsj]
        simp [gc, closeN, liveA, gcV, gcO, renA, renAs, renO, namesAs, namesA, namesO, posn, ← rOwned_one]
        exact wrap_id (by omega) (by omega)
    · have hje : j = W.fOwned.length := by omega
      subst hje
      rw [List.take_length]
      generalize letFold W l.fId W.fOwned = S at *
      obtain ⟨V, r⟩ := S
      dsimp only at hsu
      have hi6 := ind_rOwned r
      refine u_30 ?_
      refine ⟨ls.length - (i + 1), by omega, i + 1, rfl, hlt, ?_⟩
      rw [hsu]
      refine u_27 ?_
      exact wrap_id (by omega) (by omega)
  · have hie : i = ls.length := by omega
    subst hie
    rw [List.take_length]
    have hW := letAll_ok h ls
    have hgo : letGo w ls = loseW { letAll w ls with fQueue := ⟨(letRun (letAll w ls)).jobs⟩, fFar := (letRun (letAll w ls)).far } (letRun (letAll w ls)).failed.length := rfl
    have cru := s_RunQueue_ok (GG := GG) (letAll w ls).fQueue (letAll w ls).fFar (letAll w ls).fNow hW.qf hW.ff hW.qb hW.fb hW.now
    have hlr : letRun (letAll w ls) = rq (letAll w ls).fNow (letAll w ls).fQueue.fJobs (letAll w ls).fFar := rfl
    have hln := (rq_len (letAll w ls).fNow (letAll w ls).fQueue.fJobs (letAll w ls).fFar).2.2
    have hql := hW.qf.1
    rw [← hlr] at cru hln
    generalize letAll w ls = W at *
    generalize letRun W = R at *
    obtain ⟨rj, ⟨ru, rfl', rfm⟩, rd, rf⟩ := R
    obtain ⟨Wn, Wx, Wl, ⟨Wf⟩, ⟨Wb⟩, ⟨Wu, Wfl, Wfm⟩, ⟨Wq⟩, Wo⟩ := W
    dsimp only at *
    have clo := s_l16Lose_ok (GG := GG) ⟨Wn, Wx, Wl, ⟨Wf⟩, ⟨Wb⟩, ⟨ru, rfl', rfm⟩, ⟨rj⟩, Wo⟩ rf.length hW.lost ⟨by omega, by omega⟩
    rw [← hgo] at clo
    generalize letGo w ls = Z at *
    obtain ⟨Zn, Zx, Zl, ⟨Zf⟩, ⟨Zb⟩, ⟨Zu, Zfl, Zfm⟩, ⟨Zq⟩, Zo⟩ := Z
    have hi1 := ind_rToken Wf
    have hi2 := ind_rLease Wb
    have hi3 := ind_rUser ru
    have hi4 := ind_rJob rj
    have hi5 := ind_rOwned Wo
    have hj1 := ind_rToken Zf
    have hj2 := ind_rLease Zb
    have hj3 := ind_rUser Zu
    have hj4 := ind_rJob Zq
    have hj5 := ind_rOwned Zo
    have hj6 := ind_strs rd
    have hj7 := ind_strs rf
    exact u_33 (Z2 cru clo)
theorem letFold_skip {id : Int} {os : List GOwned} (h : ∀ o, o ∈ os → o.fLease ≠ id) (v : GWorld) (r : List GOwned) : os.foldl (letStep id) (v, r) = (v, r ++ os) := by
  induction os generalizing r with
  | nil => rw [List.append_nil]; rfl
  | cons a t ih =>
    rw [List.foldl_cons]
    have : letStep id (v, r) a = (v, r ++ [a]) := by unfold letStep; rw [if_neg (h a (by simp))]
    rw [this, ih (fun o ho => h o (by simp [ho])), List.append_assoc]
    rfl
theorem letHit_owned (w : GWorld) (o : GOwned) : (letHit w o).fOwned = w.fOwned := by
  unfold letHit loseW; split <;> rfl
theorem letOne_miss {w : GWorld} {l : GLease} (h : ∀ o, o ∈ w.fOwned → o.fLease ≠ l.fId) : letOne w l = w := by
  unfold letOne letFold
  rw [letFold_skip h]
  rfl
def ownInc (w : GWorld) : Prop := w.fOwned.Pairwise (fun y x => y.fLease < x.fLease)
theorem own_split {os : List GOwned} (inc : os.Pairwise (fun y x => y.fLease < x.fLease)) {i : Nat} {o : GOwned} (hi : os[i]? = some o) : (∀ y, y ∈ os.take i → y.fLease < o.fLease) ∧ (∀ y, y ∈ os.drop (i + 1) → o.fLease < y.fLease) ∧ os = os.take i ++ o :: os.drop (i + 1) := by
  obtain ⟨h1, rfl⟩ := List.getElem?_eq_some_iff.1 hi
  have e : os = os.take i ++ os[i] :: os.drop (i + 1) := by rw [← List.drop_eq_getElem_cons h1, List.take_append_drop]
  have inc2 := inc
  rw [e, List.pairwise_append, List.pairwise_cons] at inc2
  exact ⟨fun y hy => inc2.2.2 y hy _ (List.mem_cons_self ..), fun y hy => inc2.2.1.1 y hy, e⟩
theorem letOne_hit {w : GWorld} {l : GLease} {i : Nat} {o : GOwned} (inc : ownInc w) (hi : w.fOwned[i]? = some o) (ho : o.fLease = l.fId) : letOne w l = { letHit w o with fOwned := w.fOwned.take i ++ w.fOwned.drop (i + 1) } := by
  obtain ⟨h1, h2, h3⟩ := own_split inc hi
  have e : letFold w l.fId w.fOwned = (letHit w o, w.fOwned.take i ++ w.fOwned.drop (i + 1)) := by
    have e1 : (w.fOwned.take i).foldl (letStep l.fId) (w, []) = (w, w.fOwned.take i) := letFold_skip (fun y hy => by have := h1 y hy; omega) w []
    have e2 := letFold_skip (id := l.fId) (os := w.fOwned.drop (i + 1)) (fun y hy => by have := h2 y hy; omega) (letHit w o) (w.fOwned.take i)
    have e3 : letStep l.fId (w, w.fOwned.take i) o = (letHit w o, w.fOwned.take i) := by unfold letStep; rw [if_pos ho]
    have e4 : letFold w l.fId w.fOwned = (w.fOwned.take i ++ o :: w.fOwned.drop (i + 1)).foldl (letStep l.fId) (w, []) := by rw [← h3]; rfl
    rw [e4, List.foldl_append, e1, List.foldl_cons, e3, e2]
  unfold letOne
  rw [e]
theorem letOne_inc {w : GWorld} (l : GLease) (inc : ownInc w) : ownInc (letOne w l) := by
  by_cases hm : ∃ (j : Nat) (o : GOwned), w.fOwned[j]? = some o ∧ o.fLease = l.fId
  · obtain ⟨j, o, hj, ho⟩ := hm
    rw [letOne_hit inc hj ho]
    unfold ownInc at inc ⊢
    dsimp only
    refine List.Pairwise.sublist ?_ inc
    obtain ⟨-, -, h3⟩ := own_split inc hj
    conv => rhs; rw [h3]
    exact List.Sublist.append_left (List.sublist_cons_self _ _) _
  · rw [letOne_miss]
    · exact inc
    · intro o ho e
      obtain ⟨j, hj, rfl⟩ := List.mem_iff_getElem.1 ho
      exact hm ⟨j, _, List.getElem?_eq_getElem hj, e⟩
theorem letAll_inc {w : GWorld} (inc : ownInc w) (ls : List GLease) : ownInc (letAll w ls) := by
  unfold letAll
  induction ls generalizing w with
  | nil => exact inc
  | cons l r ih => exact ih (letOne_inc l inc)
theorem release_c1_ok (t : GOwned) (l : GLease) : Valid PP GG 164 [.agg t.c, .rp l.row] (.d (.bool (decide (t.fLease = l.fId)))) [none] := by
  refine cv Tryz.func164 [.d (.bool (decide (t.fLease = l.fId)))] ?_
  refine u_30 ?_
  rfl
abbrev reVs (ls : List GLease) (i : Nat) : List (Nat × A) := [(0, .ptr 0 0), (15, .d (.slc 6 (rLease ls))), (16, .d (.int .i64 ls.length)), (17, .d (.int .i64 i))]
abbrev reOs (W : GWorld) : List (Nat × O) := [(0, .box [.d (.int .i64 W.fNow), .d (.int .i64 W.fNext), .d (.int .i64 W.fLost), .sl 1, .sl 2, .sl 3, .d (.int .i64 W.fFar.fFail), .d (.int .i64 W.fFar.fMade), .sl 4, .sl 5]), (1, .arr 0 1 7 (rToken W.fForest.fTokens)), (2, .arr 0 0 6 (rLease W.fBook.fLeases)), (3, .arr 0 0 2 (rUser W.fFar.fUsers)), (4, .arr 0 0 3 (rJob W.fQueue.fJobs)), (5, .arr 0 0 2 (rOwned W.fOwned))]
theorem release_ok [MaxL GG] (w : GWorld) (ls : List GLease) (h : LetOk w) (inc : ownInc w) (hls : ls.length ≤ 1048576) :
    Valid PP GG 96 [.box w.o, .d (.slc 6 (rLease ls))] (.tup [.own 0 1 (strsD (letRun (letAll w ls)).done), .own 0 1 (strsD (letRun (letAll w ls)).failed)]) [some (.box (letGo w ls).o), none] := by
  refine cv Tryz.func96 [.own 0 1 (strsD (letRun (letAll w ls)).done), .own 0 1 (strsD (letRun (letAll w ls)).failed)] ?_
  refine u_30 ?_
  refine W_loop (fun n st => ∃ i : Nat, n = ls.length - i ∧ i ≤ ls.length ∧ st = ⟨[], reVs ls i, reOs (letAll w (ls.take i)), 6⟩) _ ⟨0, rfl, by omega, ?_⟩ ?_
  · obtain ⟨a, b, c, ⟨tk⟩, ⟨bk⟩, ⟨us, ff, fm⟩, ⟨jb⟩, ow⟩ := w
    exact u_62
  rintro n st ⟨i, rfl, hi, rfl⟩
  by_cases hlt : i < ls.length
  · have hli := List.getElem?_eq_getElem hlt
    generalize ls[i] = l at hli
    have hsu := letAll_succ (w := w) hli
    have hW := letAll_ok h (ls.take i)
    have hinc := letAll_inc inc (ls.take i)
    generalize letAll w (ls.take i) = W at *
    have hol := hW.ol
    have cix := IndexFuncOwned_ok (GG := GG) W.fOwned 164 [l.row] (fun t => decide (t.fLease = l.fId)) (by omega) fun x _ => release_c1_ok x l
    have hi5 := ind_rOwned W.fOwned
    by_cases hm : ∃ (j : Nat) (o : GOwned), W.fOwned[j]? = some o ∧ o.fLease = l.fId
    · obtain ⟨j, o, hj, ho⟩ := hm
      obtain ⟨hs1, hs2, hs3⟩ := own_split hinc hj
      rw [idxF_hit hj (fun y hy => by have := hs1 y hy; exact decide_eq_false (by omega)) (decide_eq_true ho)] at cix
      rw [letOne_hit hinc hj ho] at hsu
      clear hs1 hs2 hs3
      have hjl := (List.getElem?_eq_some_iff.1 hj).1
      have hon := hW.on o (List.mem_of_getElem? hj)
      have cqd := queueDrop_ok (GG := GG) W.fQueue o.fName W.fNow hW.qf hon hW.qb
      have cdl := DeleteOwned_ok (GG := GG) (rOwned W.fOwned) j (j + 1) (by omega) (by rw [rOwned_len]; omega)
      rw [rOwned_del] at cdl
      have hw : IntKind.i64.wrap ((j : Int) + 1) = (j : Int) + 1 := wrap_id (by omega) (by omega)
      rw [show ((j + 1 : Nat) : Int) = (j : Int) + 1 by omega] at cdl
      have hlo := hW.lost
      have hi6 := ind_rOwned (W.fOwned.take j ++ W.fOwned.drop (j + 1))
      generalize W.fOwned.take j ++ W.fOwned.drop (j + 1) = os' at *
      unfold letHit at hsu
      obtain ⟨on, ol⟩ := o
      obtain ⟨Vn, Vx, Vl, ⟨Vf⟩, ⟨Vb⟩, ⟨Vu, Vfl, Vfm⟩, ⟨Vq⟩, Vo⟩ := W
      dsimp only at *
      have hi1 := ind_rToken Vf
      have hi2 := ind_rLease Vb
      have hi3 := ind_rUser Vu
      generalize qDropB ⟨Vq⟩ ol Vn = DB at *
      generalize qDropQ ⟨Vq⟩ ol Vn = DQ at *
      obtain ⟨dj⟩ := DQ
      have hi4 := ind_rJob dj
      cases DB
      · simp only [Bool.false_eq_true, if_false] at hsu
        have hw2 : IntKind.i64.wrap (Vl + 1) = Vl + 1 := wrap_id (by omega) (by omega)
        refine u_32 (Y4 hli hj hw hw2) (Z3 cix cqd cdl) ?_
        refine ⟨ls.length - (i + 1), by omega, i + 1, rfl, hlt, ?_⟩
        rw [hsu]
        refine u_63 ?_
        exact wrap_id (by omega) (by omega)
      · simp only [if_true] at hsu
        refine u_32 (Y3 hli hj hw) (Z3 cix cqd cdl) ?_
        refine ⟨ls.length - (i + 1), by omega, i + 1, rfl, hlt, ?_⟩
        rw [hsu]
        refine u_27 ?_
        exact wrap_id (by omega) (by omega)
    · have hno : ∀ o, o ∈ W.fOwned → o.fLease ≠ l.fId := by
        intro o ho e
        obtain ⟨j, hj, rfl⟩ := List.mem_iff_getElem.1 ho
        exact hm ⟨j, _, List.getElem?_eq_getElem hj, e⟩
      rw [idxF_miss (fun o ho => decide_eq_false (hno o ho))] at cix
      rw [letOne_miss hno] at hsu
      refine u_32 hli (Z1 cix) ?_
      refine ⟨ls.length - (i + 1), by omega, i + 1, rfl, hlt, ?_⟩
      rw [hsu]
      refine u_27 ?_
      exact wrap_id (by omega) (by omega)
  · have hie : i = ls.length := by omega
    subst hie
    rw [List.take_length]
    have hW := letAll_ok h ls
    have hgo : letGo w ls = { letAll w ls with fQueue := ⟨(letRun (letAll w ls)).jobs⟩, fFar := (letRun (letAll w ls)).far, fLost := if 1000000000 < (letAll w ls).fLost + (letRun (letAll w ls)).failed.length then 1000000000 else (letAll w ls).fLost + (letRun (letAll w ls)).failed.length } := rfl
    have cru := runQueue_ok (GG := GG) (letAll w ls).fQueue (letAll w ls).fFar (letAll w ls).fNow hW.qf hW.ff hW.qb hW.fb hW.now
    have hlr : letRun (letAll w ls) = rq (letAll w ls).fNow (letAll w ls).fQueue.fJobs (letAll w ls).fFar := rfl
    have hln := (rq_len (letAll w ls).fNow (letAll w ls).fQueue.fJobs (letAll w ls).fFar).2.2
    have hql := hW.qf.1
    have hlo := hW.lost
    rw [← hlr] at cru hln
    generalize letAll w ls = W at *
    generalize letRun W = R at *
    obtain ⟨rj, ⟨ru, rfl', rfm⟩, rd, rf⟩ := R
    obtain ⟨Wn, Wx, Wl, ⟨Wf⟩, ⟨Wb⟩, ⟨Wu, Wfl, Wfm⟩, ⟨Wq⟩, Wo⟩ := W
    dsimp only at *
    have hi1 := ind_rToken Wf
    have hi2 := ind_rLease Wb
    have hi3 := ind_rUser ru
    have hi4 := ind_rJob rj
    have hi5 := ind_rOwned Wo
    have hj6 := ind_strs rd
    have hj7 := ind_strs rf
    have hw : IntKind.i64.wrap (Wl + rf.length) = Wl + rf.length := wrap_id (by omega) (by omega)
    have hsl := strsD_len rf
    clear hlr
    by_cases hc : 1000000000 < Wl + rf.length
    · rw [if_pos hc] at hgo
      rw [hgo]
      clear hgo
      exact u_31 (Y3 hw hc hsl) (Z1 cru)
    · rw [if_neg hc] at hgo
      rw [hgo]
      clear hgo
      exact u_31 (Y3 hw hc hsl) (Z1 cru)
theorem letOk_of {w : GWorld} (hf : fitW w) (hb : worldB w = true) (b : GBook) : LetOk { w with fBook := b } ∧ ownInc { w with fBook := b } ∧ bookB w.fBook = true := by
  unfold worldB at hb
  simp only [Bool.and_eq_true] at hb
  obtain ⟨⟨⟨⟨⟨⟨⟨⟨⟨h1, h2⟩, h3⟩, h4⟩, h5⟩, h6⟩, h7⟩, h8⟩, h9⟩, h10⟩ := hb
  obtain ⟨f1, f2, f3, f4, f5, f6⟩ := hf
  exact ⟨⟨inB_true h1, inB_true h3, h7, f4, h6, f3, f5, f6⟩, own_inc h10, h5⟩
theorem sumBy_filter {α : Type} (f : α → Nat) (p : α → Bool) (l : List α) : (l.filter p).length + sumBy f (l.filter p) ≤ l.length + sumBy f l := by
  induction l with
  | nil => exact Nat.le_refl _
  | cons a t ih =>
    rw [List.filter_cons]
    split
    · simp only [List.length_cons, sumBy]; omega
    · simp only [List.length_cons, sumBy]; omega
theorem sumBy_sing {α : Type} (f : α → Nat) (x : α) : sumBy f [x] = f x := rfl
theorem dropF_cost (f : GFar) (s : List UInt8) : (dropF f s).cost ≤ f.cost := by
  unfold dropF
  split
  · exact Nat.le_refl _
  · exact sumBy_filter _ _ _
theorem qDropQ_cost (q : GQueue) (s : List UInt8) (now : Int) : (qDropQ q s now).cost ≤ q.cost + 1 + s.length := by
  unfold qDropQ
  split
  · omega
  · split
    · unfold dropOut GQueue.cost
      dsimp only
      rw [List.length_append, sumBy_append, sumBy_sing]
      unfold GJob.cost
      simp only [List.length_cons, List.length_nil]
      omega
    · omega
theorem world_cost (w : GWorld) : w.cost = w.fForest.cost + w.fBook.cost + w.fFar.cost + w.fQueue.cost + (w.fOwned.length + sumBy GOwned.cost w.fOwned) := rfl
theorem letHit_cost (w : GWorld) (o : GOwned) : (letHit w o).cost ≤ w.cost + 1 + o.cost := by
  have h := qDropQ_cost w.fQueue o.fName w.fNow
  have e : o.cost = o.fName.length := rfl
  unfold letHit loseW
  split <;> (rw [world_cost, world_cost]; dsimp only; omega)
theorem letFold_cost (w : GWorld) (id : Int) (os : List GOwned) : (letFold w id os).1.cost + ((letFold w id os).2.length + sumBy GOwned.cost (letFold w id os).2) ≤ w.cost + (os.length + sumBy GOwned.cost os) ∧ (letFold w id os).1.fOwned = w.fOwned := by
  induction os using snoc_ind with
  | h0 => exact ⟨Nat.le_refl _, rfl⟩
  | h1 l x ih =>
    obtain ⟨ih1, ih2⟩ := ih
    rw [letFold_snoc, List.length_append, sumBy_append, sumBy_sing]
    unfold letStep
    simp only [List.length_cons, List.length_nil]
    split
    · have := letHit_cost (letFold w id l).1 x
      exact ⟨by dsimp only; omega, by dsimp only; rw [letHit_owned]; exact ih2⟩
    · refine ⟨?_, ih2⟩
      dsimp only
      rw [List.length_append, sumBy_append, sumBy_sing]
      simp only [List.length_cons, List.length_nil]
      omega
theorem letOne_cost (w : GWorld) (l : GLease) : (letOne w l).cost ≤ w.cost := by
  obtain ⟨h1, h2⟩ := letFold_cost w l.fId w.fOwned
  have e := world_cost (letFold w l.fId w.fOwned).1
  rw [h2] at e
  unfold letOne
  rw [world_cost]
  dsimp only
  omega
theorem letAll_cost (w : GWorld) (ls : List GLease) : (letAll w ls).cost ≤ w.cost := by
  unfold letAll
  induction ls generalizing w with
  | nil => exact Nat.le_refl _
  | cons l r ih => exact Nat.le_trans (ih (letOne w l)) (letOne_cost w l)
theorem rq_cost (now : Int) (q : List GJob) (f : GFar) : (rq now q f).jobs.length + sumBy GJob.cost (rq now q f).jobs + (rq now q f).far.cost ≤ q.length + sumBy GJob.cost q + f.cost := by
  induction q using snoc_ind with
  | h0 => exact Nat.le_refl _
  | h1 l x ih =>
    have e : rq now (l ++ [x]) f = rqStep now (rq now l f) x := by unfold rq; rw [List.foldl_append]; rfl
    have hd := dropF_cost (rq now l f).far x.fName
    have ej : x.cost = x.fName.length := rfl
    have ek : ∀ a b, (GJob.mk x.fName a b).cost = x.fName.length := fun _ _ => rfl
    rw [e, List.length_append, sumBy_append, sumBy_sing]
    simp only [List.length_cons, List.length_nil]
    unfold rqStep
    repeat' split
    · dsimp only; rw [List.length_append, sumBy_append, sumBy_sing]; simp only [List.length_cons, List.length_nil]; omega
    · dsimp only; omega
    · dsimp only; omega
    · dsimp only; rw [List.length_append, sumBy_append, sumBy_sing, ek]; simp only [List.length_cons, List.length_nil]; omega
theorem letGo_cost (w : GWorld) (ls : List GLease) : (letGo w ls).cost ≤ w.cost := by
  have h1 := letAll_cost w ls
  have h2 := rq_cost (letAll w ls).fNow (letAll w ls).fQueue.fJobs (letAll w ls).fFar
  have e1 := world_cost (letAll w ls)
  have e2 : (letAll w ls).fQueue.cost = (letAll w ls).fQueue.fJobs.length + sumBy GJob.cost (letAll w ls).fQueue.fJobs := rfl
  have e3 : ∀ l, (GQueue.mk l).cost = l.length + sumBy GJob.cost l := fun _ => rfl
  unfold letGo loseW letRun
  rw [world_cost]
  dsimp only
  rw [e3]
  omega
def lessF (f : GForest) (g : List Int) : GForest := ⟨f.fTokens.filter fun t => !g.contains t.fId⟩
theorem s_l08Less_ok (a : List GToken) (g : List Int) (hf : fitF ⟨a⟩) (hg : g.length ≤ 1048576) :
    Valid PP GG 168 [.agg (GForest.mk a).c, .d (.slc 1 (intsD g))] (.agg (lessF ⟨a⟩ g).o) [none, none] := by
  refine cv Tryz.func168 [.agg (lessF ⟨a⟩ g).o] ?_
  have hL : lessF ⟨a⟩ g = ⟨a.filter fun t => !g.contains t.fId⟩ := rfl
  rw [hL]
  clear hL
  have chas := fun x => l01Has_ok (GG := GG) g x (by omega)
  refine u_30 ?_
  refine W_nilP 5 0 rfl rfl rfl ?_
  refine u_30 ?_
  refine W_loop (fun n st => ∃ i : Nat, n = a.length - i ∧ i ≤ a.length ∧
    st = ⟨[], [(1, .d (.slc 1 (intsD g))), (2, .ptr 0 0), (4, .ptr 1 0), (5, .ptr 2 0), (6, .d (.int .i64 i))], [(0, .box [.d (.slc 7 (rToken a))]), (1, .box [.nil 1 7]), (2, .box [.sl 3]), (3, .arr 0 1 7 (rToken ((a.take i).filter fun t => !g.contains t.fId)))], 4⟩) _ ⟨0, rfl, by omega, ?_⟩ ?_
  · exact u_48
  rintro n st ⟨i, rfl, hi, rfl⟩
  by_cases hlt : i < a.length
  rotate_left
  · have hie : i = a.length := by omega
    subst hie
    rw [List.take_length]
    have hi4 := ind_rToken (a.filter fun t => !g.contains t.fId)
    generalize (a.filter fun t => !g.contains t.fId) = b at *
    exact u_29
  have ha := List.getElem?_eq_getElem hlt
  have hm := List.getElem_mem hlt
  generalize a[i] = x at ha hm
  have hsc := filter_succ (p := fun t : GToken => !g.contains t.fId) (f := GToken.row) ha
  have hlen := filter_take_len (fun t : GToken => !g.contains t.fId) GToken.row a i
  rw [show ∀ l : List GToken, (l.filter fun t => !g.contains t.fId).map GToken.row = rToken (l.filter fun t => !g.contains t.fId) from fun l => rfl] at hsc hlen
  rw [show ∀ l : List GToken, (l.filter fun t => !g.contains t.fId).map GToken.row = rToken (l.filter fun t => !g.contains t.fId) from fun l => rfl] at hsc
  have hir := ind_rToken ((a.take i).filter fun t => !g.contains t.fId)
  have ct := s_l08CopyToken_ok (GG := GG) x (hf.2 x hm)
  have hla : a.length ≤ 1048576 := hf.1
  generalize rToken ((a.take i).filter fun t => !g.contains t.fId) = L at *
  have ch := chas x.fId
  obtain ⟨xi, xp, xn, xm, xe, xl, xu⟩ := x
  dsimp only at hsc ch
  cases hc : g.contains xi with
  | true =>
    rw [hc] at hsc ch
    simp only [Bool.not_true, Bool.false_eq_true, if_false, List.append_nil] at hsc
    refine u_32 ha (Z1 ch) ?_
    refine ⟨a.length - (i + 1), by omega, i + 1, rfl, hlt, ?_⟩
    rw [hsc]
    refine u_27 ?_
    exact wrap_id (by omega) (by omega)
  | false =>
    rw [hc] at hsc ch
    simp only [Bool.not_false, if_true] at hsc
    refine u_50 ha (Z2 ch ct) ?_
    refine ⟨a.length - (i + 1), by omega, i + 1, rfl, hlt, ?_⟩
    rw [hsc]
    refine u_27 ?_
    exact wrap_id (by omega) (by omega)
def keepL (b : GBook) (g : List Int) : GBook := ⟨b.fLeases.filter fun l => !g.contains l.fToken⟩
def goneL (b : GBook) (g : List Int) : List GLease := b.fLeases.filter fun l => g.contains l.fToken
theorem s_DropOf_ok [MaxL GG] (b : GBook) (g : List Int) (hf : fitB b) (hb : bookB b = true) (hg : g.length ≤ 200) :
    Valid PP GG 98 [.agg b.c, .d (.slc 1 (intsD g))] (.tup [.agg (keepL b g).o, .own 0 6 (rLease (goneL b g))]) [none, none] := by
  refine cv Tryz.func98 [.agg (keepL b g).o, .own 0 6 (rLease (goneL b g))] ?_
  have hK : keepL b g = ⟨b.fLeases.filter fun l => !g.contains l.fToken⟩ := rfl
  have hG : goneL b g = b.fLeases.filter fun l => g.contains l.fToken := rfl
  have cbo := s_BookOk_ok (GG := GG) b hf
  rw [hb] at cbo
  rw [hK, hG]
  clear hK hG
  have chas := fun x => l01Has_ok (GG := GG) g x (by omega)
  have hl := hf.1
  obtain ⟨a⟩ := b
  dsimp only at hl
  have hgl := ints_len g
  have hng : ((200 : Int) < (g.length : Int)) = False := by simp; omega
  refine u_32 (Y2 hgl hng) (Z1 cbo) ?_
  refine W_nilP 6 0 rfl rfl rfl ?_
  refine u_30 ?_
  refine W_loop (fun n st => ∃ i : Nat, n = a.length - i ∧ i ≤ a.length ∧
    st = ⟨[], [(1, .d (.slc 1 (intsD g))), (2, .ptr 0 0), (4, .ptr 1 0), (6, .ptr 2 0), (7, .sl 3), (8, .d (.int .i64 i))], [(0, .box [.d (.slc 6 (rLease a))]), (1, .box [.nil 0 6]), (2, .box [.sl 4]), (3, .arr 0 0 6 (rLease ((a.take i).filter fun l => g.contains l.fToken))), (4, .arr 0 0 6 (rLease ((a.take i).filter fun l => !g.contains l.fToken)))], 5⟩) _ ⟨0, rfl, by omega, ?_⟩ ?_
  · exact u_51
  rintro n st ⟨i, rfl, hi, rfl⟩
  by_cases hlt : i < a.length
  rotate_left
  · have hie : i = a.length := by omega
    subst hie
    rw [List.take_length]
    have hi4 := ind_rLease (a.filter fun l => g.contains l.fToken)
    have hi5 := ind_rLease (a.filter fun l => !g.contains l.fToken)
    generalize (a.filter fun l => g.contains l.fToken) = b1 at *
    generalize (a.filter fun l => !g.contains l.fToken) = b2 at *
    exact u_29
  have ha := List.getElem?_eq_getElem hlt
  generalize a[i] = x at ha
  have hsc := filter_succ (p := fun l : GLease => g.contains l.fToken) (f := GLease.row) ha
  have hlen := filter_take_len (fun l : GLease => g.contains l.fToken) GLease.row a i
  rw [show ∀ l : List GLease, (l.filter fun l => g.contains l.fToken).map GLease.row = rLease (l.filter fun l => g.contains l.fToken) from fun l => rfl] at hsc hlen
  rw [show ∀ l : List GLease, (l.filter fun l => g.contains l.fToken).map GLease.row = rLease (l.filter fun l => g.contains l.fToken) from fun l => rfl] at hsc
  have hsc2 := filter_succ (p := fun l : GLease => !g.contains l.fToken) (f := GLease.row) ha
  have hlen2 := filter_take_len (fun l : GLease => !g.contains l.fToken) GLease.row a i
  rw [show ∀ l : List GLease, (l.filter fun l => !g.contains l.fToken).map GLease.row = rLease (l.filter fun l => !g.contains l.fToken) from fun l => rfl] at hsc2 hlen2
  rw [show ∀ l : List GLease, (l.filter fun l => !g.contains l.fToken).map GLease.row = rLease (l.filter fun l => !g.contains l.fToken) from fun l => rfl] at hsc2
  generalize rLease ((a.take i).filter fun l => g.contains l.fToken) = L at *
  generalize rLease ((a.take i).filter fun l => !g.contains l.fToken) = L2 at *
  have ch := chas x.fToken
  obtain ⟨x1, x2, x3, x4, x5, x6⟩ := x
  dsimp only at hsc hsc2 ch
  cases hc : g.contains x2 with
  | true =>
    rw [hc] at hsc hsc2 ch
    simp only [if_true] at hsc
    simp only [Bool.not_true, Bool.false_eq_true, if_false, List.append_nil] at hsc2
    refine u_50 ha (Z1 ch) ?_
    refine ⟨a.length - (i + 1), by omega, i + 1, rfl, hlt, ?_⟩
    rw [hsc, hsc2]
    refine u_27 ?_
    exact wrap_id (by omega) (by omega)
  | false =>
    rw [hc] at hsc hsc2 ch
    simp only [Bool.not_false, if_true] at hsc2
    simp only [Bool.false_eq_true, if_false, List.append_nil] at hsc
    refine u_50 ha (Z1 ch) ?_
    refine ⟨a.length - (i + 1), by omega, i + 1, rfl, hlt, ?_⟩
    rw [hsc, hsc2]
    refine u_27 ?_
    exact wrap_id (by omega) (by omega)
theorem dropLeases_ok (a : List GLease) (g : FuncId) (caps : List (List D)) (p : GLease → Bool) (hl : a.length ≤ 1048576) (hp : ∀ x, x ∈ a → Valid PP GG g (.agg x.c :: caps.map .rp) (.d (.bool (p x))) [none]) :
    Valid PP GG 205 [.agg [.d (.slc 6 (rLease a))], .d (.fn g caps)] (.tup [.agg [.own 0 6 (rLease (a.filter fun l => !p l))], .own 0 6 (rLease (a.filter p))]) [none, none] := by
  refine cv Tryz.func205 [.agg [.own 0 6 (rLease (a.filter fun l => !p l))], .own 0 6 (rLease (a.filter p))] ?_
  refine u_1 ?_
  refine u_1 ?_
  refine W_nilP 6 0 rfl rfl rfl ?_
  refine u_1 ?_
  refine W_nilV 7 rfl ?_
  refine u_30 ?_
  refine W_loop (fun n st => ∃ i : Nat, n = a.length - i ∧ i ≤ a.length ∧
    st = ⟨[], [(1, .d (.fn g caps)), (4, .ptr 0 0), (6, .ptr 1 0), (7, .sl 2), (11, .d (.slc 6 (rLease a))), (12, .d (.int .i64 a.length)), (13, .d (.int .i64 i))],
      [(0, .box [.nil 0 6]), (1, .box [.sl 3]), (2, .arr 0 0 6 (rLease ((a.take i).filter p))), (3, .arr 0 0 6 (rLease ((a.take i).filter fun l => !p l)))], 4⟩) _ ⟨0, rfl, by omega, ?_⟩ ?_
  · exact u_51
  rintro n st ⟨i, rfl, hi, rfl⟩
  by_cases hlt : i < a.length
  rotate_left
  · have hie : i = a.length := by omega
    subst hie
    rw [List.take_length]
    have hi4 := ind_rLease (a.filter p)
    have hi5 := ind_rLease (a.filter fun l => !p l)
    generalize (a.filter p) = b1 at *
    generalize (a.filter fun l => !p l) = b2 at *
    exact u_29
  have ha := List.getElem?_eq_getElem hlt
  have hm := List.getElem_mem hlt
  generalize a[i] = x at ha hm
  have cp := hp x hm
  have hsc := filter_succ (p := p) (f := GLease.row) ha
  have hlen := filter_take_len p GLease.row a i
  rw [show ∀ l : List GLease, (l.filter p).map GLease.row = rLease (l.filter p) from fun l => rfl] at hsc hlen
  rw [show ∀ l : List GLease, (l.filter p).map GLease.row = rLease (l.filter p) from fun l => rfl] at hsc
  have hsc2 := filter_succ (p := fun l : GLease => !p l) (f := GLease.row) ha
  have hlen2 := filter_take_len (fun l : GLease => !p l) GLease.row a i
  rw [show ∀ l : List GLease, (l.filter fun l => !p l).map GLease.row = rLease (l.filter fun l => !p l) from fun l => rfl] at hsc2 hlen2
  rw [show ∀ l : List GLease, (l.filter fun l => !p l).map GLease.row = rLease (l.filter fun l => !p l) from fun l => rfl] at hsc2
  generalize rLease ((a.take i).filter p) = L at *
  generalize rLease ((a.take i).filter fun l => !p l) = L2 at *
  generalize hcp : p x = c at *
  obtain ⟨x1, x2, x3, x4, x5, x6⟩ := x
  cases c with
  | true =>
    simp only [hcp, if_true] at hsc
    simp only [hcp, Bool.not_true, Bool.false_eq_true, if_false, List.append_nil] at hsc2
    refine u_50 ha (Z1 cp) ?_
    refine ⟨a.length - (i + 1), by omega, i + 1, rfl, hlt, ?_⟩
    rw [hsc, hsc2]
    refine u_27 ?_
    exact wrap_id (by omega) (by omega)
  | false =>
    simp only [hcp, Bool.not_false, if_true] at hsc2
    simp only [hcp, Bool.false_eq_true, if_false, List.append_nil] at hsc
    refine u_50 ha (Z1 cp) ?_
    refine ⟨a.length - (i + 1), by omega, i + 1, rfl, hlt, ?_⟩
    rw [hsc, hsc2]
    refine u_27 ?_
    exact wrap_id (by omega) (by omega)
theorem dropOfTokens_c1_ok (l : GLease) (g : List Int) (hg : g.length ≤ 1048576) : Valid PP GG 206 [.agg l.c, .rp [.slc 1 (intsD g)]] (.d (.bool (g.contains l.fToken))) [none] := by
  refine cv Tryz.func206 [.d (.bool (g.contains l.fToken))] ?_
  have cc := ContainsInt_ok (GG := GG) g l.fToken (by omega)
  exact u_33 (Z1 cc)
theorem dropOfTokens_ok (w : GWorld) (g : List Int) (hl : w.fBook.fLeases.length ≤ 1048576) (hg : g.length ≤ 1048576) :
    Valid PP GG 172 [.box w.o, .d (.slc 1 (intsD g))] (.own 0 6 (rLease (goneL w.fBook g))) [some (.box { w with fBook := keepL w.fBook g }.o), none] := by
  refine cv Tryz.func172 [.own 0 6 (rLease (goneL w.fBook g))] ?_
  have cd := dropLeases_ok (GG := GG) w.fBook.fLeases 206 [[.slc 1 (intsD g)]] (fun l => g.contains l.fToken) hl fun x _ => dropOfTokens_c1_ok x g hg
  rw [show (w.fBook.fLeases.filter fun l => g.contains l.fToken) = goneL w.fBook g from rfl] at cd
  have hK : keepL w.fBook g = ⟨w.fBook.fLeases.filter fun l => !g.contains l.fToken⟩ := rfl
  rw [hK]
  clear hK
  have hi1 := ind_rToken w.fForest.fTokens
  have hi2 := ind_rLease w.fBook.fLeases
  have hi3 := ind_rUser w.fFar.fUsers
  have hi4 := ind_rJob w.fQueue.fJobs
  have hi5 := ind_rOwned w.fOwned
  have hi6 := ind_rLease (goneL w.fBook g)
  have hi7 := ind_rLease (w.fBook.fLeases.filter fun l => !g.contains l.fToken)
  generalize goneL w.fBook g = GL at *
  generalize (w.fBook.fLeases.filter fun l => !g.contains l.fToken) = KL at *
  exact u_33 (Z1 cd)
theorem letOk_of2 {w : GWorld} (hf : fitW w) (hb : worldB w = true) (f : GForest) (b : GBook) : LetOk { w with fForest := f, fBook := b } ∧ ownInc { w with fForest := f, fBook := b } ∧ bookB w.fBook = true := by
  obtain ⟨hL, hI, hbb⟩ := letOk_of hf hb b
  obtain ⟨a1, a2, a3, a4, a5, a6, a7, a8⟩ := hL
  exact ⟨⟨a1, a2, a3, a4, a5, a6, a7, a8⟩, hI, hbb⟩
theorem goneL_len (b : GBook) (g : List Int) : (goneL b g).length ≤ b.fLeases.length := List.length_filter_le _ _
def sw2 {α : Type} (a : List α) (i j : Nat) : List α := match a[i]?, a[j]? with | some x, some y => (a.set i y).set j x | _, _ => a
def swR {α : Type} (a b : Nat) : Nat → Nat → List α → List α
  | 0, _, l => l
  | k + 1, i, l => swR a b k (i + 1) (sw2 l (a + i) (b + i))
def insJ {α : Type} (lt : α → α → Bool) (a : Nat) : Nat → List α → List α
  | 0, l => l
  | j + 1, l => if a < j + 1 then (match l[j + 1]?, l[j]? with | some x, some y => if lt x y then insJ lt a j (sw2 l (j + 1) j) else l | _, _ => l) else l
def insO {α : Type} (lt : α → α → Bool) (a : Nat) : Nat → Nat → List α → List α
  | 0, _, l => l
  | k + 1, i, l => insO lt a k (i + 1) (insJ lt a i l)
def insS {α : Type} (lt : α → α → Bool) (a b : Nat) (l : List α) : List α := insO lt a (b - (a + 1)) (a + 1) l
def rotG {α : Type} (m : Nat) : Nat → Nat → Nat → List α → List α
  | 0, _, _, l => l
  | k + 1, i, j, l => if i = j then swR (m - i) m i 0 l else if j < i then rotG m k (i - j) j (swR (m - i) m j 0 l) else rotG m k i (j - i) (swR (m - i) (m + j - i) i 0 l)
def rot {α : Type} (a m b : Nat) (l : List α) : List α := rotG m (b - a) (m - a) (b - m) l
def bsG (f : Nat → Bool) : Nat → Nat → Nat → Nat
  | 0, i, _ => i
  | k + 1, i, j => if i < j then (if f ((i + j) / 2) then bsG f k ((i + j) / 2 + 1) j else bsG f k i ((i + j) / 2)) else i
def bs (f : Nat → Bool) (i j : Nat) : Nat := bsG f (j - i) i j
def ltA {α : Type} (lt : α → α → Bool) (l : List α) (i j : Nat) : Bool := match l[i]?, l[j]? with | some x, some y => lt x y | _, _ => false
def upS {α : Type} : Nat → Nat → List α → List α
  | 0, _, l => l
  | k + 1, i, l => upS k (i + 1) (sw2 l i (i + 1))
def dnS {α : Type} : Nat → Nat → List α → List α
  | 0, _, l => l
  | k + 1, i, l => dnS k (i - 1) (sw2 l i (i - 1))
def symS {α : Type} (lt : α → α → Bool) (a m b : Nat) (l : List α) : Nat :=
  if (a + b) / 2 < m then bs (fun c => !ltA lt l ((a + b) / 2 + m - 1 - c) c) ((a + b) / 2 + m - b) ((a + b) / 2) else bs (fun c => !ltA lt l ((a + b) / 2 + m - 1 - c) c) a m
def symC {α : Type} (p : Prop) [Decidable p] (f : List α → List α) (l : List α) : List α := if p then f l else l
def symR {α : Type} (f : Nat → Nat → Nat → List α → List α) (a m b s : Nat) (l : List α) : List α :=
  symC ((a + b) / 2 < (a + b) / 2 + m - s ∧ (a + b) / 2 + m - s < b) (f ((a + b) / 2) ((a + b) / 2 + m - s) b) (symC (a < s ∧ s < (a + b) / 2) (f a s ((a + b) / 2)) (symC (s < m ∧ m < (a + b) / 2 + m - s) (rot s m ((a + b) / 2 + m - s)) l))
def symM {α : Type} (lt : α → α → Bool) : Nat → Nat → Nat → Nat → List α → List α
  | 0, _, _, _, l => l
  | k + 1, a, m, b, l =>
    if m - a = 1 then upS (bs (fun h => ltA lt l h a) m b - 1 - a) a l
    else if b - m = 1 then dnS (m - bs (fun h => !ltA lt l m h) a m) m l
    else symR (symM lt k) a m b (symS lt a m b l) l
def stIns {α : Type} (lt : α → α → Bool) (n : Nat) : Nat → Nat → List α → List α
  | 0, a, l => insS lt a n l
  | k + 1, a, l => if a + 20 ≤ n then stIns lt n k (a + 20) (insS lt a (a + 20) l) else insS lt a n l
def stMrg {α : Type} (lt : α → α → Bool) (n s : Nat) : Nat → Nat → List α → List α
  | 0, _, l => l
  | k + 1, a, l => if a + 2 * s ≤ n then stMrg lt n s k (a + 2 * s) (symM lt (2 * s) a (a + s) (a + 2 * s) l) else if a + s < n then symM lt (n - a) a (a + s) n l else l
def stGo {α : Type} (lt : α → α → Bool) (n : Nat) : Nat → Nat → List α → List α
  | 0, _, l => l
  | k + 1, s, l => if s < n then stGo lt n k (2 * s) (stMrg lt n s n 0 l) else l
def stable {α : Type} (lt : α → α → Bool) (l : List α) : List α := stGo lt l.length l.length 20 (stIns lt l.length l.length 0 l)
theorem sw2_len {α : Type} (l : List α) (i j : Nat) : (sw2 l i j).length = l.length := by unfold sw2; split <;> simp
theorem swR_len {α : Type} (a b : Nat) : ∀ (k i : Nat) (l : List α), (swR a b k i l).length = l.length
  | 0, _, l => rfl
  | k + 1, i, l => by rw [swR, swR_len a b k, sw2_len]
theorem insJ_len {α : Type} (lt : α → α → Bool) (a : Nat) : ∀ (j : Nat) (l : List α), (insJ lt a j l).length = l.length
  | 0, l => rfl
  | j + 1, l => by
    rw [insJ]
    split
    · split
      · split
        · rw [insJ_len lt a j, sw2_len]
        · rfl
      · rfl
    · rfl
theorem insO_len {α : Type} (lt : α → α → Bool) (a : Nat) : ∀ (k i : Nat) (l : List α), (insO lt a k i l).length = l.length
  | 0, _, l => rfl
  | k + 1, i, l => by rw [insO, insO_len lt a k, insJ_len]
theorem insS_len {α : Type} (lt : α → α → Bool) (a b : Nat) (l : List α) : (insS lt a b l).length = l.length := insO_len lt a _ _ l
theorem rotG_len {α : Type} (m : Nat) : ∀ (k i j : Nat) (l : List α), (rotG m k i j l).length = l.length
  | 0, _, _, l => rfl
  | k + 1, i, j, l => by
    rw [rotG]
    split
    · rw [swR_len]
    · split
      · rw [rotG_len m k, swR_len]
      · rw [rotG_len m k, swR_len]
theorem rot_len {α : Type} (a m b : Nat) (l : List α) : (rot a m b l).length = l.length := rotG_len m _ _ _ l
theorem upS_len {α : Type} : ∀ (k i : Nat) (l : List α), (upS k i l).length = l.length
  | 0, _, l => rfl
  | k + 1, i, l => by rw [upS, upS_len k, sw2_len]
theorem dnS_len {α : Type} : ∀ (k i : Nat) (l : List α), (dnS k i l).length = l.length
  | 0, _, l => rfl
  | k + 1, i, l => by rw [dnS, dnS_len k, sw2_len]
theorem symC_len {α : Type} (p : Prop) [Decidable p] (f : List α → List α) (l : List α) (h : ∀ l, (f l).length = l.length) : (symC p f l).length = l.length := by
  unfold symC; split
  · exact h l
  · rfl
theorem symM_len {α : Type} (lt : α → α → Bool) : ∀ (k a m b : Nat) (l : List α), (symM lt k a m b l).length = l.length
  | 0, _, _, _, l => rfl
  | k + 1, a, m, b, l => by
    rw [symM]
    split
    · rw [upS_len]
    split
    · rw [dnS_len]
    rw [symR, symC_len _ _ _ (symM_len lt k _ _ _), symC_len _ _ _ (symM_len lt k _ _ _), symC_len _ _ _ (rot_len _ _ _)]
theorem stIns_len {α : Type} (lt : α → α → Bool) (n : Nat) : ∀ (k a : Nat) (l : List α), (stIns lt n k a l).length = l.length
  | 0, a, l => by rw [stIns, insS_len]
  | k + 1, a, l => by
    rw [stIns]; split
    · rw [stIns_len lt n k, insS_len]
    · rw [insS_len]
theorem stMrg_len {α : Type} (lt : α → α → Bool) (n s : Nat) : ∀ (k a : Nat) (l : List α), (stMrg lt n s k a l).length = l.length
  | 0, _, l => rfl
  | k + 1, a, l => by
    rw [stMrg]; split
    · rw [stMrg_len lt n s k, symM_len]
    · split
      · rw [symM_len]
      · rfl
theorem stGo_len {α : Type} (lt : α → α → Bool) (n : Nat) : ∀ (k s : Nat) (l : List α), (stGo lt n k s l).length = l.length
  | 0, _, l => rfl
  | k + 1, s, l => by
    rw [stGo]; split
    · rw [stGo_len lt n k, stMrg_len]
    · rfl
theorem sw2_at {α : Type} (Q U V : List α) (x y : α) : sw2 (Q ++ x :: (U ++ y :: V)) Q.length (Q.length + (U.length + 1)) = Q ++ y :: (U ++ x :: V) := by
  unfold sw2
  have h1 : (Q ++ x :: (U ++ y :: V))[Q.length]? = some x := by simp
  have h2 : (Q ++ x :: (U ++ y :: V))[Q.length + (U.length + 1)]? = some y := by
    rw [List.getElem?_append_right (by omega)]; simp
  rw [h1, h2]; simp only []
  rw [List.set_append_right _ _ (Nat.le_refl _), List.set_append_right _ _ (by omega)]
  simp
theorem sw2_up {α : Type} (Q V : List α) (x y : α) : sw2 (Q ++ x :: y :: V) Q.length (Q.length + 1) = Q ++ y :: x :: V := by
  have := sw2_at Q [] V x y; simpa using this
theorem sw2_dn {α : Type} (Q V : List α) (x y : α) : sw2 (Q ++ x :: y :: V) (Q.length + 1) Q.length = Q ++ y :: x :: V := by
  unfold sw2
  have h1 : (Q ++ x :: y :: V)[Q.length]? = some x := by simp
  have h2 : (Q ++ x :: y :: V)[Q.length + 1]? = some y := by
    rw [List.getElem?_append_right (by omega)]; simp
  rw [h1, h2]; simp only []
  rw [List.set_append_right _ _ (by omega), List.set_append_right _ _ (by omega)]
  simp
theorem swR_at {α : Type} (a b : Nat) : ∀ (X Y Q N S : List α) (i : Nat), X.length = Y.length → a + i = Q.length → b + i = Q.length + X.length + N.length →
    swR a b X.length i (Q ++ (X ++ (N ++ (Y ++ S)))) = Q ++ (Y ++ (N ++ (X ++ S)))
  | [], [], Q, N, S, i, _, _, _ => rfl
  | x :: X, y :: Y, Q, N, S, i, h, ha, hb => by
    simp only [List.length_cons] at h hb ⊢
    rw [swR]
    have e : sw2 (Q ++ (x :: X ++ (N ++ (y :: Y ++ S)))) (a + i) (b + i) = (Q ++ [y]) ++ (X ++ ((N ++ [x]) ++ (Y ++ S))) := by
      have := sw2_at Q (X ++ N) (Y ++ S) x y
      rw [ha, hb]
      have e2 : Q.length + (X.length + 1) + N.length = Q.length + ((X ++ N).length + 1) := by simp <;> omega
      rw [e2]
      simpa using this
    rw [e, swR_at a b X Y (Q ++ [y]) (N ++ [x]) S (i + 1) (by omega) (by simp <;> omega) (by simp <;> omega)]
    simp
theorem swR_mid {α : Type} (X N Y Q S : List α) (h : X.length = Y.length) : swR Q.length (Q.length + X.length + N.length) X.length 0 (Q ++ (X ++ (N ++ (Y ++ S)))) = Q ++ (Y ++ (N ++ (X ++ S))) :=
  swR_at _ _ X Y Q N S 0 h rfl rfl
theorem split_at {α : Type} (l : List α) (n : Nat) (h : n ≤ l.length) : ∃ A B, l = A ++ B ∧ A.length = n := ⟨l.take n, l.drop n, by simp, by simp <;> omega⟩
theorem rotG_at {α : Type} : ∀ (k : Nat) (P A B S : List α), A.length + B.length ≤ k → 0 < A.length → 0 < B.length → rotG (P.length + A.length) k A.length B.length (P ++ (A ++ (B ++ S))) = P ++ (B ++ (A ++ S))
  | 0, P, A, B, S, h, h1, _ => by omega
  | k + 1, P, A, B, S, h, h1, h2 => by
    rw [rotG]
    split
    · rename_i e
      have := swR_mid A [] B P S e
      simpa using this
    · split
      · rename_i hne hlt
        obtain ⟨A1, A2, rfl, hl⟩ := split_at A B.length (by omega)
        have hs := swR_mid A1 A2 B P S hl
        simp only [List.length_append] at hne hlt h h1 ⊢
        rw [show P.length + (A1.length + A2.length) - (A1.length + A2.length) = P.length by omega]
        have e1 : swR P.length (P.length + (A1.length + A2.length)) B.length 0 (P ++ (A1 ++ A2 ++ (B ++ S))) = (P ++ B) ++ (A2 ++ (A1 ++ S)) := by
          rw [← hl, show P.length + (A1.length + A2.length) = P.length + A1.length + A2.length by omega]; simpa using hs
        rw [e1]
        have := rotG_at k (P ++ B) A2 A1 S (by omega) (by omega) (by omega)
        simp only [List.length_append] at this
        rw [show P.length + B.length + A2.length = P.length + (A1.length + A2.length) by omega, ] at this
        rw [show A1.length + A2.length - B.length = A2.length by omega, ← hl]
        rw [this]; simp
      · rename_i hne hlt
        obtain ⟨B1, B2, rfl, hl⟩ := split_at B (B.length - A.length) (by omega)
        simp only [List.length_append] at hne hlt h h2 hl ⊢
        have hs := swR_mid A B1 B2 P S (by omega)
        rw [show P.length + A.length - A.length = P.length by omega, show P.length + A.length + (B1.length + B2.length) - A.length = P.length + A.length + B1.length by omega]
        have e1 : swR P.length (P.length + A.length + B1.length) A.length 0 (P ++ (A ++ (B1 ++ B2 ++ S))) = P ++ (B2 ++ (B1 ++ (A ++ S))) := by simpa using hs
        rw [e1]
        have := rotG_at k P B2 B1 (A ++ S) (by omega) (by omega) (by omega)
        rw [show A.length = B2.length by omega, show B1.length + B2.length - B2.length = B1.length by omega, this]; simp
theorem rot_at {α : Type} (P A B S : List α) (h1 : 0 < A.length) (h2 : 0 < B.length) : rot P.length (P.length + A.length) (P.length + A.length + B.length) (P ++ (A ++ (B ++ S))) = P ++ (B ++ (A ++ S)) := by
  unfold rot
  have := rotG_at (A.length + B.length) P A B S (Nat.le_refl _) h1 h2
  rw [show P.length + A.length + B.length - P.length = A.length + B.length by omega, show P.length + A.length - P.length = A.length by omega, show P.length + A.length + B.length - (P.length + A.length) = B.length by omega]
  exact this
theorem upS_at {α : Type} : ∀ (B P S : List α) (x : α), upS B.length P.length (P ++ x :: (B ++ S)) = P ++ (B ++ x :: S)
  | [], P, S, x => rfl
  | y :: B, P, S, x => by
    simp only [List.length_cons]
    rw [upS, List.cons_append, sw2_up]
    have := upS_at B (P ++ [y]) S x
    simpa using this
theorem dnS_at {α : Type} : ∀ (n : Nat) (B P S : List α) (x : α), B.length = n → dnS B.length (P.length + B.length) (P ++ (B ++ x :: S)) = P ++ x :: (B ++ S)
  | 0, B, P, S, x, h => by cases B with | nil => rfl | cons y B => simp at h
  | n + 1, B, P, S, x, h => by
    obtain ⟨B', y, rfl⟩ : ∃ B' y, B = B' ++ [y] := ⟨B.dropLast, B.getLast (by intro e; simp [e] at h), (List.dropLast_concat_getLast _).symm⟩
    simp only [List.length_append, List.length_singleton] at h ⊢
    rw [dnS]
    have := sw2_dn (P ++ B') S y x
    have e : sw2 (P ++ (B' ++ [y] ++ x :: S)) (P.length + (B'.length + 1)) (P.length + (B'.length + 1) - 1) = P ++ (B' ++ x :: (y :: S)) := by
      rw [show P.length + (B'.length + 1) - 1 = (P ++ B').length by simp <;> omega, show P.length + (B'.length + 1) = (P ++ B').length + 1 by simp <;> omega]
      simpa using this
    rw [e, show P.length + (B'.length + 1) - 1 = P.length + B'.length by omega, dnS_at n B' P (y :: S) x (by omega)]
    simp
theorem bsG_spec (f : Nat → Bool) (i0 j0 : Nat) : ∀ (k i j : Nat), j - i ≤ k → i ≤ j → i0 ≤ i → j ≤ j0 → (i = i0 ∨ f (i - 1) = true) → (j = j0 ∨ f j = false) →
    i0 ≤ bsG f k i j ∧ bsG f k i j ≤ j0 ∧ (bsG f k i j = i0 ∨ (i0 < bsG f k i j ∧ f (bsG f k i j - 1) = true)) ∧ (bsG f k i j = j0 ∨ f (bsG f k i j) = false)
  | 0, i, j, h1, h2, h3, h4, h5, h6 => by
    have : i = j := by omega
    subst this
    simp only [bsG]
    exact ⟨h3, h4, by by_cases e : i = i0 <;> simp [e] <;> rcases h5 with h5 | h5 <;> first | exact absurd h5 e | exact ⟨by omega, h5⟩, h6⟩
  | k + 1, i, j, h1, h2, h3, h4, h5, h6 => by
    rw [bsG]
    split
    · split
      · rename_i hf
        exact bsG_spec f i0 j0 k _ j (by omega) (by omega) (by omega) h4 (Or.inr (by simpa using hf)) h6
      · rename_i hf
        exact bsG_spec f i0 j0 k i _ (by omega) (by omega) h3 (by omega) h5 (Or.inr (by simpa using hf))
    · have : i = j := by omega
      subst this
      exact ⟨h3, h4, by by_cases e : i = i0 <;> simp [e] <;> rcases h5 with h5 | h5 <;> first | exact absurd h5 e | exact ⟨by omega, h5⟩, h6⟩
theorem bs_spec (f : Nat → Bool) (i j : Nat) (h : i ≤ j) : i ≤ bs f i j ∧ bs f i j ≤ j ∧ (bs f i j = i ∨ (i < bs f i j ∧ f (bs f i j - 1) = true)) ∧ (bs f i j = j ∨ f (bs f i j) = false) :=
  bsG_spec f i j (j - i) i j (Nat.le_refl _) h (Nat.le_refl _) (Nat.le_refl _) (Or.inl rfl) (Or.inl rfl)
def TB {α : Type} (lt : α → α → Bool) (R : α → α → Prop) (u x : α) : Prop := (lt x u = true → R x u) ∧ (lt x u = false → R u x)
theorem ltA_app {α : Type} (lt : α → α → Bool) {l : List α} {i j : Nat} {x y : α} (h1 : l[i]? = some x) (h2 : l[j]? = some y) : ltA lt l i j = lt x y := by unfold ltA; rw [h1, h2]
theorem app_at {α : Type} (P S : List α) (x : α) : (P ++ x :: S)[P.length]? = some x := by simp
theorem insJ_at {α : Type} {lt : α → α → Bool} {R : α → α → Prop} (htr : ∀ a b c : α, R a b → R b c → R a c) : ∀ (n : Nat) (P U V : List α) (x : α), U.length = n → U.Pairwise R → (∀ u, u ∈ U → TB lt R u x) →
    ∃ W, insJ lt P.length (P.length + U.length) (P ++ (U ++ x :: V)) = P ++ (W ++ V) ∧ W.Perm (U ++ [x]) ∧ W.Pairwise R
  | 0, P, U, V, x, hn, _, _ => by
    have : U = [] := List.length_eq_zero_iff.1 hn
    subst this
    refine ⟨[x], ?_, List.Perm.refl _, List.pairwise_singleton _ _⟩
    have : insJ lt P.length P.length (P ++ x :: V) = P ++ x :: V := by
      cases hP : P.length with
      | zero => rfl
      | succ k => rw [insJ, if_neg (by omega)]
    simpa using this
  | n + 1, P, U, V, x, hn, hs, ht => by
    obtain ⟨U', y, rfl⟩ : ∃ U' y, U = U' ++ [y] := ⟨U.dropLast, U.getLast (by intro e; simp [e] at hn), (List.dropLast_concat_getLast _).symm⟩
    simp only [List.length_append, List.length_singleton] at hn ⊢
    have ty := ht y (by simp)
    rw [show P.length + (U'.length + 1) = (P.length + U'.length) + 1 by omega, insJ, if_pos (by omega)]
    have e1 : (P ++ (U' ++ [y] ++ x :: V))[P.length + U'.length + 1]? = some x := by
      have := app_at (P ++ (U' ++ [y])) V x
      rw [show (P ++ (U' ++ [y])).length = P.length + U'.length + 1 by simp <;> omega] at this
      simpa using this
    have e2 : (P ++ (U' ++ [y] ++ x :: V))[P.length + U'.length]? = some y := by
      have := app_at (P ++ U') (x :: V) y
      rw [show (P ++ U').length = P.length + U'.length by simp] at this
      simp
    rw [e1, e2]; simp only []
    have hs' := List.pairwise_append.1 hs
    split
    · rename_i hlt
      have e3 : sw2 (P ++ (U' ++ [y] ++ x :: V)) (P.length + U'.length + 1) (P.length + U'.length) = P ++ (U' ++ x :: (y :: V)) := by
        have := sw2_dn (P ++ U') V y x
        rw [show (P ++ U').length = P.length + U'.length by simp] at this
        simpa using this
      rw [e3]
      obtain ⟨W, hW, hp, hw⟩ := insJ_at htr n P U' (y :: V) x (by omega) hs'.1 fun u hu => ht u (by simp [hu])
      refine ⟨W ++ [y], by rw [hW]; simp, ?_, ?_⟩
      · have : (U' ++ [y] ++ [x]).Perm (U' ++ [x] ++ [y]) := by
          simp only [List.append_assoc]; exact List.Perm.append_left _ (List.Perm.swap _ _ _)
        exact (List.Perm.append_right [y] hp).trans this.symm
      · refine List.pairwise_append.2 ⟨hw, List.pairwise_singleton _ _, fun a ha b hb => ?_⟩
        simp at hb; subst hb
        have := hp.mem_iff.1 ha
        simp at this
        rcases this with h | h
        · exact hs'.2.2 a h b (by simp)
        · subst h; exact ty.1 hlt
    · rename_i hlt
      refine ⟨U' ++ [y] ++ [x], by simp, List.Perm.refl _, ?_⟩
      refine List.pairwise_append.2 ⟨hs, List.pairwise_singleton _ _, fun a ha b hb => ?_⟩
      simp at hb; subst hb
      have hyx := ty.2 (by simpa using hlt)
      simp at ha
      rcases ha with h | h
      · exact htr _ _ _ (hs'.2.2 a h y (by simp)) hyx
      · subst h; exact hyx
theorem insO_at {α : Type} {lt : α → α → Bool} {R : α → α → Prop} (htr : ∀ a b c : α, R a b → R b c → R a c) : ∀ (X P U V : List α), U.Pairwise R → (∀ u, u ∈ U → ∀ x, x ∈ X → TB lt R u x) → X.Pairwise (TB lt R) →
    ∃ W, insO lt P.length X.length (P.length + U.length) (P ++ (U ++ (X ++ V))) = P ++ (W ++ V) ∧ W.Perm (U ++ X) ∧ W.Pairwise R
  | [], P, U, V, hs, _, _ => ⟨U, rfl, by simp, hs⟩
  | x :: X, P, U, V, hs, ht, hx => by
    simp only [List.length_cons]
    obtain ⟨W, hW, hp, hw⟩ := insJ_at htr U.length P U (X ++ V) x rfl hs fun u hu => ht u hu x (by simp)
    have hx' := List.pairwise_cons.1 hx
    obtain ⟨W2, hW2, hp2, hw2⟩ := insO_at htr X P W V hw (fun u hu y hy => by
      have := hp.mem_iff.1 hu
      simp at this
      rcases this with h | h
      · exact ht u h y (by simp [hy])
      · subst h; exact hx'.1 y hy) hx'.2
    have hl : W.length = U.length + 1 := by simpa using hp.length_eq
    refine ⟨W2, ?_, ?_, hw2⟩
    · rw [insO, List.cons_append, hW, ← hW2, hl, Nat.add_assoc]
    · refine hp2.trans ?_
      have := List.Perm.append_right X hp
      simpa using this
theorem insS_at {α : Type} {lt : α → α → Bool} {R : α → α → Prop} (htr : ∀ a b c : α, R a b → R b c → R a c) (P X V : List α) (hx : X.Pairwise (TB lt R)) : ∃ W, insS lt P.length (P.length + X.length) (P ++ (X ++ V)) = P ++ (W ++ V) ∧ W.Perm X ∧ W.Pairwise R := by
  cases X with
  | nil =>
    refine ⟨[], ?_, List.Perm.refl _, List.Pairwise.nil⟩
    unfold insS
    rw [show P.length + ([] : List α).length - (P.length + 1) = 0 by simp <;> omega]
    rfl
  | cons x X =>
    have hx' := List.pairwise_cons.1 hx
    obtain ⟨W, hW, hp, hw⟩ := insO_at htr X P [x] V (List.pairwise_singleton _ _) (fun u hu y hy => by simp at hu; subst hu; exact hx'.1 y hy) hx'.2
    refine ⟨W, ?_, by simpa using hp, hw⟩
    unfold insS
    rw [show P.length + (x :: X).length - (P.length + 1) = X.length by simp <;> omega]
    simpa using hW
def SMk {α : Type} (lt : α → α → Bool) (R : α → α → Prop) (k : Nat) : Prop := ∀ P A B S : List α, A.length + B.length ≤ k → 0 < A.length → 0 < B.length → A.Pairwise R → B.Pairwise R → (∀ x, x ∈ A → ∀ y, y ∈ B → TB lt R x y) →
  ∃ C, symM lt k P.length (P.length + A.length) (P.length + A.length + B.length) (P ++ (A ++ (B ++ S))) = P ++ (C ++ S) ∧ C.Perm (A ++ B) ∧ C.Pairwise R
theorem sm_maybe {α : Type} {lt : α → α → Bool} {R : α → α → Prop} {k : Nat} (ih : SMk lt R k) {a m b : Nat} (P A B S : List α) (ha : a = P.length) (hm : m = P.length + A.length) (hb : b = P.length + A.length + B.length) (h : A.length + B.length ≤ k) (h1 : A.Pairwise R) (h2 : B.Pairwise R) (h3 : ∀ x, x ∈ A → ∀ y, y ∈ B → TB lt R x y) {p : Prop} [Decidable p] (hp : p ↔ (0 < A.length ∧ 0 < B.length)) :
    ∃ C, symC p (symM lt k a m b) (P ++ (A ++ (B ++ S))) = P ++ (C ++ S) ∧ C.Perm (A ++ B) ∧ C.Pairwise R := by
  unfold symC
  by_cases hc : p
  · rw [if_pos hc, ha, hm, hb]
    exact ih P A B S h (hp.1 hc).1 (hp.1 hc).2 h1 h2 h3
  · rw [if_neg hc]
    refine ⟨A ++ B, by simp, List.Perm.refl _, ?_⟩
    have : A = [] ∨ B = [] := by
      by_cases e : A.length = 0
      · exact Or.inl (List.length_eq_zero_iff.1 e)
      · exact Or.inr (List.length_eq_zero_iff.1 (by by_cases e2 : B.length = 0; exact e2; exact absurd (hp.2 ⟨by omega, by omega⟩) hc))
    rcases this with h | h
    · subst h; simpa using h2
    · subst h; simpa using h1
theorem rot_maybe {α : Type} {s m e : Nat} (Q A B S : List α) (hs : s = Q.length) (hm : m = Q.length + A.length) (he : e = Q.length + A.length + B.length) : symC (s < m ∧ m < e) (rot s m e) (Q ++ (A ++ (B ++ S))) = Q ++ (B ++ (A ++ S)) := by
  unfold symC
  by_cases hc : s < m ∧ m < e
  · rw [if_pos hc, hs, hm, he]; exact rot_at Q A B S (by omega) (by omega)
  · rw [if_neg hc]
    by_cases e : A.length = 0
    · rw [List.length_eq_zero_iff.1 e]; simp
    · have : B = [] := List.length_eq_zero_iff.1 (by omega)
      subst this; simp
theorem last_of {α : Type} {l : List α} (h : 0 < l.length) : ∃ l' x, l = l' ++ [x] := ⟨l.dropLast, l.getLast (by intro e; simp [e] at h), (List.dropLast_concat_getLast _).symm⟩
theorem head_of {α : Type} {l : List α} (h : 0 < l.length) : ∃ x l', l = x :: l' := by cases l with | nil => simp at h | cons x l' => exact ⟨x, l', rfl⟩
theorem le_last {α : Type} {R : α → α → Prop} (htr : ∀ a b c : α, R a b → R b c → R a c) {l : List α} {u x z : α} (hs : (l ++ [u]).Pairwise R) (hx : x ∈ l ++ [u]) (h : R u z) : R x z := by
  simp at hx
  rcases hx with hx | hx
  · exact htr _ _ _ ((List.pairwise_append.1 hs).2.2 x hx u (by simp)) h
  · subst hx; exact h
theorem ge_head {α : Type} {R : α → α → Prop} (htr : ∀ a b c : α, R a b → R b c → R a c) {l : List α} {v y z : α} (hs : (v :: l).Pairwise R) (hy : y ∈ v :: l) (h : R z v) : R z y := by
  simp at hy
  rcases hy with hy | hy
  · subst hy; exact h
  · exact htr _ _ _ h ((List.pairwise_cons.1 hs).1 y hy)
theorem cross {α : Type} {R : α → α → Prop} (htr : ∀ a b c : α, R a b → R b c → R a c) {A B : List α} (hA : A.Pairwise R) (hB : B.Pairwise R) (h : ∀ A' u v B', A = A' ++ [u] → B = v :: B' → R u v) : ∀ x, x ∈ A → ∀ y, y ∈ B → R x y := by
  intro x hx y hy
  obtain ⟨A', u, rfl⟩ := last_of (List.length_pos_of_mem hx)
  obtain ⟨v, B', rfl⟩ := head_of (List.length_pos_of_mem hy)
  exact ge_head htr hB hy (le_last htr hA hx (h A' u v B' rfl rfl))
theorem at_last {α : Type} (P A S : List α) (u : α) (i : Nat) (h : i = P.length + A.length) : (P ++ (A ++ [u] ++ S))[i]? = some u := by
  subst h
  simp
theorem at_head {α : Type} (P A S : List α) (v : α) (i : Nat) (h : i = P.length + A.length) : (P ++ (A ++ (v :: S)))[i]? = some v := by
  subst h
  simp
theorem symM_one {α : Type} {lt : α → α → Bool} {R : α → α → Prop} (htr : ∀ a b c : α, R a b → R b c → R a c) {k : Nat} (P B S : List α) (x : α) (hB : 0 < B.length) (h2 : B.Pairwise R) (h3 : ∀ y, y ∈ B → TB lt R x y) :
    ∃ C, symM lt (k + 1) P.length (P.length + 1) (P.length + 1 + B.length) (P ++ ([x] ++ (B ++ S))) = P ++ (C ++ S) ∧ C.Perm ([x] ++ B) ∧ C.Pairwise R := by
  rw [symM, if_pos (by omega)]
  generalize hl : P ++ ([x] ++ (B ++ S)) = l
  have hsp := bs_spec (fun h => ltA lt l h P.length) (P.length + 1) (P.length + 1 + B.length) (by omega)
  generalize bs (fun h => ltA lt l h P.length) (P.length + 1) (P.length + 1 + B.length) = s at hsp
  obtain ⟨g1, g2, g3, g4⟩ := hsp
  obtain ⟨B1, B2, rfl, hlen⟩ := split_at B (s - (P.length + 1)) (by omega)
  have hp := List.pairwise_append.1 h2
  have hx0 : l[P.length]? = some x := by rw [← hl]; simp
  have k1 : ∀ y, y ∈ B1 → R y x := fun y hy => by
    obtain ⟨B', u, rfl⟩ := last_of (List.length_pos_of_mem hy)
    refine le_last htr hp.1 hy ?_
    have e : l[s - 1]? = some u := by rw [← hl]; have := at_last (P ++ [x]) B' (B2 ++ S) u (s - 1) (by simp at hlen ⊢; omega); simpa using this
    have := g3.resolve_left (by simp at hlen; omega)
    have := this.2
    simp only [ltA_app lt e hx0] at this
    exact (h3 u (by simp)).1 this
  have k2 : ∀ y, y ∈ B2 → R x y := fun y hy => by
    obtain ⟨v, B', rfl⟩ := head_of (List.length_pos_of_mem hy)
    refine ge_head htr hp.2.1 hy ?_
    have e : l[s]? = some v := by rw [← hl]; have := at_head (P ++ [x]) B1 (B' ++ S) v s (by simp; omega); simpa using this
    have := g4.resolve_left (by simp; omega)
    simp only [ltA_app lt e hx0] at this
    exact (h3 v (by simp)).2 this
  refine ⟨B1 ++ x :: B2, ?_, ?_, ?_⟩
  · rw [show s - 1 - P.length = B1.length by omega, ← hl]
    have := upS_at B1 P (B2 ++ S) x
    simpa using this
  · simp
  · refine List.pairwise_append.2 ⟨hp.1, List.pairwise_cons.2 ⟨k2, hp.2.1⟩, fun a ha b hb => ?_⟩
    simp at hb
    rcases hb with hb | hb
    · subst hb; exact k1 a ha
    · exact hp.2.2 a ha b hb
theorem symM_last {α : Type} {lt : α → α → Bool} {R : α → α → Prop} (htr : ∀ a b c : α, R a b → R b c → R a c) {k : Nat} (P A S : List α) (y : α) (hA : 1 < A.length) (h1 : A.Pairwise R) (h3 : ∀ x, x ∈ A → TB lt R x y) :
    ∃ C, symM lt (k + 1) P.length (P.length + A.length) (P.length + A.length + 1) (P ++ (A ++ ([y] ++ S))) = P ++ (C ++ S) ∧ C.Perm (A ++ [y]) ∧ C.Pairwise R := by
  rw [symM, if_neg (by omega), if_pos (by omega)]
  generalize hl : P ++ (A ++ ([y] ++ S)) = l
  have hsp := bs_spec (fun h => !ltA lt l (P.length + A.length) h) P.length (P.length + A.length) (by omega)
  generalize bs (fun h => !ltA lt l (P.length + A.length) h) P.length (P.length + A.length) = s at hsp
  obtain ⟨g1, g2, g3, g4⟩ := hsp
  have hy0 : l[P.length + A.length]? = some y := by rw [← hl]; exact at_head P A S y _ rfl
  generalize hm : P.length + A.length = m at *
  obtain ⟨A1, A2, rfl, hlen⟩ := split_at A (s - P.length) (by omega)
  have hp := List.pairwise_append.1 h1
  simp only [List.length_append] at hm
  have k1 : ∀ x, x ∈ A1 → R x y := fun x hx => by
    obtain ⟨B', u, rfl⟩ := last_of (List.length_pos_of_mem hx)
    refine le_last htr hp.1 hx ?_
    have e : l[s - 1]? = some u := by rw [← hl]; have := at_last P B' (A2 ++ ([y] ++ S)) u (s - 1) (by simp at hlen; omega); simpa using this
    have := (g3.resolve_left (by simp at hlen; omega)).2
    simp only [ltA_app lt hy0 e] at this
    exact (h3 u (by simp)).2 (by simpa using this)
  have k2 : ∀ x, x ∈ A2 → R y x := fun x hx => by
    obtain ⟨v, B', rfl⟩ := head_of (List.length_pos_of_mem hx)
    refine ge_head htr hp.2.1 hx ?_
    have e : l[s]? = some v := by rw [← hl]; have := at_head P A1 (B' ++ ([y] ++ S)) v s (by omega); simpa using this
    have := g4.resolve_left (by simp at hm; omega)
    simp only [ltA_app lt hy0 e] at this
    exact (h3 v (by simp)).1 (by simpa using this)
  refine ⟨A1 ++ y :: A2, ?_, ?_, ?_⟩
  · rw [← hl, show m - s = A2.length by omega]
    have := dnS_at A2.length A2 (P ++ A1) S y rfl
    rw [show (P ++ A1).length + A2.length = m by simp; omega] at this
    simpa using this
  · have := (List.perm_append_comm (l₁ := A2) (l₂ := [y]))
    have := List.Perm.append_left A1 this
    simpa using this.symm
  · refine List.pairwise_append.2 ⟨hp.1, List.pairwise_cons.2 ⟨k2, hp.2.1⟩, fun a ha b hb => ?_⟩
    simp at hb
    rcases hb with hb | hb
    · subst hb; exact k1 a ha
    · exact hp.2.2 a ha b hb
theorem symM_cut {α : Type} {lt : α → α → Bool} (a m b : Nat) (l : List α) (h1 : a < m) (h2 : m < b) : a ≤ symS lt a m b l ∧ symS lt a m b l ≤ m ∧ symS lt a m b l ≤ (a + b) / 2 ∧ (a + b) / 2 + m - b ≤ symS lt a m b l ∧
    (symS lt a m b l = a ∨ (a + b) / 2 + m - symS lt a m b l = b ∨ (a < symS lt a m b l ∧ ltA lt l ((a + b) / 2 + m - symS lt a m b l) (symS lt a m b l - 1) = false)) ∧
    (symS lt a m b l = m ∨ (a + b) / 2 + m - symS lt a m b l = m ∨ ltA lt l ((a + b) / 2 + m - symS lt a m b l - 1) (symS lt a m b l) = true) := by
  unfold symS
  by_cases hc : (a + b) / 2 < m
  · rw [if_pos hc]
    have hsp := bs_spec (fun c => !ltA lt l ((a + b) / 2 + m - 1 - c) c) ((a + b) / 2 + m - b) ((a + b) / 2) (by omega)
    generalize bs (fun c => !ltA lt l ((a + b) / 2 + m - 1 - c) c) ((a + b) / 2 + m - b) ((a + b) / 2) = s at hsp
    obtain ⟨g1, g2, g3, g4⟩ := hsp
    refine ⟨by omega, by omega, g2, g1, ?_, ?_⟩
    · rcases g3 with g3 | ⟨g3, g5⟩
      · exact Or.inr (Or.inl (by omega))
      · refine Or.inr (Or.inr ⟨by omega, ?_⟩)
        rw [show (a + b) / 2 + m - 1 - (s - 1) = (a + b) / 2 + m - s by omega] at g5
        simpa using g5
    · rcases g4 with g4 | g4
      · exact Or.inr (Or.inl (by omega))
      · refine Or.inr (Or.inr ?_)
        rw [show (a + b) / 2 + m - 1 - s = (a + b) / 2 + m - s - 1 by omega] at g4
        simpa using g4
  · rw [if_neg hc]
    have hsp := bs_spec (fun c => !ltA lt l ((a + b) / 2 + m - 1 - c) c) a m (by omega)
    generalize bs (fun c => !ltA lt l ((a + b) / 2 + m - 1 - c) c) a m = s at hsp
    obtain ⟨g1, g2, g3, g4⟩ := hsp
    refine ⟨by omega, by omega, by omega, by omega, ?_, ?_⟩
    · rcases g3 with g3 | ⟨g3, g5⟩
      · exact Or.inl g3
      · refine Or.inr (Or.inr ⟨by omega, ?_⟩)
        rw [show (a + b) / 2 + m - 1 - (s - 1) = (a + b) / 2 + m - s by omega] at g5
        simpa using g5
    · rcases g4 with g4 | g4
      · exact Or.inl g4
      · refine Or.inr (Or.inr ?_)
        rw [show (a + b) / 2 + m - 1 - s = (a + b) / 2 + m - s - 1 by omega] at g4
        simpa using g4
set_option maxHeartbeats 2000000 in
theorem symM_at {α : Type} {lt : α → α → Bool} {R : α → α → Prop} (htr : ∀ a b c : α, R a b → R b c → R a c) : ∀ k, SMk lt R k
  | 0 => fun P A B S h h1 _ _ _ _ => by omega
  | k + 1 => fun P A B S h hA hB h1 h2 h3 => by
    by_cases c1 : A.length = 1
    · obtain ⟨x, rfl⟩ := List.length_eq_one_iff.1 c1
      exact symM_one htr P B S x hB h2 fun y hy => h3 x (by simp) y hy
    by_cases c2 : B.length = 1
    · obtain ⟨y, rfl⟩ := List.length_eq_one_iff.1 c2
      exact symM_last htr P A S y (by omega) h1 fun x hx => h3 x hx y (by simp)
    have ih : SMk lt R k := symM_at htr k
    rw [symM, if_neg (by omega), if_neg (by omega)]
    have hcut := symM_cut (lt := lt) P.length (P.length + A.length) (P.length + A.length + B.length) (P ++ (A ++ (B ++ S))) (by omega) (by omega)
    unfold symR
    generalize symS lt P.length (P.length + A.length) (P.length + A.length + B.length) (P ++ (A ++ (B ++ S))) = s at hcut ⊢
    obtain ⟨g1, g2, g3, g4, g5, g6⟩ := hcut
    generalize hmid : (P.length + (P.length + A.length + B.length)) / 2 = mid at *
    generalize he : mid + (P.length + A.length) - s = e at *
    obtain ⟨A1, A2, rfl, hA1⟩ := split_at A (s - P.length) (by omega)
    obtain ⟨B1, B2, rfl, hB1⟩ := split_at B (e - (P.length + (A1 ++ A2).length)) (by omega)
    simp only [List.length_append] at *
    have pA := List.pairwise_append.1 h1
    have pB := List.pairwise_append.1 h2
    have x1 : ∀ x, x ∈ A1 → ∀ y, y ∈ B2 → R x y := cross htr pA.1 pB.2.1 fun A' u v B' ea eb => by
      subst ea; subst eb
      simp only [List.length_append, List.length_cons, List.length_nil] at *
      have := (g5.resolve_left (by omega)).resolve_left (by omega)
      have e1 : (P ++ (A' ++ [u] ++ A2 ++ (B1 ++ v :: B' ++ S)))[s - 1]? = some u := by have := at_last P A' (A2 ++ (B1 ++ v :: B' ++ S)) u (s - 1) (by omega); simpa using this
      have e2 : (P ++ (A' ++ [u] ++ A2 ++ (B1 ++ v :: B' ++ S)))[e]? = some v := by have := at_head (P ++ (A' ++ [u] ++ A2)) B1 (B' ++ S) v e (by simp; omega); simpa using this
      rw [ltA_app lt e2 e1] at this
      exact (h3 u (by simp) v (by simp)).2 this.2
    have x2 : ∀ y, y ∈ B1 → ∀ x, x ∈ A2 → R y x := cross htr pB.1 pA.2.1 fun B' v u A' eb ea => by
      subst ea; subst eb
      simp only [List.length_append, List.length_cons, List.length_nil] at *
      have := (g6.resolve_left (by omega)).resolve_left (by omega)
      have e1 : (P ++ (A1 ++ u :: A' ++ (B' ++ [v] ++ B2 ++ S)))[s]? = some u := by have := at_head P A1 (A' ++ (B' ++ [v] ++ B2 ++ S)) u s (by omega); simpa using this
      have e2 : (P ++ (A1 ++ u :: A' ++ (B' ++ [v] ++ B2 ++ S)))[e - 1]? = some v := by have := at_last (P ++ (A1 ++ u :: A')) B' (B2 ++ S) v (e - 1) (by simp; omega); simpa using this
      rw [ltA_app lt e2 e1] at this
      exact (h3 u (by simp) v (by simp)).1 this
    have r1 := rot_maybe (s := s) (m := P.length + (A1.length + A2.length)) (e := e) (P ++ A1) A2 B1 (B2 ++ S) (by simp; omega) (by simp; omega) (by simp; omega)
    have e0 : P ++ (A1 ++ A2 ++ (B1 ++ B2 ++ S)) = P ++ A1 ++ (A2 ++ (B1 ++ (B2 ++ S))) := by simp
    rw [e0, r1]
    obtain ⟨C1, hC1, pC1, sC1⟩ := sm_maybe ih (a := P.length) (m := s) (b := mid) (p := P.length < s ∧ s < mid) P A1 B1 (A2 ++ (B2 ++ S)) rfl (by omega) (by omega) (by omega) pA.1 pB.1 (fun x hx y hy => h3 x (by simp [hx]) y (by simp [hy])) (by constructor <;> intro h <;> omega)
    have e1 : P ++ A1 ++ (B1 ++ (A2 ++ (B2 ++ S))) = P ++ (A1 ++ (B1 ++ (A2 ++ (B2 ++ S)))) := by simp
    rw [e1, hC1]
    have lC1 := pC1.length_eq
    simp only [List.length_append] at lC1
    obtain ⟨C2, hC2, pC2, sC2⟩ := sm_maybe ih (a := mid) (m := e) (b := P.length + (A1.length + A2.length) + (B1.length + B2.length)) (p := mid < e ∧ e < P.length + (A1.length + A2.length) + (B1.length + B2.length)) (P ++ C1) A2 B2 S (by simp; omega) (by simp; omega) (by simp; omega) (by omega) pA.2.1 pB.2.1 (fun x hx y hy => h3 x (by simp [hx]) y (by simp [hy])) (by constructor <;> intro h <;> omega)
    have e2 : P ++ (C1 ++ (A2 ++ (B2 ++ S))) = P ++ C1 ++ (A2 ++ (B2 ++ S)) := by simp
    rw [e2, hC2]
    refine ⟨C1 ++ C2, by simp, ?_, ?_⟩
    · refine (pC1.append pC2).trans ?_
      simp only [List.append_assoc]
      refine List.Perm.append_left A1 ?_
      rw [← List.append_assoc, ← List.append_assoc]
      exact List.Perm.append_right B2 List.perm_append_comm
    · refine List.pairwise_append.2 ⟨sC1, sC2, fun x hx y hy => ?_⟩
      have mx := pC1.mem_iff.1 hx
      have my := pC2.mem_iff.1 hy
      simp at mx my
      rcases mx with mx | mx <;> rcases my with my | my
      · exact pA.2.2 x mx y my
      · exact x1 x mx y my
      · exact x2 x mx y my
      · exact pB.2.2 x mx y my
inductive Blks {α : Type} (lt : α → α → Bool) (R : α → α → Prop) (s : Nat) : List α → Prop
  | last (X : List α) : X.length ≤ s → X.Pairwise R → Blks lt R s X
  | cons (X Y : List α) : X.length = s → X.Pairwise R → (∀ x, x ∈ X → ∀ y, y ∈ Y → TB lt R x y) → Blks lt R s Y → Blks lt R s (X ++ Y)
theorem blks_le {α : Type} {lt : α → α → Bool} {R : α → α → Prop} {s : Nat} {Z : List α} (h : Blks lt R s Z) (hl : Z.length ≤ s) : Z.Pairwise R := by
  cases h with
  | last _ _ h2 => exact h2
  | cons X Y h1 h2 h3 h4 =>
    simp only [List.length_append] at hl
    have : Y = [] := List.length_eq_zero_iff.1 (by omega)
    subst this; simpa using h2
theorem blks_gt {α : Type} {lt : α → α → Bool} {R : α → α → Prop} {s : Nat} {Z : List α} (h : Blks lt R s Z) (hl : s < Z.length) : ∃ X Y, Z = X ++ Y ∧ X.length = s ∧ X.Pairwise R ∧ (∀ x, x ∈ X → ∀ y, y ∈ Y → TB lt R x y) ∧ Blks lt R s Y := by
  cases h with
  | last _ h1 _ => omega
  | cons X Y h1 h2 h3 h4 => exact ⟨X, Y, rfl, h1, h2, h3, h4⟩
theorem blks_ge {α : Type} {lt : α → α → Bool} {R : α → α → Prop} {s : Nat} {Z : List α} (h : Blks lt R s Z) (hl : s ≤ Z.length) : ∃ X Y, Z = X ++ Y ∧ X.length = s ∧ X.Pairwise R ∧ (∀ x, x ∈ X → ∀ y, y ∈ Y → TB lt R x y) ∧ Blks lt R s Y := by
  cases h with
  | last _ h1 h2 => exact ⟨Z, [], by simp, by omega, h2, fun x _ y hy => by simp at hy, .last [] (by simp) List.Pairwise.nil⟩
  | cons X Y h1 h2 h3 h4 => exact ⟨X, Y, rfl, h1, h2, h3, h4⟩
theorem stIns_at {α : Type} {lt : α → α → Bool} {R : α → α → Prop} (htr : ∀ a b c : α, R a b → R b c → R a c) : ∀ (k : Nat) (P X : List α), X.length ≤ k → X.Pairwise (TB lt R) → ∃ Y, stIns lt (P.length + X.length) k P.length (P ++ X) = P ++ Y ∧ Y.Perm X ∧ Blks lt R 20 Y
  | 0, P, X, h, hx => by
    obtain ⟨W, hW, hp, hw⟩ := insS_at htr P X [] hx
    simp only [List.append_nil] at hW
    exact ⟨W, hW, hp, .last W (by rw [hp.length_eq]; omega) hw⟩
  | k + 1, P, X, h, hx => by
    rw [stIns]
    split
    · obtain ⟨X1, X2, rfl, hl⟩ := split_at X 20 (by omega)
      have hp := List.pairwise_append.1 hx
      obtain ⟨W, hW, hpm, hw⟩ := insS_at htr P X1 X2 hp.1
      rw [hl] at hW
      rw [hW]
      have hwl := hpm.length_eq
      obtain ⟨Y, hY, hpY, hb⟩ := stIns_at htr k (P ++ W) X2 (by simp only [List.length_append] at h; omega) hp.2.1
      refine ⟨W ++ Y, ?_, hpm.append hpY, .cons W Y (by omega) hw (fun x hx y hy => hp.2.2 x (hpm.mem_iff.1 hx) y (hpY.mem_iff.1 hy)) hb⟩
      simp only [List.length_append] at hY ⊢
      rw [show P.length + (X1.length + X2.length) = P.length + W.length + X2.length by omega, show P.length + 20 = P.length + W.length by omega, ← List.append_assoc, hY]
      simp
    · obtain ⟨W, hW, hp, hw⟩ := insS_at htr P X [] hx
      simp only [List.append_nil] at hW
      exact ⟨W, hW, hp, .last W (by rw [hp.length_eq]; omega) hw⟩
theorem stMrg_at {α : Type} {lt : α → α → Bool} {R : α → α → Prop} (htr : ∀ a b c : α, R a b → R b c → R a c) (s : Nat) (hs : 0 < s) : ∀ (k : Nat) (P Z : List α), Z.length ≤ k → Blks lt R s Z → ∃ Y, stMrg lt (P.length + Z.length) s k P.length (P ++ Z) = P ++ Y ∧ Y.Perm Z ∧ Blks lt R (2 * s) Y
  | 0, P, Z, h, hb => by
    have : Z = [] := List.length_eq_zero_iff.1 (by omega)
    subst this
    exact ⟨[], rfl, List.Perm.refl _, .last [] (by simp) List.Pairwise.nil⟩
  | k + 1, P, Z, h, hb => by
    rw [stMrg]
    split
    · rename_i hc
      obtain ⟨X1, Y1, rfl, l1, s1, t1, b1⟩ := blks_gt hb (by omega)
      simp only [List.length_append] at h hc ⊢
      obtain ⟨X2, Z2, rfl, l2, s2, t2, b2⟩ := blks_ge b1 (by omega)
      simp only [List.length_append] at h hc ⊢
      obtain ⟨C, hC, pC, sC⟩ := symM_at htr (2 * s) P X1 X2 Z2 (by omega) (by omega) (by omega) s1 s2 (fun x hx y hy => t1 x hx y (by simp [hy]))
      have lC := pC.length_eq
      simp only [List.length_append] at lC
      rw [l1, l2, show P.length + s + s = P.length + 2 * s by omega] at hC
      rw [hC]
      obtain ⟨Y, hY, pY, bY⟩ := stMrg_at htr s hs k (P ++ C) Z2 (by omega) b2
      refine ⟨C ++ Y, ?_, ?_, .cons C Y (by omega) sC (fun x hx y hy => ?_) bY⟩
      · simp only [List.length_append] at hY
        rw [show P.length + (X1.length + (X2.length + Z2.length)) = P.length + C.length + Z2.length by omega, show P.length + 2 * s = P.length + C.length by omega, ← List.append_assoc, hY]
        simp
      · have := pC.append pY
        simpa using this
      · have hx := pC.mem_iff.1 hx
        have hy := pY.mem_iff.1 hy
        rcases List.mem_append.1 hx with hx | hx
        · exact t1 x hx y (by simp [hy])
        · exact t2 x hx y hy
    · split
      · rename_i hc hd
        obtain ⟨X1, Y1, rfl, l1, s1, t1, b1⟩ := blks_gt hb (by omega)
        simp only [List.length_append] at h hc hd ⊢
        have s2 := blks_le b1 (by omega)
        obtain ⟨C, hC, pC, sC⟩ := symM_at htr (P.length + (X1.length + Y1.length) - P.length) P X1 Y1 [] (by omega) (by omega) (by omega) s1 s2 t1
        have lC := pC.length_eq
        simp only [List.length_append] at lC
        rw [l1] at hC
        simp only [List.append_nil] at hC
        refine ⟨C, ?_, pC, .last C (by omega) sC⟩
        rw [← hC, l1, show P.length + (s + Y1.length) = P.length + s + Y1.length by omega]
      · rename_i hc hd
        exact ⟨Z, rfl, List.Perm.refl _, .last Z (by omega) (blks_le hb (by omega))⟩
theorem stGo_at {α : Type} {lt : α → α → Bool} {R : α → α → Prop} (htr : ∀ a b c : α, R a b → R b c → R a c) : ∀ (k s : Nat) (Z : List α), 0 < s → Z.length ≤ s + k → Blks lt R s Z → (stGo lt Z.length k s Z).Perm Z ∧ (stGo lt Z.length k s Z).Pairwise R
  | 0, s, Z, hs, h, hb => ⟨List.Perm.refl _, blks_le (Z := Z) hb (by omega)⟩
  | k + 1, s, Z, hs, h, hb => by
    rw [stGo]
    split
    · obtain ⟨Y, hY, pY, bY⟩ := stMrg_at htr s hs Z.length [] Z (Nat.le_refl _) hb
      simp only [List.length_nil, Nat.zero_add, List.nil_append] at hY
      have ly := pY.length_eq
      have := stGo_at htr k (2 * s) Y (by omega) (by omega) bY
      rw [hY, ← ly]
      exact ⟨this.1.trans pY, this.2⟩
    · exact ⟨List.Perm.refl _, blks_le hb (by omega)⟩
theorem stable_at {α : Type} {lt : α → α → Bool} {R : α → α → Prop} (htr : ∀ a b c : α, R a b → R b c → R a c) (l : List α) (h : l.Pairwise (TB lt R)) : (stable lt l).Perm l ∧ (stable lt l).Pairwise R := by
  unfold stable
  obtain ⟨Y, hY, pY, bY⟩ := stIns_at htr l.length [] l (Nat.le_refl _) h
  simp only [List.length_nil, Nat.zero_add, List.nil_append] at hY
  have ly := pY.length_eq
  rw [hY, ← ly]
  have := stGo_at htr Y.length 20 Y (by omega) (by omega) bY
  exact ⟨this.1.trans pY, this.2⟩
theorem rLease_set (l : List GLease) (i : Nat) (x : GLease) : (rLease l).set i x.row = rLease (l.set i x) := by simp [rLease, List.map_set]
theorem sw2_eq {α : Type} {l : List α} {i j : Nat} {x y : α} (h1 : l[i]? = some x) (h2 : l[j]? = some y) : (l.set i y).set j x = sw2 l i j := by unfold sw2; rw [h1, h2]
theorem rLease_setX (l : List GLease) (i : Nat) (x : GLease) : (rLease l).set i [.int .i64 x.fId, .int .i64 x.fToken, .str x.fPath, .int .i64 x.fMade, .int .i64 x.fEnds, .int .i64 x.fLimit] = rLease (l.set i x) := rLease_set l i x
theorem set_same {α : Type} {l : List α} {j : Nat} {y : α} (i : Nat) (h : l[j]? = some y) : (l.set i y)[j]? = some y := by
  by_cases e : i = j
  · subst e
    obtain ⟨h1, _⟩ := List.getElem?_eq_some_iff.1 h
    simp [h1]
  · rw [List.getElem?_set_ne e, h]
theorem swapRange_ok (l : List GLease) (a b n : Nat) (g : FuncId) (caps : List (List D)) (h1 : a + n ≤ l.length) (h2 : b + n ≤ l.length) (hl : l.length ≤ 1048576) :
    Valid PP GG 267 [.own 0 6 (rLease l), .d (.int .i64 a), .d (.int .i64 b), .d (.int .i64 n), .d (.fn g caps)] (.tup []) [some (.own 0 6 (rLease (swR a b n 0 l))), none, none, none, none] := by
  refine cv Tryz.func267 [] ?_
  generalize hT : swR a b n 0 l = T
  refine u_30 ?_
  refine W_loop (fun k st => ∃ (i : Nat) (L : List GLease), k = n - i ∧ i ≤ n ∧ L.length = l.length ∧ swR a b (n - i) i L = T ∧
    st = ⟨[], [(0, .sl 0), (1, .d (.int .i64 a)), (2, .d (.int .i64 b)), (3, .d (.int .i64 n)), (10, .d (.int .i64 i))], [(0, .arr 0 0 6 (rLease L))], 1⟩) _ ⟨0, l, rfl, by omega, rfl, hT, ?_⟩ ?_
  · exact u_24
  rintro k st ⟨i, L, rfl, hi, hL, hs, rfl⟩
  by_cases hlt : i < n
  · have ha := List.getElem?_eq_getElem (show a + i < L.length by omega)
    have hb := List.getElem?_eq_getElem (show b + i < L.length by omega)
    generalize L[a + i] = x at ha
    generalize L[b + i] = y at hb
    have e1 : IntKind.i64.wrap ((a : Int) + i) = (a + i : Nat) := by rw [wrap_id (by omega) (by omega)]; omega
    have e2 : IntKind.i64.wrap ((b : Int) + i) = (b + i : Nat) := by rw [wrap_id (by omega) (by omega)]; omega
    have e3 : IntKind.i64.wrap ((i : Int) + 1) = (i + 1 : Nat) := by rw [wrap_id (by omega) (by omega)]; omega
    have e4 : ((a : Int) + i).toNat = a + i := by omega
    have e5 : ((b : Int) + i).toNat = b + i := by omega
    have hb2 := set_same (a + i) hb
    have hw := sw2_eq ha hb
    refine u_65 (Y9 ha hb hb2 e1 e2 e3 e4 e5 hw) ?_
    refine ⟨n - (i + 1), by omega, i + 1, sw2 L (a + i) (b + i), rfl, by omega, by rw [sw2_len]; exact hL, ?_, ?_⟩
    · rw [← hs, show n - i = n - (i + 1) + 1 by omega, swR]
    · exact u_24
  · have hie : i = n := by omega
    subst hie
    rw [Nat.sub_self, swR] at hs
    subst hs
    refine u_30 ?_
    simp [Fin]
theorem rotate_ok (l : List GLease) (a m b : Nat) (g : FuncId) (caps : List (List D)) (h1 : a < m) (h2 : m < b) (h3 : b ≤ l.length) (hl : l.length ≤ 1048576) :
    Valid PP GG 252 [.own 0 6 (rLease l), .d (.int .i64 a), .d (.int .i64 m), .d (.int .i64 b), .d (.fn g caps)] (.tup []) [some (.own 0 6 (rLease (rot a m b l))), none, none, none, none] := by
  refine cv Tryz.func252 [] ?_
  generalize hT : rot a m b l = T
  unfold rot at hT
  refine u_30 ?_
  refine W_loop (fun w st => ∃ (k i j : Nat) (L : List GLease), w = i + j ∧ 0 < i ∧ 0 < j ∧ i ≤ m ∧ m + j ≤ l.length ∧ i + j ≤ k ∧ L.length = l.length ∧ rotG m k i j L = T ∧
    st = ⟨[], [(0, .sl 0), (2, .d (.int .i64 m)), (4, .d (.fn g caps)), (10, .d (.int .i64 i)), (11, .d (.int .i64 j))], [(0, .arr 0 0 6 (rLease L))], 1⟩) _ ⟨b - a, m - a, b - m, l, rfl, by omega, by omega, by omega, by omega, by omega, rfl, hT, ?_⟩ ?_
  · refine u_27 ?_
    exact ⟨by rw [wrap_id (by omega) (by omega)]; omega, by rw [wrap_id (by omega) (by omega)]; omega⟩
  rintro w st ⟨k, i, j, L, rfl, hi, hj, him, hjl, hk, hL, hs, rfl⟩
  obtain ⟨k, rfl⟩ : ∃ k', k = k' + 1 := ⟨k - 1, by omega⟩
  rw [rotG] at hs
  have e1 : IntKind.i64.wrap ((m : Int) - i) = (m : Int) - i := wrap_id (by omega) (by omega)
  by_cases hij : i = j
  · subst hij
    rw [if_pos rfl] at hs
    have cs := swapRange_ok (GG := GG) L (m - i) m i g caps (by omega) (by omega) (by omega)
    rw [hs, show ((m - i : Nat) : Int) = (m : Int) - i by omega] at cs
    refine u_32 e1 (Z1 cs) ?_
    simp [Fin]
  · rw [if_neg hij] at hs
    by_cases hlt : j < i
    · rw [if_pos hlt] at hs
      have cs := swapRange_ok (GG := GG) L (m - i) m j g caps (by omega) (by omega) (by omega)
      rw [show ((m - i : Nat) : Int) = (m : Int) - i by omega] at cs
      have e2 : IntKind.i64.wrap ((i : Int) - j) = (i - j : Nat) := by rw [wrap_id (by omega) (by omega)]; omega
      refine u_32 (Y2 e1 e2) (Z1 cs) ?_
      refine ⟨i - j + j, by omega, k, i - j, j, _, rfl, by omega, by omega, by omega, by omega, by omega, ?_, hs, ?_⟩
      · rw [swR_len]; exact hL
      · exact u_24
    · rw [if_neg hlt] at hs
      have cs := swapRange_ok (GG := GG) L (m - i) (m + j - i) i g caps (by omega) (by omega) (by omega)
      rw [show ((m - i : Nat) : Int) = (m : Int) - i by omega, show ((m + j - i : Nat) : Int) = (m : Int) + j - i by omega] at cs
      have e2 : IntKind.i64.wrap ((j : Int) - i) = (j - i : Nat) := by rw [wrap_id (by omega) (by omega)]; omega
      have e3 : IntKind.i64.wrap ((m : Int) + j - i) = (m : Int) + j - i := wrap_id (by omega) (by omega)
      have e4 : IntKind.i64.wrap ((m : Int) + j) = (m : Int) + j := wrap_id (by omega) (by omega)
      refine u_32 (Y4 e1 e2 e3 e4) (Z1 cs) ?_
      refine ⟨i + (j - i), by omega, k, i, j - i, _, rfl, by omega, by omega, by omega, by omega, by omega, ?_, hs, ?_⟩
      · rw [swR_len]; exact hL
      · exact u_24
def CmpOk (GG : GV) (g : FuncId) (caps : List (List D)) (lt : GLease → GLease → Bool) (a : List GLease) : Prop := ∀ x y, x ∈ a → y ∈ a → ∃ v : Int, Valid PP GG g (.agg x.c :: .agg y.c :: caps.map .rp) (.d (.int .i64 v)) [none, none] ∧ decide (v < 0) = lt x y
theorem sw2_mem {α : Type} {l : List α} {i j : Nat} {z : α} (h : z ∈ sw2 l i j) : z ∈ l := by
  unfold sw2 at h
  split at h
  · rename_i x y h1 h2
    have h := List.mem_or_eq_of_mem_set h
    rcases h with h | h
    · rcases List.mem_or_eq_of_mem_set h with h | h
      · exact h
      · subst h; exact List.mem_of_getElem? h2
    · subst h; exact List.mem_of_getElem? h1
  · exact h
theorem CmpOk.sw {g : FuncId} {caps : List (List D)} {lt : GLease → GLease → Bool} {a : List GLease} (h : CmpOk GG g caps lt a) (i j : Nat) : CmpOk GG g caps lt (sw2 a i j) := fun x y hx hy => h x y (sw2_mem hx) (sw2_mem hy)
theorem insJ_stop {α : Type} (lt : α → α → Bool) (a : Nat) (l : List α) : insJ lt a a l = l := by
  cases a with
  | zero => rfl
  | succ k => rw [insJ, if_neg (by omega)]
theorem insertion_ok (l : List GLease) (a b : Nat) (g : FuncId) (caps : List (List D)) (lt : GLease → GLease → Bool) (hc : CmpOk GG g caps lt l) (h1 : a ≤ b) (h3 : b ≤ l.length) (hl : l.length ≤ 1048576) :
    Valid PP GG 243 [.own 0 6 (rLease l), .d (.int .i64 a), .d (.int .i64 b), .d (.fn g caps)] (.tup []) [some (.own 0 6 (rLease (insS lt a b l))), none, none, none] := by
  refine cv Tryz.func243 [] ?_
  generalize hT : insS lt a b l = T
  unfold insS at hT
  refine u_30 ?_
  refine W_loop (fun w st => ∃ (i : Nat) (L : List GLease), w = b + 1 - i ∧ a + 1 ≤ i ∧ (i ≤ b ∨ i = a + 1) ∧ L.length = l.length ∧ CmpOk GG g caps lt L ∧ insO lt a (b - i) i L = T ∧
    st = ⟨[], [(0, .sl 0), (1, .d (.int .i64 a)), (2, .d (.int .i64 b)), (3, .d (.fn g caps)), (8, .d (.int .i64 i))], [(0, .arr 0 0 6 (rLease L))], 1⟩) _ ⟨a + 1, l, rfl, by omega, Or.inr rfl, rfl, hc, hT, ?_⟩ ?_
  · refine u_27 ?_
    exact wrap_id (by omega) (by omega)
  rintro w st ⟨i, L, rfl, hai, hib, hL, hcL, hs, rfl⟩
  have e3 : IntKind.i64.wrap ((i : Int) + 1) = (i + 1 : Nat) := by rw [wrap_id (by omega) (by omega)]; omega
  by_cases hlt : i < b
  · rw [show b - i = b - (i + 1) + 1 by omega, insO] at hs
    generalize hU : insJ lt a i L = U at hs
    have hUl : U.length = l.length := by rw [← hU, insJ_len]; exact hL
    refine u_23 e3 ?_
    refine W_loop (fun w st => ∃ (j : Nat) (M : List GLease), w = j + 1 ∧ a ≤ j ∧ j ≤ i ∧ M.length = l.length ∧ CmpOk GG g caps lt M ∧ insJ lt a j M = U ∧
      st = ⟨[], [(0, .sl 0), (1, .d (.int .i64 a)), (2, .d (.int .i64 b)), (3, .d (.fn g caps)), (8, .d (.int .i64 i)), (9, .d (.int .i64 j))], [(0, .arr 0 0 6 (rLease M))], 1⟩) _ ⟨i, L, rfl, by omega, by omega, hL, hcL, hU, ?_⟩ ?_
    · exact u_24
    rintro w st ⟨j, M, rfl, haj, hji, hM, hcM, hsM, rfl⟩
    by_cases hj : a < j
    · obtain ⟨j, rfl⟩ : ∃ j', j = j' + 1 := ⟨j - 1, by omega⟩
      have ha := List.getElem?_eq_getElem (show j + 1 < M.length by omega)
      have hb := List.getElem?_eq_getElem (show j < M.length by omega)
      have hma := List.getElem_mem (show j + 1 < M.length by omega)
      have hmb := List.getElem_mem (show j < M.length by omega)
      generalize M[j + 1] = x at ha hma
      generalize M[j] = y at hb hmb
      obtain ⟨v, cp, hv⟩ := hcM x y hma hmb
      rw [insJ, if_pos (by omega), ha, hb] at hsM
      simp only [] at hsM
      have e1 : IntKind.i64.wrap (((j + 1 : Nat) : Int) - 1) = (j : Nat) := by rw [wrap_id (by omega) (by omega)]; omega
      have e2 : IntKind.i64.wrap ((j : Int) + 1 - 1) = (j : Nat) := by rw [wrap_id (by omega) (by omega)]; omega
      have e4 : ((j : Int) + 1).toNat = j + 1 := by omega
      have e5 : IntKind.i64.wrap (j : Int) = j := wrap_id (by omega) (by omega)
      cases hxy : lt x y with
      | true =>
        rw [hxy] at hv
        rw [hxy, if_pos rfl] at hsM
        have hb2 := set_same (j + 1) hb
        have hw := sw2_eq ha hb
        have hcs := CmpOk.sw hcM (j + 1) j
        repeat' (first | refine W_seq ?_ | refine W_skip ?_ | refine W_block ?_ | refine W_exit ?_ | refine pick_pos rfl ?_ | refine pick_neg rfl ?_ | ((first | refine W_regP fun K hK => ?_ | refine W_regPD fun K hK => ?_ | refine W_ret ?_ | with_reducible refine callQ (cp) ?_); simp [Fin, ha, hb, hb2, hv, e1, e2, e4, e5, hw, rLease_setX]) | (with_reducible refine hK _ ?_; clear hK K) | (with_reducible refine goL_split (fun h => ?_) (fun h => ?_) <;> first | (exfalso; simp at h; first | done | omega | contradiction) | ((try simp at h); simp [ha, hb, hb2, hv, e1, e2, e4, e5, hw, rLease_setX])) | with_reducible refine And.intro ?_ ?_ | with_reducible exact okay_rfl rfl | with_reducible assumption | (refine W_cond rfl (fun h => ?_) (fun h => ?_) <;> first | (exfalso; simp at h; first | done | omega | contradiction) | (exfalso; simp_all; done) | (try simp at h)) | omega)
        refine ⟨j + 1, by omega, j, sw2 M (j + 1) j, rfl, by omega, by omega, by rw [sw2_len]; exact hM, hcs, hsM, ?_⟩
        exact u_24
      | false =>
        rw [hxy] at hv
        rw [hxy, if_neg (by simp)] at hsM
        subst hsM
        refine u_32 (Y8 ha hb hv e1 e2 e3 e4 e5) (Z1 cp) ?_
        refine ⟨b + 1 - (i + 1), by omega, i + 1, M, rfl, by omega, Or.inl (by omega), hM, hcM, hs, ?_⟩
        exact u_24
    · have : j = a := by omega
      subst this
      rw [insJ_stop] at hsM
      subst hsM
      refine u_23 e3 ?_
      refine ⟨b + 1 - (i + 1), by omega, i + 1, M, rfl, by omega, Or.inl (by omega), hM, hcM, hs, ?_⟩
      exact u_24
  · rw [show b - i = 0 by omega, insO] at hs
    subst hs
    refine u_30 ?_
    simp [Fin]
theorem mid_wrap (i j : Nat) (h1 : i ≤ 1048576) (h2 : j ≤ 1048576) : IntKind.i64.wrap ((IntKind.u64.wrap (IntKind.i64.wrap ((i : Int) + j))).fdiv 2) = ((i + j) / 2 : Nat) := by
  have e1 : IntKind.i64.wrap ((i : Int) + j) = (i : Int) + j := wrap_id (by omega) (by omega)
  have e2 : IntKind.u64.wrap ((i : Int) + j) = (i : Int) + j := by simp only [IntKind.wrap, IntKind.bits, IntKind.signed]; simp; omega
  rw [e1, e2, Int.fdiv_eq_ediv_of_nonneg _ (by omega), show ((i : Int) + j) / 2 = ((i + j) / 2 : Nat) by omega]
  exact wrap_id (by omega) (by omega)
theorem bsG_stop (f : Nat → Bool) (k : Nat) {i j : Nat} (h : ¬ i < j) : bsG f k i j = i := by
  cases k with
  | zero => rfl
  | succ k => rw [bsG, if_neg h]
theorem symOne_ok (k : Nat) (l : List GLease) (a b : Nat) (g : FuncId) (caps : List (List D)) (lt : GLease → GLease → Bool) (hc : CmpOk GG g caps lt l) (h1 : a + 1 < b) (h3 : b ≤ l.length) (hl : l.length ≤ 1048576) :
    Valid PP GG 244 [.own 0 6 (rLease l), .d (.int .i64 a), .d (.int .i64 ((a + 1 : Nat) : Int)), .d (.int .i64 b), .d (.fn g caps)] (.tup []) [some (.own 0 6 (rLease (symM lt (k + 1) a (a + 1) b l))), none, none, none, none] := by
  refine cv Tryz.func244 [] ?_
  generalize hT : symM lt (k + 1) a (a + 1) b l = T
  rw [symM, if_pos (by omega)] at hT
  unfold bs at hT
  generalize hs : bsG (fun h => ltA lt l h a) (b - (a + 1)) (a + 1) b = s at hT
  have e1 : IntKind.i64.wrap ((a : Int) + 1 - a) = 1 := by rw [wrap_id (by omega) (by omega)]; omega
  refine u_23 e1 ?_
  refine W_loop (fun w st => ∃ (i j f : Nat), w = f + 1 ∧ a + 1 ≤ i ∧ i ≤ j ∧ j ≤ b ∧ j - i ≤ f ∧ bsG (fun h => ltA lt l h a) f i j = s ∧
    st = ⟨[], [(0, .sl 0), (1, .d (.int .i64 a)), (4, .d (.fn g caps)), (10, .d (.int .i64 i)), (11, .d (.int .i64 j))], [(0, .arr 0 0 6 (rLease l))], 1⟩) _ ⟨a + 1, b, b - (a + 1), rfl, by omega, by omega, by omega, by omega, hs, ?_⟩ ?_
  · exact u_24
  rintro w st ⟨i, j, f, rfl, hi, hij, hj, hf, hs2, rfl⟩
  by_cases hlt : i < j
  · obtain ⟨f, rfl⟩ : ∃ f', f = f' + 1 := ⟨f - 1, by omega⟩
    rw [bsG, if_pos hlt] at hs2
    have eh := mid_wrap i j (by omega) (by omega)
    have hh : (i + j) / 2 < j := by omega
    have hh2 : i ≤ (i + j) / 2 := by omega
    generalize (i + j) / 2 = md at hs2 eh hh hh2
    have ha := List.getElem?_eq_getElem (show md < l.length by omega)
    have hb := List.getElem?_eq_getElem (show a < l.length by omega)
    have hma := List.getElem_mem (show md < l.length by omega)
    have hmb := List.getElem_mem (show a < l.length by omega)
    generalize l[md] = x at ha hma
    generalize l[a] = y at hb hmb
    obtain ⟨v, cp, hv⟩ := hc x y hma hmb
    simp only [ltA_app lt ha hb] at hs2
    have e6 : IntKind.i64.wrap ((md : Int) + 1) = (md + 1 : Nat) := by rw [wrap_id (by omega) (by omega)]; omega
    cases hxy : lt x y with
    | true =>
      rw [hxy] at hv
      rw [hxy, if_pos rfl] at hs2
      refine u_32 (Y5 ha hb hv eh e6) (Z1 cp) ?_
      refine ⟨f + 1, by omega, md + 1, j, f, rfl, by omega, by omega, by omega, by omega, hs2, ?_⟩
      exact u_24
    | false =>
      rw [hxy] at hv
      rw [hxy, if_neg (by simp)] at hs2
      refine u_32 (Y4 ha hb hv eh) (Z1 cp) ?_
      refine ⟨f + 1, by omega, i, md, f, rfl, by omega, by omega, by omega, by omega, hs2, ?_⟩
      exact u_24
  · rw [bsG_stop _ _ hlt] at hs2
    subst hs2
    have e7 : IntKind.i64.wrap ((i : Int) - 1) = (i : Int) - 1 := wrap_id (by omega) (by omega)
    refine u_30 ?_
    refine W_loop (fun w st => ∃ (q : Nat) (L : List GLease), w = i - q ∧ a ≤ q ∧ q + 1 ≤ i ∧ L.length = l.length ∧ upS (i - 1 - q) q L = T ∧
      st = ⟨[], [(0, .sl 0), (10, .d (.int .i64 i)), (13, .d (.int .i64 q))], [(0, .arr 0 0 6 (rLease L))], 1⟩) _ ⟨a, l, rfl, by omega, by omega, rfl, hT, ?_⟩ ?_
    · exact u_24
    rintro w st ⟨q, L, rfl, haq, hqi, hL, hsL, rfl⟩
    by_cases hq : q + 1 < i
    · have ha := List.getElem?_eq_getElem (show q < L.length by omega)
      have hb := List.getElem?_eq_getElem (show q + 1 < L.length by omega)
      generalize L[q] = x at ha
      generalize L[q + 1] = y at hb
      have hb2 := set_same q hb
      have hw := sw2_eq ha hb
      have e8 : IntKind.i64.wrap ((q : Int) + 1) = (q + 1 : Nat) := by rw [wrap_id (by omega) (by omega)]; omega
      have e9 : ((q : Int) + 1).toNat = q + 1 := by omega
      rw [show i - 1 - q = i - 1 - (q + 1) + 1 by omega, upS] at hsL
      refine u_65 (Y7 ha hb hb2 hw e7 e8 e9) ?_
      refine ⟨i - (q + 1), by omega, q + 1, sw2 L q (q + 1), rfl, by omega, by omega, by rw [sw2_len]; exact hL, hsL, ?_⟩
      exact u_24
    · rw [show i - 1 - q = 0 by omega, upS] at hsL
      subst hsL
      exact u_22 e7
theorem symLast_ok (k : Nat) (l : List GLease) (a m : Nat) (g : FuncId) (caps : List (List D)) (lt : GLease → GLease → Bool) (hc : CmpOk GG g caps lt l) (h1 : a + 1 < m) (h3 : m + 1 ≤ l.length) (hl : l.length ≤ 1048576) :
    Valid PP GG 244 [.own 0 6 (rLease l), .d (.int .i64 a), .d (.int .i64 m), .d (.int .i64 ((m + 1 : Nat) : Int)), .d (.fn g caps)] (.tup []) [some (.own 0 6 (rLease (symM lt (k + 1) a m (m + 1) l))), none, none, none, none] := by
  refine cv Tryz.func244 [] ?_
  generalize hT : symM lt (k + 1) a m (m + 1) l = T
  rw [symM, if_neg (by omega), if_pos (by omega)] at hT
  unfold bs at hT
  generalize hs : bsG (fun h => !ltA lt l m h) (m - a) a m = s at hT
  have e0 : IntKind.i64.wrap ((m : Int) - a) = (m : Int) - a := wrap_id (by omega) (by omega)
  have e1 : IntKind.i64.wrap ((m : Int) + 1 - m) = 1 := by rw [wrap_id (by omega) (by omega)]; omega
  have e2 : ((m : Int) - a == 1) = false := by rw [beq_eq_false_iff_ne]; omega
  refine u_23 (Y3 e0 e1 e2) ?_
  refine W_loop (fun w st => ∃ (i j f : Nat), w = f + 1 ∧ a ≤ i ∧ i ≤ j ∧ j ≤ m ∧ j - i ≤ f ∧ bsG (fun h => !ltA lt l m h) f i j = s ∧
    st = ⟨[], [(0, .sl 0), (2, .d (.int .i64 m)), (4, .d (.fn g caps)), (14, .d (.int .i64 i)), (15, .d (.int .i64 j))], [(0, .arr 0 0 6 (rLease l))], 1⟩) _ ⟨a, m, m - a, rfl, by omega, by omega, by omega, by omega, hs, ?_⟩ ?_
  · exact u_24
  rintro w st ⟨i, j, f, rfl, hi, hij, hj, hf, hs2, rfl⟩
  by_cases hlt : i < j
  · obtain ⟨f, rfl⟩ : ∃ f', f = f' + 1 := ⟨f - 1, by omega⟩
    rw [bsG, if_pos hlt] at hs2
    have eh := mid_wrap i j (by omega) (by omega)
    have hh : (i + j) / 2 < j := by omega
    have hh2 : i ≤ (i + j) / 2 := by omega
    generalize (i + j) / 2 = md at hs2 eh hh hh2
    have ha := List.getElem?_eq_getElem (show m < l.length by omega)
    have hb := List.getElem?_eq_getElem (show md < l.length by omega)
    have hma := List.getElem_mem (show m < l.length by omega)
    have hmb := List.getElem_mem (show md < l.length by omega)
    generalize l[m] = x at ha hma
    generalize l[md] = y at hb hmb
    obtain ⟨v, cp, hv⟩ := hc x y hma hmb
    simp only [ltA_app lt ha hb] at hs2
    have e6 : IntKind.i64.wrap ((md : Int) + 1) = (md + 1 : Nat) := by rw [wrap_id (by omega) (by omega)]; omega
    cases hxy : lt x y with
    | true =>
      rw [hxy] at hv
      rw [hxy, if_neg (by simp)] at hs2
      refine u_32 (Y4 ha hb hv eh) (Z1 cp) ?_
      refine ⟨f + 1, by omega, i, md, f, rfl, by omega, by omega, by omega, by omega, hs2, ?_⟩
      exact u_24
    | false =>
      rw [hxy] at hv
      rw [hxy, if_pos (by simp)] at hs2
      refine u_32 (Y5 ha hb hv eh e6) (Z1 cp) ?_
      refine ⟨f + 1, by omega, md + 1, j, f, rfl, by omega, by omega, by omega, by omega, hs2, ?_⟩
      exact u_24
  · rw [bsG_stop _ _ hlt] at hs2
    subst hs2
    refine u_30 ?_
    refine W_loop (fun w st => ∃ (q : Nat) (L : List GLease), w = q + 1 ∧ i ≤ q ∧ q ≤ m ∧ L.length = l.length ∧ dnS (q - i) q L = T ∧
      st = ⟨[], [(0, .sl 0), (14, .d (.int .i64 i)), (17, .d (.int .i64 q))], [(0, .arr 0 0 6 (rLease L))], 1⟩) _ ⟨m, l, rfl, by omega, by omega, rfl, hT, ?_⟩ ?_
    · exact u_24
    rintro w st ⟨q, L, rfl, haq, hqi, hL, hsL, rfl⟩
    by_cases hq : i < q
    · obtain ⟨q, rfl⟩ : ∃ q', q = q' + 1 := ⟨q - 1, by omega⟩
      have ha := List.getElem?_eq_getElem (show q + 1 < L.length by omega)
      have hb := List.getElem?_eq_getElem (show q < L.length by omega)
      generalize L[q + 1] = x at ha
      generalize L[q] = y at hb
      have hb2 := set_same (q + 1) hb
      have hw := sw2_eq ha hb
      have e7 : IntKind.i64.wrap (((q + 1 : Nat) : Int) - 1) = (q : Nat) := by rw [wrap_id (by omega) (by omega)]; omega
      have e8 : IntKind.i64.wrap ((q : Int) + 1 - 1) = (q : Nat) := by rw [wrap_id (by omega) (by omega)]; omega
      have e9 : ((q : Int) + 1).toNat = q + 1 := by omega
      have e10 : IntKind.i64.wrap (q : Int) = q := wrap_id (by omega) (by omega)
      rw [show q + 1 - i = q - i + 1 by omega, dnS, Nat.add_sub_cancel] at hsL
      refine u_65 (Y8 ha hb hb2 hw e7 e8 e9 e10) ?_
      refine ⟨q + 1, by omega, q, sw2 L (q + 1) q, rfl, by omega, by omega, by rw [sw2_len]; exact hL, hsL, ?_⟩
      exact u_24
    · rw [show q - i = 0 by omega, dnS] at hsL
      subst hsL
      exact u_29
theorem swR_mem {α : Type} {z : α} (a b : Nat) : ∀ (k i : Nat) (l : List α), z ∈ swR a b k i l → z ∈ l
  | 0, _, l, h => h
  | k + 1, i, l, h => sw2_mem (swR_mem a b k (i + 1) _ h)
theorem rotG_mem {α : Type} {z : α} (m : Nat) : ∀ (k i j : Nat) (l : List α), z ∈ rotG m k i j l → z ∈ l
  | 0, _, _, l, h => h
  | k + 1, i, j, l, h => by
    rw [rotG] at h
    split at h
    · exact swR_mem _ _ _ _ _ h
    · split at h
      · exact swR_mem _ _ _ _ _ (rotG_mem m k _ _ _ h)
      · exact swR_mem _ _ _ _ _ (rotG_mem m k _ _ _ h)
theorem upS_mem {α : Type} {z : α} : ∀ (k i : Nat) (l : List α), z ∈ upS k i l → z ∈ l
  | 0, _, l, h => h
  | k + 1, i, l, h => sw2_mem (upS_mem k (i + 1) _ h)
theorem dnS_mem {α : Type} {z : α} : ∀ (k i : Nat) (l : List α), z ∈ dnS k i l → z ∈ l
  | 0, _, l, h => h
  | k + 1, i, l, h => sw2_mem (dnS_mem k (i - 1) _ h)
theorem symC_mem {α : Type} {z : α} (p : Prop) [Decidable p] (f : List α → List α) (l : List α) (hf : ∀ l, z ∈ f l → z ∈ l) (h : z ∈ symC p f l) : z ∈ l := by
  unfold symC at h
  split at h
  · exact hf l h
  · exact h
theorem symM_mem {α : Type} {z : α} (lt : α → α → Bool) : ∀ (k a m b : Nat) (l : List α), z ∈ symM lt k a m b l → z ∈ l
  | 0, _, _, _, l, h => h
  | k + 1, a, m, b, l, h => by
    rw [symM] at h
    split at h
    · exact upS_mem _ _ _ h
    split at h
    · exact dnS_mem _ _ _ h
    unfold symR at h
    exact symC_mem _ _ _ (fun l => rotG_mem _ _ _ _ l) (symC_mem _ _ _ (symM_mem lt k _ _ _) (symC_mem _ _ _ (symM_mem lt k _ _ _) h))
theorem CmpOk.sub {g : FuncId} {caps : List (List D)} {lt : GLease → GLease → Bool} {a a' : List GLease} (h : CmpOk GG g caps lt a) (hs : ∀ z, z ∈ a' → z ∈ a) : CmpOk GG g caps lt a' := fun x y hx hy => h x y (hs x hx) (hs y hy)
theorem symMerge_ok (g : FuncId) (caps : List (List D)) (lt : GLease → GLease → Bool) : ∀ (k : Nat) (l : List GLease) (a m b : Nat) (hc : CmpOk GG g caps lt l) (hk : b - a ≤ k) (h1 : a < m) (h2 : m < b) (h3 : b ≤ l.length) (hl : l.length ≤ 1048576),
    Valid PP GG 244 [.own 0 6 (rLease l), .d (.int .i64 a), .d (.int .i64 m), .d (.int .i64 b), .d (.fn g caps)] (.tup []) [some (.own 0 6 (rLease (symM lt k a m b l))), none, none, none, none] := by
  intro k
  induction k with
  | zero => intro l a m b hc hk h1 h2; omega
  | succ k ih =>
  intro l a m b hc hk h1 h2 h3 hl
  by_cases c1 : m = a + 1
  · subst c1; exact symOne_ok k l a b g caps lt hc h2 h3 hl
  by_cases c2 : b = m + 1
  · subst c2; exact symLast_ok k l a m g caps lt hc (by omega) h3 hl
  refine cv Tryz.func244 [] ?_
  have hcut := symM_cut (lt := lt) a m b l h1 h2
  generalize hT : symM lt (k + 1) a m b l = T
  rw [symM, if_neg (by omega), if_neg (by omega)] at hT
  generalize hS : symS lt a m b l = s at hT hcut
  unfold symR at hT
  unfold symS at hS
  have eh := mid_wrap a b (by omega) (by omega)
  have hm1 : 2 * ((a + b) / 2) ≤ a + b := by omega
  have hm2 : a + b ≤ 2 * ((a + b) / 2) + 1 := by omega
  generalize (a + b) / 2 = mid at *
  obtain ⟨g1, g2, g3, g4, -, -⟩ := hcut
  generalize he : mid + m - s = e at hT
  have e0 : IntKind.i64.wrap ((m : Int) - a) = (m : Int) - a := wrap_id (by omega) (by omega)
  have e1 : IntKind.i64.wrap ((b : Int) - m) = (b : Int) - m := wrap_id (by omega) (by omega)
  have e2 : ((m : Int) - a == 1) = false := by rw [beq_eq_false_iff_ne]; omega
  have e3 : ((b : Int) - m == 1) = false := by rw [beq_eq_false_iff_ne]; omega
  have e4 : IntKind.i64.wrap ((mid : Int) + m) = (mid + m : Nat) := by rw [wrap_id (by omega) (by omega)]; omega
  have e6 : IntKind.i64.wrap (((mid + m : Nat) : Int) - 1) = (mid + m - 1 : Nat) := by rw [wrap_id (by omega) (by omega)]; omega
  have e7 : IntKind.i64.wrap (((mid + m : Nat) : Int) - s) = (e : Nat) := by rw [wrap_id (by omega) (by omega)]; omega
  generalize hn : mid + m = n at *
  refine W_cut [0, 1, 2, 3, 4] (fun st => st = ⟨[], [(0, .sl 0), (1, .d (.int .i64 a)), (2, .d (.int .i64 m)), (3, .d (.int .i64 b)), (4, .d (.fn g caps))], [(0, .arr 0 0 6 (rLease l))], 1⟩) ?_ ?_
  · refine u_23 (Y2 e0 e2) ?_
    exact u_24
  rintro st rfl
  refine W_cut [0, 1, 2, 3, 4] (fun st => st = ⟨[], [(0, .sl 0), (1, .d (.int .i64 a)), (2, .d (.int .i64 m)), (3, .d (.int .i64 b)), (4, .d (.fn g caps))], [(0, .arr 0 0 6 (rLease l))], 1⟩) ?_ ?_
  · refine u_23 (Y2 e1 e3) ?_
    exact u_24
  rintro st rfl
  refine u_13 eh ?_
  refine u_13 e4 ?_
  refine u_1 ?_
  refine W_cut [0, 1, 2, 3, 4, 18, 19, 20, 21] (fun st => ∃ lo hi : Nat, a ≤ lo ∧ lo ≤ hi ∧ hi ≤ m ∧ hi ≤ mid ∧ n - b ≤ lo ∧ bs (fun c => !ltA lt l (n - 1 - c) c) lo hi = s ∧
    st = ⟨[], [(0, .sl 0), (1, .d (.int .i64 a)), (2, .d (.int .i64 m)), (3, .d (.int .i64 b)), (4, .d (.fn g caps)), (18, .d (.int .i64 mid)), (19, .d (.int .i64 n)), (20, .d (.int .i64 lo)), (21, .d (.int .i64 hi))], [(0, .arr 0 0 6 (rLease l))], 1⟩) ?_ ?_
  · by_cases hmm : mid < m
    · rw [if_pos hmm] at hS
      have e5 : IntKind.i64.wrap ((n : Int) - b) = (n - b : Nat) := by rw [wrap_id (by omega) (by omega)]; omega
      refine u_23 e5 ?_
      refine ⟨n - b, mid, by omega, by omega, by omega, by omega, by omega, hS, ?_⟩
      exact u_24
    · rw [if_neg hmm] at hS
      refine u_30 ?_
      refine ⟨a, m, by omega, by omega, by omega, by omega, by omega, hS, ?_⟩
      exact u_24
  clear hS
  rintro st ⟨lo, hi, o1, o2, o3, o4, o5, hS, rfl⟩
  unfold bs at hS
  refine u_13 e6 ?_
  refine W_cut [0, 1, 2, 3, 4, 18, 19, 20] (fun st => st = ⟨[], [(0, .sl 0), (1, .d (.int .i64 a)), (2, .d (.int .i64 m)), (3, .d (.int .i64 b)), (4, .d (.fn g caps)), (18, .d (.int .i64 mid)), (19, .d (.int .i64 n)), (20, .d (.int .i64 s))], [(0, .arr 0 0 6 (rLease l))], 1⟩) ?_ ?_
  · refine u_30 ?_
    refine W_loop (fun w st => ∃ (i j f : Nat), w = f + 1 ∧ lo ≤ i ∧ i ≤ j ∧ j ≤ hi ∧ j - i ≤ f ∧ bsG (fun c => !ltA lt l (n - 1 - c) c) f i j = s ∧
      st = ⟨[], [(0, .sl 0), (1, .d (.int .i64 a)), (2, .d (.int .i64 m)), (3, .d (.int .i64 b)), (4, .d (.fn g caps)), (18, .d (.int .i64 mid)), (19, .d (.int .i64 n)), (20, .d (.int .i64 i)), (21, .d (.int .i64 j)), (22, .d (.int .i64 ((n - 1 : Nat) : Int)))], [(0, .arr 0 0 6 (rLease l))], 1⟩) _ ⟨lo, hi, hi - lo, rfl, by omega, by omega, by omega, by omega, hS, ?_⟩ ?_
    · exact u_24
    rintro w st ⟨i, j, f, rfl, hil, hij, hjh, hf, hs2, rfl⟩
    by_cases hlt : i < j
    · obtain ⟨f, rfl⟩ : ∃ f', f = f' + 1 := ⟨f - 1, by omega⟩
      rw [bsG, if_pos hlt] at hs2
      have e10 := mid_wrap i j (by omega) (by omega)
      have hh : (i + j) / 2 < j := by omega
      have hh2 : i ≤ (i + j) / 2 := by omega
      generalize (i + j) / 2 = md at hs2 e10 hh hh2
      have ha := List.getElem?_eq_getElem (show n - 1 - md < l.length by omega)
      have hb := List.getElem?_eq_getElem (show md < l.length by omega)
      have hma := List.getElem_mem (show n - 1 - md < l.length by omega)
      have hmb := List.getElem_mem (show md < l.length by omega)
      generalize l[n - 1 - md] = x at ha hma
      generalize l[md] = y at hb hmb
      obtain ⟨v, cp, hv⟩ := hc x y hma hmb
      simp only [ltA_app lt ha hb] at hs2
      have e11 : IntKind.i64.wrap ((md : Int) + 1) = (md + 1 : Nat) := by rw [wrap_id (by omega) (by omega)]; omega
      have e12 : IntKind.i64.wrap (((n - 1 : Nat) : Int) - md) = (n - 1 - md : Nat) := by rw [wrap_id (by omega) (by omega)]; omega
      cases hxy : lt x y with
      | true =>
        rw [hxy] at hv
        rw [hxy, if_neg (by simp)] at hs2
        refine u_32 (Y5 ha hb hv e10 e12) (Z1 cp) ?_
        refine ⟨f + 1, by omega, i, md, f, rfl, by omega, by omega, by omega, by omega, hs2, ?_⟩
        exact u_24
      | false =>
        rw [hxy] at hv
        rw [hxy, if_pos (by simp)] at hs2
        refine u_32 (Y6 ha hb hv e10 e11 e12) (Z1 cp) ?_
        refine ⟨f + 1, by omega, md + 1, j, f, rfl, by omega, by omega, by omega, by omega, hs2, ?_⟩
        exact u_24
    · rw [bsG_stop _ _ hlt] at hs2
      subst hs2
      refine u_30 ?_
      exact u_24
  rintro st rfl
  refine u_13 e7 ?_
  refine W_cut [0, 1, 3, 4, 18, 20, 24] (fun st => st = ⟨[], [(0, .sl 0), (1, .d (.int .i64 a)), (3, .d (.int .i64 b)), (4, .d (.fn g caps)), (18, .d (.int .i64 mid)), (20, .d (.int .i64 s)), (24, .d (.int .i64 e))], [(0, .arr 0 0 6 (rLease (symC (s < m ∧ m < e) (rot s m e) l)))], 1⟩) ?_ ?_
  · unfold symC
    by_cases hr : s < m ∧ m < e
    · rw [if_pos hr]
      obtain ⟨hr1, hr2⟩ := hr
      have cr := rotate_ok (GG := GG) l s m e g caps hr1 hr2 (by omega) hl
      refine u_37 (Z1 cr) ?_
      exact u_24
    · rw [if_neg hr]
      by_cases hr1 : s < m
      · have hr2 : ¬ m < e := fun h => hr ⟨hr1, h⟩
        refine u_30 ?_
        exact u_24
      · refine u_30 ?_
        exact u_24
  rintro st rfl
  have hL1 : ∀ z, z ∈ symC (s < m ∧ m < e) (rot s m e) l → z ∈ l := fun z hz => symC_mem _ _ _ (fun l => rotG_mem _ _ _ _ l) hz
  have hl1 : (symC (s < m ∧ m < e) (rot s m e) l).length = l.length := symC_len _ _ _ (rot_len _ _ _)
  generalize symC (s < m ∧ m < e) (rot s m e) l = L1 at *
  have hc1 := CmpOk.sub hc hL1
  refine W_cut [0, 3, 4, 18, 24] (fun st => st = ⟨[], [(0, .sl 0), (3, .d (.int .i64 b)), (4, .d (.fn g caps)), (18, .d (.int .i64 mid)), (24, .d (.int .i64 e))], [(0, .arr 0 0 6 (rLease (symC (a < s ∧ s < mid) (symM lt k a s mid) L1)))], 1⟩) ?_ ?_
  · unfold symC
    by_cases hr : a < s ∧ s < mid
    · rw [if_pos hr]
      obtain ⟨hr1, hr2⟩ := hr
      have cr := ih L1 a s mid hc1 (by omega) hr1 hr2 (by omega) (by omega)
      refine u_37 (Z1 cr) ?_
      exact u_24
    · rw [if_neg hr]
      by_cases hr1 : a < s
      · have hr2 : ¬ s < mid := fun h => hr ⟨hr1, h⟩
        refine u_30 ?_
        exact u_24
      · refine u_30 ?_
        exact u_24
  rintro st rfl
  have hL2 : ∀ z, z ∈ symC (a < s ∧ s < mid) (symM lt k a s mid) L1 → z ∈ L1 := fun z hz => symC_mem _ _ _ (symM_mem lt k _ _ _) hz
  have hl2 : (symC (a < s ∧ s < mid) (symM lt k a s mid) L1).length = L1.length := symC_len _ _ _ (symM_len lt k _ _ _)
  generalize symC (a < s ∧ s < mid) (symM lt k a s mid) L1 = L2 at *
  have hc2 := CmpOk.sub hc1 hL2
  unfold symC at hT
  by_cases hr : mid < e ∧ e < b
  · rw [if_pos hr] at hT
    obtain ⟨hr1, hr2⟩ := hr
    have cr := ih L2 mid e b hc2 (by omega) hr1 hr2 (by omega) (by omega)
    rw [hT] at cr
    refine u_37 (Z1 cr) ?_
    simp [Fin]
  · rw [if_neg hr] at hT
    subst hT
    by_cases hr1 : mid < e
    · have hr2 : ¬ e < b := fun h => hr ⟨hr1, h⟩
      refine u_30 ?_
      simp [Fin]
    · refine u_30 ?_
      simp [Fin]
theorem insJ_mem {α : Type} {z : α} (lt : α → α → Bool) (a : Nat) : ∀ (j : Nat) (l : List α), z ∈ insJ lt a j l → z ∈ l
  | 0, l, h => h
  | j + 1, l, h => by
    rw [insJ] at h
    split at h
    · split at h
      · split at h
        · exact sw2_mem (insJ_mem lt a j _ h)
        · exact h
      · exact h
    · exact h
theorem insO_mem {α : Type} {z : α} (lt : α → α → Bool) (a : Nat) : ∀ (k i : Nat) (l : List α), z ∈ insO lt a k i l → z ∈ l
  | 0, _, l, h => h
  | k + 1, i, l, h => insJ_mem lt a i _ (insO_mem lt a k (i + 1) _ h)
theorem stIns_stop {α : Type} (lt : α → α → Bool) (n k a : Nat) (l : List α) (h : ¬ a + 20 ≤ n) : stIns lt n k a l = insS lt a n l := by
  cases k with
  | zero => rfl
  | succ k => rw [stIns, if_neg h]
theorem stMrg_stop {α : Type} (lt : α → α → Bool) (n s k a : Nat) (l : List α) (h : ¬ a + 2 * s ≤ n) (hk : n ≤ a + k) : stMrg lt n s k a l = symC (a + s < n) (symM lt (n - a) a (a + s) n) l := by
  cases k with
  | zero => rw [stMrg, symC, if_neg (by omega)]
  | succ k => rw [stMrg, if_neg h]; rfl
theorem stGo_stop {α : Type} (lt : α → α → Bool) (n k s : Nat) (l : List α) (h : ¬ s < n) : stGo lt n k s l = l := by
  cases k with
  | zero => rfl
  | succ k => rw [stGo, if_neg h]
theorem stable_ok (l : List GLease) (g : FuncId) (caps : List (List D)) (lt : GLease → GLease → Bool) (hc : CmpOk GG g caps lt l) (hl : l.length ≤ 1000000) :
    Valid PP GG 226 [.own 0 6 (rLease l), .d (.int .i64 l.length), .d (.fn g caps)] (.tup []) [some (.own 0 6 (rLease (stable lt l))), none, none] := by
  refine cv Tryz.func226 [] ?_
  generalize hT : stable lt l = T
  unfold stable at hT
  generalize hU : stIns lt l.length l.length 0 l = U at hT
  have hUl : U.length = l.length := by rw [← hU, stIns_len]
  generalize hn : l.length = n at *
  refine u_30 ?_
  refine W_loop (fun w st => ∃ (a k : Nat) (L : List GLease), w = n + 1 - a ∧ a ≤ n ∧ n ≤ a + k ∧ L.length = n ∧ CmpOk GG g caps lt L ∧ stIns lt n k a L = U ∧
    st = ⟨[], [(0, .sl 0), (1, .d (.int .i64 n)), (2, .d (.fn g caps)), (6, .d (.int .i64 20)), (7, .d (.int .i64 a)), (8, .d (.int .i64 ((a + 20 : Nat) : Int)))], [(0, .arr 0 0 6 (rLease L))], 1⟩) _ ⟨0, n, l, rfl, by omega, by omega, hn, hc, hU, ?_⟩ ?_
  · exact u_24
  rintro w st ⟨a, k, L, rfl, han, hk, hL, hcL, hs, rfl⟩
  have e1 : IntKind.i64.wrap (((a + 20 : Nat) : Int) + 20) = (a + 20 + 20 : Nat) := by rw [wrap_id (by omega) (by omega)]; omega
  have e2 : IntKind.i64.wrap ((a : Int) + 20 + 20) = (a + 20 + 20 : Nat) := by rw [wrap_id (by omega) (by omega)]; omega
  by_cases hb : a + 20 ≤ n
  · obtain ⟨k, rfl⟩ : ∃ k', k = k' + 1 := ⟨k - 1, by omega⟩
    rw [stIns, if_pos hb] at hs
    have cr := insertion_ok (GG := GG) L a (a + 20) g caps lt hcL (by omega) (by omega) (by omega)
    have cr2 : ((a + 20 : Nat) : Int) = (a : Int) + 20 := by omega
    rw [cr2] at cr
    clear cr2
    have hcs : CmpOk GG g caps lt (insS lt a (a + 20) L) := CmpOk.sub hcL (fun z => insO_mem (z := z) lt a _ _ L)
    refine u_32 (Y2 e1 e2) (Z1 cr) ?_
    refine ⟨n + 1 - (a + 20), by omega, a + 20, k, insS lt a (a + 20) L, rfl, by omega, by omega, by rw [insS_len]; exact hL, hcs, hs, ?_⟩
    exact u_24
  · rw [stIns_stop _ _ _ _ _ hb] at hs
    have cr := insertion_ok (GG := GG) L a n g caps lt hcL (by omega) (by omega) (by omega)
    have hcU := CmpOk.sub hcL (fun z => insO_mem (z := z) lt a (n - (a + 1)) (a + 1) L)
    rw [hs] at cr
    have hcU : CmpOk GG g caps lt U := by rw [← hs]; exact hcU
    refine u_37 (Z1 cr) ?_
    refine W_loop (fun w st => ∃ (s k : Nat) (L : List GLease), w = n + 1 - s ∧ 0 < s ∧ s ≤ 2 * n + 20 ∧ n ≤ s + k ∧ L.length = n ∧ CmpOk GG g caps lt L ∧ stGo lt n k s L = T ∧
      st = ⟨[], [(0, .sl 0), (1, .d (.int .i64 n)), (2, .d (.fn g caps)), (6, .d (.int .i64 s))], [(0, .arr 0 0 6 (rLease L))], 1⟩) _ ⟨20, n, U, rfl, by omega, by omega, by omega, hUl, hcU, hT, ?_⟩ ?_
    · exact u_24
    clear e1 e2 hb hcL cr han
    rintro w st ⟨s, k, L, rfl, hs0, hs20, hk, hL, hcL, hs, rfl⟩
    by_cases hsn : s < n
    · obtain ⟨k, rfl⟩ : ∃ k', k = k' + 1 := ⟨k - 1, by omega⟩
      rw [stGo, if_pos hsn] at hs
      generalize hV : stMrg lt n s n 0 L = V at hs
      have hVl : V.length = n := by rw [← hV, stMrg_len]; exact hL
      have e3 : IntKind.i64.wrap (2 * (s : Int)) = 2 * (s : Int) := wrap_id (by omega) (by omega)
      have e6 : IntKind.i64.wrap ((s : Int) * 2) = 2 * (s : Int) := by rw [wrap_id (by omega) (by omega)]; omega
      refine u_23 e3 ?_
      refine W_loop (fun w st => ∃ (a f : Nat) (M : List GLease), w = n + 1 - a ∧ a ≤ n ∧ n ≤ a + f ∧ M.length = n ∧ CmpOk GG g caps lt M ∧ stMrg lt n s f a M = V ∧
        st = ⟨[], [(0, .sl 0), (1, .d (.int .i64 n)), (2, .d (.fn g caps)), (6, .d (.int .i64 s)), (7, .d (.int .i64 a)), (8, .d (.int .i64 ((a : Int) + 2 * (s : Int))))], [(0, .arr 0 0 6 (rLease M))], 1⟩) _ ⟨0, n, L, rfl, by omega, by omega, hL, hcL, hV, ?_⟩ ?_
      · exact u_24
      clear hV hcL
      rintro w st ⟨a, f, M, rfl, han, hf, hM, hcM, hs2, rfl⟩
      have e4 : IntKind.i64.wrap ((a : Int) + s) = (a : Int) + s := wrap_id (by omega) (by omega)
      by_cases hb : a + 2 * s ≤ n
      · obtain ⟨f, rfl⟩ : ∃ f', f = f' + 1 := ⟨f - 1, by omega⟩
        rw [stMrg, if_pos hb] at hs2
        have e5 : IntKind.i64.wrap ((a : Int) + 2 * (s : Int) + 2 * (s : Int)) = (a : Int) + 2 * (s : Int) + 2 * (s : Int) := wrap_id (by omega) (by omega)
        have cr := symMerge_ok (GG := GG) g caps lt (2 * s) M a (a + s) (a + 2 * s) hcM (by omega) (by omega) (by omega) (by omega) (by omega)
        rw [show ((a + s : Nat) : Int) = (a : Int) + s by omega, show ((a + 2 * s : Nat) : Int) = (a : Int) + 2 * (s : Int) by omega] at cr
        have hcs : CmpOk GG g caps lt (symM lt (2 * s) a (a + s) (a + 2 * s) M) := CmpOk.sub hcM (fun z => symM_mem (z := z) lt _ _ _ _ M)
        refine u_32 (Y3 e3 e4 e5) (Z1 cr) ?_
        refine ⟨n + 1 - (a + 2 * s), by omega, a + 2 * s, f, symM lt (2 * s) a (a + s) (a + 2 * s) M, rfl, by omega, by omega, by rw [symM_len]; exact hM, hcs, hs2, ?_⟩
        exact u_24
      · rw [stMrg_stop _ _ _ _ _ _ hb hf] at hs2
        unfold symC at hs2
        by_cases hm : a + s < n
        · rw [if_pos hm] at hs2
          have cr := symMerge_ok (GG := GG) g caps lt (n - a) M a (a + s) n hcM (by omega) (by omega) (by omega) (by omega) (by omega)
          rw [hs2, show ((a + s : Nat) : Int) = (a : Int) + s by omega] at cr
          have hcs : CmpOk GG g caps lt V := by rw [← hs2]; exact CmpOk.sub hcM (fun z => symM_mem (z := z) lt _ _ _ _ M)
          refine u_32 (Y2 e4 e6) (Z1 cr) ?_
          refine ⟨n + 1 - 2 * s, by omega, 2 * s, k, V, rfl, by omega, by omega, by omega, hVl, hcs, hs, ?_⟩
          exact u_24
        · rw [if_neg hm] at hs2
          subst hs2
          refine u_23 (Y2 e4 e6) ?_
          refine ⟨n + 1 - 2 * s, by omega, 2 * s, k, M, rfl, by omega, by omega, by omega, hVl, hcM, hs, ?_⟩
          exact u_24
    · rw [stGo_stop _ _ _ _ _ hsn] at hs
      subst hs
      refine u_30 ?_
      simp [Fin]
def ltE (x y : GLease) : Bool := decide (x.fEnds < y.fEnds)
def cmpI (x y : Int) : Int := if x < y then -1 else if y < x then 1 else 0
theorem cmpI_neg (x y : Int) : decide (cmpI x y < 0) = decide (x < y) := by
  unfold cmpI
  split
  · rename_i h; simp [h]
  · rename_i h
    split <;> simp [h]
theorem isNaNInt_ok (x : Int) : Valid PP GG 227 [.d (.int .i64 x)] (.d (.bool false)) [none] := by
  refine cv Tryz.func227 [.d (.bool false)] ?_
  have hx : (x != x) = false := by simp
  exact u_22 hx
theorem CompareInt_ok (x y : Int) : Valid PP GG 210 [.d (.int .i64 x), .d (.int .i64 y)] (.d (.int .i64 (cmpI x y))) [none, none] := by
  refine cv Tryz.func210 [.d (.int .i64 (cmpI x y))] ?_
  have c1 := isNaNInt_ok (GG := GG) x
  have c2 := isNaNInt_ok (GG := GG) y
  by_cases h : x < y
  · have e : cmpI x y = -1 := by unfold cmpI; rw [if_pos h]
    rw [e]
    exact u_33 (Z2 c1 c2)
  · by_cases h2 : y < x
    · have e : cmpI x y = 1 := by unfold cmpI; rw [if_neg h, if_pos h2]
      rw [e]
      exact u_33 (Z2 c1 c2)
    · have e : cmpI x y = 0 := by unfold cmpI; rw [if_neg h, if_neg h2]
      rw [e]
      exact u_33 (Z2 c1 c2)
theorem dropOver_c2_ok (x y : GLease) : Valid PP GG 209 [.agg x.c, .agg y.c] (.d (.int .i64 (cmpI x.fEnds y.fEnds))) [none, none] := by
  refine cv Tryz.func209 [.d (.int .i64 (cmpI x.fEnds y.fEnds))] ?_
  have cc := CompareInt_ok (GG := GG) x.fEnds y.fEnds
  exact u_33 (Z1 cc)
theorem dropOver_cmp (a : List GLease) : CmpOk GG 209 [] ltE a := fun x y _ _ => ⟨_, dropOver_c2_ok x y, cmpI_neg _ _⟩
theorem SortStable_ok (l : List GLease) (g : FuncId) (caps : List (List D)) (lt : GLease → GLease → Bool) (hc : CmpOk GG g caps lt l) (hl : l.length ≤ 1000000) :
    Valid PP GG 208 [.own 0 6 (rLease l), .d (.fn g caps)] (.tup []) [some (.own 0 6 (rLease (stable lt l))), none] := by
  refine cv Tryz.func208 [] ?_
  have cs := stable_ok (GG := GG) l g caps lt hc hl
  refine u_37 (Z1 cs) ?_
  try simp [Fin]
theorem dropOver_c1_ok (l : GLease) (now : Int) : Valid PP GG 207 [.agg l.c, .rp [.int .i64 now]] (.d (.bool (decide (l.fEnds ≤ now)))) [none] := by
  refine cv Tryz.func207 [.d (.bool (decide (l.fEnds ≤ now)))] ?_
  exact u_29
def keepO (b : GBook) (now : Int) : GBook := ⟨b.fLeases.filter fun l => !decide (l.fEnds ≤ now)⟩
def overO (b : GBook) (now : Int) : List GLease := stable ltE (b.fLeases.filter fun l => decide (l.fEnds ≤ now))
theorem dropOver_ok (b : GBook) (now : Int) (hl : b.fLeases.length ≤ 1000000) :
    Valid PP GG 174 [.agg b.c, .d (.int .i64 now)] (.tup [.agg (keepO b now).o, .own 0 6 (rLease (overO b now))]) [none, none] := by
  refine cv Tryz.func174 [.agg (keepO b now).o, .own 0 6 (rLease (overO b now))] ?_
  have cd := dropLeases_ok (GG := GG) b.fLeases 207 [[.int .i64 now]] (fun l => decide (l.fEnds ≤ now)) (by omega) fun x _ => dropOver_c1_ok x now
  have hfl : (b.fLeases.filter fun l => decide (l.fEnds ≤ now)).length ≤ b.fLeases.length := List.length_filter_le _ _
  have hK : keepO b now = ⟨b.fLeases.filter fun l => !decide (l.fEnds ≤ now)⟩ := rfl
  have hO : overO b now = stable ltE (b.fLeases.filter fun l => decide (l.fEnds ≤ now)) := rfl
  rw [hK, hO]
  clear hK hO
  have hi1 := ind_rLease (b.fLeases.filter fun l => !decide (l.fEnds ≤ now))
  have hi2 := ind_rLease (stable ltE (b.fLeases.filter fun l => decide (l.fEnds ≤ now)))
  have hi3 := ind_rLease (b.fLeases.filter fun l => decide (l.fEnds ≤ now))
  generalize (b.fLeases.filter fun l => decide (l.fEnds ≤ now)) = G at *
  generalize (b.fLeases.filter fun l => !decide (l.fEnds ≤ now)) = K at *
  have cs := SortStable_ok (GG := GG) G 209 [] ltE (dropOver_cmp G) (by omega)
  generalize stable ltE G = S at *
  exact u_33 (Z2 cd cs)
def ordE (x u : GLease) : Prop := x.fEnds < u.fEnds ∨ x.fEnds = u.fEnds ∧ x.fId < u.fId
theorem ordE_tr (a b c : GLease) (h1 : ordE a b) (h2 : ordE b c) : ordE a c := by unfold ordE at *; omega
def insE (l : GLease) : List GLease → List GLease
  | [] => [l]
  | g :: r => if l.fEnds < g.fEnds then l :: g :: r else g :: insE l r
def goE (l : GLease) : List GLease → List GLease → Bool → List GLease
  | [], nx, put => if put then nx else nx ++ [l]
  | g :: r, nx, put => if !put && decide (l.fEnds < g.fEnds) then goE l r (nx ++ [l] ++ [g]) true else goE l r (nx ++ [g]) put
def foE (now : Int) : List GLease → List GLease → List GLease
  | G, [] => G
  | G, l :: r => foE now (if l.fEnds ≤ now then insE l G else G) r
theorem goE_true (l : GLease) : ∀ (G nx : List GLease), goE l G nx true = nx ++ G
  | [], nx => by simp [goE]
  | g :: r, nx => by rw [goE]; simp [goE_true l r]
theorem goE_false (l : GLease) : ∀ (G nx : List GLease), goE l G nx false = nx ++ insE l G
  | [], nx => by simp [goE, insE]
  | g :: r, nx => by
    rw [goE, insE]
    by_cases h : l.fEnds < g.fEnds
    · simp [h, goE_true]
    · simp [h, goE_false l r]
theorem insE_perm (l : GLease) : ∀ G : List GLease, (insE l G).Perm (G ++ [l])
  | [] => List.Perm.refl _
  | g :: r => by
    rw [insE]
    split
    · have := List.perm_append_comm (l₁ := [l]) (l₂ := g :: r); simpa using this
    · exact (insE_perm l r).cons g
theorem insE_len (l : GLease) (G : List GLease) : (insE l G).length = G.length + 1 := by simpa using (insE_perm l G).length_eq
theorem insE_sorted (l : GLease) : ∀ G : List GLease, G.Pairwise ordE → (∀ g, g ∈ G → g.fId < l.fId) → (insE l G).Pairwise ordE
  | [], _, _ => List.pairwise_singleton _ _
  | g :: r, hs, hi => by
    have h2 := List.pairwise_cons.1 hs
    rw [insE]
    split
    · rename_i h
      refine List.pairwise_cons.2 ⟨fun y hy => ?_, hs⟩
      simp at hy
      rcases hy with hy | hy
      · subst hy; exact Or.inl h
      · exact ordE_tr l g y (Or.inl h) (h2.1 y hy)
    · rename_i h
      refine List.pairwise_cons.2 ⟨fun y hy => ?_, insE_sorted l r h2.2 fun g hg => hi g (by simp [hg])⟩
      have := (insE_perm l r).mem_iff.1 hy
      simp at this
      rcases this with hy | hy
      · exact h2.1 y hy
      · subst hy
        have := hi g (by simp)
        unfold ordE; omega
theorem foE_spec (now : Int) : ∀ (a G : List GLease), G.Pairwise ordE → a.Pairwise (fun x y => x.fId < y.fId) → (∀ g, g ∈ G → ∀ l, l ∈ a → g.fId < l.fId) → (foE now G a).Perm (G ++ a.filter fun l => decide (l.fEnds ≤ now)) ∧ (foE now G a).Pairwise ordE
  | [], G, hs, _, _ => ⟨by simp [foE], hs⟩
  | l :: r, G, hs, ha, hi => by
    have h2 := List.pairwise_cons.1 ha
    rw [foE]
    split
    · rename_i h
      have := foE_spec now r (insE l G) (insE_sorted l G hs fun g hg => hi g hg l (by simp)) h2.2 fun g hg x hx => by
        have := (insE_perm l G).mem_iff.1 hg
        simp at this
        rcases this with hg | hg
        · exact hi g hg x (by simp [hx])
        · subst hg; exact h2.1 x hx
      refine ⟨this.1.trans ?_, this.2⟩
      rw [List.filter_cons_of_pos (by simpa using h)]
      have := (insE_perm l G).append_right (r.filter fun l => decide (l.fEnds ≤ now))
      simpa using this
    · rename_i h
      have := foE_spec now r G hs h2.2 fun g hg x hx => hi g hg x (by simp [hx])
      rw [List.filter_cons_of_neg (by simpa using h)]
      exact this
end Go.Proofs.YtdckkojgnkoabaaGreatDoor.Ab
