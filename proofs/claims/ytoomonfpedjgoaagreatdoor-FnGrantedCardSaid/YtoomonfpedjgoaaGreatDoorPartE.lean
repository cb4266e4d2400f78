/-
  A part of a proof about the given program; what is proved is said where each theorem stands.
-/
import Derived.Test.YtoomonfpedjgoaaGreatDoorFrameA
import Derived.Test.YtoomonfpedjgoaaGreatDoorFrameB
import Derived.Test.YtoomonfpedjgoaaGreatDoorFrameC
import Derived.Test.YtoomonfpedjgoaaGreatDoorFrameD
import Derived.Test.YtoomonfpedjgoaaGreatDoorFrameE
import Derived.Test.YtoomonfpedjgoaaGreatDoorHead
import Derived.Test.YtoomonfpedjgoaaGreatDoorShelf
import Derived.Test.YtoomonfpedjgoaaGreatDoorPartA
import Derived.Test.YtoomonfpedjgoaaGreatDoorPartB
import Derived.Test.YtoomonfpedjgoaaGreatDoorPartC
import Derived.Test.YtoomonfpedjgoaaGreatDoorPartD
namespace Go.Proofs
end Go.Proofs
set_option linter.unusedSimpArgs false
set_option linter.unusedVariables false
set_option maxRecDepth 100000
set_option maxHeartbeats 2000000
namespace Go.Proofs.YtoomonfpedjgoaaGreatDoor.Ab
open Go.Proofs
variable {GG : GV}
theorem s_PassTime_ok [MaxL GG] (w : GWorld) (now : Int) (hf : fitW w) :
  Valid PP GG 137 [.agg w.c, .d (.int .i64 now)] (.tup [.agg (ptW w now).o, .agg (ptT w now).o, .d (.bool (ptB w now))]) [none, none] := by
 refine cv Tryz.func137 [.agg (ptW w now).o, .agg (ptT w now).o, .d (.bool (ptB w now))] ?_
 have cw := s_WorldOk_ok (GG := GG) w hf
 have ccp := s_l16Copy_ok (GG := GG) w hf
 have cin : Valid PP GG 23 [.d (.int .i64 now), .d (.int .i64 w.fNow), .d (.int .i64 1000000000)] (.d (.bool (inB now w.fNow 1000000000))) [none, none, none] := l01In_ok _ _ _
 have hB : ptB w now = (worldB w && inB now w.fNow 1000000000) := rfl
 have hW : ptW w now = if ptB w now then letGo (ptX w now) (ptL w now) else w := rfl
 have hT : ptT w now = if ptB w now then ⟨sweepF w.fForest now, (ptL w now).map GLease.fId, (ptR w now).done, (ptR w now).failed⟩ else ⟨[], [], [], []⟩ := rfl
 have hi1 := ind_rToken w.fForest.fTokens
 have hi2 := ind_rLease w.fBook.fLeases
 have hi3 := ind_rUser w.fFar.fUsers
 have hi4 := ind_rJob w.fQueue.fJobs
 have hi5 := ind_rOwned w.fOwned
 cases hb : ptB w now with
 | false =>
  rw [hb] at hW hT
  simp only [Bool.false_eq_true, if_false] at hW hT
  rw [hW, hT]
  cases hWB : worldB w with
  | false =>
   rw [hWB] at cw
   clear hW hT hB
   exact u_71 (Z2 ccp cw)
  | true =>
   rw [hb, hWB, Bool.true_and] at hB
   rw [hWB] at cw
   rw [← hB] at cin
   clear hW hT hB
   exact u_71 (Z3 ccp cw cin)
 | true =>
  obtain ⟨hL, hI, hWB, hbb, hfb⟩ := pt_let hf hb
  rw [hb] at hW hT
  simp only [if_true] at hW hT
  rw [hb, hWB, Bool.true_and] at hB
  rw [hWB] at cw
  rw [← hB] at cin
  have csw := s_SweepTokens_ok (GG := GG) w.fForest now hf.1 hfb
  have hsl := sweep_len now hfb
  have cdo := s_DropOf_ok (GG := GG) w.fBook (sweepF w.fForest now) hf.2.1 hbb (by omega)
  have cdv := s_DropOver_ok (GG := GG) (ptK w now) now (keepL_fit _ hf.2.1) (keepL_book _ hbb)
  have hll := ptL_len w now
  have hbl := hf.2.1.1
  have cgo := s_l16LetGo_ok (GG := GG) (ptX w now) (ptL w now) hL (by have := hbb; unfold bookB at this; rw [Bool.and_eq_true] at this; have := of_decide_eq_true this.1; omega)
  rw [hW, hT]
  have hX : ptX w now = { w with fNow := now, fForest := lessF w.fForest (sweepF w.fForest now), fBook := keepO (ptK w now) now } := rfl
  have hLs : ptL w now = goneL w.fBook (sweepF w.fForest now) ++ overO (ptK w now) now := rfl
  have hR : ptR w now = letRun (letAll (ptX w now) (ptL w now)) := rfl
  rw [show keepL w.fBook (sweepF w.fForest now) = ptK w now from rfl] at cdo
  rw [← hR] at cgo
  clear hR hW hT hB hL hI
  generalize letGo (ptX w now) (ptL w now) = Z at *
  generalize ptR w now = R at *
  rw [hX] at cgo
  clear hX
  generalize ptL w now = LS at *
  generalize sweepF w.fForest now = G at *
  generalize goneL w.fBook G = GL at *
  generalize lessF w.fForest G = LF at *
  generalize overO (ptK w now) now = OL at *
  generalize keepO (ptK w now) now = KO at *
  generalize ptK w now = KB at *
  obtain ⟨lf⟩ := LF
  obtain ⟨ko⟩ := KO
  obtain ⟨kb⟩ := KB
  have hg1 := ind_ints G
  have hg2 := ind_rToken lf
  have hg3 := ind_rLease ko
  have hg4 := ind_rLease kb
  have hg5 := ind_rLease GL
  have hg6 := ind_rLease OL
  have hll2 : GL.length + OL.length = LS.length := by rw [hLs, List.length_append]
  have hap : rLease GL ++ rLease OL = rLease LS := by rw [hLs, rLease_app]
  clear hLs
  refine u_36 (Z6 ccp cw cin csw cdo cdv) ?_
  refine W_nilP 13 1 rfl rfl rfl ?_
  refine W_loop (fun n st => ∃ i : Nat, n = GL.length - i ∧ i ≤ GL.length ∧ st = ⟨[], [(4, .ptr 0 0), (5, .ptr 1 0), (7, .ptr 2 0), (8, .ptr 3 0), (10, .ptr 4 0), (11, .sl 5), (12, .sl 6), (13, .ptr 7 0), (14, .sl 8), (15, .d (.int .i64 i))],
   [(0, .box [.d (.int .i64 0), .d (.int .i64 0), .d (.int .i64 0), .nil 1 7, .nil 0 6, .nil 0 2, .d (.int .i64 0), .d (.int .i64 0), .nil 0 3, .nil 0 2]), (1, .box [.nil 0 1, .nil 0 1, .nil 0 1, .nil 0 1]), (2, .box [.d (.int .i64 now), .d (.int .i64 w.fNext), .d (.int .i64 w.fLost), .sl 9, .sl 10, .sl 11, .d (.int .i64 w.fFar.fFail), .d (.int .i64 w.fFar.fMade), .sl 12, .sl 13]), (3, .box [.sl 14]), (4, .box [.sl 15]), (5, .arr 0 0 6 (rLease GL)), (6, .arr 0 0 6 (rLease OL)), (7, .box [.sl 16, .sl 17, .nil 0 1, .nil 0 1]), (8, .arr 0 0 6 (rLease (GL.take i))), (9, .arr 0 1 7 (rToken w.fForest.fTokens)), (10, .arr 0 0 6 (rLease w.fBook.fLeases)), (11, .arr 0 0 2 (rUser w.fFar.fUsers)), (12, .arr 0 0 3 (rJob w.fQueue.fJobs)), (13, .arr 0 0 2 (rOwned w.fOwned)), (14, .arr 0 1 7 (rToken lf)), (15, .arr 0 0 6 (rLease ko)), (16, .arr 0 0 1 (intsD G)), (17, .arr 0 0 1 [])], 18⟩) _ ⟨0, rfl, by omega, ?_⟩ ?_
  ·exact u_56
  clear ccp cw cin csw cdo cdv
  rintro n st ⟨i, rfl, hi, rfl⟩
  by_cases hlt : i < GL.length
  ·have ha := List.getElem?_eq_getElem hlt
   generalize GL[i] = x at ha
   have hsc := rLease_succ ha
   have hlen := rLease_take_len GL i
   have e1 : IntKind.i64.wrap ((i : Int) + 1) = (i : Int) + 1 := wrap_id (by omega) (by omega)
   generalize rLease (GL.take i) = L at *
   obtain ⟨x1, x2, x3, x4, x5, x6⟩ := x
   refine u_58 (Y2 ha e1) ?_
   refine ⟨GL.length - (i + 1), by omega, i + 1, rfl, hlt, ?_⟩
   rw [hsc]
   exact u_22
  ·have hie : i = GL.length := by omega
   subst hie
   rw [List.take_length]
   refine u_28 ?_
   refine W_loop (fun n st => ∃ i : Nat, n = OL.length - i ∧ i ≤ OL.length ∧ st = ⟨[], [(4, .ptr 0 0), (5, .ptr 1 0), (7, .ptr 2 0), (8, .ptr 3 0), (10, .ptr 4 0), (12, .sl 5), (13, .ptr 6 0), (14, .sl 7), (16, .d (.int .i64 i))],
   [(0, .box [.d (.int .i64 0), .d (.int .i64 0), .d (.int .i64 0), .nil 1 7, .nil 0 6, .nil 0 2, .d (.int .i64 0), .d (.int .i64 0), .nil 0 3, .nil 0 2]), (1, .box [.nil 0 1, .nil 0 1, .nil 0 1, .nil 0 1]), (2, .box [.d (.int .i64 now), .d (.int .i64 w.fNext), .d (.int .i64 w.fLost), .sl 8, .sl 9, .sl 10, .d (.int .i64 w.fFar.fFail), .d (.int .i64 w.fFar.fMade), .sl 11, .sl 12]), (3, .box [.sl 13]), (4, .box [.sl 14]), (5, .arr 0 0 6 (rLease OL)), (6, .box [.sl 15, .sl 16, .nil 0 1, .nil 0 1]), (7, .arr 0 0 6 (rLease GL ++ rLease (OL.take i))), (8, .arr 0 1 7 (rToken w.fForest.fTokens)), (9, .arr 0 0 6 (rLease w.fBook.fLeases)), (10, .arr 0 0 2 (rUser w.fFar.fUsers)), (11, .arr 0 0 3 (rJob w.fQueue.fJobs)), (12, .arr 0 0 2 (rOwned w.fOwned)), (13, .arr 0 1 7 (rToken lf)), (14, .arr 0 0 6 (rLease ko)), (15, .arr 0 0 1 (intsD G)), (16, .arr 0 0 1 [])], 17⟩) _ ⟨0, rfl, by omega, ?_⟩ ?_
   ·exact u_56
   rintro n st ⟨i, rfl, hi, rfl⟩
   by_cases hlt : i < OL.length
   ·have ha := List.getElem?_eq_getElem hlt
    generalize OL[i] = x at ha
    have hsc := rLease_succ ha
    have hlen := rLease_take_len OL i
    have e1 : IntKind.i64.wrap ((i : Int) + 1) = (i : Int) + 1 := wrap_id (by omega) (by omega)
    generalize rLease (OL.take i) = L at *
    obtain ⟨x1, x2, x3, x4, x5, x6⟩ := x
    have hgll := rLease_len GL
    refine u_58 (Y3 ha e1 hgll) ?_
    refine ⟨OL.length - (i + 1), by omega, i + 1, rfl, hlt, ?_⟩
    rw [hsc]
    exact u_22
   ·have hie : i = OL.length := by omega
    subst hie
    rw [List.take_length, hap]
    refine u_28 ?_
    refine W_loop (fun n st => ∃ i : Nat, n = LS.length - i ∧ i ≤ LS.length ∧ st = ⟨[], [(4, .ptr 0 0), (5, .ptr 1 0), (7, .ptr 2 0), (8, .ptr 3 0), (10, .ptr 4 0), (13, .ptr 5 0), (14, .sl 6), (17, .d (.int .i64 i))],
     [(0, .box [.d (.int .i64 0), .d (.int .i64 0), .d (.int .i64 0), .nil 1 7, .nil 0 6, .nil 0 2, .d (.int .i64 0), .d (.int .i64 0), .nil 0 3, .nil 0 2]), (1, .box [.nil 0 1, .nil 0 1, .nil 0 1, .nil 0 1]), (2, .box [.d (.int .i64 now), .d (.int .i64 w.fNext), .d (.int .i64 w.fLost), .sl 7, .sl 8, .sl 9, .d (.int .i64 w.fFar.fFail), .d (.int .i64 w.fFar.fMade), .sl 10, .sl 11]), (3, .box [.sl 12]), (4, .box [.sl 13]), (5, .box [.sl 14, .sl 15, .nil 0 1, .nil 0 1]), (6, .arr 0 0 6 (rLease LS)), (7, .arr 0 1 7 (rToken w.fForest.fTokens)), (8, .arr 0 0 6 (rLease w.fBook.fLeases)), (9, .arr 0 0 2 (rUser w.fFar.fUsers)), (10, .arr 0 0 3 (rJob w.fQueue.fJobs)), (11, .arr 0 0 2 (rOwned w.fOwned)), (12, .arr 0 1 7 (rToken lf)), (13, .arr 0 0 6 (rLease ko)), (14, .arr 0 0 1 (intsD G)), (15, .arr 0 0 1 (intsD ((LS.take i).map GLease.fId)))], 16⟩) _ ⟨0, rfl, by omega, ?_⟩ ?_
    ·exact u_49
    rintro n st ⟨i, rfl, hi, rfl⟩
    by_cases hlt : i < LS.length
    ·have ha := List.getElem?_eq_getElem hlt
     generalize LS[i] = x at ha
     have hsc : intsD ((LS.take (i + 1)).map GLease.fId) = intsD ((LS.take i).map GLease.fId) ++ [[.int .i64 x.fId]] := by rw [List.take_add_one, ha]; simp [intsD]
     have hlen : (intsD ((LS.take i).map GLease.fId)).length ≤ i := by rw [ints_len, List.length_map, List.length_take]; omega
     have e1 : IntKind.i64.wrap ((i : Int) + 1) = (i : Int) + 1 := wrap_id (by omega) (by omega)
     generalize intsD ((LS.take i).map GLease.fId) = L at *
     obtain ⟨x1, x2, x3, x4, x5, x6⟩ := x
     dsimp only at hsc
     refine u_58 (Y2 ha e1) ?_
     refine ⟨LS.length - (i + 1), by omega, i + 1, rfl, hlt, ?_⟩
     rw [hsc]
     exact u_22
    ·have hie : i = LS.length := by omega
     subst hie
     rw [List.take_length]
     obtain ⟨Zn, Zx, Zl, ⟨Zf⟩, ⟨Zb⟩, ⟨Zu, Zfl, Zfm⟩, ⟨Zq⟩, Zo⟩ := Z
     have hj1 := ind_rToken Zf
     have hj2 := ind_rLease Zb
     have hj3 := ind_rUser Zu
     have hj4 := ind_rJob Zq
     have hj5 := ind_rOwned Zo
     have hj6 := ind_strs R.done
     have hj7 := ind_strs R.failed
     have hj8 := ind_ints (LS.map GLease.fId)
     have hj9 := ind_rLease LS
     exact u_31 (Z1 cgo)
theorem inB_mk {x lo hi : Int} (h1 : lo ≤ x) (h2 : x ≤ hi) : inB x lo hi = true := by simp [inB, h1, h2]
theorem mem_take_of {α : Type} {l : List α} {i j : Nat} {y : α} (hij : i < j) (hy : l[i]? = some y) : y ∈ l.take j := by
 refine List.mem_of_getElem? (i := i) ?_
 rw [List.getElem?_take_of_lt hij]; exact hy
theorem pw_iff {α : Type} {R : α → α → Prop} {l : List α} : (∀ (i : Nat) x, l[i]? = some x → ∀ y, y ∈ l.take i → R y x) ↔ l.Pairwise R := by
 constructor
 ·intro h
  rw [List.pairwise_iff_getElem]
  intro i j hi hj hij
  exact h j _ (List.getElem?_eq_getElem hj) _ (mem_take_of hij (List.getElem?_eq_getElem hi))
 ·intro h i x hx y hy
  obtain ⟨j, hj⟩ := List.getElem?_of_mem hy
  have hjl := (List.getElem?_eq_some_iff.1 hj).1
  rw [List.length_take] at hjl
  rw [List.getElem?_take_of_lt (by omega)] at hj
  exact pw_get h (by omega) hj hx
theorem okP_iff {α : Type} {q : List α → α → Bool} {l : List α} : okP q [] l = true ↔ ∀ (i : Nat) x, l[i]? = some x → q (l.take i) x = true :=
 ⟨fun h _ _ hi => okP_get h hi, okP_of⟩
theorem okP_key {α : Type} {key : α → Int} {A : α → Bool} {q : List α → α → Bool} {l : List α} (hq : ∀ pre x, q pre x = (A x && adjB (fun p x => decide (key p < key x)) pre x)) :
  okP q [] l = true ↔ (∀ x, x ∈ l → A x = true) ∧ l.Pairwise (fun y x => key y < key x) := by
 constructor
 ·intro h
  refine ⟨fun x hx => ?_, okP_inc (fun pre x hh => ?_) h⟩
  ·obtain ⟨i, hi⟩ := List.getElem?_of_mem hx
   have := okP_get h hi
   rw [hq, Bool.and_eq_true] at this
   exact this.1
  ·rw [hq, Bool.and_eq_true] at hh; exact hh.2
 ·rintro ⟨h1, h2⟩
  refine okP_of fun i x hx => ?_
  rw [hq, h1 x (List.mem_of_getElem? hx), Bool.true_and]
  cases i with
  | zero => exact adj_zero _ _ _
  | succ j =>
   have hy := List.getElem?_eq_getElem (show j < l.length by have := (List.getElem?_eq_some_iff.1 hx).1; omega)
   rw [adj_succ _ hy]
   exact decide_eq_true (pw_get h2 (Nat.lt_succ_self j) hy hx)
theorem okP_and {α : Type} {q q1 q2 : List α → α → Bool} {l : List α} (hq : ∀ pre x, q pre x = (q1 pre x && q2 pre x)) : okP q [] l = true ↔ okP q1 [] l = true ∧ okP q2 [] l = true := by
 simp only [okP_iff, hq, Bool.and_eq_true]
 exact ⟨fun h => ⟨fun i x hx => (h i x hx).1, fun i x hx => (h i x hx).2⟩, fun h i x hx => ⟨h.1 i x hx, h.2 i x hx⟩⟩
theorem okP_any {α : Type} {r : α → α → Bool} {l : List α} : okP (fun pre x => !(pre.any fun p => r p x)) [] l = true ↔ l.Pairwise (fun y x => r y x = false) := by
 rw [← pw_iff, okP_iff]
 simp only [Bool.not_eq_true', List.any_eq_false, Bool.not_eq_true]
theorem okP_all {α : Type} {A : α → Bool} {l : List α} : okP (fun _ x => A x) [] l = true ↔ ∀ x, x ∈ l → A x = true := by
 rw [okP_iff]
 exact ⟨fun h x hx => by obtain ⟨i, hi⟩ := List.getElem?_of_mem hx; exact h i x hi, fun h i x hx => h x (List.mem_of_getElem? hx)⟩
theorem forest_iff (f : GForest) : forestB f = true ↔ f.fTokens.length ≤ 120 ∧ (∀ t, t ∈ f.fTokens → tokenB t = true ∧ (t.fParent = 0 ∨ hasTok f t.fParent = true)) ∧ f.fTokens.Pairwise (fun y x => y.fId < x.fId) := by
 unfold forestB
 rw [Bool.and_eq_true, decide_eq_true_iff, okP_key (key := GToken.fId) (A := fun t => tokenB t && (decide (t.fParent = 0) || hasTok f t.fParent))]
 ·simp only [Bool.and_eq_true, Bool.or_eq_true, decide_eq_true_eq]
 ·intro pre x
  unfold tokQ
  rw [Bool.and_assoc, Bool.and_comm (adjB _ _ _), ← Bool.and_assoc]
theorem book_iff (b : GBook) : bookB b = true ↔ b.fLeases.length ≤ 150 ∧ (∀ t, t ∈ b.fLeases → leaseB t = true) ∧ b.fLeases.Pairwise (fun y x => y.fId < x.fId) := by
 unfold bookB
 rw [Bool.and_eq_true, decide_eq_true_iff, okP_key (key := GLease.fId) (A := leaseB)]
 intro pre x; rfl
theorem queue_iff (q : GQueue) : queueB q = true ↔ q.fJobs.length ≤ 120 ∧ (∀ t, t ∈ q.fJobs → jobB t = true) ∧ q.fJobs.Pairwise (fun y x => y.fName ≠ x.fName) := by
 unfold queueB
 rw [Bool.and_eq_true, decide_eq_true_iff, okP_and (q := jobQ) (q1 := fun _ x => jobB x) (q2 := fun pre x => !(pre.any fun t => t.fName == x.fName)) (fun _ _ => rfl), okP_all, okP_any (r := fun (t x : GJob) => t.fName == x.fName)]
 simp only [beq_eq_false_iff_ne]
theorem own_iff (b : GBook) (l : List GOwned) : okP (ownQ b) [] l = true ↔ (∀ o, o ∈ l → hasLease b o.fLease = true ∧ nameOk o.fName = true) ∧ l.Pairwise (fun y x => y.fLease < x.fLease) ∧ l.Pairwise (fun y x => y.fName ≠ x.fName) := by
 rw [okP_and (q1 := fun pre x => (hasLease b x.fLease && nameOk x.fName) && adjB (fun p x => decide (p.fLease < x.fLease)) pre x) (q2 := fun pre x => !(pre.any fun t => t.fName == x.fName)),
  okP_key (key := GOwned.fLease) (A := fun x => hasLease b x.fLease && nameOk x.fName) (fun _ _ => rfl), okP_any (r := fun (t x : GOwned) => t.fName == x.fName)]
 ·simp only [beq_eq_false_iff_ne, Bool.and_eq_true, and_assoc]
 ·intro pre x
  unfold ownQ
  simp only [Bool.and_assoc]
  rw [Bool.and_left_comm, Bool.and_left_comm (adjB _ _ _)]
structure WOk (w : GWorld) (ls : List GLease) : Prop where
 now : 0 ≤ w.fNow ∧ w.fNow ≤ 1000000000
 next : 1 ≤ w.fNext ∧ w.fNext ≤ 1000000000
 lost : 0 ≤ w.fLost ∧ w.fLost ≤ 1000000000
 fo : forestB w.fForest = true
 bo : bookB w.fBook = true
 fa : farB w.fFar = true
 qu : queueB w.fQueue = true
 bt : ∀ t, t ∈ w.fForest.fTokens → t.fId < w.fNext
 bl : ∀ l, l ∈ w.fBook.fLeases → l.fId < w.fNext
 oi : w.fOwned.Pairwise (fun y x => y.fLease < x.fLease)
 ol : ∀ o, o ∈ w.fOwned → (ls.any fun l => decide (l.fId = o.fLease)) = false → hasLease w.fBook o.fLease = true
 on : ∀ o, o ∈ w.fOwned → nameOk o.fName = true
 od : w.fOwned.Pairwise (fun y x => y.fName ≠ x.fName)
 len : w.fOwned.length ≤ 1048576
theorem world_iff (w : GWorld) : worldB w = true ↔ WOk w [] := by
 unfold worldB
 simp only [Bool.and_eq_true, belowT, belowL, List.all_eq_true, decide_eq_true_eq]
 constructor
 ·rintro ⟨⟨⟨⟨⟨⟨⟨⟨⟨h1, h2⟩, h3⟩, h4⟩, h5⟩, h6⟩, h7⟩, h8⟩, h9⟩, h0⟩
  have hl := owned_len h5 h0
  obtain ⟨h10, h11, h12⟩ := (own_iff _ _).1 h0
  have hb : w.fBook.fLeases.length ≤ 150 := ((book_iff _).1 h5).1
  exact ⟨inB_true h1, inB_true h2, inB_true h3, h4, h5, h6, h7, h8, h9, h11, fun o ho _ => (h10 o ho).1, fun o ho => (h10 o ho).2, h12, by omega⟩
 ·rintro ⟨h1, h2, h3, h4, h5, h6, h7, h8, h9, h11, h10, h13, h12, -⟩
  exact ⟨⟨⟨⟨⟨⟨⟨⟨⟨inB_mk h1.1 h1.2, inB_mk h2.1 h2.2⟩, inB_mk h3.1 h3.2⟩, h4⟩, h5⟩, h6⟩, h7⟩, h8⟩, h9⟩, (own_iff _ _).2 ⟨fun o ho => ⟨h10 o ho rfl, h13 o ho⟩, h11, h12⟩⟩
theorem name_le {s : List UInt8} (h : nameOk s = true) : s.length ≤ 12 := by
 unfold nameOk at h
 simp only [Bool.and_eq_true, decide_eq_true_eq] at h
 exact h.1.2
def strayN (us : List GUser) (ow : List GOwned) (js : List GJob) : Nat := (us.filter fun u => !knownU ow js u.fName).length
theorem cnt_le {α : Type} {p q r : α → Bool} {l : List α} (h : ∀ u, u ∈ l → p u = true → q u = true ∨ r u = true) : (l.filter p).length ≤ (l.filter q).length + (l.filter r).length := by
 induction l with
 | nil => simp
 | cons a t ih =>
  have ih := ih fun u hu => h u (List.mem_cons_of_mem _ hu)
  have ha := h a (List.mem_cons_self ..)
  simp only [List.filter_cons]
  cases hp : p a <;> cases hq : q a <;> cases hr : r a <;> simp_all <;> omega
theorem one_le {α : Type} {key : α → List UInt8} {l : List α} (h : l.Pairwise (fun y x => key y ≠ key x)) (s : List UInt8) : (l.filter fun u => key u == s).length ≤ 1 := by
 induction l with
 | nil => simp
 | cons a t ih =>
  rw [List.pairwise_cons] at h
  simp only [List.filter_cons]
  split
  ·rename_i ha
   have : t.filter (fun u => key u == s) = [] := by
    rw [List.filter_eq_nil_iff]
    intro x hx e
    exact h.1 x hx (by rw [eq_of_beq ha, eq_of_beq e])
   rw [this]; simp
  ·exact ih h.2
theorem stray_le {us us' : List GUser} {ow ow' : List GOwned} {js js' : List GJob} (p : GUser → Bool) (hu : us' = us.filter p) (h : ∀ u, u ∈ us' → knownU ow js u.fName = true → knownU ow' js' u.fName = true) : strayN us' ow' js' ≤ strayN us ow js := by
 unfold strayN
 have := cnt_le (p := fun u => !knownU ow' js' u.fName) (q := fun u => !knownU ow js u.fName) (r := fun _ => false) (l := us') fun u hu hp => by
  left
  cases hk : knownU ow js u.fName with
  | false => rfl
  | true => rw [h u hu hk] at hp; cases hp
 have e0 : (us'.filter fun _ => false).length = 0 := by rw [List.length_eq_zero_iff, List.filter_eq_nil_iff]; simp
 have e1 : (us'.filter fun u => !knownU ow js u.fName).length ≤ (us.filter fun u => !knownU ow js u.fName).length := by
  rw [hu, List.filter_filter]
  have := cnt_le (p := fun u => (!knownU ow js u.fName) && p u) (q := fun u => !knownU ow js u.fName) (r := fun _ => false) (l := us) fun u _ hp => by
   rw [Bool.and_eq_true] at hp; exact .inl hp.1
  have e0 : (us.filter fun _ => false).length = 0 := by rw [List.length_eq_zero_iff, List.filter_eq_nil_iff]; simp
  omega
 omega
theorem stray_one {us : List GUser} {ow ow' : List GOwned} {js js' : List GJob} (hd : us.Pairwise (fun y x => y.fName ≠ x.fName)) (s : List UInt8) (h : ∀ u, u ∈ us → u.fName ≠ s → knownU ow js u.fName = true → knownU ow' js' u.fName = true) : strayN us ow' js' ≤ strayN us ow js + 1 := by
 unfold strayN
 have h1 := one_le (key := GUser.fName) hd s
 have := cnt_le (p := fun u => !knownU ow' js' u.fName) (q := fun u => !knownU ow js u.fName) (r := fun u => u.fName == s) (l := us) fun u hu hp => by
  by_cases hs : u.fName = s
  ·right; rw [hs]; simp
  ·left
   cases hk : knownU ow js u.fName with
   | false => rfl
   | true => rw [h u hu hs hk] at hp; cases hp
 omega
theorem known_iff {ow : List GOwned} {js : List GJob} {s : List UInt8} : knownU ow js s = true ↔ (∃ o, o ∈ ow ∧ o.fName = s) ∨ ∃ j, j ∈ js ∧ j.fName = s := by
 unfold knownU
 simp only [Bool.or_eq_true, List.any_eq_true, beq_iff_eq]
theorem lose_ge {w : GWorld} {n : Int} {k : Nat} (h : (k : Int) ≤ w.fLost + n) (hk : k ≤ 120) : (k : Int) ≤ (loseW w n).fLost := by
 unfold loseW; dsimp only; split <;> omega
theorem stray_len (us : List GUser) (ow : List GOwned) (js : List GJob) : strayN us ow js ≤ us.length := List.length_filter_le _ _
theorem letFold_same (w : GWorld) (id : Int) (os : List GOwned) : (letFold w id os).1 = { w with fQueue := (letFold w id os).1.fQueue, fLost := (letFold w id os).1.fLost } ∧ (letFold w id os).2 = os.filter fun o => !decide (o.fLease = id) := by
 induction os using snoc_ind with
 | h0 => exact ⟨rfl, rfl⟩
 | h1 l x ih =>
  rw [letFold_snoc, List.filter_append]
  generalize letFold w id l = s at ih ⊢
  obtain ⟨V, r⟩ := s
  obtain ⟨i1, i2⟩ := ih
  dsimp only at i1 i2
  unfold letStep
  split
  ·rename_i h
   refine ⟨?_, ?_⟩
   ·dsimp only
    unfold letHit loseW
    rw [i1]
    split <;> rfl
   ·simp [h, i2]
  ·rename_i h
   refine ⟨i1, ?_⟩
   simp [h, i2]
theorem letAll_same (w : GWorld) (ls : List GLease) : letAll w ls = { w with fQueue := (letAll w ls).fQueue, fLost := (letAll w ls).fLost, fOwned := w.fOwned.filter fun o => !(ls.any fun l => decide (l.fId = o.fLease)) } := by
 unfold letAll
 induction ls generalizing w with
 | nil =>
  show w = _
  have : w.fOwned.filter (fun o => !(([] : List GLease).any fun l => decide (l.fId = o.fLease))) = w.fOwned := by rw [List.filter_eq_self]; intro x _; rfl
  dsimp only [List.foldl_nil]
  rw [this]
 | cons l r ih =>
  rw [List.foldl_cons]
  have h1 := ih (letOne w l)
  obtain ⟨h2, h3⟩ := letFold_same w l.fId w.fOwned
  have e1 : letOne w l = { w with fQueue := (letOne w l).fQueue, fLost := (letOne w l).fLost, fOwned := w.fOwned.filter fun o => !decide (o.fLease = l.fId) } := by
   unfold letOne; rw [h3]; rw [h2]
  generalize List.foldl letOne (letOne w l) r = Z at *
  rw [h1, e1]
  dsimp only
  rw [List.filter_filter]
  congr 1
  refine List.filter_congr fun o _ => ?_
  rw [List.any_cons, Bool.not_or, Bool.and_comm]
  congr 2
  exact decide_eq_decide.2 eq_comm
theorem qDrop_jobs {q : GQueue} {s : List UInt8} {now : Int} : (qDropB q s now = true → ∃ j, j ∈ (qDropQ q s now).fJobs ∧ j.fName = s) ∧ (∀ j, j ∈ q.fJobs → j ∈ (qDropQ q s now).fJobs) ∧ ∀ j, j ∈ (qDropQ q s now).fJobs → j ∈ q.fJobs ∨ j.fName = s := by
 unfold qDropB qDropQ
 cases hh : qHas q s with
 | true =>
  refine ⟨fun _ => ?_, fun j hj => hj, fun j hj => .inl hj⟩
  unfold qHas at hh
  obtain ⟨j, hj, e⟩ := List.any_eq_true.1 hh
  exact ⟨j, hj, eq_of_beq e⟩
 | false =>
  cases hq : queueB (dropOut q s now) with
  | true =>
   simp only [Bool.false_eq_true, if_false, if_true]
   unfold dropOut
   dsimp only
   refine ⟨fun _ => ⟨⟨s, now, 0⟩, by simp, rfl⟩, fun j hj => by simp [hj], fun j hj => ?_⟩
   rcases List.mem_append.1 hj with hj | hj
   ·exact .inl hj
   ·simp at hj; subst hj; exact .inr rfl
  | false =>
   simp only [Bool.false_eq_true, if_false]
   exact ⟨fun h => (by cases h), fun j hj => hj, fun j hj => .inl hj⟩
theorem letFold_str {us : List GUser} (hd : us.Pairwise (fun y x => y.fName ≠ x.fName)) (hu : us.length ≤ 120) (id : Int) : ∀ (os : List GOwned) (s : GWorld × List GOwned), (strayN us (s.2 ++ os) s.1.fQueue.fJobs : Int) ≤ s.1.fLost →
  (strayN us (os.foldl (letStep id) s).2 (os.foldl (letStep id) s).1.fQueue.fJobs : Int) ≤ (os.foldl (letStep id) s).1.fLost := by
 intro os
 induction os with
 | nil => intro s h; rw [List.append_nil] at h; exact h
 | cons o os ih =>
  intro s h
  rw [List.foldl_cons]
  refine ih _ ?_
  obtain ⟨V, r⟩ := s
  dsimp only at h
  obtain ⟨k1, k2, k3⟩ := qDrop_jobs (q := V.fQueue) (s := o.fName) (now := V.fNow)
  unfold letStep
  split
  ·dsimp only
   unfold letHit
   split
   ·rename_i hb
    have := stray_le (us := us) (us' := us) (ow := r ++ o :: os) (js := V.fQueue.fJobs) (ow' := r ++ os) (js' := (qDropQ V.fQueue o.fName V.fNow).fJobs) (fun _ => true) (List.filter_eq_self.2 fun _ _ => rfl).symm fun u _ hk => by
     rw [known_iff] at hk ⊢
     rcases hk with ⟨x, hx, e⟩ | ⟨j, hj, e⟩
     ·rcases List.mem_append.1 hx with hx | hx
      ·exact .inl ⟨x, by simp [hx], e⟩
      ·rcases List.mem_cons.1 hx with rfl | hx
       ·obtain ⟨j, hj, e2⟩ := k1 hb; exact .inr ⟨j, hj, by rw [e2, e]⟩
       ·exact .inl ⟨x, by simp [hx], e⟩
     ·exact .inr ⟨j, k2 j hj, e⟩
    dsimp only
    omega
   ·have := stray_one (ow := r ++ o :: os) (js := V.fQueue.fJobs) (ow' := r ++ os) (js' := (qDropQ V.fQueue o.fName V.fNow).fJobs) hd o.fName fun u _ hn hk => by
     rw [known_iff] at hk ⊢
     rcases hk with ⟨x, hx, e⟩ | ⟨j, hj, e⟩
     ·rcases List.mem_append.1 hx with hx | hx
      ·exact .inl ⟨x, by simp [hx], e⟩
      ·rcases List.mem_cons.1 hx with rfl | hx
       ·exact absurd e.symm hn
       ·exact .inl ⟨x, by simp [hx], e⟩
     ·exact .inr ⟨j, k2 j hj, e⟩
    refine lose_ge ?_ (Nat.le_trans (stray_len _ _ _) hu)
    dsimp only [loseW]
    omega
  ·dsimp only
   rw [List.append_assoc]; exact h
theorem letAll_str {w : GWorld} (ls : List GLease) (hd : w.fFar.fUsers.Pairwise (fun y x => y.fName ≠ x.fName)) (hu : w.fFar.fUsers.length ≤ 120) (h : (strayN w.fFar.fUsers w.fOwned w.fQueue.fJobs : Int) ≤ w.fLost) :
  (strayN w.fFar.fUsers (letAll w ls).fOwned (letAll w ls).fQueue.fJobs : Int) ≤ (letAll w ls).fLost := by
 unfold letAll
 induction ls generalizing w with
 | nil => exact h
 | cons l r ih =>
  rw [List.foldl_cons]
  have e : (letOne w l).fFar = w.fFar := by unfold letOne; rw [(letFold_same w l.fId w.fOwned).1]
  have := ih (w := letOne w l) (by rw [e]; exact hd) (by rw [e]; exact hu) (by
   rw [e]
   exact letFold_str hd hu l.fId w.fOwned (w, []) h)
  rwa [e] at this
theorem rq_str (now : Int) (ow : List GOwned) (n : Int) : ∀ (js : List GJob) (s : RQ), s.far.fUsers.Pairwise (fun y x => y.fName ≠ x.fName) → (strayN s.far.fUsers ow (s.jobs ++ js) : Int) ≤ n + s.failed.length →
  (strayN (js.foldl (rqStep now) s).far.fUsers ow (js.foldl (rqStep now) s).jobs : Int) ≤ n + (js.foldl (rqStep now) s).failed.length := by
 intro js
 induction js with
 | nil => intro s _ h; rw [List.append_nil] at h; exact h
 | cons j js ih =>
  intro s hd h
  rw [List.foldl_cons]
  have hdrop : dropC s.far = 0 → dropF s.far j.fName = { s.far with fUsers := s.far.fUsers.filter fun u => !(u.fName == j.fName) } := fun h => by
   unfold dropC at h; unfold dropF; split at h
   ·cases h
   ·rw [if_neg (by assumption)]
  have hkeep : ¬ dropC s.far = 0 → (dropF s.far j.fName).fUsers = s.far.fUsers := fun h => by
   unfold dropC at h; unfold dropF; split at h
   ·rw [if_pos (by assumption)]
   ·exact absurd rfl h
  unfold rqStep
  split
  ·refine ih _ hd ?_
   dsimp only
   rw [List.append_assoc]; exact h
  ·split
   ·rename_i h0
    have := stray_le (us := s.far.fUsers) (us' := (dropF s.far j.fName).fUsers) (ow := ow) (js := s.jobs ++ j :: js) (ow' := ow) (js' := s.jobs ++ js) (fun u => !(u.fName == j.fName)) (by rw [hdrop h0]) fun u hu hk => by
     rw [known_iff] at hk ⊢
     rw [hdrop h0] at hu
     have hn := (List.mem_filter.1 hu).2
     rcases hk with hk | ⟨x, hx, e⟩
     ·exact .inl hk
     ·rcases List.mem_append.1 hx with hx | hx
      ·exact .inr ⟨x, by simp [hx], e⟩
      ·rcases List.mem_cons.1 hx with rfl | hx
       ·rw [e] at hn; simp at hn
       ·exact .inr ⟨x, by simp [hx], e⟩
    refine ih _ ?_ ?_
    ·dsimp only; rw [hdrop h0]; exact hd.filter _
    ·dsimp only; omega
   ·rename_i h0
    split
    ·have := stray_one (us := s.far.fUsers) (ow := ow) (js := s.jobs ++ j :: js) (ow' := ow) (js' := s.jobs ++ js) hd j.fName fun u _ hn hk => by
      rw [known_iff] at hk ⊢
      rcases hk with hk | ⟨x, hx, e⟩
      ·exact .inl hk
      ·rcases List.mem_append.1 hx with hx | hx
       ·exact .inr ⟨x, by simp [hx], e⟩
       ·rcases List.mem_cons.1 hx with rfl | hx
        ·exact absurd e.symm hn
        ·exact .inr ⟨x, by simp [hx], e⟩
     refine ih _ ?_ ?_
     ·dsimp only; rw [hkeep h0]; exact hd
     ·dsimp only; rw [hkeep h0]; simp only [List.length_append, List.length_cons, List.length_nil]; omega
    ·refine ih _ ?_ ?_
     ·dsimp only; rw [hkeep h0]; exact hd
     ·dsimp only
      rw [hkeep h0]
      have := stray_le (us := s.far.fUsers) (us' := s.far.fUsers) (ow := ow) (js := s.jobs ++ j :: js) (ow' := ow) (js' := s.jobs ++ [⟨j.fName, now + 2 ^ (j.fTries + 1).toNat, j.fTries + 1⟩] ++ js) (fun _ => true) (List.filter_eq_self.2 fun _ _ => rfl).symm fun u _ hk => by
       rw [known_iff] at hk ⊢
       rcases hk with hk | ⟨x, hx, e⟩
       ·exact .inl hk
       ·rcases List.mem_append.1 hx with hx | hx
        ·exact .inr ⟨x, by simp [hx], e⟩
        ·rcases List.mem_cons.1 hx with rfl | hx
         ·exact .inr ⟨⟨x.fName, now + 2 ^ (x.fTries + 1).toNat, x.fTries + 1⟩, by simp, e⟩
         ·exact .inr ⟨x, by simp [hx], e⟩
      omega
theorem inB_iff {x lo hi : Int} : inB x lo hi = true ↔ lo ≤ x ∧ x ≤ hi := ⟨inB_true, fun h => inB_mk h.1 h.2⟩
theorem rq_jobs {now : Int} (hn : 0 ≤ now ∧ now ≤ 1000000000) : ∀ (js : List GJob) (s : RQ), (∀ j, j ∈ s.jobs ++ js → jobB j = true) → (s.jobs ++ js).Pairwise (fun y x => y.fName ≠ x.fName) →
  (∀ j, j ∈ (js.foldl (rqStep now) s).jobs → jobB j = true ∧ ∃ i, i ∈ s.jobs ++ js ∧ i.fName = j.fName) ∧ (js.foldl (rqStep now) s).jobs.Pairwise (fun y x => y.fName ≠ x.fName) := by
 intro js
 induction js with
 | nil =>
  intro s h1 h2
  rw [List.append_nil] at h1 h2
  refine ⟨fun j hj => ⟨h1 j hj, j, ?_, rfl⟩, h2⟩
  rw [List.append_nil]; exact hj
 | cons j js ih =>
  intro s h1 h2
  rw [List.foldl_cons]
  have hdel : (s.jobs ++ js).Pairwise (fun y x => y.fName ≠ x.fName) := by
   refine List.Pairwise.sublist ?_ h2
   exact List.Sublist.append (List.Sublist.refl _) (List.sublist_cons_self _ _)
  have hdel1 : ∀ x, x ∈ s.jobs ++ js → x ∈ s.jobs ++ j :: js := fun x hx => by
   rcases List.mem_append.1 hx with hx | hx
   ·simp [hx]
   ·simp [hx]
  unfold rqStep
  split
  ·have := ih { s with jobs := s.jobs ++ [j] } (by dsimp only; rw [List.append_assoc]; exact h1) (by dsimp only; rw [List.append_assoc]; exact h2)
   dsimp only at this
   rw [List.append_assoc] at this
   exact this
  ·split
   ·have := ih { s with far := dropF s.far j.fName, done := s.done ++ [j.fName] } (fun x hx => h1 x (hdel1 x hx)) hdel
    exact ⟨fun x hx => ⟨(this.1 x hx).1, by obtain ⟨i, hi, e⟩ := (this.1 x hx).2; exact ⟨i, hdel1 i hi, e⟩⟩, this.2⟩
   ·split
    ·have := ih { s with far := dropF s.far j.fName, failed := s.failed ++ [j.fName] } (fun x hx => h1 x (hdel1 x hx)) hdel
     exact ⟨fun x hx => ⟨(this.1 x hx).1, by obtain ⟨i, hi, e⟩ := (this.1 x hx).2; exact ⟨i, hdel1 i hi, e⟩⟩, this.2⟩
    ·rename_i h6
     have hj := h1 j (by simp)
     have hnew : jobB ⟨j.fName, now + 2 ^ (j.fTries + 1).toNat, j.fTries + 1⟩ = true := by
      unfold jobB at hj ⊢
      simp only [Bool.and_eq_true, inB_iff] at hj ⊢
      obtain ⟨⟨a, b⟩, c⟩ := hj
      have hp : ∃ k : Nat, k ≤ 5 ∧ (j.fTries + 1).toNat = k := ⟨_, by omega, rfl⟩
      obtain ⟨k, hk, e⟩ := hp
      rw [e]
      have h64 : (2 : Int) ^ k ≤ 64 ∧ 0 ≤ (2 : Int) ^ k := by
       match k, hk with
       | 0, _ => decide
       | 1, _ => decide
       | 2, _ => decide
       | 3, _ => decide
       | 4, _ => decide
       | 5, _ => decide
      exact ⟨⟨a, by omega, by omega⟩, by omega, by omega⟩
     have := ih { s with jobs := s.jobs ++ [⟨j.fName, now + 2 ^ (j.fTries + 1).toNat, j.fTries + 1⟩], far := dropF s.far j.fName } (fun x hx => by
      dsimp only at hx
      rw [List.append_assoc] at hx
      rcases List.mem_append.1 hx with hx | hx
      ·exact h1 x (by simp [hx])
      ·rcases List.mem_cons.1 hx with rfl | hx
       ·exact hnew
       ·exact h1 x (by have hx : x ∈ js := hx; simp [hx])) (by
      dsimp only
      rw [List.append_assoc, List.singleton_append]
      rw [List.pairwise_append, List.pairwise_cons] at h2 ⊢
      refine ⟨h2.1, ⟨fun a ha => h2.2.1.1 a ha, h2.2.1.2⟩, fun a ha b hb => ?_⟩
      rcases List.mem_cons.1 hb with rfl | hb
      ·exact h2.2.2 a ha j (by simp)
      ·exact h2.2.2 a ha b (List.mem_cons_of_mem _ hb))
     refine ⟨fun x hx => ⟨(this.1 x hx).1, ?_⟩, this.2⟩
     obtain ⟨i, hi, e⟩ := (this.1 x hx).2
     dsimp only at hi
     rw [List.append_assoc] at hi
     rcases List.mem_append.1 hi with hi | hi
     ·exact ⟨i, by simp [hi], e⟩
     ·rcases List.mem_cons.1 hi with rfl | hi
      ·exact ⟨j, by simp, e⟩
      ·exact ⟨i, by have hi : i ∈ js := hi; simp [hi], e⟩
theorem dropF_is (f : GFar) (s : List UInt8) : (dropF f s).fMade = f.fMade ∧ ∀ u, u ∈ (dropF f s).fUsers → u ∈ f.fUsers := by
 unfold dropF
 split
 ·exact ⟨rfl, fun u hu => hu⟩
 ·exact ⟨rfl, fun u hu => (List.mem_filter.1 hu).1⟩
theorem rq_made (now : Int) (q : List GJob) (f : GFar) : (rq now q f).far.fMade = f.fMade ∧ ∀ u, u ∈ (rq now q f).far.fUsers → u ∈ f.fUsers := by
 induction q using snoc_ind with
 | h0 => exact ⟨rfl, fun u hu => hu⟩
 | h1 l x ih =>
  have e : rq now (l ++ [x]) f = rqStep now (rq now l f) x := by unfold rq; rw [List.foldl_append]; rfl
  have hd := dropF_is (rq now l f).far x.fName
  rw [e]
  unfold rqStep
  repeat' split
  ·exact ih
  all_goals exact ⟨hd.1.trans ih.1, fun u hu => ih.2 u (hd.2 u hu)⟩
theorem fitQ_of {q : GQueue} (h : queueB q = true) : fitQ q := by
 obtain ⟨h1, h2, -⟩ := (queue_iff q).1 h
 refine ⟨by omega, fun t ht => ?_⟩
 have := h2 t ht
 unfold jobB at this
 simp only [Bool.and_eq_true] at this
 have := name_le this.1.1
 omega
theorem fitFar_of {f : GFar} (h : farB f = true) : fitFar f := by
 obtain ⟨h1, -, -, h2, -⟩ := (far_iff f).1 h
 refine ⟨by omega, fun t ht => ?_⟩
 have := name_le (h2 t ht)
 omega
theorem path_le {s : List UInt8} (h : pathOk s = true) : s.length ≤ 120 := by
 unfold pathOk globOk at h
 simp only [Bool.and_eq_true, decide_eq_true_eq] at h
 exact h.1.1
theorem fitB_of {b : GBook} (h : bookB b = true) : fitB b := by
 obtain ⟨h1, h2, -⟩ := (book_iff b).1 h
 refine ⟨by omega, fun t ht => ?_⟩
 have := h2 t ht
 unfold leaseB at this
 simp only [Bool.and_eq_true] at this
 have := path_le this.1.1.1.2
 omega
theorem fitF_of {f : GForest} (h : forestB f = true) : fitF f := by
 obtain ⟨h1, h2, -⟩ := (forest_iff f).1 h
 refine ⟨by omega, fun t ht => ?_⟩
 have := (h2 t ht).1
 unfold tokenB namesOk at this
 simp only [Bool.and_eq_true, decide_eq_true_eq] at this
 obtain ⟨⟨⟨⟨⟨⟨a, b⟩, c, d⟩, e⟩, f⟩, g⟩, i⟩ := this
 refine ⟨by omega, fun s hs => ?_⟩
 obtain ⟨i, hi⟩ := List.getElem?_of_mem hs
 have := okP_get d hi
 unfold nameQ at this
 rw [Bool.and_eq_true] at this
 have := name_le this.1
 omega
theorem letOk_w {w : GWorld} {ls : List GLease} (h : WOk w ls) : LetOk w :=
 ⟨h.now, h.lost, h.qu, fitQ_of h.qu, h.fa, fitFar_of h.fa, h.len, fun o ho => by have := name_le (h.on o ho); omega⟩
theorem fitW_of_ok {w : GWorld} (h : worldB w = true) : fitW w := by
 have h := (world_iff w).1 h
 exact ⟨fitF_of h.fo, fitB_of h.bo, fitFar_of h.fa, fitQ_of h.qu, h.len, fun o ho => by have := name_le (h.on o ho); omega⟩
theorem letGo_ok {w : GWorld} {ls : List GLease} (h : WOk w ls) : WOk (letGo w ls) [] := by
 have hA := letAll_same w ls
 have hL := letAll_ok (letOk_w h) ls
 have hr1 := rq_far (now := (letAll w ls).fNow) hL.fb hL.ff (letAll w ls).fQueue.fJobs
 have hq := (queue_iff _).1 hL.qb
 have hr2 := rq_jobs hL.now (letAll w ls).fQueue.fJobs ⟨[], (letAll w ls).fFar, [], []⟩ hq.2.1 hq.2.2
 have hr3 := (rq_len (letAll w ls).fNow (letAll w ls).fQueue.fJobs (letAll w ls).fFar).1
 have hlo := hL.lost
 have hgo : letGo w ls = loseW { letAll w ls with fQueue := ⟨(letRun (letAll w ls)).jobs⟩, fFar := (letRun (letAll w ls)).far } (letRun (letAll w ls)).failed.length := rfl
 have hru : letRun (letAll w ls) = rq (letAll w ls).fNow (letAll w ls).fQueue.fJobs (letAll w ls).fFar := rfl
 have hrq : rq (letAll w ls).fNow (letAll w ls).fQueue.fJobs (letAll w ls).fFar = (letAll w ls).fQueue.fJobs.foldl (rqStep (letAll w ls).fNow) ⟨[], (letAll w ls).fFar, [], []⟩ := rfl
 rw [← hrq] at hr2
 rw [← hru] at hr1 hr2 hr3
 generalize letRun (letAll w ls) = R at *
 have e1 : (letAll w ls).fNow = w.fNow := by rw [hA]
 have e2 : (letAll w ls).fNext = w.fNext := by rw [hA]
 have e3 : (letAll w ls).fForest = w.fForest := by rw [hA]
 have e4 : (letAll w ls).fBook = w.fBook := by rw [hA]
 have e5 : (letAll w ls).fOwned = w.fOwned.filter fun o => !(ls.any fun l => decide (l.fId = o.fLease)) := by rw [hA]
 rw [hgo]
 unfold loseW
 generalize letAll w ls = Z at *
 obtain ⟨h1, h2, h3, h4, h5, h6, h7, h8, h9, h10, h11, h12, h13, h14⟩ := h
 refine ⟨?_, ?_, ?_, ?_, ?_, hr1.1, (queue_iff _).2 ⟨?_, fun j hj => (hr2.1 j hj).1, hr2.2⟩, ?_, ?_, ?_, ?_, ?_, ?_, ?_⟩
 ·dsimp only; rw [e1]; exact h1
 ·dsimp only; rw [e2]; exact h2
 ·dsimp only; split <;> omega
 ·dsimp only; rw [e3]; exact h4
 ·dsimp only; rw [e4]; exact h5
 ·dsimp only; omega
 ·dsimp only; rw [e2, e3]; exact h8
 ·dsimp only; rw [e2, e4]; exact h9
 ·dsimp only; rw [e5]; exact h10.filter _
 ·dsimp only; rw [e4, e5]; intro o ho _
  obtain ⟨a, b⟩ := List.mem_filter.1 ho
  exact h11 o a (by simpa using b)
 ·dsimp only; rw [e5]; exact fun o ho => h12 o (List.mem_filter.1 ho).1
 ·dsimp only; rw [e5]; exact h13.filter _
 ·dsimp only; rw [e5]; exact Nat.le_trans (List.length_filter_le _ _) h14
theorem far_dist {f : GFar} (h : farB f = true) : f.fUsers.Pairwise (fun y x => y.fName ≠ x.fName) := by
 refine List.Pairwise.imp ?_ (far_inc h)
 intro a b hab e
 rw [e, bl_irrefl] at hab; cases hab
theorem letGo_str {w : GWorld} {ls : List GLease} (h : WOk w ls) (hs : (strayN w.fFar.fUsers w.fOwned w.fQueue.fJobs : Int) ≤ w.fLost) : (strayN (letGo w ls).fFar.fUsers (letGo w ls).fOwned (letGo w ls).fQueue.fJobs : Int) ≤ (letGo w ls).fLost := by
 have hd := far_dist h.fa
 have hu := ((far_iff _).1 h.fa).1
 have h1 := letAll_str ls hd hu hs
 have hA : (letAll w ls).fFar = w.fFar := by rw [letAll_same w ls]
 have h2 := rq_str (letAll w ls).fNow (letAll w ls).fOwned (letAll w ls).fLost (letAll w ls).fQueue.fJobs ⟨[], (letAll w ls).fFar, [], []⟩ (by dsimp only; rw [hA]; exact hd) (by dsimp only; rw [hA]; simpa using h1)
 have hm := (rq_made (letAll w ls).fNow (letAll w ls).fQueue.fJobs (letAll w ls).fFar).2
 have hlen := rq_far (now := (letAll w ls).fNow) (f := (letAll w ls).fFar) (by rw [hA]; exact h.fa) (by rw [hA]; exact fitFar_of h.fa) (letAll w ls).fQueue.fJobs
 have hl := ((far_iff _).1 hlen.1).1
 refine lose_ge ?_ ?_
 ·exact h2
 ·exact Nat.le_trans (stray_len _ _ _) hl
def nameIn (w : GWorld) (s : List UInt8) : Prop := (∃ u, u ∈ w.fFar.fUsers ∧ u.fName = s) ∨ (∃ o, o ∈ w.fOwned ∧ o.fName = s) ∨ ∃ j, j ∈ w.fQueue.fJobs ∧ j.fName = s
def NI (w : GWorld) : Prop := ∀ s, nameIn w s → ∃ (p : List UInt8) (k : Nat), s = p ++ six k ∧ 1 ≤ k ∧ (k : Int) ≤ w.fFar.fMade
theorem letFold_nm (w : GWorld) (id : Int) (os : List GOwned) : ∀ j, j ∈ (letFold w id os).1.fQueue.fJobs → (∃ i, i ∈ w.fQueue.fJobs ∧ i.fName = j.fName) ∨ ∃ o, o ∈ os ∧ o.fName = j.fName := by
 induction os using snoc_ind with
 | h0 => exact fun j hj => .inl ⟨j, hj, rfl⟩
 | h1 l x ih =>
  rw [letFold_snoc]
  generalize letFold w id l = s at ih ⊢
  obtain ⟨V, r⟩ := s
  dsimp only at ih
  have hmono : ∀ j : GJob, (∃ i, i ∈ w.fQueue.fJobs ∧ i.fName = j.fName) ∨ (∃ o, o ∈ l ∧ o.fName = j.fName) → (∃ i, i ∈ w.fQueue.fJobs ∧ i.fName = j.fName) ∨ ∃ o, o ∈ l ++ [x] ∧ o.fName = j.fName := fun j hj => by
   rcases hj with hj | ⟨o, ho, e⟩
   ·exact .inl hj
   ·exact .inr ⟨o, by simp [ho], e⟩
  have hq := (qDrop_jobs (q := V.fQueue) (s := x.fName) (now := V.fNow)).2.2
  have hlast : ∀ j, j ∈ (qDropQ V.fQueue x.fName V.fNow).fJobs → (∃ i, i ∈ w.fQueue.fJobs ∧ i.fName = j.fName) ∨ ∃ o, o ∈ l ++ [x] ∧ o.fName = j.fName := fun j hj => by
   rcases hq j hj with hj | e
   ·exact hmono j (ih j hj)
   ·exact .inr ⟨x, by simp, e.symm⟩
  unfold letStep
  split
  ·dsimp only
   unfold letHit
   split
   ·exact hlast
   ·exact hlast
  ·exact fun j hj => hmono j (ih j hj)
theorem letOne_nm (w : GWorld) (l : GLease) : ∀ s, nameIn (letOne w l) s → nameIn w s := by
 obtain ⟨h1, h2⟩ := letFold_same w l.fId w.fOwned
 have hf : (letOne w l).fFar = w.fFar := by unfold letOne; rw [h1]
 have ho : (letOne w l).fOwned = w.fOwned.filter fun o => !decide (o.fLease = l.fId) := by unfold letOne; rw [h2]
 have hq := letFold_nm w l.fId w.fOwned
 rintro s (⟨u, hu, e⟩ | ⟨o, hoo, e⟩ | ⟨j, hj, e⟩)
 ·rw [hf] at hu; exact .inl ⟨u, hu, e⟩
 ·rw [ho] at hoo; exact .inr (.inl ⟨o, (List.mem_filter.1 hoo).1, e⟩)
 ·rcases hq j hj with ⟨i, hi, e2⟩ | ⟨o, ho, e2⟩
  ·exact .inr (.inr ⟨i, hi, e2.trans e⟩)
  ·exact .inr (.inl ⟨o, ho, e2.trans e⟩)
theorem letAll_nm (w : GWorld) (ls : List GLease) : ∀ s, nameIn (letAll w ls) s → nameIn w s := by
 unfold letAll
 induction ls generalizing w with
 | nil => exact fun s h => h
 | cons l r ih => exact fun s h => letOne_nm w l s (ih (letOne w l) s h)
theorem letGo_ni {w : GWorld} {ls : List GLease} (h : WOk w ls) (hn : NI w) : NI (letGo w ls) ∧ (letGo w ls).fFar.fMade = w.fFar.fMade := by
 have hL := letAll_ok (letOk_w h) ls
 have hA : (letAll w ls).fFar = w.fFar := by rw [letAll_same w ls]
 have hm := rq_made (letAll w ls).fNow (letAll w ls).fQueue.fJobs (letAll w ls).fFar
 have hq := (queue_iff _).1 hL.qb
 have hr2 := (rq_jobs hL.now (letAll w ls).fQueue.fJobs ⟨[], (letAll w ls).fFar, [], []⟩ hq.2.1 hq.2.2).1
 have e1 : (letGo w ls).fFar = (rq (letAll w ls).fNow (letAll w ls).fQueue.fJobs (letAll w ls).fFar).far := rfl
 have e2 : (letGo w ls).fQueue.fJobs = (rq (letAll w ls).fNow (letAll w ls).fQueue.fJobs (letAll w ls).fFar).jobs := rfl
 have e3 : (letGo w ls).fOwned = (letAll w ls).fOwned := rfl
 have hmade : (letGo w ls).fFar.fMade = w.fFar.fMade := by rw [e1, hm.1, hA]
 refine ⟨fun s hs => ?_, hmade⟩
 rw [hmade]
 refine hn s (letAll_nm w ls s ?_)
 rcases hs with ⟨u, hu, e⟩ | ⟨o, ho, e⟩ | ⟨j, hj, e⟩
 ·rw [e1] at hu; exact .inl ⟨u, hm.2 u hu, e⟩
 ·rw [e3] at ho; exact .inr (.inl ⟨o, ho, e⟩)
 ·rw [e2] at hj
  obtain ⟨i, hi, e3⟩ := (hr2 j hj).2
  exact .inr (.inr ⟨i, hi, e3.trans e⟩)
theorem hasTok_less {f : GForest} {G : List Int} {id : Int} (h : hasTok f id = true) (hg : G.contains id = false) : hasTok (lessF f G) id = true := by
 unfold hasTok lessF at *
 obtain ⟨t, ht, e⟩ := List.any_eq_true.1 h
 refine List.any_eq_true.2 ⟨t, List.mem_filter.2 ⟨ht, ?_⟩, e⟩
 rw [of_decide_eq_true e, hg]; rfl
theorem lessF_ok {f : GForest} (h : forestB f = true) (p : GToken → Bool) : forestB (lessF f (wo p f.fTokens).2) = true := by
 obtain ⟨h1, h2, h3⟩ := (forest_iff f).1 h
 have hw := forest_wo h p
 refine (forest_iff _).2 ⟨Nat.le_trans (List.length_filter_le _ _) h1, fun t ht => ?_, h3.filter _⟩
 obtain ⟨a, b⟩ := List.mem_filter.1 ht
 refine ⟨(h2 t a).1, ?_⟩
 rcases (h2 t a).2 with e | e
 ·exact .inl e
 ·right
  have hr := hw.rec_ t a
  have hc : (wo p f.fTokens).2.contains t.fId = false := by simpa using b
  rw [hc] at hr
  refine hasTok_less e ?_
  cases hp : (wo p f.fTokens).2.contains t.fParent with
  | false => rfl
  | true => rw [hp, Bool.or_true] at hr; cases hr
theorem hasLease_filter {b : GBook} {id : Int} (p : GLease → Bool) (h : hasLease b id = true) (hp : ∀ l, l ∈ b.fLeases → l.fId = id → p l = true) : hasLease ⟨b.fLeases.filter p⟩ id = true := by
 unfold hasLease at *
 obtain ⟨t, ht, e⟩ := List.any_eq_true.1 h
 exact List.any_eq_true.2 ⟨t, List.mem_filter.2 ⟨ht, hp t ht (of_decide_eq_true e)⟩, e⟩
theorem book_filter {b : GBook} (p : GLease → Bool) (h : bookB b = true) : bookB ⟨b.fLeases.filter p⟩ = true := by
 obtain ⟨h1, h2, h3⟩ := (book_iff b).1 h
 exact (book_iff _).2 ⟨Nat.le_trans (List.length_filter_le _ _) h1, fun t ht => h2 t (List.mem_filter.1 ht).1, h3.filter _⟩
theorem less_ok {w : GWorld} {now : Int} {f : GForest} {ls : List GLease} (p : GLease → Bool) (h : WOk w []) (hn : 0 ≤ now ∧ now ≤ 1000000000) (hf : forestB f = true) (hft : ∀ t, t ∈ f.fTokens → t ∈ w.fForest.fTokens) (hl : ∀ l, l ∈ w.fBook.fLeases → p l = false → l ∈ ls) :
  WOk { w with fNow := now, fForest := f, fBook := ⟨w.fBook.fLeases.filter p⟩ } ls := by
 obtain ⟨h1, h2, h3, h4, h5, h6, h7, h8, h9, h10, h11, h12, h13, h14⟩ := h
 refine ⟨hn, h2, h3, hf, book_filter p h5, h6, h7, fun t ht => h8 t (hft t ht), fun l hl => h9 l (List.mem_filter.1 hl).1, h10, fun o ho hno => ?_, h12, h13, h14⟩
 refine hasLease_filter p (h11 o ho rfl) fun l hlm hid => ?_
 cases hp : p l with
 | true => rfl
 | false =>
  rw [List.any_eq_false] at hno
  exact absurd (decide_eq_true hid) (hno l (hl l hlm hp))
structure Lived (w : GWorld) : Prop where
 ok : worldB w = true
 str : (strayN w.fFar.fUsers w.fOwned w.fQueue.fJobs : Int) ≤ w.fLost
 ni : NI w
 ti : ∀ l, l ∈ w.fBook.fLeases → hasTok w.fForest l.fToken = true
theorem letGo_flds (w : GWorld) (ls : List GLease) : (letGo w ls).fNow = w.fNow ∧ (letGo w ls).fNext = w.fNext ∧ (letGo w ls).fForest = w.fForest ∧ (letGo w ls).fBook = w.fBook := by
 have hA := letAll_same w ls
 refine ⟨?_, ?_, ?_, ?_⟩
 ·show (letAll w ls).fNow = _; rw [hA]
 ·show (letAll w ls).fNext = _; rw [hA]
 ·show (letAll w ls).fForest = _; rw [hA]
 ·show (letAll w ls).fBook = _; rw [hA]
theorem less_lived {w : GWorld} {now : Int} {f : GForest} {ls : List GLease} (p : GLease → Bool) (h : Lived w) (hn : 0 ≤ now ∧ now ≤ 1000000000) (hf : forestB f = true) (hft : ∀ t, t ∈ f.fTokens → t ∈ w.fForest.fTokens) (hl : ∀ l, l ∈ w.fBook.fLeases → p l = false → l ∈ ls)
  (ht : ∀ l, l ∈ w.fBook.fLeases → p l = true → hasTok f l.fToken = true) : Lived (letGo { w with fNow := now, fForest := f, fBook := ⟨w.fBook.fLeases.filter p⟩ } ls) := by
 have hw := less_ok p ((world_iff w).1 h.ok) hn hf hft hl
 obtain ⟨e1, e2, e3, e4⟩ := letGo_flds { w with fNow := now, fForest := f, fBook := ⟨w.fBook.fLeases.filter p⟩ } ls
 refine ⟨(world_iff _).2 (letGo_ok hw), letGo_str hw h.str, (letGo_ni hw h.ni).1, ?_⟩
 rw [e3, e4]
 intro l hl
 obtain ⟨a, b⟩ := List.mem_filter.1 hl
 exact ht l a b
theorem cutL_id {w : GWorld} {id : Int} (h : hasLease w.fBook id = true) : (cutL w id).fId = id := by
 unfold cutL
 unfold hasLease at h
 cases hf : w.fBook.fLeases.find? (fun l => decide (l.fId = id)) with
 | none =>
  rw [List.find?_eq_none] at hf
  obtain ⟨x, hx, e⟩ := List.any_eq_true.1 h
  exact absurd e (hf x hx)
 | some x => show x.fId = id; exact of_decide_eq_true (List.find?_some (p := fun l : GLease => decide (l.fId = id)) hf)
theorem cutL_mem {w : GWorld} {id : Int} (h : hasLease w.fBook id = true) : cutL w id ∈ w.fBook.fLeases := by
 unfold cutL
 unfold hasLease at h
 cases hf : w.fBook.fLeases.find? (fun l => decide (l.fId = id)) with
 | none =>
  rw [List.find?_eq_none] at hf
  obtain ⟨x, hx, e⟩ := List.any_eq_true.1 h
  exact absurd e (hf x hx)
 | some x => exact List.mem_of_find?_eq_some hf
theorem book_uniq {b : GBook} (h : bookB b = true) {x y : GLease} (hx : x ∈ b.fLeases) (hy : y ∈ b.fLeases) (e : x.fId = y.fId) : x = y := by
 obtain ⟨i, hi⟩ := List.getElem?_of_mem hx
 obtain ⟨j, hj⟩ := List.getElem?_of_mem hy
 have hp := ((book_iff b).1 h).2.2
 rcases Nat.lt_trichotomy i j with hij | hij | hij
 ·have := pw_get hp hij hi hj; omega
 ·subst hij; rw [hi] at hj; exact Option.some.inj hj
 ·have := pw_get hp hij hj hi; omega
theorem lived_cut {w : GWorld} (h : Lived w) (id : Int) : Lived (cutW w id) := by
 unfold cutW
 split
 ·rename_i hb
  unfold cutB at hb
  rw [Bool.and_eq_true] at hb
  have hw := (world_iff w).1 h.ok
  refine less_lived (now := w.fNow) (f := w.fForest) (fun l => !(decide (l.fId = id))) h hw.now hw.fo (fun _ ht => ht) (fun l hl hp => ?_) fun l hl _ => h.ti l hl
  have e : l.fId = id := by simpa using hp
  have := book_uniq hw.bo (cutL_mem hb.2) hl ((cutL_id hb.2).trans e.symm)
  rw [this]; simp
 ·exact h
theorem lived_ct {w : GWorld} (h : Lived w) (id : Int) : Lived (ctW w id) := by
 unfold ctW
 split
 ·have hw := (world_iff w).1 h.ok
  have hg : goneT w.fForest id = (wo (fun t => decide (t.fId = id)) w.fForest.fTokens).2 := by unfold goneT; rw [if_pos hw.fo]
  rw [hg]
  have hfo := lessF_ok hw.fo (fun t => decide (t.fId = id))
  generalize (wo (fun t => decide (t.fId = id)) w.fForest.fTokens).2 = G at *
  refine less_lived (now := w.fNow) (f := lessF w.fForest G) (ls := goneL w.fBook G) (fun l => !G.contains l.fToken) h hw.now hfo (fun t ht => (List.mem_filter.1 ht).1) (fun l hl hp => List.mem_filter.2 ⟨hl, by simpa using hp⟩) fun l hl hp => ?_
  exact hasTok_less (h.ti l hl) (by simpa using hp)
 ·exact h
theorem over_mem {b : GBook} {now : Int} (h : b.fLeases.Pairwise fun x y => x.fId < y.fId) : (overO b now).Perm (b.fLeases.filter fun l => decide (l.fEnds ≤ now)) := by
 have hT : (b.fLeases.filter fun l => decide (l.fEnds ≤ now)).Pairwise (TB ltE ordE) := by
  refine (h.filter _).imp fun {x y} hxy => ⟨fun hl => ?_, fun hl => ?_⟩
  ·exact Or.inl (of_decide_eq_true hl)
  ·have := of_decide_eq_false hl
   unfold ordE; omega
 exact (stable_at ordE_tr _ hT).1
theorem pt_flds {w : GWorld} {now : Int} (h : ptB w now = true) : (ptW w now).fNow = now ∧ (ptW w now).fNext = w.fNext ∧ (ptW w now).fForest = lessF w.fForest (sweepF w.fForest now) ∧ (ptW w now).fBook = keepO (ptK w now) now := by
 unfold ptW
 rw [if_pos h]
 exact letGo_flds _ _
theorem lived_pt {w : GWorld} (h : Lived w) (now : Int) : Lived (ptW w now) := by
 unfold ptW
 split
 ·rename_i hb
  unfold ptB at hb
  rw [Bool.and_eq_true] at hb
  have hw := (world_iff w).1 h.ok
  have hn := inB_true hb.2
  have hfo := lessF_ok hw.fo (fun t => overB t.fEnds now)
  have hX : ptX w now = { w with fNow := now, fForest := lessF w.fForest (sweepF w.fForest now), fBook := ⟨w.fBook.fLeases.filter fun l => (!decide (l.fEnds ≤ now)) && !(sweepF w.fForest now).contains l.fToken⟩ } := by
   unfold ptX keepO ptK keepL; rw [List.filter_filter]
  have hov := over_mem (b := ptK w now) (now := now) (((book_iff _).1 hw.bo).2.2.filter _)
  rw [hX]
  refine less_lived (now := now) (f := lessF w.fForest (sweepF w.fForest now)) (ls := ptL w now) (fun l => (!decide (l.fEnds ≤ now)) && !(sweepF w.fForest now).contains l.fToken) h ⟨by have := hw.now; omega, hn.2⟩ hfo (fun t ht => (List.mem_filter.1 ht).1) (fun l hl hp => ?_) fun l hl hp => ?_
  ·unfold ptL
   refine List.mem_append.2 ?_
   cases hc : (sweepF w.fForest now).contains l.fToken with
   | true => exact .inl (List.mem_filter.2 ⟨hl, hc⟩)
   | false =>
    refine .inr (hov.mem_iff.2 (List.mem_filter.2 ⟨List.mem_filter.2 ⟨hl, by rw [hc]; rfl⟩, ?_⟩))
    rw [hc] at hp; simpa using hp
  ·rw [Bool.and_eq_true] at hp
   exact hasTok_less (h.ti l hl) (by simpa using hp.2)
 ·exact h
theorem grant_ok {w : GWorld} {tok : Int} {path : List UInt8} {ttl limit : Int} (h : WOk w []) (hg : grantB w tok path ttl limit = true) : WOk { w with fBook := ⟨w.fBook.fLeases ++ [newL w tok path ttl limit]⟩, fNext := w.fNext + 1 } [] := by
 unfold grantB grantOk addL at hg
 simp only [Bool.and_eq_true, Bool.not_eq_true', decide_eq_false_iff_not] at hg
 obtain ⟨⟨-, ⟨⟨hk, hx⟩, -⟩, -⟩, -, hb⟩ := hg
 obtain ⟨h1, h2, h3, h4, h5, h6, h7, h8, h9, h10, h11, h12, h13, h14⟩ := h
 refine ⟨h1, ⟨by show 1 ≤ w.fNext + 1; omega, by show w.fNext + 1 ≤ _; omega⟩, h3, h4, hb, h6, h7, fun t ht => ?_, fun l hl => ?_, h10, fun o ho _ => ?_, h12, h13, h14⟩
 ·have := h8 t ht; show _ < w.fNext + 1; omega
 ·show _ < w.fNext + 1
  rcases List.mem_append.1 hl with hl | hl
  ·have := h9 l hl; omega
  ·simp at hl; subst hl; show w.fNext < _; omega
 ·have := h11 o ho rfl
  unfold hasLease at this ⊢
  dsimp only
  rw [List.any_append, this]; rfl
theorem grant_tok {w : GWorld} {tok : Int} {path : List UInt8} {ttl limit : Int} (hg : grantB w tok path ttl limit = true) : hasTok w.fForest tok = true := by
 unfold grantB grantOk tokLive at hg
 simp only [Bool.and_eq_true] at hg
 exact hg.1.2.1.1.1.1
theorem lived_grant {w : GWorld} (h : Lived w) (tok : Int) (path : List UInt8) (ttl limit : Int) : Lived (grantW w tok path ttl limit) := by
 unfold grantW
 split
 ·rename_i hg
  refine ⟨(world_iff _).2 (grant_ok ((world_iff w).1 h.ok) hg), h.str, h.ni, fun l hl => ?_⟩
  rcases List.mem_append.1 hl with hl | hl
  ·exact h.ti l hl
  ·simp at hl; subst hl; exact (grant_tok hg : hasTok w.fForest tok = true)
 ·exact h
theorem decB_inj {a b i : Nat} (h : decB a i = decB b i) : a / 10 ^ i % 10 = b / 10 ^ i % 10 := by
 have h := congrArg UInt8.toNat h
 unfold decB at h
 rw [UInt8.toNat_ofNat', UInt8.toNat_ofNat'] at h
 omega
theorem six_inj {a b : Nat} (ha : a < 1000000) (hb : b < 1000000) (h : six a = six b) : a = b := by
 unfold six at h
 simp only [List.cons.injEq, and_true] at h
 obtain ⟨h5, h4, h3, h2, h1, h0⟩ := h
 have h0 := decB_inj h0
 have h1 := decB_inj h1
 have h2 := decB_inj h2
 have h3 := decB_inj h3
 have h4 := decB_inj h4
 have h5 := decB_inj h5
 simp only [Nat.reducePow, Nat.div_one] at h0 h1 h2 h3 h4 h5
 omega
theorem six_tail {p q : List UInt8} {a b : Nat} (ha : a < 1000000) (hb : b < 1000000) (h : p ++ six a = q ++ six b) : a = b := by
 have hl := congrArg List.length h
 simp only [List.length_append, six, List.length_cons, List.length_nil] at hl
 exact six_inj ha hb (List.append_inj h (by omega)).2
theorem put_mem {l : List GUser} {u x : GUser} : x ∈ putUs l u ↔ x ∈ l ∨ x = u := by
 unfold putUs
 have h : x ∈ l ↔ x ∈ l.take (lessN GUser.fName u.fName l) ∨ x ∈ l.drop (lessN GUser.fName u.fName l) := by
  rw [← List.mem_append, List.take_append_drop]
 rw [h]
 simp only [List.mem_append, List.mem_cons]
 constructor
 ·rintro (h | h | h)
  ·exact .inl (.inl h)
  ·exact .inr h
  ·exact .inl (.inr h)
 ·rintro ((h | h) | h)
  ·exact .inl h
  ·exact .inr (.inr h)
  ·exact .inr (.inl h)
theorem put_len (l : List GUser) (u : GUser) : (putUs l u).length = l.length + 1 := by
 unfold putUs
 have := congrArg List.length (List.take_append_drop (lessN GUser.fName u.fName l) l)
 simp only [List.length_append, List.length_cons] at this ⊢
 omega
theorem put_inc {l : List GUser} {u : GUser} (h : l.Pairwise (fun y x => Go.Op.bytesLess y.fName x.fName = true)) (hn : l.any (fun x => x.fName == u.fName) = false) : (putUs l u).Pairwise (fun y x => Go.Op.bytesLess y.fName x.fName = true) := by
 obtain ⟨s1, s2, s3⟩ := lessN_split (key := GUser.fName) u.fName h
 unfold putUs
 generalize lessN GUser.fName u.fName l = k at *
 rw [← List.take_append_drop k l, List.pairwise_append] at h
 rw [List.any_eq_false] at hn
 have e1 : ∀ x, x ∈ l.take k → Go.Op.bytesLess x.fName u.fName = true := fun x hx => by
  obtain ⟨m, hm⟩ := List.getElem?_of_mem hx
  have hml := (List.getElem?_eq_some_iff.1 hm).1
  rw [List.length_take] at hml
  rw [List.getElem?_take_of_lt (by omega)] at hm
  exact s2 m x (by omega) hm
 have e2 : ∀ x, x ∈ l.drop k → Go.Op.bytesLess u.fName x.fName = true := fun x hx => by
  obtain ⟨m, hm⟩ := List.getElem?_of_mem hx
  rw [List.getElem?_drop] at hm
  have hb := s3 (k + m) x (by omega) hm
  have hne : x.fName ≠ u.fName := fun e => hn x (List.mem_of_mem_drop hx) (by rw [e]; simp)
  rcases bl_total hne with h | h
  ·rw [hb] at h; cases h
  ·exact h
 rw [List.pairwise_append, List.pairwise_cons]
 refine ⟨h.1, ⟨e2, h.2.1⟩, fun a ha b hb => ?_⟩
 rcases List.mem_cons.1 hb with rfl | hb
 ·exact e1 a ha
 ·exact h.2.2 a ha b hb
theorem put_stray {l : List GUser} {u : GUser} {ow ow' : List GOwned} {js : List GJob} (hk : knownU ow' js u.fName = true) (hm : ∀ s, knownU ow js s = true → knownU ow' js s = true) : strayN (putUs l u) ow' js ≤ strayN l ow js := by
 have h0 := stray_le (us := l) (us' := l) (ow := ow) (ow' := ow') (js := js) (js' := js) (fun _ => true) (List.filter_eq_self.2 fun _ _ => rfl).symm fun x _ h => hm _ h
 refine Nat.le_trans (Nat.le_of_eq ?_) h0
 unfold strayN putUs
 conv => rhs; rw [← List.take_append_drop (lessN GUser.fName u.fName l) l]
 rw [List.filter_append, List.filter_append, List.filter_cons, hk]
 simp
theorem muC_one {f : GFar} {r : GRole} {key : Int} : muC f r key = 1 ↔ (roleB r && keyB key && !decide (f.fMade = 1000000000)) = false := by
 unfold muC
 split
 ·simp_all
 ·rename_i h
  constructor
  ·intro h2; repeat' split at h2
   all_goals (try omega)
  ·intro h2; exact absurd h2 h
theorem muF_ok {f : GFar} {r : GRole} {key : Int} (h : farB f = true) : farB (muF f r key) = true ∧ f.fMade ≤ (muF f r key).fMade ∧ (muF f r key).fMade ≤ f.fMade + 1 ∧ (muC f r key ≠ 0 → (muF f r key).fUsers = f.fUsers) ∧
  (muC f r key = 0 → (muF f r key).fUsers = putUs f.fUsers (muN f r key) ∧ (muF f r key).fMade = f.fMade + 1 ∧ nameOk (muN f r key).fName = true ∧ muU f r key = muN f r key) := by
 obtain ⟨h1, h2, h3, h4, h5⟩ := (far_iff f).1 h
 have hff := inB_true h2
 have hfm := inB_true h3
 unfold muF muU
 split
 ·rename_i hc
  rw [hc]
  refine ⟨(far_iff _).2 ⟨h1, ?_, h3, h4, h5⟩, by dsimp only; omega, by dsimp only; omega, fun _ => rfl, fun h => by omega⟩
  unfold muC at hc
  refine inB_mk ?_ ?_
  ·dsimp only; repeat' split at hc
   all_goals omega
  ·dsimp only; omega
 ·split
  ·rename_i hc
   rw [hc]
   have hx : f.fMade ≠ 1000000000 := by
    intro e
    have : muC f r key = 1 := muC_one.2 (by rw [e]; simp)
    omega
   exact ⟨(far_iff _).2 ⟨h1, h2, inB_mk (by dsimp only; omega) (by dsimp only; omega), h4, h5⟩, by dsimp only; omega, by dsimp only; omega, fun _ => rfl, fun h => by omega⟩
  ·split
   ·rename_i hc
    have hn1 : ¬ (roleB r && keyB key && !decide (f.fMade = 1000000000)) = false := fun h => by have := muC_one.2 h; omega
    have hh := hc
    unfold muC at hh
    rw [if_neg hn1] at hh
    simp only [Bool.not_eq_false, Bool.and_eq_true, Bool.not_eq_true', decide_eq_false_iff_not] at hn1
    have hno : f.fUsers.any (fun u => u.fName == uName r (f.fMade + 1)) = false := by
     repeat' split at hh
     all_goals (first | omega | (rename_i hq _; simpa using hq))
    have hl : f.fUsers.length ≠ 120 := by
     repeat' split at hh
     all_goals (first | omega | assumption)
    have hnm := (uName_ok hn1.1.1 (f.fMade + 1)).1
    refine ⟨(far_iff _).2 ⟨by dsimp only; rw [put_len]; omega, h2, inB_mk (by dsimp only; omega) (by dsimp only; omega), fun u hu => ?_, put_inc h5 hno⟩, by dsimp only; omega, by dsimp only; omega, fun h => absurd hc h, fun _ => ⟨rfl, rfl, hnm, rfl⟩⟩
    rcases put_mem.1 hu with hu | rfl
    ·exact h4 u hu
    ·exact hnm
   ·rename_i hc
    exact ⟨h, by omega, by omega, fun _ => rfl, fun h => absurd h hc⟩
theorem gu_parts {w : GWorld} {tok : Int} {r : GRole} {key : Int} {path : List UInt8} (h : guC w tok r key path = 0) : roleB r = true ∧ grantB w tok path r.fTtl r.fLimit = true ∧ muC w.fFar r key = 0 ∧
  guW w tok r key path = { w with fBook := ⟨w.fBook.fLeases ++ [newL w tok path r.fTtl r.fLimit]⟩, fNext := w.fNext + 1, fFar := muF w.fFar r key, fOwned := w.fOwned ++ [⟨w.fNext, (muU w.fFar r key).fName⟩] } := by
 have hok : guOk w tok r key path = true ∧ muC w.fFar r key = 0 := by
  unfold guC at h
  split at h
  ·omega
  ·rename_i hk
   split at h
   ·exact ⟨by simpa using hk, by assumption⟩
   ·omega
 obtain ⟨g1, g2⟩ := hok
 have g0 := g1
 unfold guOk at g1
 simp only [Bool.and_eq_true] at g1
 refine ⟨g1.1.1.1, g1.1.2, g2, ?_⟩
 unfold guW grantW
 rw [h, if_neg (by omega), if_neg (by omega), if_pos g1.1.2]
theorem gu_world {w : GWorld} {tok : Int} {r : GRole} {key : Int} {path : List UInt8} (hw : WOk w []) (h : guC w tok r key path = 0) (hfresh : ∀ o, o ∈ w.fOwned → o.fName ≠ (muN w.fFar r key).fName) : WOk (guW w tok r key path) [] := by
 obtain ⟨-, hg, g2, e⟩ := gu_parts h
 obtain ⟨f1, -, -, -, f5⟩ := muF_ok (r := r) (key := key) hw.fa
 obtain ⟨u1, u2, u3, u4⟩ := f5 g2
 have hgo := grant_ok hw hg
 rw [e, u4]
 have hol2 := hw.ol
 have hbl2 := hw.bl
 have hwb := hw.bo
 have hoi := hw.oi
 obtain ⟨h1, h2, h3, h4, h5, h6, h7, h8, h9, h10, h11, h12, h13, h14⟩ := hgo
 dsimp only at h10 h12 h13 h14
 refine ⟨h1, h2, h3, h4, h5, f1, h7, h8, h9, ?_, ?_, ?_, ?_, ?_⟩
 ·dsimp only
  rw [List.pairwise_append]
  refine ⟨h10, List.pairwise_singleton _ _, fun a ha b hb => ?_⟩
  simp at hb; subst hb
  have := hol2 a ha rfl
  unfold hasLease at this
  obtain ⟨l, hl, e⟩ := List.any_eq_true.1 this
  have := hbl2 l hl
  have := of_decide_eq_true e
  dsimp only; omega
 ·intro o ho _
  rcases List.mem_append.1 ho with ho | ho
  ·exact h11 o ho rfl
  ·simp at ho; subst ho
   unfold hasLease
   dsimp only
   rw [List.any_append]
   simp [newL]
 ·intro o ho
  rcases List.mem_append.1 ho with ho | ho
  ·exact h12 o ho
  ·simp at ho; subst ho; exact u3
 ·dsimp only
  rw [List.pairwise_append]
  refine ⟨h13, List.pairwise_singleton _ _, fun a ha b hb => ?_⟩
  simp at hb; subst hb
  exact hfresh a ha
 ·dsimp only
  have hl : w.fOwned.length ≤ w.fBook.fLeases.length := by
   refine inc_len (ka := GOwned.fLease) (kb := GLease.fId) _ _ hoi ((book_iff _).1 hwb).2.2 fun x hx => ?_
   have := hol2 x hx rfl
   unfold hasLease at this
   obtain ⟨l, hl, e⟩ := List.any_eq_true.1 this
   exact ⟨l, hl, of_decide_eq_true e⟩
  have := ((book_iff _).1 hwb).1
  simp only [List.length_append, List.length_cons, List.length_nil]
  omega
theorem lived_gu {w : GWorld} (h : Lived w) (hm : w.fFar.fMade < 999999) (tok : Int) (r : GRole) (key : Int) (path : List UInt8) : Lived (guW w tok r key path) ∧ (guW w tok r key path).fFar.fMade ≤ w.fFar.fMade + 1 ∧ (guW w tok r key path).fNext ≤ w.fNext + 1 ∧ (guW w tok r key path).fNow = w.fNow := by
 have hw := (world_iff w).1 h.ok
 have hfm : 0 ≤ w.fFar.fMade := (inB_true ((far_iff _).1 hw.fa).2.2.1).1
 obtain ⟨f1, f2, f3, f4, f5⟩ := muF_ok (r := r) (key := key) hw.fa
 have hni : ∀ s, nameIn w s → ∃ (p : List UInt8) (k : Nat), s = p ++ six k ∧ 1 ≤ k ∧ (k : Int) ≤ (muF w.fFar r key).fMade := fun s hs => by
  obtain ⟨p, k, a, b, c⟩ := h.ni s hs; exact ⟨p, k, a, b, by omega⟩
 unfold guW
 split
 ·exact ⟨h, by omega, by omega, rfl⟩
 ·rename_i hc1
  split
  ·rename_i hc
   have hmc : muC w.fFar r key ≠ 0 := by
    unfold guC at hc; split at hc
    ·omega
    ·split at hc
     ·omega
     ·assumption
   have hu := f4 hmc
   refine ⟨⟨(world_iff _).2 ?_, ?_, fun s hs => hni s ?_, h.ti⟩, f3, by dsimp only; omega, rfl⟩
   ·obtain ⟨h1, h2, h3, h4, h5, h6, h7, h8, h9, h10, h11, h12, h13, h14⟩ := hw
    exact ⟨h1, h2, h3, h4, h5, f1, h7, h8, h9, h10, h11, h12, h13, h14⟩
   ·dsimp only; rw [hu]; exact h.str
   ·rcases hs with ⟨u, hu2, e⟩ | hs
    ·dsimp only at hu2; rw [hu] at hu2; exact .inl ⟨u, hu2, e⟩
    ·exact .inr hs
  ·rename_i hc2
   have hok : guOk w tok r key path = true ∧ muC w.fFar r key = 0 := by
    unfold guC at hc1 hc2
    split at hc1
    ·omega
    ·rename_i hk
     refine ⟨by simpa using hk, ?_⟩
     rw [if_neg hk] at hc2
     split at hc2
     ·assumption
     ·omega
   obtain ⟨g1, g2⟩ := hok
   obtain ⟨u1, u2, u3, u4⟩ := f5 g2
   unfold guOk at g1
   simp only [Bool.and_eq_true] at g1
   have hg := g1.1.2
   have hgw : grantW w tok path r.fTtl r.fLimit = { w with fBook := ⟨w.fBook.fLeases ++ [newL w tok path r.fTtl r.fLimit]⟩, fNext := w.fNext + 1 } := by unfold grantW; rw [if_pos hg]
   rw [hgw, u4]
   have hnn : (muN w.fFar r key).fName = r.fPrefix ++ six (w.fFar.fMade + 1).toNat := rfl
   have hfresh : ∀ o, o ∈ w.fOwned → o.fName ≠ (muN w.fFar r key).fName := fun o ho e => by
    obtain ⟨p, k, a, b, c⟩ := h.ni o.fName (.inr (.inl ⟨o, ho, rfl⟩))
    rw [e, hnn] at a
    have := six_tail (by omega) (by omega) a
    omega
   have hgw2 := gu_world hw (by unfold guC; rw [if_neg (by unfold guOk; simp [g1]), if_pos g2] : guC w tok r key path = 0) hfresh
   rw [(gu_parts (by unfold guC; rw [if_neg (by unfold guOk; simp [g1]), if_pos g2] : guC w tok r key path = 0)).2.2.2, u4] at hgw2
   refine ⟨⟨(world_iff _).2 hgw2, ?_, ?_, ?_⟩, f3, by dsimp only; omega, rfl⟩
   ·dsimp only
    rw [u1]
    refine Int.le_trans (Int.ofNat_le.2 (put_stray (ow := w.fOwned) ?_ fun s hs => ?_)) h.str
    ·rw [known_iff]; exact .inl ⟨⟨w.fNext, (muN w.fFar r key).fName⟩, by simp, rfl⟩
    ·rw [known_iff] at hs ⊢
     rcases hs with ⟨o, ho, e⟩ | hs
     ·exact .inl ⟨o, by simp [ho], e⟩
     ·exact .inr hs
   ·intro s hs
    have hnew : ∃ (p : List UInt8) (k : Nat), (muN w.fFar r key).fName = p ++ six k ∧ 1 ≤ k ∧ (k : Int) ≤ (muF w.fFar r key).fMade := ⟨r.fPrefix, _, hnn, by omega, by rw [u2]; omega⟩
    rcases hs with ⟨u, hu, e⟩ | ⟨o, ho, e⟩ | hs
    ·dsimp only at hu
     rw [u1] at hu
     rcases put_mem.1 hu with hu | rfl
     ·exact hni s (.inl ⟨u, hu, e⟩)
     ·rw [← e]; exact hnew
    ·rcases List.mem_append.1 ho with ho | ho
     ·exact hni s (.inr (.inl ⟨o, ho, e⟩))
     ·simp at ho; subst ho; rw [← e]; exact hnew
    ·exact hni s (.inr (.inr hs))
   ·intro l hl
    rcases List.mem_append.1 hl with hl | hl
    ·exact h.ti l hl
    ·simp at hl; subst hl; exact (grant_tok hg : hasTok w.fForest tok = true)
theorem idxF_containsS (x : List UInt8) (a : List (List UInt8)) : decide (0 ≤ idxF (fun y => y == x) a) = a.contains x := by
 rw [idxF_any, Bool.eq_iff_iff, List.contains_iff_mem, List.any_eq_true]
 constructor
 ·rintro ⟨y, h1, h2⟩; exact (beq_iff_eq.1 h2) ▸ h1
 ·intro h; exact ⟨x, h, beq_self_eq_true x⟩
def subN (a b : List (List UInt8)) : Bool := a.all fun n => b.contains n
def mkC (f : GForest) (t : GToken) : Int :=
 if (tokenB t && belowT f t.fId) = false then 1
 else if t.fParent = 0 then (if f.fTokens.length = 120 then 5 else 0)
 else if hasTok f t.fParent = false then 2
 else if overB (findT f t.fParent).fEnds t.fMade = true then 3
 else if subN t.fNames (findT f t.fParent).fNames = false then 4
 else if f.fTokens.length = 120 then 5 else 0
def mkF (f : GForest) (t : GToken) : GForest := if mkC f t = 0 then ⟨f.fTokens ++ [t]⟩ else f
theorem mk_zero {f : GForest} {t : GToken} (h : mkC f t = 0) : tokenB t = true ∧ belowT f t.fId = true ∧ f.fTokens.length ≠ 120 ∧ (t.fParent = 0 ∨ hasTok f t.fParent = true) := by
 unfold mkC at h
 split at h
 ·omega
 ·rename_i h1
  simp only [Bool.not_eq_false, Bool.and_eq_true] at h1
  split at h
  ·rename_i hp
   split at h
   ·omega
   ·exact ⟨h1.1, h1.2, by assumption, .inl hp⟩
  ·split at h
   ·omega
   ·rename_i hh
    repeat' split at h
    all_goals (first | omega | exact ⟨h1.1, h1.2, by assumption, .inr (by simpa using hh)⟩)
theorem hasTok_app {f : GForest} {l : List GToken} {id : Int} (h : hasTok f id = true) : hasTok ⟨f.fTokens ++ l⟩ id = true := by
 unfold hasTok at *
 dsimp only
 rw [List.any_append, h]; rfl
theorem mkF_ok {f : GForest} {t : GToken} (hb : forestB f = true) (h : mkC f t = 0) : forestB ⟨f.fTokens ++ [t]⟩ = true := by
 obtain ⟨h1, h2, h3, h4⟩ := mk_zero h
 obtain ⟨a1, a2, a3⟩ := (forest_iff f).1 hb
 unfold belowT at h2
 rw [List.all_eq_true] at h2
 refine (forest_iff _).2 ⟨by simp only [List.length_append, List.length_cons, List.length_nil]; omega, fun x hx => ?_, ?_⟩
 ·rcases List.mem_append.1 hx with hx | hx
  ·exact ⟨(a2 x hx).1, (a2 x hx).2.imp id hasTok_app⟩
  ·simp at hx; subst hx
   exact ⟨h1, h4.imp id hasTok_app⟩
 ·dsimp only
  rw [List.pairwise_append]
  refine ⟨a3, List.pairwise_singleton _ _, fun a ha b hb => ?_⟩
  simp at hb; subst hb
  exact of_decide_eq_true (h2 a ha)
theorem lived_mk {w : GWorld} {t : GToken} (h : Lived w) (hc : mkC w.fForest t = 0) (ht : t.fId = w.fNext) (hn : w.fNext < 1000000000) : Lived { w with fForest := mkF w.fForest t, fNext := w.fNext + 1 } := by
 have hw := (world_iff w).1 h.ok
 have hF : mkF w.fForest t = ⟨w.fForest.fTokens ++ [t]⟩ := by unfold mkF; rw [if_pos hc]
 rw [hF]
 obtain ⟨h1, h2, h3, h4, h5, h6, h7, h8, h9, h10, h11, h12, h13, h14⟩ := hw
 refine ⟨(world_iff _).2 ⟨h1, ⟨by dsimp only; omega, by dsimp only; omega⟩, h3, mkF_ok h4 hc, h5, h6, h7, fun x hx => ?_, fun l hl => ?_, h10, h11, h12, h13, h14⟩, h.str, h.ni, fun l hl => hasTok_app (h.ti l hl)⟩
 ·dsimp only at hx ⊢
  rcases List.mem_append.1 hx with hx | hx
  ·have := h8 x hx; omega
  ·simp at hx; subst hx; omega
 ·have := h9 l hl; dsimp only; omega
def world0 : GWorld := ⟨0, 1, 0, ⟨[]⟩, ⟨[]⟩, ⟨[], 0, 0⟩, ⟨[]⟩, []⟩
structure LvOk (w : GWorld) (i : Nat) : Prop where
 lived : Lived w
 made : w.fFar.fMade ≤ i
 next : w.fNext ≤ i + 1
 now : w.fNow ≤ 6 * i
theorem cut_flds (w : GWorld) (id : Int) : (cutW w id).fNow = w.fNow ∧ (cutW w id).fNext = w.fNext := by
 unfold cutW
 split
 ·obtain ⟨a, b, -⟩ := letGo_flds { w with fBook := dropL w.fBook id } [cutL w id]; exact ⟨a, b⟩
 ·exact ⟨rfl, rfl⟩
theorem ct_flds (w : GWorld) (id : Int) : (ctW w id).fNow = w.fNow ∧ (ctW w id).fNext = w.fNext := by
 unfold ctW
 split
 ·obtain ⟨a, b, -⟩ := letGo_flds (ctX w (goneT w.fForest id)) (goneL w.fBook (goneT w.fForest id)); exact ⟨a, b⟩
 ·exact ⟨rfl, rfl⟩
theorem letGo_made (w : GWorld) (ls : List GLease) : (letGo w ls).fFar.fMade = w.fFar.fMade := by
 have hA : (letAll w ls).fFar = w.fFar := by rw [letAll_same w ls]
 have e1 : (letGo w ls).fFar = (rq (letAll w ls).fNow (letAll w ls).fQueue.fJobs (letAll w ls).fFar).far := rfl
 rw [e1, (rq_made _ _ _).1, hA]
theorem cut_made (w : GWorld) (id : Int) : (cutW w id).fFar.fMade = w.fFar.fMade := by
 unfold cutW; split
 ·exact letGo_made _ _
 ·rfl
theorem ct_made (w : GWorld) (id : Int) : (ctW w id).fFar.fMade = w.fFar.fMade := by
 unfold ctW; split
 ·exact letGo_made _ _
 ·rfl
theorem pt_made (w : GWorld) (now : Int) : (ptW w now).fFar.fMade = w.fFar.fMade := by
 unfold ptW; split
 ·exact letGo_made _ _
 ·rfl
theorem lived_zero : Lived world0 := by
 refine ⟨by decide +kernel, by decide, fun s hs => ?_, fun l hl => by cases hl⟩
 rcases hs with ⟨u, hu, _⟩ | ⟨u, hu, _⟩ | ⟨u, hu, _⟩ <;> cases hu
abbrev lvZ : O := .box [.d (.int .i64 0), .d (.int .i64 0), .d (.int .i64 0), .nil 1 7, .nil 0 6, .nil 0 2, .d (.int .i64 0), .d (.int .i64 0), .nil 0 3, .nil 0 2]
abbrev curA (c : Cur) : List A := [.d (.slc 1 (bytesD c.b)), .d (.int .i64 c.i), .d (.int .i64 c.h)]
def dn4 : List (List UInt8) := [[97], [], [90], [122, 122]]
theorem l08DrawNames_w (c : Cur) (hc : c.good) : ∃ a : List (List UInt8) × Cur, (a.2.good ∧ a.1.length ≤ 6 ∧ ∀ s, s ∈ a.1 → s.length ≤ 5) ∧ Valid PP GG 158 [.box c.o] (.own 0 1 (strsD a.1)) [some (.box a.2.o)] := by
 refine cvD Tryz.func158 (α := List (List UInt8) × Cur) 1 _ (fun a => [.own 0 1 (strsD a.1)]) _ (fun _ => rfl) ?_
 refine u_73 ?_
 refine D_loop (fun n st => ∃ i : Nat, n = 5 - i ∧ i ≤ 5 ∧ ∃ (ns : List (List UInt8)) (u : Cur), u.good ∧ ns.length ≤ i ∧ (∀ s, s ∈ ns → s.length ≤ 5) ∧
  st = ⟨[], [(0, .ptr 0 0), (3, .sl 1), (4, .sl 2), (5, .d (.int .i64 i))], [(0, .box (curA u)), (1, .arr 0 0 1 (strsD ns)), (2, .arr 0 0 1 [[.str [97]], [.str [100, 101, 118]], [.str [111, 112, 115]], [.str [114, 111, 111, 116, 49]], [.str [120, 57]]])], 3⟩) _ ⟨0, rfl, by omega, [], c, hc, by simp, by simp, ?_⟩ ?_
 ·simp [gc, closeN, liveA, gcV, gcO, renA, renAs, renO, namesAs, namesA, namesO, posn, strsD]
 rintro n st ⟨i, rfl, hi, ns, u, hu, hns, hl, rfl⟩
 have hwi : IntKind.i64.wrap ((i : Int) + 1) = (i : Int) + 1 := wrap_id (by omega) (by omega)
 by_cases hlt : i < 5
 ·have c1 := lBelow_v (GG := GG) u 5 hu
  have g1 := lBelow_good hu 5
  generalize lBelow u 5 = b at *
  obtain ⟨s, hs, hsl⟩ : ∃ s : List UInt8, [[D.str [97]], [.str [100, 101, 118]], [.str [111, 112, 115]], [.str [114, 111, 111, 116, 49]], [.str [120, 57]]][i]? = some [.str s] ∧ s.length ≤ 5 := by
   match i, hlt with
   | 0, _ => exact ⟨_, rfl, by decide⟩
   | 1, _ => exact ⟨_, rfl, by decide⟩
   | 2, _ => exact ⟨_, rfl, by decide⟩
   | 3, _ => exact ⟨_, rfl, by decide⟩
   | 4, _ => exact ⟨_, rfl, by decide⟩
  repeat' (first | refine D_ret ?_ | refine D_seq ?_ | refine D_skip ?_ | refine D_block ?_ | refine D_exit ?_ | refine pick_pos rfl ?_ | refine pick_neg rfl ?_ | ((first | refine D_regP fun K hK => ?_ | refine D_regPD fun K hK => ?_ | with_reducible refine callQ (c1) ?_); simp [Fin, hs, limit, strsD_len]) | (with_reducible refine hK _ ?_; clear hK K) | (with_reducible refine goL_split (fun h => ?_) (fun h => ?_) <;> first | (exfalso; simp at h; first | done | omega | contradiction) | ((try simp at h); simp [hs, limit, strsD_len])) | with_reducible refine And.intro ?_ ?_ | with_reducible exact okay_rfl rfl | with_reducible assumption | (refine D_cond rfl (fun h => ?_) (fun h => ?_) <;> first | (exfalso; simp at h; first | done | omega | contradiction) | (exfalso; simp_all; done) | (try simp at h)) | omega)
  ·refine ⟨5 - (i + 1), by omega, i + 1, rfl, hlt, ns ++ [s], b.2, g1, by simp; omega, fun x hx => ?_, ?_⟩
   ·rcases List.mem_append.1 hx with hx | hx
    ·exact hl x hx
    ·simp at hx; subst hx; exact hsl
   ·simp [gc, closeN, liveA, gcV, gcO, renA, renAs, renO, namesAs, namesA, namesO, posn, hwi, strsD_snoc]
  ·refine ⟨5 - (i + 1), by omega, i + 1, rfl, hlt, ns, b.2, g1, by omega, hl, ?_⟩
   exact u_74 hwi
 ·have hie : i = 5 := by omega
  subst hie
  have c1 := lOnce_v (GG := GG) u 40 hu
  have g1 := lOnce_good hu 40
  generalize lOnce u 40 = o at *
  obtain ⟨o1, o2⟩ := o
  cases o1
  ·refine u_76 (Z1 c1) ?_
   exact ⟨(ns, o2), ⟨g1, by dsimp only; omega, hl⟩, by simp [Fin]⟩
  ·have c2 := lPickT_v (GG := GG) o2 dn4 g1 (by decide) (by decide)
   have g2 := lPick_good g1 ([] : List UInt8) dn4
   have m2 := lPick_mem o2 ([] : List UInt8) (l := dn4) (by decide)
   generalize lPick o2 [] dn4 = q at *
   simp only [strsD, dn4, List.map_cons, List.map_nil] at c2
   repeat' (first | refine D_ret ?_ | refine D_seq ?_ | refine D_skip ?_ | refine D_block ?_ | refine D_exit ?_ | refine pick_pos rfl ?_ | refine pick_neg rfl ?_ | ((first | refine D_regP fun K hK => ?_ | refine D_regPD fun K hK => ?_ | with_reducible refine callQ (c1) ?_ | with_reducible refine callQ (c2) ?_); simp [Fin, limit, strsD_len]) | (with_reducible refine hK _ ?_; clear hK K) | (with_reducible refine goL_split (fun h => ?_) (fun h => ?_) <;> first | (exfalso; simp at h; first | done | omega | contradiction) | ((try simp at h); simp [limit, strsD_len])) | with_reducible refine And.intro ?_ ?_ | with_reducible exact okay_rfl rfl | with_reducible assumption | (refine D_cond rfl (fun h => ?_) (fun h => ?_) <;> first | (exfalso; simp at h; first | done | omega | contradiction) | (exfalso; simp_all; done) | (try simp at h)) | omega)
   refine ⟨(ns ++ [q.1], q.2), ⟨g2, by simp; omega, fun x hx => ?_⟩, by simp [Fin, strsD_snoc]⟩
   rcases List.mem_append.1 hx with hx | hx
   ·exact hl x hx
   ·simp at hx; subst hx
    simp only [dn4, List.mem_cons, List.not_mem_nil, or_false] at m2
    rcases m2 with m2 | m2 | m2 | m2 <;> rw [m2] <;> decide
theorem l08DrawId_w (c : Cur) (f : GForest) (hc : c.good) (hl : f.fTokens.length ≤ 1048576) : ∃ a : Int × Cur, a.2.good ∧ Valid PP GG 40 [.box c.o, .agg f.o] (.d (.int .i64 a.1)) [some (.box a.2.o), some (.agg f.o)] := by
 refine cvD Tryz.func40 (α := Int × Cur) 1 _ (fun a => [.d (.int .i64 a.1)]) _ (fun _ => rfl) ?_
 obtain ⟨tk⟩ := f
 dsimp only at hl ⊢
 have hi0 := ind_rToken tk
 have hpk : ∀ u : Cur, u.good → ∃ q : Int × Cur, q.2.good ∧ Valid PP GG 87 [.box u.o, .own 0 1 [[.int .i64 0], [.int .i64 1], [.int .i64 2], [.int .i64 (-1)], [.int .i64 999]]] (.d (.int .i64 q.1)) [some (.box q.2.o), none] := fun u hu =>
  ⟨_, lPick_good hu (0 : Int) [0, 1, 2, -1, 999], lPickI_v (GG := GG) u [0, 1, 2, -1, 999] hu (by simp) (by simp)⟩
 by_cases h0 : tk.length = 0
 ·obtain ⟨q, hq, cq⟩ := hpk c hc
  have h0' : ((0 : Int) < ((tk.length : Nat) : Int)) = False := by rw [h0]; simp
  refine u_78 h0' (Z1 cq) ?_
  exact ⟨q, hq, by simp [Fin]⟩
 have h0' : ((0 : Int) < ((tk.length : Nat) : Int)) = True := by simp; omega
 have c1 := lOnce_v (GG := GG) c 6 hc
 have g1 := lOnce_good hc 6
 generalize lOnce c 6 = o at *
 obtain ⟨o1, o2⟩ := o
 cases o1
 ·have c2 := lBelow_v (GG := GG) o2 tk.length g1
  have g2 := lBelow_good g1 tk.length
  have r2 := lBelow_rng o2 (n := (tk.length : Nat)) (by omega)
  generalize lBelow o2 tk.length = b at *
  obtain ⟨b1, b2⟩ := b
  obtain ⟨k, rfl⟩ := Int.eq_ofNat_of_zero_le r2.1
  have hk : k < tk.length := by dsimp only at r2; omega
  have hg := List.getElem?_eq_getElem hk
  generalize tk[k] = t at hg
  obtain ⟨t1, t2, t3, t4, t5, t6, t7⟩ := t
  dsimp only at *
  refine u_78 (Y2 h0' hg) (Z2 c1 c2) ?_
  exact ⟨(t1, b2), g2, by simp [Fin]⟩
 ·obtain ⟨q, hq, cq⟩ := hpk o2 g1
  refine u_78 h0' (Z2 c1 cq) ?_
  exact ⟨q, hq, by simp [Fin]⟩
def dtU : List Int := [0, 0, 1, 2, 3]
def smT (t : GToken) : Prop := t.fNames.length ≤ 6 ∧ ∀ s, s ∈ t.fNames → s.length ≤ 12
abbrev zTokB : O := .box [.d (.int .i64 0), .d (.int .i64 0), .nil 0 1, .d (.int .i64 0), .d (.int .i64 0), .d (.int .i64 0), .d (.int .i64 0)]
theorem l08DrawToken_w (c : Cur) (f : GForest) (hc : c.good) (hl : f.fTokens.length ≤ 1048576) (hf : ∀ t, t ∈ f.fTokens → smT t) : ∃ a : GToken × Cur, (a.2.good ∧ smT a.1) ∧ Valid PP GG 133 [.box c.o, .agg f.o] (.agg a.1.o) [some (.box a.2.o), some (.agg f.o)] := by
 refine cvD Tryz.func133 (α := GToken × Cur) 1 _ (fun a => [.agg a.1.o]) _ (fun _ => rfl) ?_
 obtain ⟨tk⟩ := f
 dsimp only at hl hf ⊢
 have c1 := lBelow_v (GG := GG) c 3 hc
 have g1 := lBelow_good hc 3
 generalize lBelow c 3 = b1 at *
 obtain ⟨⟨ns, u2⟩, ⟨g2, n1, n2⟩, c2⟩ := l08DrawNames_w (GG := GG) b1.2 g1
 dsimp only at g2 n1 n2 c2
 have c3 := lBelow_v (GG := GG) u2 60 g2
 have g3 := lBelow_good g2 60
 generalize lBelow u2 60 = b3 at *
 have c4 := lPickI_v (GG := GG) b3.2 dtU g3 (by decide) (by decide)
 have g4 := lPick_good g3 (0 : Int) dtU
 generalize lPick b3.2 0 dtU = b4 at *
 simp only [intsD, dtU, List.map_cons, List.map_nil] at c4
 have hi1 := ind_strs ns
 have hi2 := ind_rToken tk
 refine u_79 ?_
 refine D_seq (?_)
 refine u_80 (Z4 c1 c2 c3 c4) ?_
 clear c1 c2 c3 c4 g1 g2 g3
 obtain ⟨b41, b4⟩ := b4
 refine D_cut [0, 1, 4, 5] (fun st' => ∃ (t3 : List (List UInt8)) (u : Cur), u.good ∧ (t3.length ≤ 6 ∧ ∀ s, s ∈ t3 → s.length ≤ 12) ∧ ∃ t1 t2 t4 t5 t6 t7 : Int, st' = ⟨[], [(0, .ptr 0 0), (1, .agg [.sl 1]), (4, .ptr 2 0), (5, .ptr 3 0)], [(0, .box (curA u)), (1, .arr 0 1 7 (rToken tk)), (2, zTokB), (3, .box [.d (.int .i64 t1), .d (.int .i64 t2), .sl 4, .d (.int .i64 t4), .d (.int .i64 t5), .d (.int .i64 t6), .d (.int .i64 t7)]), (4, .arr 0 0 1 (strsD t3))], 5⟩) ?_ ?_
 ·by_cases h0 : tk.length = 0
  ·have h0' : ((0 : Int) < ((tk.length : Nat) : Int)) = False := by rw [h0]; simp
   refine u_82 h0' ?_
   refine ⟨ns, b4, g4, ⟨n1, fun s hs => by have := n2 s hs; omega⟩, ?_⟩
   exact u_83
  obtain ⟨m, hm⟩ : ∃ m, tk.length = m + 1 := ⟨tk.length - 1, by omega⟩
  have h0' : ((0 : Int) < ((tk.length : Nat) : Int)) = True := by simp; omega
  have hw : IntKind.i64.wrap (((tk.length : Nat) : Int) - 1) = (m : Int) := by rw [wrap_id (by omega) (by omega)]; omega
  have hg := List.getElem?_eq_getElem (show m < tk.length by omega)
  have hml : m < tk.length := by omega
  generalize tk[m] = x at hg
  have c5 := lBelow_v (GG := GG) b4 3 g4
  have g5 := lBelow_good g4 3
  generalize lBelow b4 3 = b5 at *
  have c6 := lBelow_v (GG := GG) b5.2 4 g5
  have g6 := lBelow_good g5 4
  generalize lBelow b5.2 4 = b6 at *
  obtain ⟨b61, b6⟩ := b6
  obtain ⟨x1, x2, x3, x4, x5, x6, x7⟩ := x
  dsimp only at *
  by_cases h6 : 0 < b61
  ·have h6' : (0 < b61) = True := by simp; omega
   have c7 := lBelow_v (GG := GG) b6 tk.length g6
   have g7 := lBelow_good g6 tk.length
   have r7 := lBelow_rng b6 (n := (tk.length : Nat)) (by omega)
   generalize lBelow b6 tk.length = b7 at *
   obtain ⟨b71, b7⟩ := b7
   obtain ⟨k, rfl⟩ := Int.eq_ofNat_of_zero_le r7.1
   have hk : k < tk.length := by dsimp only at r7; omega
   have hgk := List.getElem?_eq_getElem hk
   have hp := hf _ (List.getElem_mem hk)
   generalize tk[k] = p at hgk hp
   obtain ⟨p1, p2, pn, p4, p5, p6, p7⟩ := p
   obtain ⟨q1, q2⟩ := hp
   dsimp only at *
   clear r7 hf
   have hi3 := ind_strs pn
   refine u_78 (Y5 h0' hw hg h6' hgk) (Z3 c5 c6 c7) ?_
   refine D_loop (fun n st => ∃ i : Nat, n = pn.length - i ∧ i ≤ pn.length ∧ ∃ (ms : List (List UInt8)) (u : Cur), u.good ∧ ms.length ≤ i ∧ (∀ s, s ∈ ms → s.length ≤ 12) ∧ ∃ id par made us : Int,
    st = ⟨[], [(0, .ptr 0 0), (1, .agg [.sl 1]), (4, .ptr 2 0), (5, .ptr 3 0), (7, .ptr 4 0), (8, .d (.int .i64 i))], [(0, .box (curA u)), (1, .arr 0 1 7 (rToken tk)), (2, zTokB), (3, .box [.d (.int .i64 id), .d (.int .i64 par), .sl 5, .d (.int .i64 made), .d (.int .i64 0), .d (.int .i64 0), .d (.int .i64 us)]), (4, .box [.d (.int .i64 p1), .d (.int .i64 p2), .inn 1 0 [(k, 2)], .d (.int .i64 p4), .d (.int .i64 p5), .d (.int .i64 p6), .d (.int .i64 p7)]), (5, .arr 0 0 1 (strsD ms))], 6⟩) _ ⟨0, rfl, by omega, [], b7, g7, by simp, by simp, ?_⟩ ?_
   ·simp [gc, closeN, liveA, gcV, gcO, renA, renAs, renO, namesAs, namesA, namesO, posn, strsD, verOf]
   rintro n st ⟨i, rfl, hi, ms, u, hu, hms, hml2, id, par, made, us, rfl⟩
   clear c5 c6 c7 hg hi1
   by_cases hlt : i < pn.length
   ·have hgi := List.getElem?_eq_getElem hlt
    have hmi := q2 _ (List.getElem_mem hlt)
    generalize pn[i] = s at hgi hmi
    have hwi : IntKind.i64.wrap ((i : Int) + 1) = (i : Int) + 1 := wrap_id (by omega) (by omega)
    have c8 := lBelow_v (GG := GG) u 4 hu
    have g8 := lBelow_good hu 4
    generalize lBelow u 4 = b8 at *
    repeat' (first | refine D_ret ?_ | refine D_seq ?_ | refine D_skip ?_ | refine D_block ?_ | refine D_exit ?_ | refine pick_pos rfl ?_ | refine pick_neg rfl ?_ | ((first | refine D_regP fun K hK => ?_ | refine D_regPD fun K hK => ?_ | with_reducible refine callQ (c8) ?_); simp [Fin, hgk, hgi, strs_get, strsD_len, limit]) | (with_reducible refine hK _ ?_; clear hK K) | (with_reducible refine goL_split (fun h => ?_) (fun h => ?_) <;> first | (exfalso; simp at h; first | done | omega | contradiction) | ((try simp at h); simp [hgk, hgi, strs_get, strsD_len, limit])) | with_reducible refine And.intro ?_ ?_ | with_reducible exact okay_rfl rfl | with_reducible assumption | (refine D_cond rfl (fun h => ?_) (fun h => ?_) <;> first | (exfalso; simp at h; first | done | omega | contradiction) | (exfalso; simp_all; done) | (try simp at h)) | omega)
    ·refine ⟨pn.length - (i + 1), by omega, i + 1, rfl, hlt, ms ++ [s], b8.2, g8, by simp; omega, fun y hy => ?_, ?_⟩
     ·rcases List.mem_append.1 hy with hy | hy
      ·exact hml2 y hy
      ·simp at hy; subst hy; exact hmi
     ·simp [gc, closeN, liveA, gcV, gcO, renA, renAs, renO, namesAs, namesA, namesO, posn, hwi, strsD_snoc, verOf]
    ·refine ⟨pn.length - (i + 1), by omega, i + 1, rfl, hlt, ms, b8.2, g8, by omega, hml2, ?_⟩
     simp [gc, closeN, liveA, gcV, gcO, renA, renAs, renO, namesAs, namesA, namesO, posn, hwi, verOf]
   ·have c8 := lBelow_v (GG := GG) u 9 hu
    have g8 := lBelow_good hu 9
    generalize lBelow u 9 = b8 at *
    have hie : i = pn.length := by omega
    subst hie
    repeat' (first | refine D_ret ?_ | refine D_seq ?_ | refine D_skip ?_ | refine D_block ?_ | refine D_exit ?_ | refine pick_pos rfl ?_ | refine pick_neg rfl ?_ | ((first | refine D_regP fun K hK => ?_ | refine D_regPD fun K hK => ?_ | with_reducible refine callQ (c8) ?_); simp [Fin, hgk, strsD_len]) | (with_reducible refine hK _ ?_; clear hK K) | (with_reducible refine goL_split (fun h => ?_) (fun h => ?_) <;> first | (exfalso; simp at h; first | done | omega | contradiction) | ((try simp at h); simp [hgk, strsD_len])) | with_reducible refine And.intro ?_ ?_ | with_reducible exact okay_rfl rfl | with_reducible assumption | (refine D_cond rfl (fun h => ?_) (fun h => ?_) <;> first | (exfalso; simp at h; first | done | omega | contradiction) | (exfalso; simp_all; done) | (try simp at h)) | omega)
    refine ⟨ms, b8.2, g8, ⟨by omega, hml2⟩, ?_⟩
    exact u_83
  ·have h6' : (0 < b61) = False := by simp; omega
   refine u_78 (Y4 h0' hw hg h6') (Z2 c5 c6) ?_
   refine ⟨ns, b6, g6, ⟨n1, fun s hs => by have := n2 s hs; omega⟩, ?_⟩
   exact u_83
 rintro st ⟨t3, u, hu, ht, t1, t2, t4, t5, t6, t7, rfl⟩
 clear hi1 hf
 have hi3 := ind_strs t3
 have c1 := lBelow_v (GG := GG) u 3 hu
 have g1 := lBelow_good hu 3
 generalize lBelow u 3 = b1 at *
 obtain ⟨b11, b1⟩ := b1
 dsimp only at *
 by_cases h1 : 0 < b11
 ·have h1' : (0 < b11) = True := by simp; omega
  have c2 := lBelow_v (GG := GG) b1 80 g1
  have g2 := lBelow_good g1 80
  generalize lBelow b1 80 = b2 at *
  have c3 := lOnce_v (GG := GG) b2.2 2 g2
  have g3 := lOnce_good g2 2
  generalize lOnce b2.2 2 = o at *
  obtain ⟨o1, o2⟩ := o
  cases o1
  ·refine u_78 h1' (Z3 c1 c2 c3) ?_
   exact ⟨(⟨t1, t2, t3, t4, IntKind.i64.wrap (IntKind.i64.wrap (t4 + 1) + b2.1), t6, t7⟩, o2), ⟨g3, ht⟩, by simp [Fin]⟩
  ·have c4 := lBelow_v (GG := GG) o2 60 g3
   have g4 := lBelow_good g3 60
   generalize lBelow o2 60 = b4 at *
   refine u_78 h1' (Z4 c1 c2 c3 c4) ?_
   exact ⟨(⟨t1, t2, t3, t4, IntKind.i64.wrap (IntKind.i64.wrap (t4 + 1) + b2.1), IntKind.i64.wrap (IntKind.i64.wrap (IntKind.i64.wrap (t4 + 1) + b2.1) + b4.1), t7⟩, b4.2), ⟨g4, ht⟩, by simp [Fin]⟩
 ·have h1' : (0 < b11) = False := by simp; omega
  refine u_78 h1' (Z1 c1) ?_
  exact ⟨(⟨t1, t2, t3, t4, t5, t6, t7⟩, b1), ⟨g1, ht⟩, by simp [Fin]⟩
theorem s_l08HasText_ok (a : List (List UInt8)) (x : List UInt8) (hsz : a.length ≤ 281474976710656) : Valid PP GG 159 [.d (.slc 1 (strsD a)), .d (.str x)] (.d (.bool (a.contains x))) [none, none] := by
 refine cv Tryz.func159 [.d (.bool (a.contains x))] ?_
 have hany := idxF_containsS x a
 rw [idxF_any] at hany
 refine u_52 ?_
 refine W_loop (fun n st => ∃ i : Nat, n = a.length - i ∧ i ≤ a.length ∧ (∀ y, y ∈ a.take i → (y == x) = false) ∧
  st = ⟨[], [(0, .d (.slc 1 (strsD a))), (1, .d (.str x)), (5, .d (.int .i64 i))], [], 0⟩) _ ⟨0, rfl, by omega, fun x hx => by simp at hx, ?_⟩ ?_
 ·exact u_84
 rintro n st ⟨i, rfl, hi, hn, rfl⟩
 by_cases hlt : i < a.length
 ·have ha := List.getElem?_eq_getElem hlt
  generalize a[i] = y at ha
  cases hx : (y == x) with
  | true =>
   have e := (find_hit (p := fun y => y == x) ha hn hx).2
   rw [e] at hany
   rw [← hany]
   exact u_85 (Y2 ha hx)
  | false =>
   have hn2 := take_miss (p := fun y => y == x) ha hn hx
   repeat' (first | refine W_seq ?_ | refine W_skip ?_ | refine W_block ?_ | refine W_exit ?_ | refine pick_pos rfl ?_ | refine pick_neg rfl ?_ | ((first | refine W_regP fun K hK => ?_ | refine W_regPD fun K hK => ?_ | refine W_ret ?_); simp [Fin, ha, strs_get, strsD_len, hx]) | (with_reducible refine hK _ ?_; clear hK K) | (with_reducible refine goL_split (fun h => ?_) (fun h => ?_) <;> first | (exfalso; simp at h; first | done | omega | contradiction) | ((try simp at h); simp [ha, strs_get, strsD_len, hx])) | with_reducible refine And.intro ?_ ?_ | with_reducible exact okay_rfl rfl | with_reducible assumption | (refine W_cond rfl (fun h => ?_) (fun h => ?_) <;> first | (exfalso; simp at h; first | done | omega | contradiction) | (exfalso; simp_all; done) | (try simp at h)) | omega)
   refine ⟨a.length - (i + 1), by omega, i + 1, rfl, hlt, hn2, ?_⟩
   refine u_86 ?_
   exact wrap_id (by omega) (by omega)
 ·have hie : i = a.length := by omega
  subst hie
  rw [List.take_length] at hn
  rw [(find_miss hn).2] at hany
  rw [← hany]
  exact u_51
set_option maxHeartbeats 8000000 in
theorem s_MakeToken_ok [MaxL GG] (f : GForest) (t : GToken) (hf : fitF f) (ht : fitT t) (hb : forestB f = true) :
  Valid PP GG 134 [.agg f.c, .agg t.c] (.tup [.agg (mkF f t).o, .d (.int .i64 (mkC f t))]) [none, none] := by
 refine cv Tryz.func134 [.agg (mkF f t).o, .d (.int .i64 (mkC f t))] ?_
 have ccp := s_l08Copy_ok (GG := GG) f.fTokens hf
 have cfo := s_ForestOk_ok (GG := GG) f hf
 rw [hb] at cfo
 have cit := s_l08Token_ok (GG := GG) t ht
 have cix := s_l08At_ok (GG := GG) f t.fParent hf.1
 have cct := s_l08CopyToken_ok (GG := GG) t ht
 have hC : mkC f t = if (tokenB t && belowT f t.fId) = false then 1
  else if t.fParent = 0 then (if f.fTokens.length = 120 then 5 else 0)
  else if hasTok f t.fParent = false then 2
  else if overB (findT f t.fParent).fEnds t.fMade = true then 3
  else if subN t.fNames (findT f t.fParent).fNames = false then 4
  else if f.fTokens.length = 120 then 5 else 0 := rfl
 have hF : mkF f t = if mkC f t = 0 then ⟨f.fTokens ++ [t]⟩ else f := rfl
 have hla := lastT hb t.fId
 have hno := idxF_none (fun x : GToken => decide (x.fId = t.fParent)) f.fTokens
 have hfi := fun h => idxF_find (p := fun x : GToken => decide (x.fId = t.fParent)) (l := f.fTokens) h
 have hT : findT f t.fParent = (f.fTokens.find? fun x => decide (x.fId = t.fParent)).getD zTok := by unfold findT; rw [if_pos hb]
 have hH : hasTok f t.fParent = f.fTokens.any fun x => decide (x.fId = t.fParent) := rfl
 have hl1 := hf.1
 have hft := hf.2
 have hl2 : f.fTokens.length ≤ 120 := by unfold forestB at hb; rw [Bool.and_eq_true] at hb; exact of_decide_eq_true hb.1
 have htn := ht.1
 generalize mkC f t = CC at *
 generalize mkF f t = FF at *
 generalize belowT f t.fId = BB at *
 generalize findT f t.fParent = PT at *
 generalize hasTok f t.fParent = HH at *
 clear hb ht
 obtain ⟨tk⟩ := f
 obtain ⟨t1, t2, t3, t4, t5, t6, t7⟩ := t
 dsimp only at *
 generalize tokenB ⟨t1, t2, t3, t4, t5, t6, t7⟩ = TB at *
 have hi1 := ind_rToken tk
 have hi2 := ind_strs t3
 have hrl := rToken_len tk
 cases TB
 ·simp only [Bool.false_and, if_true] at hC
  subst hC
  simp only [Int.reduceEq, if_false] at hF
  subst hF
  clear cix cct hla hno hfi hT hH hft
  exact u_31 (Z3 ccp cfo cit)
 cases BB
 ·simp only [Bool.true_and, if_true] at hC
  subst hC
  simp only [Int.reduceEq, if_false] at hF
  subst hF
  rcases hla with ⟨_, h⟩ | ⟨k, x, hk, hx, hd⟩
  ·cases h
  ·have hge : (x.fId < t1) = False := by have := of_decide_eq_false hd.symm; simp; omega
   have hge2 : (t1 ≤ x.fId) = True := by have := of_decide_eq_false hd.symm; simp; omega
   have hw : IntKind.i64.wrap (((tk.length : Nat) : Int) - 1) = (k : Int) := by rw [wrap_id (by omega) (by omega)]; omega
   have hp : ((0 : Int) < ((tk.length : Nat) : Int)) = True := by simp; omega
   clear cix cct hno hfi hT hH hft hd
   obtain ⟨x1, x2, x3, x4, x5, x6, x7⟩ := x
   dsimp only at hge hge2
   exact u_29 (Y5 hx hge hge2 hw hp) (Z3 ccp cfo cit)
 simp only [Bool.and_self, Bool.true_eq_false, if_false] at hC
 have happ : rToken (tk ++ [⟨t1, t2, t3, t4, t5, t6, t7⟩]) = rToken tk ++ [[.int .i64 t1, .int .i64 t2, .slc 1 (strsD t3), .int .i64 t4, .int .i64 t5, .int .i64 t6, .int .i64 t7]] := by rw [rToken_app]; rfl
 rcases hla with ⟨rfl, -⟩ | ⟨k, z, hk, hz, hd⟩
 ·simp only [List.any_nil] at hH
  subst hH
  simp only [if_true] at hC
  have hno := of_decide_eq_true (hno.trans rfl)
  generalize idxF (fun x : GToken => decide (x.fId = t2)) [] = ix at *
  by_cases hp0 : t2 = 0
  ·rw [if_pos hp0, if_neg (by simp)] at hC
   subst hC
   simp only [if_true] at hF
   subst hF
   subst hp0
   clear hfi hT hft
   refine u_55 happ (Z4 ccp cfo cit cct) ?_
   rfl
  ·rw [if_neg hp0] at hC
   subst hC
   simp only [Int.reduceEq, if_false] at hF
   subst hF
   have hp1 : (t2 != 0) = true := by simpa using hp0
   clear hfi hT hft
   exact u_29 (Y2 hp1 hno) (Z4 ccp cfo cit cix)
 have hlt : (t1 ≤ z.fId) = False := by have := of_decide_eq_true hd.symm; simp; omega
 have hlt2 : (z.fId < t1) = True := by have := of_decide_eq_true hd.symm; simp; omega
 have hw : IntKind.i64.wrap (((tk.length : Nat) : Int) - 1) = (k : Int) := by rw [wrap_id (by omega) (by omega)]; omega
 have hp : ((0 : Int) < ((tk.length : Nat) : Int)) = True := by simp; omega
 clear hd
 obtain ⟨z1, z2, z3, z4, z5, z6, z7⟩ := z
 dsimp only at hlt hlt2
 by_cases hp0 : t2 = 0
 ·rw [if_pos hp0] at hC
  subst hp0
  clear cix hno hfi hT hH hft
  by_cases hfl : tk.length = 120
  ·rw [if_pos hfl] at hC
   subst hC
   simp only [Int.reduceEq, if_false] at hF
   subst hF
   have hq : (((tk.length : Nat) : Int) == 120) = true := by simp; omega
   exact u_29 (Y6 hz hlt hlt2 hw hp hq) (Z4 ccp cfo cit cct)
  ·rw [if_neg hfl] at hC
   subst hC
   simp only [if_true] at hF
   subst hF
   have hq : (((tk.length : Nat) : Int) == 120) = false := by simp; omega
   exact u_54 (Y7 hz hlt hlt2 hw hp hq happ) (Z4 ccp cfo cit cct)
 rw [if_neg hp0] at hC
 have hp1 : (t2 != 0) = true := by simpa using hp0
 cases HH
 ·simp only [if_true] at hC
  subst hC
  simp only [Int.reduceEq, if_false] at hF
  subst hF
  have hno2 : idxF (fun x : GToken => decide (x.fId = t2)) tk < 0 := of_decide_eq_true (by rw [hno, ← hH]; rfl)
  generalize idxF (fun x : GToken => decide (x.fId = t2)) tk = ix at *
  clear hfi hT hft hno hH
  exact u_29 (Y7 hz hlt hlt2 hw hp hp1 hno2) (Z4 ccp cfo cit cix)
 simp only [Bool.true_eq_false, if_false] at hC
 obtain ⟨m, x, hm, hx, _, hfd⟩ := hfi hH.symm
 rw [hfd] at hT
 simp only [Option.getD_some] at hT
 have hT := hT.symm
 subst hT
 rw [hm] at cix
 clear hfi hno hfd hH
 have hft := hft x (List.mem_of_getElem? hx)
 have hml := (List.getElem?_eq_some_iff.1 hx).1
 have cov := s_l08Over_ok (GG := GG) x t4
 have hxr := ind_strs x.fNames
 have chas := fun s => s_l08HasText_ok (GG := GG) x.fNames s (by have := hft.1; omega)
 have hS : subN t3 x.fNames = t3.all fun n => x.fNames.contains n := rfl
 generalize overB x.fEnds t4 = OB at *
 generalize subN t3 x.fNames = SB at *
 obtain ⟨x1, x2, x3, x4, x5, x6, x7⟩ := x
 dsimp only at *
 cases OB
 ·simp only [Bool.false_eq_true, if_false] at hC
  refine u_30 (Y7 hz hlt hlt2 hw hp hp1 hx) (Z5 ccp cfo cit cix cov) ?_
  clear cfo cit cix cov ccp
  refine W_loop (fun n st => ∃ i : Nat, n = t3.length - i ∧ i ≤ t3.length ∧ (∀ y, y ∈ t3.take i → x3.contains y = true) ∧
   st = ⟨[], [(2, .ptr 0 0), (3, .ptr 1 0), (4, .ptr 2 0), (6, .ptr 3 0), (7, .d (.int .i64 m)), (8, .d (.int .i64 i))], [(0, .box [.d (.slc 7 (rToken tk))]), (1, .box [.d (.int .i64 t1), .d (.int .i64 t2), .d (.slc 1 (strsD t3)), .d (.int .i64 t4), .d (.int .i64 t5), .d (.int .i64 t6), .d (.int .i64 t7)]), (2, .box [.nil 1 7]), (3, .box [.sl 4]), (4, .arr 0 1 7 (rToken tk))], 5⟩) _ ⟨0, rfl, by omega, fun y hy => by simp at hy, ?_⟩ ?_
  ·exact u_84
  rintro n st ⟨i, rfl, hi, hn, rfl⟩
  by_cases hlt3 : i < t3.length
  ·have hgi := List.getElem?_eq_getElem hlt3
   have hgm := List.getElem_mem hlt3
   have hsucc : ∀ y, y ∈ t3.take (i + 1) → y ∈ t3.take i ∨ y = t3[i] := fun y hy => by
    rw [List.take_add_one, hgi] at hy
    rcases List.mem_append.1 hy with hy | hy
    ·exact .inl hy
    ·exact .inr (by simpa using hy)
   generalize t3[i] = s at *
   have ch := chas s
   cases hcs : x3.contains s with
   | false =>
    have hSf : SB = false := by rw [hS, List.all_eq_false]; exact ⟨s, hgm, by rw [hcs]; simp⟩
    subst hSf
    simp only [if_true] at hC
    subst hC
    simp only [Int.reduceEq, if_false] at hF
    subst hF
    rw [hcs] at ch
    exact u_68 (Y2 hgi hx) (Z1 ch)
   | true =>
    rw [hcs] at ch
    repeat' (first | refine W_seq ?_ | refine W_skip ?_ | refine W_block ?_ | refine W_exit ?_ | refine pick_pos rfl ?_ | refine pick_neg rfl ?_ | ((first | refine W_regP fun K hK => ?_ | refine W_regPD fun K hK => ?_ | refine W_ret ?_ | with_reducible refine callQ (ch) ?_); simp [Fin, hgi, hx, strs_get, strsD_len]) | (with_reducible refine hK _ ?_; clear hK K) | (with_reducible refine goL_split (fun h => ?_) (fun h => ?_) <;> first | (exfalso; simp at h; first | done | omega | contradiction) | ((try simp at h); simp [hgi, hx, strs_get, strsD_len])) | with_reducible refine And.intro ?_ ?_ | with_reducible exact okay_rfl rfl | with_reducible assumption | (refine W_cond rfl (fun h => ?_) (fun h => ?_) <;> first | (exfalso; simp at h; first | done | omega | contradiction) | (exfalso; simp_all; done) | (try simp at h)) | omega)
    refine ⟨t3.length - (i + 1), by omega, i + 1, rfl, hlt3, fun y hy => ?_, ?_⟩
    ·rcases hsucc y hy with hy | rfl
     ·exact hn y hy
     ·exact hcs
    ·refine u_86 ?_
     exact wrap_id (by omega) (by omega)
  ·have hie : i = t3.length := by omega
   subst hie
   rw [List.take_length] at hn
   have hSt : SB = true := by rw [hS, List.all_eq_true]; exact hn
   subst hSt
   simp only [Bool.true_eq_false, if_false] at hC
   clear hn hS chas hft hxr hx hml
   by_cases hfl : tk.length = 120
   ·rw [if_pos hfl] at hC
    subst hC
    simp only [Int.reduceEq, if_false] at hF
    subst hF
    have hq : (((tk.length : Nat) : Int) == 120) = true := by simp; omega
    repeat' (first | refine W_seq ?_ | refine W_skip ?_ | refine W_block ?_ | refine W_exit ?_ | refine pick_pos rfl ?_ | refine pick_neg rfl ?_ | ((first | refine W_regP fun K hK => ?_ | refine W_regPD fun K hK => ?_ | refine W_ret ?_); simp [Fin, hq, strsD_len]) | (with_reducible refine hK _ ?_; clear hK K) | (with_reducible refine goL_split (fun h => ?_) (fun h => ?_) <;> first | (exfalso; simp at h; first | done | omega | contradiction) | ((try simp at h); simp [hq, strsD_len])) | with_reducible refine And.intro ?_ ?_ | with_reducible exact okay_rfl rfl | with_reducible assumption | (refine W_cond rfl (fun h => ?_) (fun h => ?_) <;> first | (exfalso; simp at h; first | done | omega | contradiction) | (exfalso; simp_all; done) | (try simp at h)) | omega)
   ·rw [if_neg hfl] at hC
    subst hC
    simp only [if_true] at hF
    subst hF
    have hq : (((tk.length : Nat) : Int) == 120) = false := by simp; omega
    repeat' (first | refine W_seq ?_ | refine W_skip ?_ | refine W_block ?_ | refine W_exit ?_ | refine pick_pos rfl ?_ | refine pick_neg rfl ?_ | ((first | refine W_regP fun K hK => ?_ | refine W_regPD fun K hK => ?_ | refine W_ret ?_ | with_reducible refine callQ (cct) ?_); simp [Fin, hq, happ, limit, strsD_len]) | (with_reducible refine hK _ ?_; clear hK K) | (with_reducible refine goL_split (fun h => ?_) (fun h => ?_) <;> first | (exfalso; simp at h; first | done | omega | contradiction) | ((try simp at h); simp [hq, happ, limit, strsD_len])) | with_reducible refine And.intro ?_ ?_ | with_reducible exact okay_rfl rfl | with_reducible assumption | (refine W_cond rfl (fun h => ?_) (fun h => ?_) <;> first | (exfalso; simp at h; first | done | omega | contradiction) | (exfalso; simp_all; done) | (try simp at h)) | omega)
 ·simp only [if_true] at hC
  subst hC
  simp only [Int.reduceEq, if_false] at hF
  subst hF
  exact u_29 (Y7 hz hlt hlt2 hw hp hp1 hx) (Z5 ccp cfo cit cix cov)
theorem i_FindLease_ok [MaxL GG] (b : GBook) (id : Int) (hf : fitB b) : Valid PP GG 14 [.agg b.c, .d (.int .i64 id)] (.tup [.agg (findL b id).o, .d (.bool (bookB b && hasLease b id))]) [none, none] := by
 refine cv Tryz.func14 [.agg (findL b id).o, .d (.bool (bookB b && hasLease b id))] ?_
 have cb := isBook_ok (GG := GG) b hf
 have cix := leaseIndex_ok (GG := GG) b id hf.1
 have hno := idxF_none (fun t : GLease => decide (t.fId = id)) b.fLeases
 have hfi := fun h => idxF_find (p := fun t : GLease => decide (t.fId = id)) (l := b.fLeases) h
 have hH : hasLease b id = b.fLeases.any fun t => decide (t.fId = id) := rfl
 have hF : findL b id = if bookB b then (b.fLeases.find? fun l => decide (l.fId = id)).getD zLease else zLease := rfl
 have hl := hf.1
 generalize bookB b = B at *
 generalize hasLease b id = H at *
 generalize findL b id = F at *
 obtain ⟨ls⟩ := b
 dsimp only at *
 have hi1 := ind_rLease ls
 cases B
 ·simp only [Bool.false_eq_true, if_false] at hF
  subst hF
  clear hfi hno
  exact u_35 (Z2 cb cix)
 simp only [if_true] at hF
 cases H
 ·rw [← hH] at hno
  have hno2 := of_decide_eq_true (hno.trans rfl)
  have hnf : ls.find? (fun l => decide (l.fId = id)) = none := by
   rw [List.find?_eq_none]; intro x hx
   have := hH.symm; rw [List.any_eq_false] at this; exact this x hx
  rw [hnf] at hF
  simp only [Option.getD_none] at hF
  subst hF
  generalize idxF (fun t : GLease => decide (t.fId = id)) ls = ix at *
  clear hfi hno hnf
  repeat' (first | refine W_seq ?_ | refine W_skip ?_ | refine W_block ?_ | refine W_exit ?_ | refine pick_pos rfl ?_ | refine pick_neg rfl ?_ | ((first | refine W_regP fun K hK => ?_ | refine W_regPD fun K hK => ?_ | refine W_ret ?_ | with_reducible refine callQ (cb) ?_ | with_reducible refine callQ (cix) ?_); simp [Fin, zLease, hno2]) | (with_reducible refine hK _ ?_; clear hK K) | (with_reducible refine goL_split (fun h => ?_) (fun h => ?_) <;> first | (exfalso; simp at h; first | done | omega | contradiction) | ((try simp at h); simp [zLease, hno2])) | with_reducible refine And.intro ?_ ?_ | with_reducible exact okay_rfl rfl | with_reducible assumption | (refine W_cond rfl (fun h => ?_) (fun h => ?_) <;> first | (exfalso; simp at h; first | done | omega | contradiction) | (exfalso; simp_all; done) | (try simp at h)) | omega)
 ·obtain ⟨k, x, hk, hx, _, hfd⟩ := hfi hH.symm
  rw [hfd] at hF
  simp only [Option.getD_some] at hF
  have hF := hF.symm
  subst hF
  rw [hk] at cix
  have hkl := (List.getElem?_eq_some_iff.1 hx).1
  obtain ⟨x1, x2, x3, x4, x5, x6⟩ := x
  clear hfi hno hfd
  exact u_29 hx (Z2 cb cix)
theorem L_within_ok (a : List Int) (x : Int) (hsz : a.length ≤ 281474976710656) : Valid PP GG 16 [.d (.slc 1 (intsD a)), .d (.int .i64 x)] (.d (.bool (a.contains x))) [none, none] := by
 refine cv Tryz.func16 [.d (.bool (a.contains x))] ?_
 have hany := idxF_contains x a
 rw [idxF_any] at hany
 refine u_38 ?_
 refine W_loop (fun n st => ∃ i : Nat, n = a.length - i ∧ i ≤ a.length ∧ (∀ y, y ∈ a.take i → (y == x) = false) ∧
  st = ⟨[], [(0, .d (.slc 1 (intsD a))), (1, .d (.int .i64 x)), (5, .d (.int .i64 i))], [], 0⟩) _ ⟨0, rfl, by omega, fun x hx => by simp at hx, ?_⟩ ?_
 ·exact u_39
 rintro n st ⟨i, rfl, hi, hn, rfl⟩
 by_cases hlt : i < a.length
 ·have ha := List.getElem?_eq_getElem hlt
  generalize a[i] = y at ha
  cases hx : (y == x) with
  | true =>
   have e := (find_hit (p := fun y => y == x) ha hn hx).2
   rw [e] at hany
   rw [← hany]
   exact u_42 (Y2 ha hx)
  | false =>
   have hn2 := take_miss (p := fun y => y == x) ha hn hx
   refine u_43 (Y2 ha hx) ?_
   refine ⟨a.length - (i + 1), by omega, i + 1, rfl, hlt, hn2, ?_⟩
   refine u_41 ?_
   exact wrap_id (by omega) (by omega)
 ·have hie : i = a.length := by omega
  subst hie
  rw [List.take_length] at hn
  rw [(find_miss hn).2] at hany
  rw [← hany]
  exact u_37
def hasU (f : GFar) (n p : List UInt8) : Bool := f.fUsers.any fun u => u.fName == n && u.fPass == p
theorem IndexUser_ok (a : List GUser) (n p : List UInt8) (hsz : a.length ≤ 281474976710656) :
  Valid PP GG 105 [.d (.slc 2 (rUser a)), .agg [.d (.str n), .d (.str p)]] (.d (.int .i64 (idxF (fun u => u.fName == n && u.fPass == p) a))) [none, none] := by
 refine cv Tryz.func105 [.d (.int .i64 (idxF (fun u => u.fName == n && u.fPass == p) a))] ?_
 repeat' (first | refine W_seq ?_ | refine W_skip ?_ | refine W_block ?_ | refine W_exit ?_ | refine pick_pos rfl ?_ | refine pick_neg rfl ?_ | ((first | refine W_regP fun K hK => ?_ | refine W_regPD fun K hK => ?_ | refine W_ret ?_); simp [Fin, rUser_len]) | (with_reducible refine hK _ ?_; clear hK K) | (with_reducible refine goL_split (fun h => ?_) (fun h => ?_) <;> first | (exfalso; simp at h; first | done | omega | contradiction) | ((try simp at h); simp [rUser_len])) | with_reducible refine And.intro ?_ ?_ | with_reducible exact okay_rfl rfl | with_reducible assumption | (refine W_cond rfl (fun h => ?_) (fun h => ?_) <;> first | (exfalso; simp at h; first | done | omega | contradiction) | (exfalso; simp_all; done) | (try simp at h)) | omega)
 refine W_loop (fun k st => ∃ i : Nat, k = a.length - i ∧ i ≤ a.length ∧ (∀ u, u ∈ a.take i → (u.fName == n && u.fPass == p) = false) ∧
  st = ⟨[], [(0, .d (.slc 2 (rUser a))), (3, .ptr 0 0), (7, .d (.int .i64 a.length)), (8, .d (.int .i64 i))], [(0, .box [.d (.str n), .d (.str p)])], 1⟩) _ ⟨0, rfl, by omega, fun x hx => by simp at hx, ?_⟩ ?_
 ·simp [gc, closeN, liveA, gcV, gcO, renA, renAs, renO, namesAs, namesA, namesO, posn, rUser_len]
 rintro k st ⟨i, rfl, hi, hn, rfl⟩
 by_cases hlt : i < a.length
 ·have ha := List.getElem?_eq_getElem hlt
  generalize a[i] = y at ha
  obtain ⟨y1, y2⟩ := y
  have e1 : (n == y1) = (y1 == n) := by rw [Bool.eq_iff_iff, beq_iff_eq, beq_iff_eq]; exact eq_comm
  have e2 : (p == y2) = (y2 == p) := by rw [Bool.eq_iff_iff, beq_iff_eq, beq_iff_eq]; exact eq_comm
  cases hx : (y1 == n && y2 == p) with
  | true =>
   have e := idxF_hit (p := fun u : GUser => u.fName == n && u.fPass == p) ha hn hx
   rw [e]
   exact u_20 (Y4 ha e1 e2 hx)
  | false =>
   have hn2 := take_miss (p := fun u : GUser => u.fName == n && u.fPass == p) ha hn hx
   refine u_21 (Y4 ha e1 e2 hx) ?_
   refine ⟨a.length - (i + 1), by omega, i + 1, rfl, hlt, hn2, ?_⟩
   simp [gc, closeN, liveA, gcV, gcO, renA, renAs, renO, namesAs, namesA, namesO, posn, rUser_len]
   exact wrap_id (by omega) (by omega)
 ·have hie : i = a.length := by omega
  subst hie
  rw [List.take_length] at hn
  rw [idxF_miss hn]
  exact u_27
theorem ContainsUser_ok (a : List GUser) (n p : List UInt8) (hsz : a.length ≤ 281474976710656) : Valid PP GG 53 [.d (.slc 2 (rUser a)), .agg [.d (.str n), .d (.str p)]] (.d (.bool (a.any fun u => u.fName == n && u.fPass == p))) [none, none] := by
 refine cv Tryz.func53 [.d (.bool (a.any fun u => u.fName == n && u.fPass == p))] ?_
 have ci := IndexUser_ok (GG := GG) a n p hsz
 have e := idxF_any (fun u : GUser => u.fName == n && u.fPass == p) a
 exact u_29 e (Z1 ci)
theorem i_HasUser_ok [MaxL GG] (f : GFar) (n p : List UInt8) (hf : fitFar f) : Valid PP GG 15 [.agg f.c, .d (.str n), .d (.str p)] (.d (.bool (farB f && hasU f n p))) [none, none, none] := by
 refine cv Tryz.func15 [.d (.bool (farB f && hasU f n p))] ?_
 have c1 := isFar_ok (GG := GG) f hf
 have c2 := ContainsUser_ok (GG := GG) f.fUsers n p (by have := hf.1; omega)
 have hU : hasU f n p = f.fUsers.any fun u => u.fName == n && u.fPass == p := rfl
 rw [← hU] at c2
 have hi := ind_rUser f.fUsers
 generalize hasU f n p = U at *
 cases hB : farB f with
 | false =>
  rw [hB] at c1
  exact u_31 (Z1 c1)
 | true =>
  rw [hB] at c1
  exact u_31 (Z2 c1 c2)
theorem l09DrawId_w (c : Cur) (b : GBook) (hc : c.good) (hl : b.fLeases.length ≤ 1048576) : ∃ a : Int × Cur, a.2.good ∧ Valid PP GG 136 [.box c.o, .agg b.o] (.d (.int .i64 a.1)) [some (.box a.2.o), some (.agg b.o)] := by
 refine cvD Tryz.func136 (α := Int × Cur) 1 _ (fun a => [.d (.int .i64 a.1)]) _ (fun _ => rfl) ?_
 obtain ⟨tk⟩ := b
 dsimp only at hl ⊢
 have hi0 := ind_rLease tk
 have hpk : ∀ u : Cur, u.good → ∃ q : Int × Cur, q.2.good ∧ Valid PP GG 87 [.box u.o, .own 0 1 [[.int .i64 0], [.int .i64 1], [.int .i64 2], [.int .i64 (-1)], [.int .i64 999]]] (.d (.int .i64 q.1)) [some (.box q.2.o), none] := fun u hu =>
  ⟨_, lPick_good hu (0 : Int) [0, 1, 2, -1, 999], lPickI_v (GG := GG) u [0, 1, 2, -1, 999] hu (by simp) (by simp)⟩
 by_cases h0 : tk.length = 0
 ·obtain ⟨q, hq, cq⟩ := hpk c hc
  have h0' : ((0 : Int) < ((tk.length : Nat) : Int)) = False := by rw [h0]; simp
  refine u_78 h0' (Z1 cq) ?_
  exact ⟨q, hq, by simp [Fin]⟩
 have h0' : ((0 : Int) < ((tk.length : Nat) : Int)) = True := by simp; omega
 have c1 := lOnce_v (GG := GG) c 6 hc
 have g1 := lOnce_good hc 6
 generalize lOnce c 6 = o at *
 obtain ⟨o1, o2⟩ := o
 cases o1
 ·have c2 := lBelow_v (GG := GG) o2 tk.length g1
  have g2 := lBelow_good g1 tk.length
  have r2 := lBelow_rng o2 (n := (tk.length : Nat)) (by omega)
  generalize lBelow o2 tk.length = b at *
  obtain ⟨b1, b2⟩ := b
  obtain ⟨k, rfl⟩ := Int.eq_ofNat_of_zero_le r2.1
  have hk : k < tk.length := by dsimp only at r2; omega
  have hg := List.getElem?_eq_getElem hk
  generalize tk[k] = t at hg
  obtain ⟨t1, t2, t3, t4, t5, t6⟩ := t
  dsimp only at *
  refine u_78 (Y2 h0' hg) (Z2 c1 c2) ?_
  exact ⟨(t1, b2), g2, by simp [Fin]⟩
 ·obtain ⟨q, hq, cq⟩ := hpk o2 g1
  refine u_78 h0' (Z2 c1 cq) ?_
  exact ⟨q, hq, by simp [Fin]⟩
theorem l04DrawKey_w (c : Cur) (hc : c.good) : ∃ a : Int × Cur, a.2.good ∧ Valid PP GG 42 [.box c.o] (.d (.int .i64 a.1)) [some (.box a.2.o)] := by
 refine cvD Tryz.func42 (α := Int × Cur) 1 _ (fun a => [.d (.int .i64 a.1)]) _ (fun _ => rfl) ?_
 have c1 := lBelow_v (GG := GG) c 16777216 hc
 have g1 := lBelow_good hc 16777216
 generalize lBelow c 16777216 = b1 at *
 have c2 := lBelow_v (GG := GG) b1.2 65536 g1
 have g2 := lBelow_good g1 65536
 generalize lBelow b1.2 65536 = b2 at *
 have c3 := lBelow_v (GG := GG) b2.2 1000 g2
 have g3 := lBelow_good g2 1000
 generalize lBelow b2.2 1000 = b3 at *
 generalize hx : IntKind.i64.wrap (IntKind.i64.wrap (b1.1 * 65536) + b2.1) = x
 obtain ⟨l, hl⟩ : ∃ l : List Int, l = [0, 1, 1099511627776, x, x, x, b3.1, 1099511627777, -1] := ⟨_, rfl⟩
 have c4 := lPickI_v (GG := GG) b3.2 l g3 (by rw [hl]; simp) (by rw [hl]; simp)
 have g4 := lPick_good g3 (0 : Int) l
 generalize lPick b3.2 0 l = q at *
 rw [hl] at c4
 simp only [intsD, List.map_cons, List.map_nil] at c4
 refine u_78 hx (Z4 c1 c2 c3 c4) ?_
 exact ⟨q, g4, by simp [Fin]⟩
def drN : List (List UInt8) := [[100, 98], [119, 101, 98], [114, 111]]
def drP : List (List UInt8) := [[117], [100, 98], [115, 118, 99], [97, 98, 99, 100, 101, 102]]
def drQ : List (List UInt8) := [[], [97, 98, 99, 100, 101, 102, 103], [85]]
theorem pick_len {c : Cur} {l : List (List UInt8)} {k : Nat} (h : l ≠ []) (hl : ∀ s, s ∈ l → s.length ≤ k) : (lPick c [] l).1.length ≤ k := hl _ (lPick_mem c [] h)
theorem l11DrawRole_w (c : Cur) (hc : c.good) : ∃ a : GRole × Cur, (a.2.good ∧ a.1.fName.length ≤ 10 ∧ a.1.fPrefix.length ≤ 10) ∧ Valid PP GG 41 [.box c.o] (.agg a.1.o) [some (.box a.2.o)] := by
 refine cvD Tryz.func41 (α := GRole × Cur) 1 _ (fun a => [.agg a.1.o]) _ (fun _ => rfl) ?_
 have c1 := lPickT_v (GG := GG) c drN hc (by decide) (by decide)
 have g1 := lPick_good hc ([] : List UInt8) drN
 have l1 : (lPick c [] drN).1.length ≤ 10 := pick_len (by decide) (by decide)
 generalize lPick c [] drN = b1 at *
 have c2 := lPickT_v (GG := GG) b1.2 drP g1 (by decide) (by decide)
 have g2 := lPick_good g1 ([] : List UInt8) drP
 have l2 : (lPick b1.2 [] drP).1.length ≤ 10 := pick_len (by decide) (by decide)
 generalize lPick b1.2 [] drP = b2 at *
 simp only [strsD, drN, drP, List.map_cons, List.map_nil] at c1 c2
 have c3 := lBelow_v (GG := GG) b2.2 50 g2
 have g3 := lBelow_good g2 50
 generalize lBelow b2.2 50 = b3 at *
 have c4 := lBelow_v (GG := GG) b3.2 100 g3
 have g4 := lBelow_good g3 100
 generalize lBelow b3.2 100 = b4 at *
 have c5 := lOnce_v (GG := GG) b4.2 20 g4
 have g5 := lOnce_good g4 20
 generalize lOnce b4.2 20 = o at *
 obtain ⟨o1, o2⟩ := o
 cases o1
 ·refine u_76 (Z5 c1 c2 c3 c4 c5) ?_
  exact ⟨(⟨b1.1, b2.1, IntKind.i64.wrap (1 + b3.1), IntKind.i64.wrap (IntKind.i64.wrap (1 + b3.1) + b4.1)⟩, o2), ⟨g5, l1, l2⟩, by simp [Fin]⟩
 have c6 := lBelow_v (GG := GG) o2 4 g5
 have g6 := lBelow_good g5 4
 have r6 := lBelow_rng o2 (n := 4) (by omega)
 generalize lBelow o2 4 = b6 at *
 obtain ⟨k, b6⟩ := b6
 dsimp only at *
 generalize IntKind.i64.wrap (1 + b3.1) = ttl at *
 by_cases h0 : k = 0
 ·have c7 := lPickT_v (GG := GG) b6 drQ g6 (by decide) (by decide)
  have g7 := lPick_good g6 ([] : List UInt8) drQ
  have l7 : (lPick b6 [] drQ).1.length ≤ 10 := pick_len (by decide) (by decide)
  generalize lPick b6 [] drQ = b7 at *
  simp only [strsD, drQ, List.map_cons, List.map_nil] at c7
  refine u_78 h0 (Z7 c1 c2 c3 c4 c5 c6 c7) ?_
  exact ⟨(⟨b1.1, b7.1, IntKind.i64.wrap (1 + b3.1), IntKind.i64.wrap (IntKind.i64.wrap (1 + b3.1) + b4.1)⟩, b7.2), ⟨g7, l1, l7⟩, by simp [Fin]⟩
 by_cases h1 : k = 1
 ·obtain ⟨l, hl⟩ : ∃ l : List Int, l = [0, IntKind.i64.wrap (IntKind.i64.wrap (IntKind.i64.wrap (1 + b3.1) + b4.1) + 1), IntKind.i64.wrap (IntKind.i64.wrap (1 + b3.1) + b4.1)] := ⟨_, rfl⟩
  have c7 := lPickI_v (GG := GG) b6 l g6 (by rw [hl]; simp) (by rw [hl]; simp)
  have g7 := lPick_good g6 (0 : Int) l
  generalize lPick b6 0 l = b7 at *
  rw [hl] at c7
  simp only [intsD, List.map_cons, List.map_nil] at c7
  refine u_78 h1 (Z7 c1 c2 c3 c4 c5 c6 c7) ?_
  exact ⟨(⟨b1.1, b2.1, b7.1, IntKind.i64.wrap (IntKind.i64.wrap (1 + b3.1) + b4.1)⟩, b7.2), ⟨g7, l1, l2⟩, by simp [Fin]⟩
 by_cases h2 : k = 2
 ·obtain ⟨l, hl⟩ : ∃ l : List Int, l = [0, 1000000, 1000001] := ⟨_, rfl⟩
  have c7 := lPickI_v (GG := GG) b6 l g6 (by rw [hl]; simp) (by rw [hl]; simp)
  have g7 := lPick_good g6 (0 : Int) l
  generalize lPick b6 0 l = b7 at *
  rw [hl] at c7
  simp only [intsD, List.map_cons, List.map_nil] at c7
  refine u_78 h2 (Z7 c1 c2 c3 c4 c5 c6 c7) ?_
  exact ⟨(⟨b1.1, b2.1, IntKind.i64.wrap (1 + b3.1), b7.1⟩, b7.2), ⟨g7, l1, l2⟩, by simp [Fin]⟩
 have h3 : k = 3 := by omega
 refine u_78 h3 (Z6 c1 c2 c3 c4 c5 c6) ?_
 exact ⟨(⟨[], b2.1, IntKind.i64.wrap (1 + b3.1), IntKind.i64.wrap (IntKind.i64.wrap (1 + b3.1) + b4.1)⟩, b6), ⟨g6, by simp, l2⟩, by simp [Fin]⟩
structure DwOk (w : GWorld) (i : Nat) : Prop where
 lv : LvOk w i
 ol : w.fOwned.length ≤ i
theorem letGo_ol (w : GWorld) (ls : List GLease) : (letGo w ls).fOwned.length ≤ w.fOwned.length := by
 show (letAll w ls).fOwned.length ≤ _
 rw [letAll_same w ls]; exact List.length_filter_le _ _
theorem dw_gu {w : GWorld} {i : Nat} (h : DwOk w i) (hi : i ≤ 60) (tok : Int) (r : GRole) (key : Int) (path : List UInt8) : DwOk (guW w tok r key path) (i + 1) := by
 obtain ⟨⟨h1, h2, h3, h4⟩, h5⟩ := h
 obtain ⟨a, b, c, d⟩ := lived_gu h1 (by omega) tok r key path
 refine ⟨⟨a, by omega, by omega, by omega⟩, ?_⟩
 unfold guW grantW
 split
 ·omega
 ·split
  ·dsimp only; omega
  ·split <;> (simp only [List.length_append, List.length_cons, List.length_nil]; omega)
theorem dw_grant {w : GWorld} {i : Nat} (h : DwOk w i) (tok : Int) (path : List UInt8) (ttl limit : Int) : DwOk (grantW w tok path ttl limit) (i + 1) := by
 obtain ⟨⟨h1, h2, h3, h4⟩, h5⟩ := h
 refine ⟨⟨lived_grant h1 _ _ _ _, ?_, ?_, ?_⟩, ?_⟩
 all_goals (unfold grantW; split <;> first | omega | (dsimp only; omega))
theorem dw_cut {w : GWorld} {i : Nat} (h : DwOk w i) (id : Int) : DwOk (cutW w id) (i + 1) := by
 obtain ⟨⟨h1, h2, h3, h4⟩, h5⟩ := h
 obtain ⟨a, b⟩ := cut_flds w id
 have c := cut_made w id
 refine ⟨⟨lived_cut h1 _, by omega, by omega, by omega⟩, ?_⟩
 unfold cutW
 split
 ·exact Nat.le_trans (letGo_ol _ _) (by dsimp only; omega)
 ·omega
theorem dw_ct {w : GWorld} {i : Nat} (h : DwOk w i) (id : Int) : DwOk (ctW w id) (i + 1) := by
 obtain ⟨⟨h1, h2, h3, h4⟩, h5⟩ := h
 obtain ⟨a, b⟩ := ct_flds w id
 have c := ct_made w id
 refine ⟨⟨lived_ct h1 _, by omega, by omega, by omega⟩, ?_⟩
 unfold ctW
 split
 ·exact Nat.le_trans (letGo_ol _ _) (by unfold ctX; dsimp only; omega)
 ·omega
theorem dw_pt {w : GWorld} {i : Nat} (h : DwOk w i) {d : Int} (hd : d ≤ 6) : DwOk (ptW w (w.fNow + d)) (i + 1) := by
 obtain ⟨⟨h1, h2, h3, h4⟩, h5⟩ := h
 have hm := pt_made w (w.fNow + d)
 refine ⟨⟨lived_pt h1 _, by omega, ?_, ?_⟩, ?_⟩
 ·by_cases hb : ptB w (w.fNow + d) = true
  ·rw [(pt_flds hb).2.1]; omega
  ·unfold ptW; rw [if_neg hb]; omega
 ·by_cases hb : ptB w (w.fNow + d) = true
  ·rw [(pt_flds hb).1]; omega
  ·unfold ptW; rw [if_neg hb]; omega
 ·unfold ptW
  split
  ·exact Nat.le_trans (letGo_ol _ _) (by unfold ptX; dsimp only; omega)
  ·omega
theorem dw_mk {w : GWorld} {i : Nat} (h : DwOk w i) (hi : i ≤ 60) {t : GToken} (hc : mkC w.fForest t = 0) (ht : t.fId = w.fNext) : DwOk { w with fForest := mkF w.fForest t, fNext := w.fNext + 1 } (i + 1) := by
 obtain ⟨⟨h1, h2, h3, h4⟩, h5⟩ := h
 exact ⟨⟨lived_mk h1 hc ht (by omega), by dsimp only; omega, by dsimp only; omega, by dsimp only; omega⟩, by dsimp only; omega⟩
theorem dw_up {w : GWorld} {i : Nat} (h : DwOk w i) : DwOk w (i + 1) := by
 obtain ⟨⟨h1, h2, h3, h4⟩, h5⟩ := h
 exact ⟨⟨h1, by omega, by omega, by omega⟩, by omega⟩
theorem dw_fail {w : GWorld} {i : Nat} (h : DwOk w i) {k : Int} (h0 : 0 ≤ k) (hk : k ≤ 1000) : DwOk { w with fFar := { w.fFar with fFail := k } } (i + 1) := by
 obtain ⟨⟨⟨a1, a2, a3, a4⟩, h2, h3, h4⟩, h5⟩ := h
 refine ⟨⟨⟨?_, a2, a3, a4⟩, by dsimp only; omega, by dsimp only; omega, by dsimp only; omega⟩, by dsimp only; omega⟩
 obtain ⟨b1, b2, b3, b4, b5, b6, b7, b8, b9, b10, b11, b12, b13, b14⟩ := (world_iff w).1 a1
 obtain ⟨f1, f2, f3, f4, f5⟩ := (far_iff _).1 b6
 exact (world_iff _).2 ⟨b1, b2, b3, b4, b5, (far_iff _).2 ⟨f1, inB_mk h0 hk, f3, f4, f5⟩, b7, b8, b9, b10, b11, b12, b13, b14⟩
theorem forest_sm {f : GForest} (h : forestB f = true) : ∀ t, t ∈ f.fTokens → smT t := by
 obtain ⟨h1, h2, -⟩ := (forest_iff f).1 h
 intro t ht
 have := (h2 t ht).1
 unfold tokenB namesOk at this
 simp only [Bool.and_eq_true, decide_eq_true_eq] at this
 obtain ⟨⟨⟨⟨⟨⟨a, b⟩, c, d⟩, e⟩, f⟩, g⟩, i⟩ := this
 refine ⟨c, fun s hs => ?_⟩
 obtain ⟨i, hi⟩ := List.getElem?_of_mem hs
 have := okP_get d hi
 unfold nameQ at this
 rw [Bool.and_eq_true] at this
 exact name_le this.1
def DrOkW (w : GWorld) : Prop := fitW w ∧ (∀ o, o ∈ w.fOwned → o.fName.length ≤ 2 ∨ ∃ (p : List UInt8) (k : Nat), o.fName = p ++ six k ∧ 1 ≤ k ∧ (k : Int) ≤ w.fFar.fMade) ∧ w.fFar.fMade ≤ 60 ∧ w.fOwned.length ≤ 61 ∧ w.fForest.fTokens.length ≤ 120
theorem dw_dr {w : GWorld} {i : Nat} (h : DwOk w i) (hi : i ≤ 60) : DrOkW w :=
 ⟨fitW_of_ok h.lv.lived.ok, fun o ho => .inr (h.lv.lived.ni o.fName (.inr (.inl ⟨o, ho, rfl⟩))), by have := h.lv.made; omega, by have := h.ol; omega, ((forest_iff _).1 ((world_iff _).1 h.lv.lived.ok).fo).1⟩
abbrev dwOs (u : Cur) (W : GWorld) (v1 v2 : Nat) : List (Nat × O) := [(0, .box (curA u)), (1, lvZ), (2, .box [.d (.int .i64 W.fNow), .d (.int .i64 W.fNext), .d (.int .i64 W.fLost), .sl 3, .sl 4, .sl 5, .d (.int .i64 W.fFar.fFail), .d (.int .i64 W.fFar.fMade), .sl 6, .sl 7]), (3, .arr v1 1 7 (rToken W.fForest.fTokens)), (4, .arr v2 0 6 (rLease W.fBook.fLeases)), (5, .arr 0 0 2 (rUser W.fFar.fUsers)), (6, .arr 0 0 3 (rJob W.fQueue.fJobs)), (7, .arr 0 0 2 (rOwned W.fOwned))]
end Go.Proofs.YtoomonfpedjgoaaGreatDoor.Ab
