/-
  The law FnExactLagOf returns true for every input, and leaves it as it was.
-/
import Derived.Test.YtbjmakmahooaiaaGreatRows
import Derived.Test.YtbjmakmahooaiaaGreatFrameA
import Derived.Test.YtbjmakmahooaiaaGreatFrameB
import Derived.Test.YtbjmakmahooaiaaGreatFrameC
import Derived.Test.YtbjmakmahooaiaaGreatFrameD
import Derived.Test.YtbjmakmahooaiaaGreatHead
import Derived.Test.YtbjmakmahooaiaaGreatShelf
import Derived.Test.YtbjmakmahooaiaaGreatPartA
import Derived.Test.YtbjmakmahooaiaaGreatPartB
import Derived.Test.YtbjmakmahooaiaaGreatPartC
import Derived.Test.YtbjmakmahooaiaaGreatPartD
import Derived.Test.YtbjmakmahooaiaaGreatPartE
import Derived.Test.YtbjmakmahooaiaaGreatPartF
set_option maxRecDepth 100000
set_option linter.unusedVariables false
namespace Go.Proofs.YtbjmakmahooaiaaGreat.Ab
open Go.Proofs
theorem typ_GToken {k : Nat} {ds : List D} (h : Typ Tryz.prog (k + 3) 232 ds) : ∃ x : GToken, ds = x.row ∧ x.ok := by
  obtain ⟨hl, hf⟩ := typ_struct Tryz.underlying232 h
  rw [show Tryz.prog.cellsOf 232 = 7 by kernel_rfl] at hl
  match ds, hl, hf with
  | [a0, a1, a2, a3, a4, a5, a6], _, hf =>
    obtain ⟨x0, e0, i0⟩ := typ_int (ds := [a0]) Tryz.underlying3 (typ_field hf 0 rfl (n := 1) (by kernel_rfl))
    obtain ⟨x1, e1, i1⟩ := typ_int (ds := [a1]) Tryz.underlying3 (typ_field hf 1 rfl (n := 1) (by kernel_rfl))
    obtain ⟨x2, e2, i2a, i2b⟩ := typ_strs (ds := [a2]) Tryz.underlying141 Tryz.underlying9 (by kernel_rfl) (typ_field hf 2 rfl (n := 1) (by kernel_rfl))
    obtain ⟨x3, e3, i3⟩ := typ_int (ds := [a3]) Tryz.underlying3 (typ_field hf 3 rfl (n := 1) (by kernel_rfl))
    obtain ⟨x4, e4, i4⟩ := typ_int (ds := [a4]) Tryz.underlying3 (typ_field hf 4 rfl (n := 1) (by kernel_rfl))
    obtain ⟨x5, e5, i5⟩ := typ_int (ds := [a5]) Tryz.underlying3 (typ_field hf 5 rfl (n := 1) (by kernel_rfl))
    obtain ⟨x6, e6, i6⟩ := typ_int (ds := [a6]) Tryz.underlying3 (typ_field hf 6 rfl (n := 1) (by kernel_rfl))
    cases e0; cases e1; cases e2; cases e3; cases e4; cases e5; cases e6
    exact ⟨{ fId := x0, fParent := x1, fNames := x2, fMade := x3, fEnds := x4, fLimit := x5, fUses := x6 }, rfl, ⟨i0, i1, i2a, i2b, i3, i4, i5, i6⟩⟩
theorem typ_GForest {k : Nat} {ds : List D} (h : Typ Tryz.prog (k + 5) 24 ds) : ∃ x : GForest, ds = x.row ∧ x.ok := by
  obtain ⟨hl, hf⟩ := typ_struct Tryz.underlying24 h
  rw [show Tryz.prog.cellsOf 24 = 1 by kernel_rfl] at hl
  match ds, hl, hf with
  | [a0], _, hf =>
    obtain ⟨r0, e0, i0a, w0⟩ := typ_slc (ds := [a0]) Tryz.underlying22 (typ_field hf 0 rfl (n := 1) (by kernel_rfl))
    rw [show Tryz.prog.cellsOf 232 = 7 by kernel_rfl] at e0
    obtain ⟨x0, rfl, i0b⟩ := rows_of (p := GToken.ok) (f := GToken.row) r0 fun r hr => typ_GToken (w0 r hr)
    rw [List.length_map] at i0a
    cases e0
    exact ⟨{ fTokens := x0 }, rfl, ⟨i0a, i0b⟩⟩
theorem typ_GLease {k : Nat} {ds : List D} (h : Typ Tryz.prog (k + 2) 235 ds) : ∃ x : GLease, ds = x.row ∧ x.ok := by
  obtain ⟨hl, hf⟩ := typ_struct Tryz.underlying235 h
  rw [show Tryz.prog.cellsOf 235 = 6 by kernel_rfl] at hl
  match ds, hl, hf with
  | [a0, a1, a2, a3, a4, a5], _, hf =>
    obtain ⟨x0, e0, i0⟩ := typ_int (ds := [a0]) Tryz.underlying3 (typ_field hf 0 rfl (n := 1) (by kernel_rfl))
    obtain ⟨x1, e1, i1⟩ := typ_int (ds := [a1]) Tryz.underlying3 (typ_field hf 1 rfl (n := 1) (by kernel_rfl))
    obtain ⟨x2, e2, i2⟩ := typ_str (ds := [a2]) Tryz.underlying9 (typ_field hf 2 rfl (n := 1) (by kernel_rfl))
    obtain ⟨x3, e3, i3⟩ := typ_int (ds := [a3]) Tryz.underlying3 (typ_field hf 3 rfl (n := 1) (by kernel_rfl))
    obtain ⟨x4, e4, i4⟩ := typ_int (ds := [a4]) Tryz.underlying3 (typ_field hf 4 rfl (n := 1) (by kernel_rfl))
    obtain ⟨x5, e5, i5⟩ := typ_int (ds := [a5]) Tryz.underlying3 (typ_field hf 5 rfl (n := 1) (by kernel_rfl))
    cases e0; cases e1; cases e2; cases e3; cases e4; cases e5
    exact ⟨{ fId := x0, fToken := x1, fPath := x2, fMade := x3, fEnds := x4, fLimit := x5 }, rfl, ⟨i0, i1, i2, i3, i4, i5⟩⟩
theorem typ_GBook {k : Nat} {ds : List D} (h : Typ Tryz.prog (k + 4) 27 ds) : ∃ x : GBook, ds = x.row ∧ x.ok := by
  obtain ⟨hl, hf⟩ := typ_struct Tryz.underlying27 h
  rw [show Tryz.prog.cellsOf 27 = 1 by kernel_rfl] at hl
  match ds, hl, hf with
  | [a0], _, hf =>
    obtain ⟨r0, e0, i0a, w0⟩ := typ_slc (ds := [a0]) Tryz.underlying25 (typ_field hf 0 rfl (n := 1) (by kernel_rfl))
    rw [show Tryz.prog.cellsOf 235 = 6 by kernel_rfl] at e0
    obtain ⟨x0, rfl, i0b⟩ := rows_of (p := GLease.ok) (f := GLease.row) r0 fun r hr => typ_GLease (w0 r hr)
    rw [List.length_map] at i0a
    cases e0
    exact ⟨{ fLeases := x0 }, rfl, ⟨i0a, i0b⟩⟩
theorem typ_GUser {k : Nat} {ds : List D} (h : Typ Tryz.prog (k + 2) 238 ds) : ∃ x : GUser, ds = x.row ∧ x.ok := by
  obtain ⟨hl, hf⟩ := typ_struct Tryz.underlying238 h
  rw [show Tryz.prog.cellsOf 238 = 2 by kernel_rfl] at hl
  match ds, hl, hf with
  | [a0, a1], _, hf =>
    obtain ⟨x0, e0, i0⟩ := typ_str (ds := [a0]) Tryz.underlying9 (typ_field hf 0 rfl (n := 1) (by kernel_rfl))
    obtain ⟨x1, e1, i1⟩ := typ_str (ds := [a1]) Tryz.underlying9 (typ_field hf 1 rfl (n := 1) (by kernel_rfl))
    cases e0; cases e1
    exact ⟨{ fName := x0, fPass := x1 }, rfl, ⟨i0, i1⟩⟩
theorem typ_GFar {k : Nat} {ds : List D} (h : Typ Tryz.prog (k + 4) 30 ds) : ∃ x : GFar, ds = x.row ∧ x.ok := by
  obtain ⟨hl, hf⟩ := typ_struct Tryz.underlying30 h
  rw [show Tryz.prog.cellsOf 30 = 3 by kernel_rfl] at hl
  match ds, hl, hf with
  | [a0, a1, a2], _, hf =>
    obtain ⟨r0, e0, i0a, w0⟩ := typ_slc (ds := [a0]) Tryz.underlying28 (typ_field hf 0 rfl (n := 1) (by kernel_rfl))
    rw [show Tryz.prog.cellsOf 238 = 2 by kernel_rfl] at e0
    obtain ⟨x0, rfl, i0b⟩ := rows_of (p := GUser.ok) (f := GUser.row) r0 fun r hr => typ_GUser (w0 r hr)
    rw [List.length_map] at i0a
    obtain ⟨x1, e1, i1⟩ := typ_int (ds := [a1]) Tryz.underlying3 (typ_field hf 1 rfl (n := 1) (by kernel_rfl))
    obtain ⟨x2, e2, i2⟩ := typ_int (ds := [a2]) Tryz.underlying3 (typ_field hf 2 rfl (n := 1) (by kernel_rfl))
    cases e0; cases e1; cases e2
    exact ⟨{ fUsers := x0, fFail := x1, fMade := x2 }, rfl, ⟨i0a, i0b, i1, i2⟩⟩
theorem typ_GJob {k : Nat} {ds : List D} (h : Typ Tryz.prog (k + 2) 241 ds) : ∃ x : GJob, ds = x.row ∧ x.ok := by
  obtain ⟨hl, hf⟩ := typ_struct Tryz.underlying241 h
  rw [show Tryz.prog.cellsOf 241 = 3 by kernel_rfl] at hl
  match ds, hl, hf with
  | [a0, a1, a2], _, hf =>
    obtain ⟨x0, e0, i0⟩ := typ_str (ds := [a0]) Tryz.underlying9 (typ_field hf 0 rfl (n := 1) (by kernel_rfl))
    obtain ⟨x1, e1, i1⟩ := typ_int (ds := [a1]) Tryz.underlying3 (typ_field hf 1 rfl (n := 1) (by kernel_rfl))
    obtain ⟨x2, e2, i2⟩ := typ_int (ds := [a2]) Tryz.underlying3 (typ_field hf 2 rfl (n := 1) (by kernel_rfl))
    cases e0; cases e1; cases e2
    exact ⟨{ fName := x0, fAt := x1, fTries := x2 }, rfl, ⟨i0, i1, i2⟩⟩
theorem typ_GQueue {k : Nat} {ds : List D} (h : Typ Tryz.prog (k + 4) 33 ds) : ∃ x : GQueue, ds = x.row ∧ x.ok := by
  obtain ⟨hl, hf⟩ := typ_struct Tryz.underlying33 h
  rw [show Tryz.prog.cellsOf 33 = 1 by kernel_rfl] at hl
  match ds, hl, hf with
  | [a0], _, hf =>
    obtain ⟨r0, e0, i0a, w0⟩ := typ_slc (ds := [a0]) Tryz.underlying31 (typ_field hf 0 rfl (n := 1) (by kernel_rfl))
    rw [show Tryz.prog.cellsOf 241 = 3 by kernel_rfl] at e0
    obtain ⟨x0, rfl, i0b⟩ := rows_of (p := GJob.ok) (f := GJob.row) r0 fun r hr => typ_GJob (w0 r hr)
    rw [List.length_map] at i0a
    cases e0
    exact ⟨{ fJobs := x0 }, rfl, ⟨i0a, i0b⟩⟩
theorem typ_GOwned {k : Nat} {ds : List D} (h : Typ Tryz.prog (k + 2) 183 ds) : ∃ x : GOwned, ds = x.row ∧ x.ok := by
  obtain ⟨hl, hf⟩ := typ_struct Tryz.underlying183 h
  rw [show Tryz.prog.cellsOf 183 = 2 by kernel_rfl] at hl
  match ds, hl, hf with
  | [a0, a1], _, hf =>
    obtain ⟨x0, e0, i0⟩ := typ_int (ds := [a0]) Tryz.underlying3 (typ_field hf 0 rfl (n := 1) (by kernel_rfl))
    obtain ⟨x1, e1, i1⟩ := typ_str (ds := [a1]) Tryz.underlying9 (typ_field hf 1 rfl (n := 1) (by kernel_rfl))
    cases e0; cases e1
    exact ⟨{ fLease := x0, fName := x1 }, rfl, ⟨i0, i1⟩⟩
theorem typ_GWorld {k : Nat} {ds : List D} (h : Typ Tryz.prog (k + 6) 36 ds) : ∃ x : GWorld, ds = x.row ∧ x.ok := by
  obtain ⟨hl, hf⟩ := typ_struct Tryz.underlying36 h
  rw [show Tryz.prog.cellsOf 36 = 10 by kernel_rfl] at hl
  match ds, hl, hf with
  | [a0, a1, a2, a3, a4, a5, a6, a7, a8, a9], _, hf =>
    obtain ⟨x0, e0, i0⟩ := typ_int (ds := [a0]) Tryz.underlying3 (typ_field hf 0 rfl (n := 1) (by kernel_rfl))
    obtain ⟨x1, e1, i1⟩ := typ_int (ds := [a1]) Tryz.underlying3 (typ_field hf 1 rfl (n := 1) (by kernel_rfl))
    obtain ⟨x2, e2, i2⟩ := typ_int (ds := [a2]) Tryz.underlying3 (typ_field hf 2 rfl (n := 1) (by kernel_rfl))
    obtain ⟨x3, e3, i3⟩ := typ_GForest (ds := [a3]) (typ_field hf 3 rfl (n := 1) (by kernel_rfl))
    obtain ⟨x4, e4, i4⟩ := typ_GBook (ds := [a4]) (typ_field hf 4 rfl (n := 1) (by kernel_rfl))
    obtain ⟨x5, e5, i5⟩ := typ_GFar (ds := [a5, a6, a7]) (typ_field hf 5 rfl (n := 3) (by kernel_rfl))
    obtain ⟨x6, e6, i6⟩ := typ_GQueue (ds := [a8]) (typ_field hf 6 rfl (n := 1) (by kernel_rfl))
    obtain ⟨r7, e7, i7a, w7⟩ := typ_slc (ds := [a9]) Tryz.underlying34 (typ_field hf 7 rfl (n := 1) (by kernel_rfl))
    rw [show Tryz.prog.cellsOf 183 = 2 by kernel_rfl] at e7
    obtain ⟨x7, rfl, i7b⟩ := rows_of (p := GOwned.ok) (f := GOwned.row) r7 fun r hr => typ_GOwned (w7 r hr)
    rw [List.length_map] at i7a
    cases e0; cases e1; cases e2; cases e3; cases e4; cases e5; cases e6; cases e7
    exact ⟨{ fNow := x0, fNext := x1, fLost := x2, fForest := x3, fBook := x4, fFar := x5, fQueue := x6, fOwned := x7 }, rfl, ⟨i0, i1, i2, i3, i4, i5, i6, i7a, i7b⟩⟩
theorem typ_GRole {k : Nat} {ds : List D} (h : Typ Tryz.prog (k + 2) 135 ds) : ∃ x : GRole, ds = x.row ∧ x.ok := by
  obtain ⟨hl, hf⟩ := typ_struct Tryz.underlying135 h
  rw [show Tryz.prog.cellsOf 135 = 4 by kernel_rfl] at hl
  match ds, hl, hf with
  | [a0, a1, a2, a3], _, hf =>
    obtain ⟨x0, e0, i0⟩ := typ_str (ds := [a0]) Tryz.underlying9 (typ_field hf 0 rfl (n := 1) (by kernel_rfl))
    obtain ⟨x1, e1, i1⟩ := typ_str (ds := [a1]) Tryz.underlying9 (typ_field hf 1 rfl (n := 1) (by kernel_rfl))
    obtain ⟨x2, e2, i2⟩ := typ_int (ds := [a2]) Tryz.underlying3 (typ_field hf 2 rfl (n := 1) (by kernel_rfl))
    obtain ⟨x3, e3, i3⟩ := typ_int (ds := [a3]) Tryz.underlying3 (typ_field hf 3 rfl (n := 1) (by kernel_rfl))
    cases e0; cases e1; cases e2; cases e3
    exact ⟨{ fName := x0, fPrefix := x1, fTtl := x2, fLimit := x3 }, rfl, ⟨i0, i1, i2, i3⟩⟩
theorem typ_GRule {k : Nat} {ds : List D} (h : Typ Tryz.prog (k + 2) 244 ds) : ∃ x : GRule, ds = x.row ∧ x.ok := by
  obtain ⟨hl, hf⟩ := typ_struct Tryz.underlying244 h
  rw [show Tryz.prog.cellsOf 244 = 2 by kernel_rfl] at hl
  match ds, hl, hf with
  | [a0, a1], _, hf =>
    obtain ⟨x0, e0, i0⟩ := typ_str (ds := [a0]) Tryz.underlying9 (typ_field hf 0 rfl (n := 1) (by kernel_rfl))
    obtain ⟨x1, e1, i1⟩ := typ_int (ds := [a1]) Tryz.underlying3 (typ_field hf 1 rfl (n := 1) (by kernel_rfl))
    cases e0; cases e1
    exact ⟨{ fGlob := x0, fCaps := x1 }, rfl, ⟨i0, i1⟩⟩
theorem typ_GPolicy {k : Nat} {ds : List D} (h : Typ Tryz.prog (k + 4) 132 ds) : ∃ x : GPolicy, ds = x.row ∧ x.ok := by
  obtain ⟨hl, hf⟩ := typ_struct Tryz.underlying132 h
  rw [show Tryz.prog.cellsOf 132 = 2 by kernel_rfl] at hl
  match ds, hl, hf with
  | [a0, a1], _, hf =>
    obtain ⟨x0, e0, i0⟩ := typ_str (ds := [a0]) Tryz.underlying9 (typ_field hf 0 rfl (n := 1) (by kernel_rfl))
    obtain ⟨r1, e1, i1a, w1⟩ := typ_slc (ds := [a1]) Tryz.underlying130 (typ_field hf 1 rfl (n := 1) (by kernel_rfl))
    rw [show Tryz.prog.cellsOf 244 = 2 by kernel_rfl] at e1
    obtain ⟨x1, rfl, i1b⟩ := rows_of (p := GRule.ok) (f := GRule.row) r1 fun r hr => typ_GRule (w1 r hr)
    rw [List.length_map] at i1a
    cases e0; cases e1
    exact ⟨{ fName := x0, fRules := x1 }, rfl, ⟨i0, i1a, i1b⟩⟩
theorem typ_GVersion {k : Nat} {ds : List D} (h : Typ Tryz.prog (k + 3) 270 ds) : ∃ x : GVersion, ds = x.row ∧ x.ok := by
  obtain ⟨hl, hf⟩ := typ_struct Tryz.underlying270 h
  rw [show Tryz.prog.cellsOf 270 = 4 by kernel_rfl] at hl
  match ds, hl, hf with
  | [a0, a1, a2, a3], _, hf =>
    obtain ⟨x0, e0, i0a⟩ := typ_bytes (ds := [a0]) Tryz.underlying48 Tryz.underlying5 (by kernel_rfl) (typ_field hf 0 rfl (n := 1) (by kernel_rfl))
    obtain ⟨x1, e1, i1⟩ := typ_int (ds := [a1]) Tryz.underlying3 (typ_field hf 1 rfl (n := 1) (by kernel_rfl))
    obtain ⟨x2, e2⟩ := typ_bool (ds := [a2]) Tryz.underlying4 (typ_field hf 2 rfl (n := 1) (by kernel_rfl))
    obtain ⟨x3, e3⟩ := typ_bool (ds := [a3]) Tryz.underlying4 (typ_field hf 3 rfl (n := 1) (by kernel_rfl))
    cases e0; cases e1; cases e2; cases e3
    exact ⟨{ fData := x0, fMade := x1, fGone := x2, fDead := x3 }, rfl, ⟨i0a, i1⟩⟩
theorem typ_GEntry {k : Nat} {ds : List D} (h : Typ Tryz.prog (k + 5) 188 ds) : ∃ x : GEntry, ds = x.row ∧ x.ok := by
  obtain ⟨hl, hf⟩ := typ_struct Tryz.underlying188 h
  rw [show Tryz.prog.cellsOf 188 = 3 by kernel_rfl] at hl
  match ds, hl, hf with
  | [a0, a1, a2], _, hf =>
    obtain ⟨x0, e0, i0⟩ := typ_str (ds := [a0]) Tryz.underlying9 (typ_field hf 0 rfl (n := 1) (by kernel_rfl))
    obtain ⟨x1, e1, i1⟩ := typ_int (ds := [a1]) Tryz.underlying3 (typ_field hf 1 rfl (n := 1) (by kernel_rfl))
    obtain ⟨r2, e2, i2a, w2⟩ := typ_slc (ds := [a2]) Tryz.underlying186 (typ_field hf 2 rfl (n := 1) (by kernel_rfl))
    rw [show Tryz.prog.cellsOf 270 = 4 by kernel_rfl] at e2
    obtain ⟨x2, rfl, i2b⟩ := rows_of (p := GVersion.ok) (f := GVersion.row) r2 fun r hr => typ_GVersion (w2 r hr)
    rw [List.length_map] at i2a
    cases e0; cases e1; cases e2
    exact ⟨{ fPath := x0, fFirst := x1, fVersions := x2 }, rfl, ⟨i0, i1, i2a, i2b⟩⟩
theorem typ_GStore {k : Nat} {ds : List D} (h : Typ Tryz.prog (k + 7) 41 ds) : ∃ x : GStore, ds = x.row ∧ x.ok := by
  obtain ⟨hl, hf⟩ := typ_struct Tryz.underlying41 h
  rw [show Tryz.prog.cellsOf 41 = 1 by kernel_rfl] at hl
  match ds, hl, hf with
  | [a0], _, hf =>
    obtain ⟨r0, e0, i0a, w0⟩ := typ_slc (ds := [a0]) Tryz.underlying39 (typ_field hf 0 rfl (n := 1) (by kernel_rfl))
    rw [show Tryz.prog.cellsOf 188 = 3 by kernel_rfl] at e0
    obtain ⟨x0, rfl, i0b⟩ := rows_of (p := GEntry.ok) (f := GEntry.row) r0 fun r hr => typ_GEntry (w0 r hr)
    rw [List.length_map] at i0a
    cases e0
    exact ⟨{ fEntries := x0 }, rfl, ⟨i0a, i0b⟩⟩
theorem typ_GNote {k : Nat} {ds : List D} (h : Typ Tryz.prog (k + 2) 196 ds) : ∃ x : GNote, ds = x.row ∧ x.ok := by
  obtain ⟨hl, hf⟩ := typ_struct Tryz.underlying196 h
  rw [show Tryz.prog.cellsOf 196 = 7 by kernel_rfl] at hl
  match ds, hl, hf with
  | [a0, a1, a2, a3, a4, a5, a6], _, hf =>
    obtain ⟨x0, e0, i0⟩ := typ_int (ds := [a0]) Tryz.underlying3 (typ_field hf 0 rfl (n := 1) (by kernel_rfl))
    obtain ⟨x1, e1, i1⟩ := typ_int (ds := [a1]) Tryz.underlying3 (typ_field hf 1 rfl (n := 1) (by kernel_rfl))
    obtain ⟨x2, e2, i2⟩ := typ_int (ds := [a2]) Tryz.underlying3 (typ_field hf 2 rfl (n := 1) (by kernel_rfl))
    obtain ⟨x3, e3, i3⟩ := typ_str (ds := [a3]) Tryz.underlying9 (typ_field hf 3 rfl (n := 1) (by kernel_rfl))
    obtain ⟨x4, e4, i4⟩ := typ_str (ds := [a4]) Tryz.underlying9 (typ_field hf 4 rfl (n := 1) (by kernel_rfl))
    obtain ⟨x5, e5, i5⟩ := typ_int (ds := [a5]) Tryz.underlying3 (typ_field hf 5 rfl (n := 1) (by kernel_rfl))
    obtain ⟨x6, e6, i6⟩ := typ_int (ds := [a6]) Tryz.underlying3 (typ_field hf 6 rfl (n := 1) (by kernel_rfl))
    cases e0; cases e1; cases e2; cases e3; cases e4; cases e5; cases e6
    exact ⟨{ fSeq := x0, fAt := x1, fWho := x2, fWhat := x3, fPath := x4, fCode := x5, fSum := x6 }, rfl, ⟨i0, i1, i2, i3, i4, i5, i6⟩⟩
theorem typ_GChain {k : Nat} {ds : List D} (h : Typ Tryz.prog (k + 4) 47 ds) : ∃ x : GChain, ds = x.row ∧ x.ok := by
  obtain ⟨hl, hf⟩ := typ_struct Tryz.underlying47 h
  rw [show Tryz.prog.cellsOf 47 = 3 by kernel_rfl] at hl
  match ds, hl, hf with
  | [a0, a1, a2], _, hf =>
    obtain ⟨x0, e0, i0⟩ := typ_int (ds := [a0]) Tryz.underlying3 (typ_field hf 0 rfl (n := 1) (by kernel_rfl))
    obtain ⟨x1, e1, i1⟩ := typ_int (ds := [a1]) Tryz.underlying3 (typ_field hf 1 rfl (n := 1) (by kernel_rfl))
    obtain ⟨r2, e2, i2a, w2⟩ := typ_slc (ds := [a2]) Tryz.underlying45 (typ_field hf 2 rfl (n := 1) (by kernel_rfl))
    rw [show Tryz.prog.cellsOf 196 = 7 by kernel_rfl] at e2
    obtain ⟨x2, rfl, i2b⟩ := rows_of (p := GNote.ok) (f := GNote.row) r2 fun r hr => typ_GNote (w2 r hr)
    rw [List.length_map] at i2a
    cases e0; cases e1; cases e2
    exact ⟨{ fFirst := x0, fSalt := x1, fNotes := x2 }, rfl, ⟨i0, i1, i2a, i2b⟩⟩
theorem typ_GBox {k : Nat} {ds : List D} (h : Typ Tryz.prog (k + 3) 191 ds) : ∃ x : GBox, ds = x.row ∧ x.ok := by
  obtain ⟨hl, hf⟩ := typ_struct Tryz.underlying191 h
  rw [show Tryz.prog.cellsOf 191 = 3 by kernel_rfl] at hl
  match ds, hl, hf with
  | [a0, a1, a2], _, hf =>
    obtain ⟨x0, e0, i0⟩ := typ_int (ds := [a0]) Tryz.underlying3 (typ_field hf 0 rfl (n := 1) (by kernel_rfl))
    obtain ⟨x1, e1, i1a⟩ := typ_bytes (ds := [a1]) Tryz.underlying48 Tryz.underlying5 (by kernel_rfl) (typ_field hf 1 rfl (n := 1) (by kernel_rfl))
    obtain ⟨x2, e2, i2⟩ := typ_int (ds := [a2]) Tryz.underlying3 (typ_field hf 2 rfl (n := 1) (by kernel_rfl))
    cases e0; cases e1; cases e2
    exact ⟨{ fNonce := x0, fData := x1, fTag := x2 }, rfl, ⟨i0, i1a, i2⟩⟩
theorem typ_GWrap {k : Nat} {ds : List D} (h : Typ Tryz.prog (k + 4) 193 ds) : ∃ x : GWrap, ds = x.row ∧ x.ok := by
  obtain ⟨hl, hf⟩ := typ_struct Tryz.underlying193 h
  rw [show Tryz.prog.cellsOf 193 = 6 by kernel_rfl] at hl
  match ds, hl, hf with
  | [a0, a1, a2, a3, a4, a5], _, hf =>
    obtain ⟨x0, e0, i0⟩ := typ_int (ds := [a0]) Tryz.underlying3 (typ_field hf 0 rfl (n := 1) (by kernel_rfl))
    obtain ⟨x1, e1, i1⟩ := typ_int (ds := [a1]) Tryz.underlying3 (typ_field hf 1 rfl (n := 1) (by kernel_rfl))
    obtain ⟨x2, e2, i2⟩ := typ_str (ds := [a2]) Tryz.underlying9 (typ_field hf 2 rfl (n := 1) (by kernel_rfl))
    obtain ⟨x3, e3, i3⟩ := typ_GBox (ds := [a3, a4, a5]) (typ_field hf 3 rfl (n := 3) (by kernel_rfl))
    cases e0; cases e1; cases e2; cases e3
    exact ⟨{ fId := x0, fEnds := x1, fKind := x2, fBox := x3 }, rfl, ⟨i0, i1, i2, i3⟩⟩
theorem typ_GRack {k : Nat} {ds : List D} (h : Typ Tryz.prog (k + 6) 44 ds) : ∃ x : GRack, ds = x.row ∧ x.ok := by
  obtain ⟨hl, hf⟩ := typ_struct Tryz.underlying44 h
  rw [show Tryz.prog.cellsOf 44 = 3 by kernel_rfl] at hl
  match ds, hl, hf with
  | [a0, a1, a2], _, hf =>
    obtain ⟨x0, e0, i0⟩ := typ_int (ds := [a0]) Tryz.underlying3 (typ_field hf 0 rfl (n := 1) (by kernel_rfl))
    obtain ⟨x1, e1, i1⟩ := typ_int (ds := [a1]) Tryz.underlying3 (typ_field hf 1 rfl (n := 1) (by kernel_rfl))
    obtain ⟨r2, e2, i2a, w2⟩ := typ_slc (ds := [a2]) Tryz.underlying42 (typ_field hf 2 rfl (n := 1) (by kernel_rfl))
    rw [show Tryz.prog.cellsOf 193 = 6 by kernel_rfl] at e2
    obtain ⟨x2, rfl, i2b⟩ := rows_of (p := GWrap.ok) (f := GWrap.row) r2 fun r hr => typ_GWrap (w2 r hr)
    rw [List.length_map] at i2a
    cases e0; cases e1; cases e2
    exact ⟨{ fKey := x0, fNext := x1, fWraps := x2 }, rfl, ⟨i0, i1, i2a, i2b⟩⟩
theorem typ_GDisk {k : Nat} {ds : List D} (h : Typ Tryz.prog (k + 3) 50 ds) : ∃ x : GDisk, ds = x.row ∧ x.ok := by
  obtain ⟨hl, hf⟩ := typ_struct Tryz.underlying50 h
  rw [show Tryz.prog.cellsOf 50 = 2 by kernel_rfl] at hl
  match ds, hl, hf with
  | [a0, a1], _, hf =>
    obtain ⟨x0, e0, i0a⟩ := typ_bytes (ds := [a0]) Tryz.underlying48 Tryz.underlying5 (by kernel_rfl) (typ_field hf 0 rfl (n := 1) (by kernel_rfl))
    obtain ⟨x1, e1, i1a⟩ := typ_bytes (ds := [a1]) Tryz.underlying48 Tryz.underlying5 (by kernel_rfl) (typ_field hf 1 rfl (n := 1) (by kernel_rfl))
    cases e0; cases e1
    exact ⟨{ fSafe := x0, fLoose := x1 }, rfl, ⟨i0a, i1a⟩⟩
theorem typ_GState {k : Nat} {ds : List D} (h : Typ Tryz.prog (k + 8) 52 ds) : ∃ x : GState, ds = x.row ∧ x.ok := by
  obtain ⟨hl, hf⟩ := typ_struct Tryz.underlying52 h
  rw [show Tryz.prog.cellsOf 52 = 22 by kernel_rfl] at hl
  match ds, hl, hf with
  | [a0, a1, a2, a3, a4, a5, a6, a7, a8, a9, a10, a11, a12, a13, a14, a15, a16, a17, a18, a19, a20, a21], _, hf =>
    obtain ⟨x0, e0, i0⟩ := typ_GWorld (ds := [a0, a1, a2, a3, a4, a5, a6, a7, a8, a9]) (typ_field hf 0 rfl (n := 10) (by kernel_rfl))
    obtain ⟨r1, e1, i1a, w1⟩ := typ_slc (ds := [a10]) Tryz.underlying37 (typ_field hf 1 rfl (n := 1) (by kernel_rfl))
    rw [show Tryz.prog.cellsOf 132 = 2 by kernel_rfl] at e1
    obtain ⟨x1, rfl, i1b⟩ := rows_of (p := GPolicy.ok) (f := GPolicy.row) r1 fun r hr => typ_GPolicy (w1 r hr)
    rw [List.length_map] at i1a
    obtain ⟨r2, e2, i2a, w2⟩ := typ_slc (ds := [a11]) Tryz.underlying38 (typ_field hf 2 rfl (n := 1) (by kernel_rfl))
    rw [show Tryz.prog.cellsOf 135 = 4 by kernel_rfl] at e2
    obtain ⟨x2, rfl, i2b⟩ := rows_of (p := GRole.ok) (f := GRole.row) r2 fun r hr => typ_GRole (w2 r hr)
    rw [List.length_map] at i2a
    obtain ⟨x3, e3, i3⟩ := typ_GStore (ds := [a12]) (typ_field hf 3 rfl (n := 1) (by kernel_rfl))
    obtain ⟨x4, e4, i4⟩ := typ_GRack (ds := [a13, a14, a15]) (typ_field hf 4 rfl (n := 3) (by kernel_rfl))
    obtain ⟨x5, e5, i5⟩ := typ_GChain (ds := [a16, a17, a18]) (typ_field hf 5 rfl (n := 3) (by kernel_rfl))
    obtain ⟨x6, e6, i6⟩ := typ_GDisk (ds := [a19, a20]) (typ_field hf 6 rfl (n := 2) (by kernel_rfl))
    obtain ⟨x7, e7, i7⟩ := typ_int (ds := [a21]) Tryz.underlying3 (typ_field hf 7 rfl (n := 1) (by kernel_rfl))
    cases e0; cases e1; cases e2; cases e3; cases e4; cases e5; cases e6; cases e7
    exact ⟨{ fWorld := x0, fPolicies := x1, fRoles := x2, fStore := x3, fRack := x4, fChain := x5, fDisk := x6, fKey := x7 }, rfl, ⟨i0, i1a, i1b, i2a, i2b, i3, i4, i5, i6, i7⟩⟩
theorem typ_GPair {k : Nat} {ds : List D} (h : Typ Tryz.prog (k + 9) 54 ds) : ∃ x : GPair, ds = x.row ∧ x.ok := by
  obtain ⟨hl, hf⟩ := typ_struct Tryz.underlying54 h
  rw [show Tryz.prog.cellsOf 54 = 47 by kernel_rfl] at hl
  match ds, hl, hf with
  | a0 :: a1 :: a2 :: a3 :: a4 :: a5 :: a6 :: a7 :: a8 :: a9 :: a10 :: a11 :: a12 :: a13 :: a14 :: a15 :: a16 :: a17 :: a18 :: a19 :: a20 :: a21 :: a22 :: a23 :: a24 :: a25 :: a26 :: a27 :: a28 :: a29 :: a30 :: a31 :: a32 :: a33 :: a34 :: a35 :: a36 :: a37 :: a38 :: a39 :: a40 :: a41 :: a42 :: a43 :: a44 :: a45 :: a46 :: [], _, hf =>
    obtain ⟨x0, e0, i0⟩ := typ_GState (ds := [a0, a1, a2, a3, a4, a5, a6, a7, a8, a9, a10, a11, a12, a13, a14, a15, a16, a17, a18, a19, a20, a21]) (typ_field hf 0 rfl (n := 22) (by kernel_rfl))
    obtain ⟨x1, e1, i1⟩ := typ_GState (ds := [a22, a23, a24, a25, a26, a27, a28, a29, a30, a31, a32, a33, a34, a35, a36, a37, a38, a39, a40, a41, a42, a43]) (typ_field hf 1 rfl (n := 22) (by kernel_rfl))
    obtain ⟨x2, e2, i2⟩ := typ_int (ds := [a44]) Tryz.underlying3 (typ_field hf 2 rfl (n := 1) (by kernel_rfl))
    obtain ⟨x3, e3, i3⟩ := typ_int (ds := [a45]) Tryz.underlying3 (typ_field hf 3 rfl (n := 1) (by kernel_rfl))
    obtain ⟨x4, e4⟩ := typ_bool (ds := [a46]) Tryz.underlying4 (typ_field hf 4 rfl (n := 1) (by kernel_rfl))
    cases e0; cases e1; cases e2; cases e3; cases e4
    exact ⟨{ fLead := x0, fBack := x1, fSame := x2, fGen := x3, fDown := x4 }, rfl, ⟨i0, i1, i2, i3⟩⟩
end Go.Proofs.YtbjmakmahooaiaaGreat.Ab


namespace Go.Proofs.YtbjmakmahooaiaaGreat
open Go.ChangeShapes Go.WideShapes Go.ChangeAt Go.RowKit Go.Proofs.YtbjmakmahooaiaaGreat.Ab
theorem Tryz.own : ownKnob Tryz.prog.godebug = none := by kernel_rfl
theorem Tryz.laidOut : laidOutB Tryz.prog = true := by kernel_rfl
set_option maxRecDepth 100000 in
theorem f_lifted (os : Os) (started : os.Started) (H : Type) (enc : TypeId × Value → H) :
    ReturnsInHanded {} Tryz.checked os 3 .any (Rows.fnExactLagOfSpec.pre6 enc Tryz.prog Tryz.f3 Rows.fnExactLagOfRow.domain false) (Rows.fnExactLagOfSpec.post enc Tryz.prog Tryz.f3 false true false false) := by
  refine returnsInHanded_of_change (C := Tryz.checked) Tryz.own started (by kernel_rfl) Tryz.func3
    (ChangeSpec.witness6 (enc := enc) (C := Tryz.checked) false ⟨#[], #[.agg #[.int .i64 0, .int .i64 0, .int .i64 0, .slice none 0 0, .slice none 0 0, .slice none 0 0, .int .i64 0, .int .i64 0, .slice none 0 0, .slice none 0 0, .slice none 0 0, .slice none 0 0, .slice none 0 0, .int .i64 0, .int .i64 0, .slice none 0 0, .int .i64 0, .int .i64 0, .slice none 0 0, .slice none 0 0, .slice none 0 0, .int .i64 0, .int .i64 0, .int .i64 0, .int .i64 0, .slice none 0 0, .slice none 0 0, .slice none 0 0, .int .i64 0, .int .i64 0, .slice none 0 0, .slice none 0 0, .slice none 0 0, .slice none 0 0, .slice none 0 0, .int .i64 0, .int .i64 0, .slice none 0 0, .int .i64 0, .int .i64 0, .slice none 0 0, .slice none 0 0, .slice none 0 0, .int .i64 0, .int .i64 0, .int .i64 0, .bool false]], []⟩ 12 (by kernel_rfl) (by kernel_rfl) (by kernel_rfl) (by kernel_rfl)) ?_
  intro W base args ds gs before hval hW _ _
  refine law_contract (P := Tryz.prog) (tb := 4) Tryz.laidOut (by kernel_rfl) (by kernel_rfl) rfl rfl rfl (fun ds h => by match ds with | [d] => rfl) (fun dss h => ?_) W base args ds gs before hval hW
  obtain ⟨d, rfl, h1⟩ := fits_one (P := Tryz.prog) (t := 54) h
  obtain ⟨x, rfl, hok⟩ := typ_GPair (k := 3) h1
  exact ⟨_, law_LagOf x hok⟩
theorem f_holds : Rows.FnExactLagOfSaid :=
  OpenClaim.holds_of_wide 3 Tryz.f3 rfl rfl rfl rfl rfl rfl rfl ⟨rfl, rfl, rfl, rfl, rfl⟩ rfl rfl rfl rfl rfl (by kernel_rfl) Tryz.func3 (by kernel_rfl)
    (of_decide_eq_true (by kernel_rfl)) (by unfold Func.isWrapper; first | (rw [if_pos (by decide +kernel)]; kernel_rfl) | (rw [if_neg (by decide +kernel)]; exact ⟨rfl, rfl⟩))
    (fun os started H enc _ => f_lifted os started H enc)
end Go.Proofs.YtbjmakmahooaiaaGreat
