/-
  A part of a proof about the given program; what is proved is said where each theorem stands.
-/
import Derived.Test.YtdckkojgnkoabaaGreatDoorFrameA
import Derived.Test.YtdckkojgnkoabaaGreatDoorFrameB
import Derived.Test.YtdckkojgnkoabaaGreatDoorFrameC
import Derived.Test.YtdckkojgnkoabaaGreatDoorFrameD
import Derived.Test.YtdckkojgnkoabaaGreatDoorFrameE
import Derived.Test.YtdckkojgnkoabaaGreatDoorHead
import Derived.Test.YtdckkojgnkoabaaGreatDoorShelf
import Derived.Test.YtdckkojgnkoabaaGreatDoorPartA
import Derived.Test.YtdckkojgnkoabaaGreatDoorPartB
import Derived.Test.YtdckkojgnkoabaaGreatDoorPartC
import Derived.Test.YtdckkojgnkoabaaGreatDoorPartD
import Derived.Test.YtdckkojgnkoabaaGreatDoorPartE
set_option linter.unusedVariables false
set_option maxRecDepth 100000
namespace Go.Proofs.YtdckkojgnkoabaaGreatDoor.Ab
open Go.Proofs
theorem typ_GToken {k : Nat} {ds : List D} (h : Typ Tryz.prog (k + 3) 206 ds) : ∃ x : GToken, ds = x.row ∧ x.ok := by
  obtain ⟨hl, hf⟩ := typ_struct Tryz.underlying206 h
  rw [show Tryz.prog.cellsOf 206 = 7 by kernel_rfl] at hl
  match ds, hl, hf with
  | [a0, a1, a2, a3, a4, a5, a6], _, hf =>
    obtain ⟨x0, e0, i0⟩ := typ_int (ds := [a0]) Tryz.underlying3 (typ_field hf 0 rfl (n := 1) (by kernel_rfl))
    obtain ⟨x1, e1, i1⟩ := typ_int (ds := [a1]) Tryz.underlying3 (typ_field hf 1 rfl (n := 1) (by kernel_rfl))
    obtain ⟨x2, e2, i2a, i2b⟩ := typ_strs (ds := [a2]) Tryz.underlying57 Tryz.underlying9 (by kernel_rfl) (typ_field hf 2 rfl (n := 1) (by kernel_rfl))
    obtain ⟨x3, e3, i3⟩ := typ_int (ds := [a3]) Tryz.underlying3 (typ_field hf 3 rfl (n := 1) (by kernel_rfl))
    obtain ⟨x4, e4, i4⟩ := typ_int (ds := [a4]) Tryz.underlying3 (typ_field hf 4 rfl (n := 1) (by kernel_rfl))
    obtain ⟨x5, e5, i5⟩ := typ_int (ds := [a5]) Tryz.underlying3 (typ_field hf 5 rfl (n := 1) (by kernel_rfl))
    obtain ⟨x6, e6, i6⟩ := typ_int (ds := [a6]) Tryz.underlying3 (typ_field hf 6 rfl (n := 1) (by kernel_rfl))
    cases e0; cases e1; cases e2; cases e3; cases e4; cases e5; cases e6
    exact ⟨{ fId := x0, fParent := x1, fNames := x2, fMade := x3, fEnds := x4, fLimit := x5, fUses := x6 }, rfl, ⟨i0, i1, i2a, i2b, i3, i4, i5, i6⟩⟩
theorem typ_GForest {k : Nat} {ds : List D} (h : Typ Tryz.prog (k + 5) 24 ds) : ∃ x : GForest, ds = x.row ∧ x.ok := by
  obtain ⟨hl, hf⟩ := typ_struct Tryz.underlying24 h
  rw [show Tryz.prog.cellsOf 24 = 1 by kernel_rfl] at hl
  match ds, hl, hf with
  | [a0], _, hf =>
    obtain ⟨r0, e0, i0a, w0⟩ := typ_slc (ds := [a0]) Tryz.underlying22 (typ_field hf 0 rfl (n := 1) (by kernel_rfl))
    rw [show Tryz.prog.cellsOf 206 = 7 by kernel_rfl] at e0
    obtain ⟨x0, rfl, i0b⟩ := rows_of (p := GToken.ok) (f := GToken.row) r0 fun r hr => typ_GToken (w0 r hr)
    rw [List.length_map] at i0a
    cases e0
    exact ⟨{ fTokens := x0 }, rfl, ⟨i0a, i0b⟩⟩
theorem typ_GLease {k : Nat} {ds : List D} (h : Typ Tryz.prog (k + 2) 208 ds) : ∃ x : GLease, ds = x.row ∧ x.ok := by
  obtain ⟨hl, hf⟩ := typ_struct Tryz.underlying208 h
  rw [show Tryz.prog.cellsOf 208 = 6 by kernel_rfl] at hl
  match ds, hl, hf with
  | [a0, a1, a2, a3, a4, a5], _, hf =>
    obtain ⟨x0, e0, i0⟩ := typ_int (ds := [a0]) Tryz.underlying3 (typ_field hf 0 rfl (n := 1) (by kernel_rfl))
    obtain ⟨x1, e1, i1⟩ := typ_int (ds := [a1]) Tryz.underlying3 (typ_field hf 1 rfl (n := 1) (by kernel_rfl))
    obtain ⟨x2, e2, i2⟩ := typ_str (ds := [a2]) Tryz.underlying9 (typ_field hf 2 rfl (n := 1) (by kernel_rfl))
    obtain ⟨x3, e3, i3⟩ := typ_int (ds := [a3]) Tryz.underlying3 (typ_field hf 3 rfl (n := 1) (by kernel_rfl))
    obtain ⟨x4, e4, i4⟩ := typ_int (ds := [a4]) Tryz.underlying3 (typ_field hf 4 rfl (n := 1) (by kernel_rfl))
    obtain ⟨x5, e5, i5⟩ := typ_int (ds := [a5]) Tryz.underlying3 (typ_field hf 5 rfl (n := 1) (by kernel_rfl))
    cases e0; cases e1; cases e2; cases e3; cases e4; cases e5
    exact ⟨{ fId := x0, fToken := x1, fPath := x2, fMade := x3, fEnds := x4, fLimit := x5 }, rfl, ⟨i0, i1, i2, i3, i4, i5⟩⟩
theorem typ_GBook {k : Nat} {ds : List D} (h : Typ Tryz.prog (k + 4) 27 ds) : ∃ x : GBook, ds = x.row ∧ x.ok := by
  obtain ⟨hl, hf⟩ := typ_struct Tryz.underlying27 h
  rw [show Tryz.prog.cellsOf 27 = 1 by kernel_rfl] at hl
  match ds, hl, hf with
  | [a0], _, hf =>
    obtain ⟨r0, e0, i0a, w0⟩ := typ_slc (ds := [a0]) Tryz.underlying25 (typ_field hf 0 rfl (n := 1) (by kernel_rfl))
    rw [show Tryz.prog.cellsOf 208 = 6 by kernel_rfl] at e0
    obtain ⟨x0, rfl, i0b⟩ := rows_of (p := GLease.ok) (f := GLease.row) r0 fun r hr => typ_GLease (w0 r hr)
    rw [List.length_map] at i0a
    cases e0
    exact ⟨{ fLeases := x0 }, rfl, ⟨i0a, i0b⟩⟩
theorem typ_GUser {k : Nat} {ds : List D} (h : Typ Tryz.prog (k + 2) 210 ds) : ∃ x : GUser, ds = x.row ∧ x.ok := by
  obtain ⟨hl, hf⟩ := typ_struct Tryz.underlying210 h
  rw [show Tryz.prog.cellsOf 210 = 2 by kernel_rfl] at hl
  match ds, hl, hf with
  | [a0, a1], _, hf =>
    obtain ⟨x0, e0, i0⟩ := typ_str (ds := [a0]) Tryz.underlying9 (typ_field hf 0 rfl (n := 1) (by kernel_rfl))
    obtain ⟨x1, e1, i1⟩ := typ_str (ds := [a1]) Tryz.underlying9 (typ_field hf 1 rfl (n := 1) (by kernel_rfl))
    cases e0; cases e1
    exact ⟨{ fName := x0, fPass := x1 }, rfl, ⟨i0, i1⟩⟩
theorem typ_GFar {k : Nat} {ds : List D} (h : Typ Tryz.prog (k + 4) 30 ds) : ∃ x : GFar, ds = x.row ∧ x.ok := by
  obtain ⟨hl, hf⟩ := typ_struct Tryz.underlying30 h
  rw [show Tryz.prog.cellsOf 30 = 3 by kernel_rfl] at hl
  match ds, hl, hf with
  | [a0, a1, a2], _, hf =>
    obtain ⟨r0, e0, i0a, w0⟩ := typ_slc (ds := [a0]) Tryz.underlying28 (typ_field hf 0 rfl (n := 1) (by kernel_rfl))
    rw [show Tryz.prog.cellsOf 210 = 2 by kernel_rfl] at e0
    obtain ⟨x0, rfl, i0b⟩ := rows_of (p := GUser.ok) (f := GUser.row) r0 fun r hr => typ_GUser (w0 r hr)
    rw [List.length_map] at i0a
    obtain ⟨x1, e1, i1⟩ := typ_int (ds := [a1]) Tryz.underlying3 (typ_field hf 1 rfl (n := 1) (by kernel_rfl))
    obtain ⟨x2, e2, i2⟩ := typ_int (ds := [a2]) Tryz.underlying3 (typ_field hf 2 rfl (n := 1) (by kernel_rfl))
    cases e0; cases e1; cases e2
    exact ⟨{ fUsers := x0, fFail := x1, fMade := x2 }, rfl, ⟨i0a, i0b, i1, i2⟩⟩
theorem typ_GJob {k : Nat} {ds : List D} (h : Typ Tryz.prog (k + 2) 212 ds) : ∃ x : GJob, ds = x.row ∧ x.ok := by
  obtain ⟨hl, hf⟩ := typ_struct Tryz.underlying212 h
  rw [show Tryz.prog.cellsOf 212 = 3 by kernel_rfl] at hl
  match ds, hl, hf with
  | [a0, a1, a2], _, hf =>
    obtain ⟨x0, e0, i0⟩ := typ_str (ds := [a0]) Tryz.underlying9 (typ_field hf 0 rfl (n := 1) (by kernel_rfl))
    obtain ⟨x1, e1, i1⟩ := typ_int (ds := [a1]) Tryz.underlying3 (typ_field hf 1 rfl (n := 1) (by kernel_rfl))
    obtain ⟨x2, e2, i2⟩ := typ_int (ds := [a2]) Tryz.underlying3 (typ_field hf 2 rfl (n := 1) (by kernel_rfl))
    cases e0; cases e1; cases e2
    exact ⟨{ fName := x0, fAt := x1, fTries := x2 }, rfl, ⟨i0, i1, i2⟩⟩
theorem typ_GQueue {k : Nat} {ds : List D} (h : Typ Tryz.prog (k + 4) 33 ds) : ∃ x : GQueue, ds = x.row ∧ x.ok := by
  obtain ⟨hl, hf⟩ := typ_struct Tryz.underlying33 h
  rw [show Tryz.prog.cellsOf 33 = 1 by kernel_rfl] at hl
  match ds, hl, hf with
  | [a0], _, hf =>
    obtain ⟨r0, e0, i0a, w0⟩ := typ_slc (ds := [a0]) Tryz.underlying31 (typ_field hf 0 rfl (n := 1) (by kernel_rfl))
    rw [show Tryz.prog.cellsOf 212 = 3 by kernel_rfl] at e0
    obtain ⟨x0, rfl, i0b⟩ := rows_of (p := GJob.ok) (f := GJob.row) r0 fun r hr => typ_GJob (w0 r hr)
    rw [List.length_map] at i0a
    cases e0
    exact ⟨{ fJobs := x0 }, rfl, ⟨i0a, i0b⟩⟩
theorem typ_GOwned {k : Nat} {ds : List D} (h : Typ Tryz.prog (k + 2) 163 ds) : ∃ x : GOwned, ds = x.row ∧ x.ok := by
  obtain ⟨hl, hf⟩ := typ_struct Tryz.underlying163 h
  rw [show Tryz.prog.cellsOf 163 = 2 by kernel_rfl] at hl
  match ds, hl, hf with
  | [a0, a1], _, hf =>
    obtain ⟨x0, e0, i0⟩ := typ_int (ds := [a0]) Tryz.underlying3 (typ_field hf 0 rfl (n := 1) (by kernel_rfl))
    obtain ⟨x1, e1, i1⟩ := typ_str (ds := [a1]) Tryz.underlying9 (typ_field hf 1 rfl (n := 1) (by kernel_rfl))
    cases e0; cases e1
    exact ⟨{ fLease := x0, fName := x1 }, rfl, ⟨i0, i1⟩⟩
theorem typ_GWorld {k : Nat} {ds : List D} (h : Typ Tryz.prog (k + 6) 36 ds) : ∃ x : GWorld, ds = x.row ∧ x.ok := by
  obtain ⟨hl, hf⟩ := typ_struct Tryz.underlying36 h
  rw [show Tryz.prog.cellsOf 36 = 10 by kernel_rfl] at hl
  match ds, hl, hf with
  | [a0, a1, a2, a3, a4, a5, a6, a7, a8, a9], _, hf =>
    obtain ⟨x0, e0, i0⟩ := typ_int (ds := [a0]) Tryz.underlying3 (typ_field hf 0 rfl (n := 1) (by kernel_rfl))
    obtain ⟨x1, e1, i1⟩ := typ_int (ds := [a1]) Tryz.underlying3 (typ_field hf 1 rfl (n := 1) (by kernel_rfl))
    obtain ⟨x2, e2, i2⟩ := typ_int (ds := [a2]) Tryz.underlying3 (typ_field hf 2 rfl (n := 1) (by kernel_rfl))
    obtain ⟨x3, e3, i3⟩ := typ_GForest (ds := [a3]) (typ_field hf 3 rfl (n := 1) (by kernel_rfl))
    obtain ⟨x4, e4, i4⟩ := typ_GBook (ds := [a4]) (typ_field hf 4 rfl (n := 1) (by kernel_rfl))
    obtain ⟨x5, e5, i5⟩ := typ_GFar (ds := [a5, a6, a7]) (typ_field hf 5 rfl (n := 3) (by kernel_rfl))
    obtain ⟨x6, e6, i6⟩ := typ_GQueue (ds := [a8]) (typ_field hf 6 rfl (n := 1) (by kernel_rfl))
    obtain ⟨r7, e7, i7a, w7⟩ := typ_slc (ds := [a9]) Tryz.underlying34 (typ_field hf 7 rfl (n := 1) (by kernel_rfl))
    rw [show Tryz.prog.cellsOf 163 = 2 by kernel_rfl] at e7
    obtain ⟨x7, rfl, i7b⟩ := rows_of (p := GOwned.ok) (f := GOwned.row) r7 fun r hr => typ_GOwned (w7 r hr)
    rw [List.length_map] at i7a
    cases e0; cases e1; cases e2; cases e3; cases e4; cases e5; cases e6; cases e7
    exact ⟨{ fNow := x0, fNext := x1, fLost := x2, fForest := x3, fBook := x4, fFar := x5, fQueue := x6, fOwned := x7 }, rfl, ⟨i0, i1, i2, i3, i4, i5, i6, i7a, i7b⟩⟩
end Go.Proofs.YtdckkojgnkoabaaGreatDoor.Ab
