/-
  A part of a proof about the given program; what is proved is said where each theorem stands.
-/
import Derived.Test.YtdckkojgnkoabaaGreatDoorRows
import Derived.Test.YtdckkojgnkoabaaGreatDoorTie
import Derived.Test.YtdckkojgnkoabaaGreatDoorCards
import Derived.ProofKit
import Derived.Lay
import Derived.LaidMore
import Derived.LaidLaws
import Derived.OpenShut
import Derived.Stop.Joined
import Derived.SevenTiedAt
import Derived.Test.YtdckkojgnkoabaaGreatDoorFrameA
import Derived.Test.YtdckkojgnkoabaaGreatDoorFrameB
import Derived.Test.YtdckkojgnkoabaaGreatDoorFrameC
import Derived.Test.YtdckkojgnkoabaaGreatDoorFrameD
import Derived.Test.YtdckkojgnkoabaaGreatDoorFrameE
import Derived.Test.YtdckkojgnkoabaaGreatDoorHead
import Derived.Test.YtdckkojgnkoabaaGreatDoorShelf
import Derived.Test.YtdckkojgnkoabaaGreatDoorPartA
import Derived.Test.YtdckkojgnkoabaaGreatDoorPartB
import Derived.Test.YtdckkojgnkoabaaGreatDoorPartC
import Derived.Test.YtdckkojgnkoabaaGreatDoorPartD
import Derived.Test.YtdckkojgnkoabaaGreatDoorPartE
import Derived.Test.YtdckkojgnkoabaaGreatDoorTyp
namespace Go.Proofs.YtdckkojgnkoabaaGreatDoor
open Go.ChangeShapes Go.WideShapes Go.ChangeAt Go.RowKit Go.Proofs.YtdckkojgnkoabaaGreatDoor.Ab
theorem Tryz.own : ownKnob Tryz.prog.godebug = none := by kernel_rfl
theorem Tryz.laidOut : laidOutB Tryz.prog = true := by kernel_rfl
noncomputable abbrev laidL : List (String × DataW Unit) := Rows.fnExactPassTimeRow.laid
def GL : GV := fun b => if b = 0 then some intCell else none
instance : MaxL GL := ⟨rfl⟩
theorem all_met (os : Os) (args : Array Value) : laidMetH Tryz.prog laidL ((World.laidAll Tryz.prog os laidL).forCall (fun _ _ => 0) ⟨#[], args, []⟩).memory := by
  rw [MakeChecks.laidMetH_plain _ _ _ (by kernel_rfl)]; exact laidMet_laidAll _ (by kernel_rfl) (by kernel_rfl)
theorem of_laid {W : World} (_h : laidMetH Tryz.prog laidL W) (hsh : W.ShapedOpen Tryz.prog) : ∀ b p, GL b = some p → ∃ ob, W.heap[b]? = some ob ∧ p ob := by
  intro b p hb
  simp only [GL] at hb
  split at hb
  · rename_i e
    subst e
    cases hb
    obtain ⟨cs, t, fr, hh, m, hm⟩ := shaped_int (P := Tryz.prog) hsh (g := 0) (of_decide_eq_true (by kernel_rfl)) (by kernel_rfl) (by kernel_rfl) (by kernel_rfl) Tryz.underlying3
    exact ⟨_, hh, m, hm⟩
  · cases hb
set_option maxRecDepth 100000 in
theorem lifted (os : Os) (started : os.Started) (H : Type) (enc : TypeId × Value → H) :
    ReturnsInHanded {} Tryz.checked os 9 .any (fun w args => (Rows.fnExactPassTimeSpec.pre enc Tryz.prog Tryz.f9 [] false w args ∧ laidMetH Tryz.prog laidL w) ∧ sizedMet enc Tryz.prog Tryz.f9 (OpenSpec.ofChange Rows.fnExactPassTimeSpec) false w args)
      (Rows.fnExactPassTimeSpec.post enc Tryz.prog Tryz.f9 false true false false) := by
  refine lift_shaped (C := Tryz.checked) (X := fun w => laidMetH Tryz.prog laidL w) (fun _ _ hh h => h.of_heap hh) Tryz.own started (by kernel_rfl) Tryz.func9
    (ChangeSpec.witness_shaped (enc := enc) (C := Tryz.checked) (os := os) (X := fun w _ => laidMetH Tryz.prog laidL w) false (World.laidAll Tryz.prog os laidL) #[.agg #[.int .i64 0, .int .i64 0, .int .i64 0, .slice none 0 0, .slice none 0 0, .slice none 0 0, .int .i64 0, .int .i64 0, .slice none 0 0, .slice none 0 0], .int .i64 0] 8 (World.laidAll_os _ _ _) (World.shaped_of_ZipB (by kernel_rfl) (by kernel_rfl)) (by kernel_rfl) (by kernel_rfl) (by kernel_rfl) (all_met os _)) ?_
  intro W base args ds gs before hval hW hL hsh
  refine law_contractG (P := Tryz.prog) GL (tb := 4) Tryz.laidOut (by kernel_rfl) (by kernel_rfl) rfl rfl rfl (fun ds h => by match ds with | [d0, d1] => rfl) (fun dss h => ?_) W (of_laid hL hsh) base args ds gs before hval hW
  obtain ⟨d0, d1, rfl, h0, h1⟩ := fits_two (P := Tryz.prog) (t := 36) (u := 3) h
  obtain ⟨w, rfl, hok⟩ := typ_GWorld (k := 6) h0
  obtain ⟨i1, rfl, hi1⟩ := typ_int Tryz.underlying3 h1
  exact ⟨_, law_PassTime w i1 hok⟩
theorem fact1 : Tryz.prog.inPlace 9 = Rows.fnExactPassTimeRow.inPlace := by kernel_rfl
theorem fact2 : Tryz.prog.unfollowed 9 = Rows.fnExactPassTimeRow.unfollowed := by kernel_rfl
theorem fact3 : Tryz.prog.recurses 9 = Rows.fnExactPassTimeRow.recurses := by kernel_rfl
theorem fact4 : Tryz.prog.varsNamed 9 = Rows.fnExactPassTimeRow.named := by kernel_rfl
theorem facts : joinedFacts Tryz.prog 9 Tryz.f9 Rows.fnExactPassTimeSpec Rows.fnExactPassTimeRow = true := by
  unfold joinedFacts
  rw [fact1, fact2, fact3, fact4]
  kernel_rfl
theorem row_holds : Rows.FnExactPassTimeSaid :=
  OpenClaim.holds_of_wide 9 Tryz.f9 rfl rfl rfl rfl rfl rfl rfl ⟨rfl, rfl, rfl, rfl, rfl⟩ rfl rfl rfl rfl rfl (by kernel_rfl) Tryz.func9 facts
    (of_decide_eq_true (by kernel_rfl)) (by unfold Func.isWrapper; first | (rw [if_pos (by decide +kernel)]; kernel_rfl) | (rw [if_neg (by decide +kernel)]; exact ⟨rfl, rfl⟩))
    (fun os started H enc _ => lifted os started H enc)
end Go.Proofs.YtdckkojgnkoabaaGreatDoor
