/-
  A part of a proof about the given program; what is proved is said where each theorem stands.
-/
import Derived.Test.YtmihpclfdicfkaaDoorRows
import Derived.Test.YtmihpclfdicfkaaDoorTie
import Derived.Test.YtmihpclfdicfkaaDoorCards
import Derived.ProofKit
import Derived.Lay
import Derived.LaidMore
import Derived.LaidLaws
import Derived.OpenShut
import Derived.Stop.Joined
import Derived.SevenTiedAt
import Derived.Test.YtmihpclfdicfkaaDoorFrameA
import Derived.Test.YtmihpclfdicfkaaDoorFrameB
import Derived.Test.YtmihpclfdicfkaaDoorFrameC
import Derived.Test.YtmihpclfdicfkaaDoorFrameD
import Derived.Test.YtmihpclfdicfkaaDoorFrameE
import Derived.Test.YtmihpclfdicfkaaDoorShelf
import Derived.Test.YtmihpclfdicfkaaDoorCodesA
import Derived.Test.YtmihpclfdicfkaaDoorCodesB
import Derived.Test.YtmihpclfdicfkaaDoorCodesC
import Derived.Test.YtmihpclfdicfkaaDoorPartA
import Derived.Test.YtmihpclfdicfkaaDoorPartB
import Derived.Test.YtmihpclfdicfkaaDoorPartC
import Derived.Test.YtmihpclfdicfkaaDoorPartD
import Derived.Test.YtmihpclfdicfkaaDoorPartE
namespace Go.Proofs.YtmihpclfdicfkaaDoor
open Go.ChangeShapes Go.WideShapes Go.ChangeAt Go.RowKit Go.Proofs.YtmihpclfdicfkaaDoor.Ab
theorem Tryd.own : ownKnob Tryd.prog.godebug = none := by kernel_rfl
theorem Tryd.laidOut : laidOutB Tryd.prog = true := by kernel_rfl
noncomputable abbrev laidL : List (String × DataW Unit) := Rows.fnWrapsRow.laid
def GL : GV := fun b => if b = 0 then some intCell else none
instance : MaxL GL := ⟨rfl⟩
theorem all_met (os : Os) (args : Array Value) : laidMetH Tryd.prog laidL ((World.laidAll Tryd.prog os laidL).forCall (fun _ _ => 0) ⟨#[], args, []⟩).memory := by
  rw [MakeChecks.laidMetH_plain _ _ _ (by kernel_rfl)]; exact laidMet_laidAll _ (by kernel_rfl) (by kernel_rfl)
theorem of_laid {W : World} (_h : laidMetH Tryd.prog laidL W) (hsh : W.ShapedOpen Tryd.prog) : ∀ b p, GL b = some p → ∃ ob, W.heap[b]? = some ob ∧ p ob := by
  intro b p hb
  simp only [GL] at hb
  split at hb
  · rename_i e
    subst e
    cases hb
    obtain ⟨cs, t, fr, hh, m, hm⟩ := shaped_int (P := Tryd.prog) hsh (g := 0) (of_decide_eq_true (by kernel_rfl)) (by kernel_rfl) (by kernel_rfl) (by kernel_rfl) Tryd.underlying3
    exact ⟨_, hh, m, hm⟩
  · cases hb
set_option maxRecDepth 100000 in
theorem lifted (os : Os) (started : os.Started) (H : Type) (enc : TypeId × Value → H) :
    ReturnsInHanded {} Tryd.checked os 4 .any (fun w args => (Rows.fnWrapsSpec.pre enc Tryd.prog Tryd.f4 [] false w args ∧ laidMetH Tryd.prog laidL w) ∧ sizedMet enc Tryd.prog Tryd.f4 (OpenSpec.ofChange Rows.fnWrapsSpec) false w args)
      (Rows.fnWrapsSpec.post enc Tryd.prog Tryd.f4 false true false false) := by
  refine lift_shaped (C := Tryd.checked) (X := fun w => laidMetH Tryd.prog laidL w) (fun _ _ hh h => h.of_heap hh) Tryd.own started (by kernel_rfl) Tryd.func4
    (ChangeSpec.witness_shaped (enc := enc) (C := Tryd.checked) (os := os) (X := fun w _ => laidMetH Tryd.prog laidL w) false (World.laidAll Tryd.prog os laidL) #[.slice none 0 0] 8 (World.laidAll_os _ _ _) (World.shaped_of_ZipB (by kernel_rfl) (by kernel_rfl)) (by kernel_rfl) (by kernel_rfl) (by kernel_rfl) (all_met os _)) ?_
  intro W base args ds gs before hval hW hL hsh
  refine law_contractG (P := Tryd.prog) GL (tb := 4) Tryd.laidOut (by kernel_rfl) (by kernel_rfl) rfl rfl rfl (fun ds h => by match ds with | [d0] => rfl) (fun dss h => ?_) W (of_laid hL hsh) base args ds gs before hval hW
  obtain ⟨d0, rfl, h0⟩ := fits_one (P := Tryd.prog) (t := 38) h
  obtain ⟨a, rfl, ha⟩ := typ_bytes Tryd.underlying38 Tryd.underlying5 (by kernel_rfl) h0
  exact ⟨_, law_WrapsFn a ha⟩
theorem fact1 : Tryd.prog.inPlace 4 = Rows.fnWrapsRow.inPlace := by kernel_rfl
theorem fact2 : Tryd.prog.unfollowed 4 = Rows.fnWrapsRow.unfollowed := by kernel_rfl
theorem fact3 : Tryd.prog.recurses 4 = Rows.fnWrapsRow.recurses := by kernel_rfl
theorem fact4 : Tryd.prog.varsNamed 4 = Rows.fnWrapsRow.named := by kernel_rfl
theorem facts : joinedFacts Tryd.prog 4 Tryd.f4 Rows.fnWrapsSpec Rows.fnWrapsRow = true := by
  unfold joinedFacts
  rw [fact1, fact2, fact3, fact4]
  kernel_rfl
theorem row_holds : Rows.FnWrapsSaid :=
  OpenClaim.holds_of_wide 4 Tryd.f4 rfl rfl rfl rfl rfl rfl rfl ⟨rfl, rfl, rfl, rfl, rfl⟩ rfl rfl rfl rfl rfl (by kernel_rfl) Tryd.func4 facts
    (of_decide_eq_true (by kernel_rfl)) (by unfold Func.isWrapper; first | (rw [if_pos (by decide +kernel)]; kernel_rfl) | (rw [if_neg (by decide +kernel)]; exact ⟨rfl, rfl⟩))
    (fun os started H enc _ => lifted os started H enc)
end Go.Proofs.YtmihpclfdicfkaaDoor
