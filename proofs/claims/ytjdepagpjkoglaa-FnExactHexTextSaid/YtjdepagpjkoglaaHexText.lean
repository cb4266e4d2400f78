/-
  For every slice of bytes that it is called with, the law FnExactHexText of the given program returns true and leaves its argument as it was. Conditions: none beyond the row's own.
-/
import Derived.Test.YtjdepagpjkoglaaRows
import Derived.Test.YtjdepagpjkoglaaFrameA
import Derived.Test.YtjdepagpjkoglaaFrameB
import Derived.Test.YtjdepagpjkoglaaFrameC
import Derived.Test.YtjdepagpjkoglaaFrameD
import Derived.Test.YtjdepagpjkoglaaFrameE
import Derived.Test.YtjdepagpjkoglaaCodesHex
import Derived.Test.YtjdepagpjkoglaaHexA
namespace Go.Proofs.Ytjdepagpjkoglaa
open Go.ChangeShapes Go.WideShapes Go.ChangeAt Go.RowKit Go.Proofs.Ytjdepagpjkoglaa.Ab

theorem Try.own : ownKnob Try.prog.godebug = none := by kernel_rfl
theorem Try.laidOut : laidOutB Try.prog = true := by kernel_rfl

theorem f_lifted (os : Os) (started : os.Started) (H : Type) (enc : TypeId × Value → H) :
    ReturnsInHanded {} Try.checked os 3 .any (Rows.fnExactHexTextSpec.pre6 enc Try.prog Try.f3 Rows.fnExactHexTextRow.domain false) (Rows.fnExactHexTextSpec.post enc Try.prog Try.f3 false true false false) := by
  refine returnsInHanded_of_change (C := Try.checked) Try.own started (by kernel_rfl) Try.func3
    (ChangeSpec.witness6 (enc := enc) (C := Try.checked) false ⟨#[], #[.slice none 0 0], []⟩ 8 (by kernel_rfl) (by kernel_rfl) (by kernel_rfl) (by kernel_rfl)) ?_
  intro W base args ds gs before hval hW _ _
  refine law_contract (P := Try.prog) (tb := 4) Try.laidOut (by kernel_rfl) (by kernel_rfl) rfl rfl rfl (fun ds h => by match ds with | [d] => rfl) (fun dss h => ?_) W base args ds gs before hval hW
  obtain ⟨d, rfl, h1⟩ := fits_one (P := Try.prog) (t := 22) h
  obtain ⟨a, rfl, ha⟩ := typ_bytes Try.underlying22 Try.underlying5 (by kernel_rfl) h1
  exact ⟨_, law_HexText a⟩

theorem f_holds : Rows.FnExactHexTextSaid :=
  OpenClaim.holds_of_wide 3 Try.f3 rfl rfl rfl rfl rfl rfl rfl ⟨rfl, rfl, rfl, rfl, rfl⟩ rfl rfl rfl rfl rfl (by kernel_rfl) Try.func3 (by kernel_rfl)
    (of_decide_eq_true (by kernel_rfl)) (by unfold Func.isWrapper; first | (rw [if_pos (by decide +kernel)]; kernel_rfl) | (rw [if_neg (by decide +kernel)]; exact ⟨rfl, rfl⟩))
    (fun os started H enc _ => f_lifted os started H enc)

end Go.Proofs.Ytjdepagpjkoglaa
