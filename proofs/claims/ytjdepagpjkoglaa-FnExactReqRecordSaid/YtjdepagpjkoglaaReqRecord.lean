/-
  For every request that it is called with, the law FnExactReqRecord of the given program returns true and leaves its argument as it was. Conditions: none beyond the row's own.
-/
import Derived.Test.YtjdepagpjkoglaaRows
import Derived.Test.YtjdepagpjkoglaaFrameA
import Derived.Test.YtjdepagpjkoglaaFrameB
import Derived.Test.YtjdepagpjkoglaaFrameC
import Derived.Test.YtjdepagpjkoglaaFrameD
import Derived.Test.YtjdepagpjkoglaaFrameE
import Derived.Test.YtjdepagpjkoglaaCodesRec
import Derived.Test.YtjdepagpjkoglaaRecA
import Derived.Test.YtjdepagpjkoglaaRecB
import Derived.Test.YtjdepagpjkoglaaRecC
namespace Go.Proofs.Ytjdepagpjkoglaa
open Go.ChangeShapes Go.WideShapes Go.ChangeAt Go.RowKit Go.Proofs.Ytjdepagpjkoglaa.Ab

theorem Try.own : ownKnob Try.prog.godebug = none := by kernel_rfl
theorem Try.laidOut : laidOutB Try.prog = true := by kernel_rfl

theorem f_lifted (os : Os) (started : os.Started) (H : Type) (enc : TypeId × Value → H) :
    ReturnsInHanded {} Try.checked os 5 .any (Rows.fnExactReqRecordSpec.pre6 enc Try.prog Try.f5 Rows.fnExactReqRecordRow.domain false) (Rows.fnExactReqRecordSpec.post enc Try.prog Try.f5 false true false false) := by
  refine returnsInHanded_of_change (C := Try.checked) Try.own started (by kernel_rfl) Try.func5
    (ChangeSpec.witness6 (enc := enc) (C := Try.checked) false ⟨#[], #[.agg #[.int .i64 0, .int .i64 0, .string ⟨#[]⟩, .string ⟨#[]⟩, .string ⟨#[]⟩, .int .i64 0]], []⟩ 8 (by kernel_rfl) (by kernel_rfl) (by kernel_rfl) (by kernel_rfl)) ?_
  intro W base args ds gs before hval hW _ _
  refine law_contract (P := Try.prog) (tb := 4) Try.laidOut (by kernel_rfl) (by kernel_rfl) rfl rfl rfl (fun ds h => by match ds with | [d] => rfl) (fun dss h => ?_) W base args ds gs before hval hW
  obtain ⟨d, rfl, h1⟩ := fits_one (P := Try.prog) (t := 41) h
  obtain ⟨hl, hf⟩ := typ_struct Try.underlying41 h1
  rw [show Try.prog.cellsOf 41 = 6 by kernel_rfl] at hl
  match d, hl, hf with
  | [a, b, c, d, e, f], _, hf =>
    obtain ⟨k, e1, _⟩ := typ_int (ds := [a]) Try.underlying3 (typ_field hf 0 rfl (n := 1) (by kernel_rfl))
    obtain ⟨t, e2, _⟩ := typ_int (ds := [b]) Try.underlying3 (typ_field hf 1 rfl (n := 1) (by kernel_rfl))
    obtain ⟨n, e3, h3⟩ := typ_str (ds := [c]) Try.underlying9 (typ_field hf 2 rfl (n := 1) (by kernel_rfl))
    obtain ⟨p, e4, h4⟩ := typ_str (ds := [d]) Try.underlying9 (typ_field hf 3 rfl (n := 1) (by kernel_rfl))
    obtain ⟨q, e5, h5⟩ := typ_str (ds := [e]) Try.underlying9 (typ_field hf 4 rfl (n := 1) (by kernel_rfl))
    obtain ⟨m, e6, _⟩ := typ_int (ds := [f]) Try.underlying3 (typ_field hf 5 rfl (n := 1) (by kernel_rfl))
    cases e1; cases e2; cases e3; cases e4; cases e5; cases e6
    exact ⟨_, law_ReqRecord k t m n p q h3 h4 h5⟩

theorem f_holds : Rows.FnExactReqRecordSaid :=
  OpenClaim.holds_of_wide 5 Try.f5 rfl rfl rfl rfl rfl rfl rfl ⟨rfl, rfl, rfl, rfl, rfl⟩ rfl rfl rfl rfl rfl (by kernel_rfl) Try.func5 (by kernel_rfl)
    (of_decide_eq_true (by kernel_rfl)) (by unfold Func.isWrapper; first | (rw [if_pos (by decide +kernel)]; kernel_rfl) | (rw [if_neg (by decide +kernel)]; exact ⟨rfl, rfl⟩))
    (fun os started H enc _ => f_lifted os started H enc)

end Go.Proofs.Ytjdepagpjkoglaa
