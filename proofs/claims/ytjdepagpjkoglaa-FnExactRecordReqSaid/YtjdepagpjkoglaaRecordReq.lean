/-
  For every record that it is called with, the law FnExactRecordReq of the given program returns true and leaves its argument as it was. Conditions: none beyond the row's own.
-/
import Derived.Test.YtjdepagpjkoglaaRows
import Derived.Test.YtjdepagpjkoglaaFrameA
import Derived.Test.YtjdepagpjkoglaaFrameB
import Derived.Test.YtjdepagpjkoglaaFrameC
import Derived.Test.YtjdepagpjkoglaaFrameD
import Derived.Test.YtjdepagpjkoglaaFrameE
import Derived.Test.YtjdepagpjkoglaaCodesRec
import Derived.Test.YtjdepagpjkoglaaRecA
import Derived.Test.YtjdepagpjkoglaaRecB
namespace Go.Proofs.Ytjdepagpjkoglaa
open Go.ChangeShapes Go.WideShapes Go.ChangeAt Go.RowKit Go.Proofs.Ytjdepagpjkoglaa.Ab

theorem Try.own : ownKnob Try.prog.godebug = none := by kernel_rfl
theorem Try.laidOut : laidOutB Try.prog = true := by kernel_rfl

theorem f_lifted (os : Os) (started : os.Started) (H : Type) (enc : TypeId × Value → H) :
    ReturnsInHanded {} Try.checked os 4 .any (Rows.fnExactRecordReqSpec.pre6 enc Try.prog Try.f4 Rows.fnExactRecordReqRow.domain false) (Rows.fnExactRecordReqSpec.post enc Try.prog Try.f4 false true false false) := by
  refine returnsInHanded_of_change (C := Try.checked) Try.own started (by kernel_rfl) Try.func4
    (ChangeSpec.witness6 (enc := enc) (C := Try.checked) false ⟨#[], #[.agg #[.int .i64 0, .slice none 0 0, .slice none 0 0]], []⟩ 8 (by kernel_rfl) (by kernel_rfl) (by kernel_rfl) (by kernel_rfl)) ?_
  intro W base args ds gs before hval hW _ _
  refine law_contract (P := Try.prog) (tb := 4) Try.laidOut (by kernel_rfl) (by kernel_rfl) rfl rfl rfl (fun ds h => by match ds with | [d] => rfl) (fun dss h => ?_) W base args ds gs before hval hW
  obtain ⟨d, rfl, h1⟩ := fits_one (P := Try.prog) (t := 30) h
  obtain ⟨hl, hf⟩ := typ_struct Try.underlying30 h1
  rw [show Try.prog.cellsOf 30 = 3 by kernel_rfl] at hl
  match d, hl, hf with
  | [a, b, c], _, hf =>
    obtain ⟨k, e1, hk⟩ := typ_int (ds := [a]) Try.underlying3 (typ_field hf 0 rfl (n := 1) (by kernel_rfl))
    obtain ⟨ns, e2, hn, _⟩ := typ_ints (ds := [b]) Try.underlying27 Try.underlying3 (by kernel_rfl) (typ_field hf 1 rfl (n := 1) (by kernel_rfl))
    obtain ⟨ts, e3, ht, hs⟩ := typ_strs (ds := [c]) Try.underlying28 Try.underlying9 (by kernel_rfl) (typ_field hf 2 rfl (n := 1) (by kernel_rfl))
    cases e1; cases e2; cases e3
    exact ⟨_, law_RecordReq k ns ts hn ht hs⟩

theorem f_holds : Rows.FnExactRecordReqSaid :=
  OpenClaim.holds_of_wide 4 Try.f4 rfl rfl rfl rfl rfl rfl rfl ⟨rfl, rfl, rfl, rfl, rfl⟩ rfl rfl rfl rfl rfl (by kernel_rfl) Try.func4 (by kernel_rfl)
    (of_decide_eq_true (by kernel_rfl)) (by unfold Func.isWrapper; first | (rw [if_pos (by decide +kernel)]; kernel_rfl) | (rw [if_neg (by decide +kernel)]; exact ⟨rfl, rfl⟩))
    (fun os started H enc _ => f_lifted os started H enc)

end Go.Proofs.Ytjdepagpjkoglaa
