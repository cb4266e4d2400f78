/-
  The law FnWraps returns true for every input of bytes, and leaves it as it was, where the listed package variables read as the program text lays them.
-/
import Derived.Test.YtmihpclfdicfkaaDoorRows
import Derived.Test.YtmihpclfdicfkaaDoorTie
import Derived.Test.YtmihpclfdicfkaaDoorCards
import Derived.ProofKit
import Derived.Lay
import Derived.LaidMore
import Derived.LaidLaws
import Derived.OpenShut
import Derived.Stop.Joined
import Derived.SevenTiedAt
import Derived.Test.YtmihpclfdicfkaaDoorFrameA
import Derived.Test.YtmihpclfdicfkaaDoorFrameB
import Derived.Test.YtmihpclfdicfkaaDoorFrameC
import Derived.Test.YtmihpclfdicfkaaDoorFrameD
import Derived.Test.YtmihpclfdicfkaaDoorFrameE
import Derived.Test.YtmihpclfdicfkaaDoorShelf
import Derived.Test.YtmihpclfdicfkaaDoorCodesA
import Derived.Test.YtmihpclfdicfkaaDoorCodesB
import Derived.Test.YtmihpclfdicfkaaDoorCodesC
import Derived.Test.YtmihpclfdicfkaaDoorPartA
import Derived.Test.YtmihpclfdicfkaaDoorPartB
import Derived.Test.YtmihpclfdicfkaaDoorPartC
import Derived.Test.YtmihpclfdicfkaaDoorPartD
import Derived.Test.YtmihpclfdicfkaaDoorPartE
import Derived.Test.YtmihpclfdicfkaaDoorRow
namespace Go.Proofs.YtmihpclfdicfkaaDoor
open Go.ChangeShapes Go.WideShapes Go.ChangeAt Go.RowKit Go.Proofs.YtmihpclfdicfkaaDoor.Ab
theorem named_is : Tryd.prog.funcNamed "loop.example/g00705/laws.FnWraps" = some 4 := by kernel_rfl
theorem stand_all : (Tryd.f4.params.toList.all fun u => !Tryd.prog.wantsStandIn u) = true := by kernel_rfl
theorem card_holds : Rows.FnWrapsCardSaid :=
  Claim7.holds_tied_plain_at .later [] [.data, .pinned] true (true, "09d99fda11063b0005d2c542053f7acefa334ab6475bb0d64316bdd36bcaab43") false
    row_holds (fun _ h => by cases h) (by kernel_rfl) (fun _ h => by cases h) fnWraps_row_tie rfl ⟨rfl, rfl⟩ (by kernel_rfl) rfl
    (fun f fn hf hfn => by
      obtain rfl : f = 4 := Option.some.inj (named_is.symm.trans hf) |>.symm
      obtain rfl : fn = Tryd.f4 := (Option.some.inj (Tryd.func4.symm.trans hfn)).symm
      exact ⟨by kernel_rfl, fun j t ht => by
        have hall := stand_all
        have hm : t ∈ Tryd.f4.params.toList := by simpa using Array.mem_of_getElem? ht
        exact (show Tryd.prog.wantsStandIn t = false by simpa using List.all_eq_true.1 hall t hm)⟩)
    (by kernel_rfl)
end Go.Proofs.YtmihpclfdicfkaaDoor
