/-
  The law FnExactPassTime returns true for every world and time, and leaves the world as it was, where the listed package variables read as the program text lays them.
-/
import Derived.Test.YtdckkojgnkoabaaGreatDoorRows
import Derived.Test.YtdckkojgnkoabaaGreatDoorTie
import Derived.Test.YtdckkojgnkoabaaGreatDoorCards
import Derived.ProofKit
import Derived.Lay
import Derived.LaidMore
import Derived.LaidLaws
import Derived.OpenShut
import Derived.Stop.Joined
import Derived.SevenTiedAt
import Derived.Test.YtdckkojgnkoabaaGreatDoorFrameA
import Derived.Test.YtdckkojgnkoabaaGreatDoorFrameB
import Derived.Test.YtdckkojgnkoabaaGreatDoorFrameC
import Derived.Test.YtdckkojgnkoabaaGreatDoorFrameD
import Derived.Test.YtdckkojgnkoabaaGreatDoorFrameE
import Derived.Test.YtdckkojgnkoabaaGreatDoorHead
import Derived.Test.YtdckkojgnkoabaaGreatDoorShelf
import Derived.Test.YtdckkojgnkoabaaGreatDoorPartA
import Derived.Test.YtdckkojgnkoabaaGreatDoorPartB
import Derived.Test.YtdckkojgnkoabaaGreatDoorPartC
import Derived.Test.YtdckkojgnkoabaaGreatDoorPartD
import Derived.Test.YtdckkojgnkoabaaGreatDoorPartE
import Derived.Test.YtdckkojgnkoabaaGreatDoorTyp
import Derived.Test.YtdckkojgnkoabaaGreatDoorRow
namespace Go.Proofs.YtdckkojgnkoabaaGreatDoor
open Go.ChangeShapes Go.WideShapes Go.ChangeAt Go.RowKit Go.Proofs.YtdckkojgnkoabaaGreatDoor.Ab
theorem named_is : Tryz.prog.funcNamed "loop.example/g00705/laws.FnExactPassTime" = some 9 := by kernel_rfl
theorem stand_all : (Tryz.f9.params.toList.all fun u => !Tryz.prog.wantsStandIn u) = true := by kernel_rfl
theorem card_holds : Rows.FnExactPassTimeCardSaid :=
  Claim7.holds_tied_plain_at .later [] [.data, .pinned] true (true, "56784202b6784ad1f71e3c976834fbc0411c9aaffc97d86a2423723a54d2daec") false
    row_holds (fun _ h => by cases h) (by kernel_rfl) (fun _ h => by cases h) fnExactPassTime_row_tie rfl ⟨rfl, rfl⟩ (by kernel_rfl) rfl
    (fun f fn hf hfn => by
      obtain rfl : f = 9 := Option.some.inj (named_is.symm.trans hf) |>.symm
      obtain rfl : fn = Tryz.f9 := (Option.some.inj (Tryz.func9.symm.trans hfn)).symm
      exact ⟨by kernel_rfl, fun j t ht => by
        have hall := stand_all
        have hm : t ∈ Tryz.f9.params.toList := by simpa using Array.mem_of_getElem? ht
        exact (show Tryz.prog.wantsStandIn t = false by simpa using List.all_eq_true.1 hall t hm)⟩)
    (by kernel_rfl)
end Go.Proofs.YtdckkojgnkoabaaGreatDoor
