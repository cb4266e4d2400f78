/-
  The law FnGranted returns true for every input of bytes, and leaves it as it was, where the listed package variables read as the program text lays them.
-/
import Derived.Test.YtoomonfpedjgoaaGreatDoorRows
import Derived.Test.YtoomonfpedjgoaaGreatDoorTie
import Derived.Test.YtoomonfpedjgoaaGreatDoorCards
import Derived.ProofKit
import Derived.Lay
import Derived.LaidMore
import Derived.LaidLaws
import Derived.OpenShut
import Derived.Stop.Joined
import Derived.SevenTiedAt
import Derived.Test.YtoomonfpedjgoaaGreatDoorFrameA
import Derived.Test.YtoomonfpedjgoaaGreatDoorFrameB
import Derived.Test.YtoomonfpedjgoaaGreatDoorFrameC
import Derived.Test.YtoomonfpedjgoaaGreatDoorFrameD
import Derived.Test.YtoomonfpedjgoaaGreatDoorFrameE
import Derived.Test.YtoomonfpedjgoaaGreatDoorHead
import Derived.Test.YtoomonfpedjgoaaGreatDoorShelf
import Derived.Test.YtoomonfpedjgoaaGreatDoorPartA
import Derived.Test.YtoomonfpedjgoaaGreatDoorPartB
import Derived.Test.YtoomonfpedjgoaaGreatDoorPartC
import Derived.Test.YtoomonfpedjgoaaGreatDoorPartD
import Derived.Test.YtoomonfpedjgoaaGreatDoorPartE
import Derived.Test.YtoomonfpedjgoaaGreatDoorPartF
import Derived.Test.YtoomonfpedjgoaaGreatDoorRow
namespace Go.Proofs.YtoomonfpedjgoaaGreatDoor
open Go.ChangeShapes Go.WideShapes Go.ChangeAt Go.RowKit Go.Proofs.YtoomonfpedjgoaaGreatDoor.Ab
theorem named_is : Tryz.prog.funcNamed "loop.example/g00705/laws.FnGranted" = some 4 := by kernel_rfl
theorem stand_all : (Tryz.f4.params.toList.all fun u => !Tryz.prog.wantsStandIn u) = true := by kernel_rfl
theorem card_holds : Rows.FnGrantedCardSaid :=
  Claim7.holds_tied_plain_at .later [] [.data, .data, .data, .data, .pinned] true (true, "c16149058364d18a5fa99fec712df8e15e80ebd0cde14ab821fdd20537edf261") false
    row_holds (fun _ h => by cases h) (by kernel_rfl) (fun _ h => by cases h) fnGranted_row_tie rfl ⟨rfl, rfl⟩ (by kernel_rfl) rfl
    (fun f fn hf hfn => by
      obtain rfl : f = 4 := Option.some.inj (named_is.symm.trans hf) |>.symm
      obtain rfl : fn = Tryz.f4 := (Option.some.inj (Tryz.func4.symm.trans hfn)).symm
      exact ⟨by kernel_rfl, fun j t ht => by
        have hall := stand_all
        have hm : t ∈ Tryz.f4.params.toList := by simpa using Array.mem_of_getElem? ht
        exact (show Tryz.prog.wantsStandIn t = false by simpa using List.all_eq_true.1 hall t hm)⟩)
    (by kernel_rfl)
end Go.Proofs.YtoomonfpedjgoaaGreatDoor
