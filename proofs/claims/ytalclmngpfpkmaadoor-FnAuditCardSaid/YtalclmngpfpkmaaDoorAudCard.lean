/-
  The law FnAudit returns true for every input of bytes, and leaves it as it was, where the listed package variables read as the program text lays them.
-/
import Derived.Test.YtalclmngpfpkmaaDoorRows
import Derived.Test.YtalclmngpfpkmaaDoorTie
import Derived.Test.YtalclmngpfpkmaaDoorCards
import Derived.ProofKit
import Derived.Lay
import Derived.LaidMore
import Derived.LaidLaws
import Derived.OpenShut
import Derived.Stop.Joined
import Derived.SevenTiedAt
import Derived.Test.YtalclmngpfpkmaaDoorFrameA
import Derived.Test.YtalclmngpfpkmaaDoorFrameB
import Derived.Test.YtalclmngpfpkmaaDoorFrameC
import Derived.Test.YtalclmngpfpkmaaDoorFrameD
import Derived.Test.YtalclmngpfpkmaaDoorFrameE
import Derived.Test.YtalclmngpfpkmaaDoorCodesA
import Derived.Test.YtalclmngpfpkmaaDoorShelf
import Derived.Test.YtalclmngpfpkmaaDoorPartA
import Derived.Test.YtalclmngpfpkmaaDoorPartB
import Derived.Test.YtalclmngpfpkmaaDoorPartC
import Derived.Test.YtalclmngpfpkmaaDoorRow
namespace Go.Proofs.YtalclmngpfpkmaaDoor
open Go.ChangeShapes Go.WideShapes Go.ChangeAt Go.RowKit Go.Proofs.YtalclmngpfpkmaaDoor.Ab

theorem named_is : Tryd.prog.funcNamed "loop.example/g00705/laws.FnAudit" = some 4 := by kernel_rfl
theorem stand_all : (Tryd.f4.params.toList.all fun u => !Tryd.prog.wantsStandIn u) = true := by kernel_rfl

theorem card_holds : Rows.FnAuditCardSaid :=
  Claim7.holds_tied_plain_at .later [] [.data, .data, .data, .data, .pinned] true (true, "020d1f72b9f7ec4070f8600aa8b92b7e258a7aedc13c52655b3265567a6790de") false
    row_holds (fun _ h => by cases h) (by kernel_rfl) (fun _ h => by cases h) fnAudit_row_tie rfl ⟨rfl, rfl⟩ (by kernel_rfl) rfl
    (fun f fn hf hfn => by
      obtain rfl : f = 4 := Option.some.inj (named_is.symm.trans hf) |>.symm
      obtain rfl : fn = Tryd.f4 := (Option.some.inj (Tryd.func4.symm.trans hfn)).symm
      exact ⟨by kernel_rfl, fun j t ht => by
        have hall := stand_all
        have hm : t ∈ Tryd.f4.params.toList := by simpa using Array.mem_of_getElem? ht
        exact (show Tryd.prog.wantsStandIn t = false by simpa using List.all_eq_true.1 hall t hm)⟩)
    (by kernel_rfl)

end Go.Proofs.YtalclmngpfpkmaaDoor
