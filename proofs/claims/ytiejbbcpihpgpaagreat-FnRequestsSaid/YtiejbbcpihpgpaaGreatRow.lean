/-
  The law FnRequests returns true for every input of bytes, and leaves it as it was.
-/
import Derived.Test.YtiejbbcpihpgpaaGreatRows
import Derived.Test.YtiejbbcpihpgpaaGreatFrameA
import Derived.Test.YtiejbbcpihpgpaaGreatFrameB
import Derived.Test.YtiejbbcpihpgpaaGreatFrameC
import Derived.Test.YtiejbbcpihpgpaaGreatFrameD
import Derived.Test.YtiejbbcpihpgpaaGreatHead
import Derived.Test.YtiejbbcpihpgpaaGreatCodes
import Derived.Test.YtiejbbcpihpgpaaGreatPartA
import Derived.Test.YtiejbbcpihpgpaaGreatPartB
import Derived.Test.YtiejbbcpihpgpaaGreatPartC
import Derived.Test.YtiejbbcpihpgpaaGreatPartD
import Derived.Test.YtiejbbcpihpgpaaGreatPartE
import Derived.Test.YtiejbbcpihpgpaaGreatPartF
import Derived.Test.YtiejbbcpihpgpaaGreatPartG
import Derived.Test.YtiejbbcpihpgpaaGreatPartH
namespace Go.Proofs.YtiejbbcpihpgpaaGreat
open Go.ChangeShapes Go.WideShapes Go.ChangeAt Go.RowKit Go.Proofs.YtiejbbcpihpgpaaGreat.Ab
theorem Tryz.own:ownKnob Tryz.prog.godebug=none:=by kernel_rfl
theorem Tryz.laidOut:laidOutB Tryz.prog=true:=by kernel_rfl
set_option maxRecDepth 100000 in
theorem f_lifted (os:Os) (started:os.Started) (H:Type) (enc:TypeId×Value->H):
  ReturnsInHanded {} Tryz.checked os 3 .any (Rows.fnRequestsSpec.pre6 enc Tryz.prog Tryz.f3 Rows.fnRequestsRow.domain false) (Rows.fnRequestsSpec.post enc Tryz.prog Tryz.f3 false true false false):=by
 refine returnsInHanded_of_change (C:=Tryz.checked) Tryz.own started (by kernel_rfl) Tryz.func3
  (ChangeSpec.witness6 (enc:=enc) (C:=Tryz.checked) false ⟨#[],#[.slice none 0 0],[]⟩ 8 (by kernel_rfl) (by kernel_rfl) (by kernel_rfl) (by kernel_rfl)) ?_
 intro W base args ds gs before hval hW _ _
 refine aGp (P:=Tryz.prog) (tb:=4) Tryz.laidOut (by kernel_rfl) (by kernel_rfl) rfl rfl rfl (fun ds h=>by match ds with|[d]=>rfl) (fun dss h=>?_) W base args ds gs before hval hW
 obtain ⟨d,rfl,h1⟩:=aOY (P:=Tryz.prog) (t:=22) h
 obtain ⟨x,rfl,hok⟩:=aL8 Tryz.underlying22 Tryz.underlying5 (by kernel_rfl) h1
 exact ⟨_,aDt x hok⟩
theorem f_holds:Rows.FnRequestsSaid:=
 OpenClaim.holds_of_wide 3 Tryz.f3 rfl rfl rfl rfl rfl rfl rfl ⟨rfl,rfl,rfl,rfl,rfl⟩ rfl rfl rfl rfl rfl (by kernel_rfl) Tryz.func3 (by kernel_rfl)
  (of_decide_eq_true (by kernel_rfl)) (by unfold Func.isWrapper;first|(rw [if_pos (by decide +kernel)];kernel_rfl)|(rw [if_neg (by decide +kernel)];exact ⟨rfl,rfl⟩))
  (fun os started H enc _=>f_lifted os started H enc)
end Go.Proofs.YtiejbbcpihpgpaaGreat
