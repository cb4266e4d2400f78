/-
  A part of a proof about the given program; what is proved is said where each theorem stands.
-/
import Derived.Shelf.Spec.SlicesGrow
import Derived.Test.YtpbofdbleajagaaDoorProg
import Derived.Test.YtpbofdbleajagaaDoorFrameA
import Derived.Test.YtpbofdbleajagaaDoorFrameB
import Derived.Test.YtpbofdbleajagaaDoorFrameC
import Derived.Test.YtpbofdbleajagaaDoorFrameD
import Derived.Test.YtpbofdbleajagaaDoorFrameE
import Derived.Test.YtpbofdbleajagaaDoorShelf
namespace Go.Proofs.YtpbofdbleajagaaDoor
open Go.Shelf
def Tryd.grow_ren : Go.Shelf.Ren := ⟨fun | 4 => 137 | n => n, fun | 25 => 5 | n => n, fun n => n⟩
theorem Tryd.growB : Go.Proofs.Lays8.n4 Tryd.prog Tryd.grow_ren := {
  mixed := by kernel_rfl
  f4 := ⟨"slices.Grow[[]byte,byte]", by decide, Tryd.func137.trans (congrArg some (by kernel_rfl))⟩
  t0 := Tryd.underlying0
  a0 := Tryd.isAgg0
  z0 := Tryd.sizeOf0
  v0 := Tryd.zeroValue0
  t3 := Tryd.underlying3
  a3 := Tryd.isAgg3
  z3 := Tryd.sizeOf3
  v3 := Tryd.zeroValue3
  t4 := Tryd.underlying4
  a4 := Tryd.isAgg4
  z4 := Tryd.sizeOf4
  v4 := Tryd.zeroValue4
  t9 := Tryd.underlying9
  a9 := Tryd.isAgg9
  z9 := Tryd.sizeOf9
  v9 := Tryd.zeroValue9
  t20 := Tryd.underlying20
  a20 := Tryd.isAgg20
  z20 := Tryd.sizeOf20
  v20 := Tryd.zeroValue20
  t22 := Tryd.underlying22
  a22 := Tryd.isAgg22
  z22 := Tryd.sizeOf22
  v22 := Tryd.zeroValue22
}
end Go.Proofs.YtpbofdbleajagaaDoor
