/-
  A part of a proof about the given program; what is proved is said where each theorem stands.
-/
import Derived.Shelf.Spec.SlicesGrow
import Derived.Test.YtbjmakmahooaiaaGreatProg
import Derived.Test.YtbjmakmahooaiaaGreatFrameA
import Derived.Test.YtbjmakmahooaiaaGreatFrameB
import Derived.Test.YtbjmakmahooaiaaGreatFrameC
import Derived.Test.YtbjmakmahooaiaaGreatFrameD
import Derived.Test.YtbjmakmahooaiaaGreatHead
namespace Go.Proofs.YtbjmakmahooaiaaGreat
open Go.Shelf
def Tryz.grow_ren : Go.Shelf.Ren := ⟨fun | 4 => 108 | n => n, fun | 22 => 48 | 25 => 5 | n => n, fun n => n⟩
theorem Tryz.growB : Go.Proofs.Lays8.n4 Tryz.prog Tryz.grow_ren := {
  mixed := by kernel_rfl
  f4 := ⟨"slices.Grow[[]byte,byte]", by decide, Tryz.func108.trans (congrArg some (by kernel_rfl))⟩
  t0 := Tryz.underlying0
  a0 := Tryz.isAgg0
  z0 := Tryz.sizeOf0
  v0 := Tryz.zeroValue0
  t3 := Tryz.underlying3
  a3 := Tryz.isAgg3
  z3 := Tryz.sizeOf3
  v3 := Tryz.zeroValue3
  t4 := Tryz.underlying4
  a4 := Tryz.isAgg4
  z4 := Tryz.sizeOf4
  v4 := Tryz.zeroValue4
  t9 := Tryz.underlying9
  a9 := Tryz.isAgg9
  z9 := Tryz.sizeOf9
  v9 := Tryz.zeroValue9
  t20 := Tryz.underlying20
  a20 := Tryz.isAgg20
  z20 := Tryz.sizeOf20
  v20 := Tryz.zeroValue20
  t22 := Tryz.underlying48
  a22 := Tryz.isAgg48
  z22 := Tryz.sizeOf48
  v22 := Tryz.zeroValue48
}
end Go.Proofs.YtbjmakmahooaiaaGreat
