/-
  A part of a proof about the given program; what is proved is said where each theorem stands.
-/
import Derived.Lib.LaidTab
import Derived.Lib.ItoaLen
import Derived.Shelf.Strconv.Itoa3
import Derived.KernelRfl
import Derived.Test.YtdckkojgnkoabaaGreatDoorProg
import Derived.Test.YtdckkojgnkoabaaGreatDoorFrameA
import Derived.Test.YtdckkojgnkoabaaGreatDoorFrameB
import Derived.Test.YtdckkojgnkoabaaGreatDoorFrameC
import Derived.Test.YtdckkojgnkoabaaGreatDoorFrameD
import Derived.Test.YtdckkojgnkoabaaGreatDoorFrameE
set_option linter.unusedVariables false
namespace Go.Proofs.YtdckkojgnkoabaaGreatDoor.Ab
open Go.Proofs
noncomputable abbrev PP : Program := Tryz.prog
def pow10Cells : Obj → Prop
  | .cells cs _ _ => cs = (Lib.pow10Tab.map fun z => Value.int .u64 z).toArray
  | _ => False
class P10 (GG : GV) : Prop where
  h : GG 1 = some pow10Cells
def errCell : Obj → Prop
  | .cells cs _ _ => ∃ ev, cs[0]? = some ev ∧ (ev = .nilIface ∨ ∃ te pe, ev = .iface te pe)
  | _ => False
def intCell : Obj → Prop
  | .cells cs _ _ => ∃ m : Int, cs[0]? = some (.int .i64 m)
  | _ => False
class MaxL (GG : GV) : Prop where
  h : GG 0 = some intCell
noncomputable abbrev QQ : Program := { toTables := Tryz.progTables, funcs := #[] }
def CF : Cfg := [(19, [.lend, .borrow], [some .give, none], []),
  (20, [.lend, .borrow], [some .give, none], []),
  (25, [.lend, .borrow], [some .give, none], []),
  (37, [.lend, .borrow], [some .give, none], []),
  (70, [.lend, .borrow], [some .give, none], []),
  (71, [.lend, .borrow], [some .give, none], []),
  (72, [.lend, .borrow], [some .give, none], []),
  (73, [.lend, .borrow], [some .give, none], []),
  (74, [.lend, .borrow], [some .give, none], []),
  (96, [(.box 10), .borrow], [some (.box 10), none], []),
  (136, [.lend, .borrow], [some .give, none], []),
  (137, [.lend, .borrow], [some .give, none], []),
  (138, [.lend, .borrow], [some .give, none], []),
  (139, [.lend, .borrow], [some .give, none], []),
  (172, [(.box 10), .borrow], [some (.box 10), none], []),
  (208, [.lend, .borrow], [some .give, none], []),
  (226, [.lend, .borrow, .borrow], [some .give, none, none], []),
  (243, [.lend, .borrow, .borrow, .borrow], [some .give, none, none, none], []),
  (244, [.lend, .borrow, .borrow, .borrow, .borrow], [some .give, none, none, none, none], []),
  (252, [.lend, .borrow, .borrow, .borrow, .borrow], [some .give, none, none, none, none], []),
  (267, [.lend, .borrow, .borrow, .borrow, .borrow], [some .give, none, none, none, none], [])]
def CM : List (Nat × List Mode) := [(19, [.lend, .borrow]), (20, [.lend, .borrow]), (25, [.lend, .borrow]), (37, [.lend, .borrow]), (70, [.lend, .borrow]), (71, [.lend, .borrow]), (72, [.lend, .borrow]), (73, [.lend, .borrow]), (74, [.lend, .borrow]), (93, [.give, .borrow]), (95, [.give, .borrow, .borrow]), (96, [(.box 10), .borrow]), (136, [.lend, .borrow]), (137, [.lend, .borrow]), (138, [.lend, .borrow]), (139, [.lend, .borrow]), (160, [.give, .borrow]), (166, [.give, .borrow, .borrow]), (172, [(.box 10), .borrow]), (208, [.lend, .borrow]), (218, [.give, .borrow, .give]), (225, [.give, .borrow, .borrow]), (226, [.lend, .borrow, .borrow]), (243, [.lend, .borrow, .borrow, .borrow]), (244, [.lend, .borrow, .borrow, .borrow, .borrow]), (252, [.lend, .borrow, .borrow, .borrow, .borrow]), (267, [.lend, .borrow, .borrow, .borrow, .borrow])]
theorem cv {GG : GV} {f : FuncId} {fn : Func} {om : List (Option Mode)} {vl : List Nat} {rs : List (Mode × Nat × Option (Bool × Nat))} {x y c : ACode} {vm gs : Nat} {ls : Option Sk} {cs : List C} {r : C} {os : List (Option C)} (hf : PP.funcs[f]? = some fn) (rcs : List C)
    (hW : W PP vl (fn.ntmps, pinOf 0 om) (Valid PP GG) c (entry cs) (Fin (Valid PP GG) rs om rcs os) (fun _ _ => False) (Fin (Valid PP GG) rs om rcs os))
    (h1 : reck1 QQ CF f fn = (om, rs) → True := by intro h; (conv at h => lhs; cbv); have t : type_of% h := rfl; clear t; trivial) (h2 : reck2 QQ om fn = x → True := by intro h; (conv at h => lhs; cbv); have t : type_of% h := rfl; clear t; trivial)
    (h3 : reck3 x (fn.params.size + fn.nfree) fn.ntmps fn.results.toList = (vm, gs, vl) → True := by intro h; (conv at h => lhs; cbv); have t : type_of% h := rfl; clear t; trivial) (h4 : reck4 CM x vm gs = y → True := by intro h; (conv at h => lhs; cbv); have t : type_of% h := rfl; clear t; trivial)
    (h5 : reck5 y vm fn.ntmps om fn.results.toList = ls → True := by intro h; (conv at h => lhs; cbv); have t : type_of% h := rfl; clear t; trivial) (h5b : reck6 fn.ntmps y ls = c → True := by intro h; (conv at h => lhs; cbv); have t : type_of% h := rfl; clear t; trivial) (h6 : okFn PP vl om rs fn cs.length rcs.length = true := by kernel_rfl)
    (h7 : comp PP (fn.ntmps, pinOf 0 om) vl (fn.body.getD .skip) = some c.erase := by kernel_rfl) (h8 : retOf rcs = r := by rfl) : Valid PP GG f cs r os := cvM hf rcs h6 h7 h8 hW
end Go.Proofs.YtdckkojgnkoabaaGreatDoor.Ab
