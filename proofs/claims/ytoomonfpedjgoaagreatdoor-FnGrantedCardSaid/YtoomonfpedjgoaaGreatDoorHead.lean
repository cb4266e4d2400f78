/-
  A part of a proof about the given program; what is proved is said where each theorem stands.
-/
import Derived.Lib.LaidTab
import Derived.Lib.ItoaLen
import Derived.Shelf.Strconv.Itoa3
import Derived.KernelRfl
import Derived.Test.YtoomonfpedjgoaaGreatDoorProg
import Derived.Test.YtoomonfpedjgoaaGreatDoorFrameA
import Derived.Test.YtoomonfpedjgoaaGreatDoorFrameB
import Derived.Test.YtoomonfpedjgoaaGreatDoorFrameC
import Derived.Test.YtoomonfpedjgoaaGreatDoorFrameD
import Derived.Test.YtoomonfpedjgoaaGreatDoorFrameE
set_option linter.unusedVariables false
namespace Go.Proofs.YtoomonfpedjgoaaGreatDoor.Ab
open Go.Proofs
noncomputable abbrev PP : Program := Tryz.prog
def pow10Cells : Obj → Prop
  | .cells cs _ _ => cs = (Lib.pow10Tab.map fun z => Value.int .u64 z).toArray
  | _ => False
class P10 (GG : GV) : Prop where
  h : GG 1 = some pow10Cells
def errCell : Obj → Prop
  | .cells cs _ _ => ∃ ev, cs[0]? = some ev ∧ (ev = .nilIface ∨ ∃ te pe, ev = .iface te pe)
  | _ => False
def intCell : Obj → Prop
  | .cells cs _ _ => ∃ m : Int, cs[0]? = some (.int .i64 m)
  | _ => False
class MaxL (GG : GV) : Prop where
  h : GG 0 = some intCell
noncomputable abbrev QQ : Program := { toTables := Tryz.progTables, funcs := #[] }
def CF : Cfg := [(39, [], [], [(.box 3), .give]),
  (40, [(.box 3), .lend], [some (.box 3), some .give], []),
  (41, [(.box 3)], [some (.box 3)], []),
  (42, [(.box 3)], [some (.box 3)], []),
  (43, [(.box 3)], [some (.box 3)], []),
  (58, [(.box 10), .borrow], [some (.box 10), none], []),
  (79, [(.box 10), .borrow], [some (.box 10), none], []),
  (82, [], [], [(.box 3)]),
  (83, [(.box 3), .borrow], [some (.box 3), none], []),
  (84, [(.box 3), .borrow], [some (.box 3), none], []),
  (86, [(.box 3), .borrow], [some (.box 3), none], []),
  (87, [(.box 3), .give], [some (.box 3), none], []),
  (88, [(.box 3), .give], [some (.box 3), none], []),
  (89, [(.box 3)], [some (.box 3)], []),
  (130, [.lend, .borrow], [some .give, none], []),
  (133, [(.box 3), .lend], [some (.box 3), some .give], []),
  (136, [(.box 3), .lend], [some (.box 3), some .give], []),
  (139, [(.box 3)], [some (.box 3)], []),
  (156, [.lend, .borrow, .borrow], [some .give, none, none], []),
  (158, [(.box 3)], [some (.box 3)], []),
  (182, [.lend, .borrow, .borrow, .borrow], [some .give, none, none, none], []),
  (183, [.lend, .borrow, .borrow, .borrow, .borrow], [some .give, none, none, none, none], []),
  (197, [.lend, .borrow, .borrow, .borrow, .borrow], [some .give, none, none, none, none], []),
  (214, [.lend, .borrow, .borrow, .borrow, .borrow], [some .give, none, none, none, none], [])]
def CM : List (Nat × List Mode) := [(40, [(.box 3), .lend]), (41, [(.box 3)]), (42, [(.box 3)]), (43, [(.box 3)]), (57, [.give, .borrow, .borrow]), (58, [(.box 10), .borrow]), (79, [(.box 10), .borrow]), (83, [(.box 3), .borrow]), (84, [(.box 3), .borrow]), (86, [(.box 3), .borrow]), (87, [(.box 3), .give]), (88, [(.box 3), .give]), (89, [(.box 3)]), (110, [.give, .borrow, .borrow]), (130, [.lend, .borrow]), (133, [(.box 3), .lend]), (136, [(.box 3), .lend]), (139, [(.box 3)]), (147, [.give, .borrow, .give]), (156, [.lend, .borrow, .borrow]), (158, [(.box 3)]), (161, [.give, .borrow]), (178, [.give, .borrow, .borrow]), (182, [.lend, .borrow, .borrow, .borrow]), (183, [.lend, .borrow, .borrow, .borrow, .borrow]), (185, [.give, .borrow]), (197, [.lend, .borrow, .borrow, .borrow, .borrow]), (214, [.lend, .borrow, .borrow, .borrow, .borrow])]
theorem cv {GG : GV} {f : FuncId} {fn : Func} {om : List (Option Mode)} {vl : List Nat} {rs : List (Mode × Nat × Option (Bool × Nat))} {x y c : ACode} {vm gs : Nat} {ls : Option Sk} {cs : List C} {r : C} {os : List (Option C)} (hf : PP.funcs[f]? = some fn) (rcs : List C)
    (hW : W PP vl (fn.ntmps, pinOf 0 om) (Valid PP GG) c (entry cs) (Fin (Valid PP GG) rs om rcs os) (fun _ _ => False) (Fin (Valid PP GG) rs om rcs os))
    (h1 : reck1 QQ CF f fn = (om, rs) → True := by intro h; (conv at h => lhs; cbv); have t : type_of% h := rfl; clear t; trivial) (h2 : reck2 QQ om fn = x → True := by intro h; (conv at h => lhs; cbv); have t : type_of% h := rfl; clear t; trivial)
    (h3 : reck3 x (fn.params.size + fn.nfree) fn.ntmps fn.results.toList = (vm, gs, vl) → True := by intro h; (conv at h => lhs; cbv); have t : type_of% h := rfl; clear t; trivial) (h4 : reck4 CM x vm gs = y → True := by intro h; (conv at h => lhs; cbv); have t : type_of% h := rfl; clear t; trivial)
    (h5 : reck5 y vm fn.ntmps om fn.results.toList = ls → True := by intro h; (conv at h => lhs; cbv); have t : type_of% h := rfl; clear t; trivial) (h5b : reck6 fn.ntmps y ls = c → True := by intro h; (conv at h => lhs; cbv); have t : type_of% h := rfl; clear t; trivial) (h6 : okFn PP vl om rs fn cs.length rcs.length = true := by kernel_rfl)
    (h7 : comp PP (fn.ntmps, pinOf 0 om) vl (fn.body.getD .skip) = some c.erase := by kernel_rfl) (h8 : retOf rcs = r := by rfl) : Valid PP GG f cs r os := cvM hf rcs h6 h7 h8 hW
theorem cvD {α : Type} {GG : GV} {f : FuncId} {fn : Func} {om : List (Option Mode)} {vl : List Nat} {rs : List (Mode × Nat × Option (Bool × Nat))} {x y c : ACode} {vm gs : Nat} {ls : Option Sk} {cs : List C} (hf : PP.funcs[f]? = some fn) (nr : Nat) (R : α → Prop) (rc : α → List C) (oc : α → List (Option C)) (hn : ∀ a, (rc a).length = nr)
    (hW : Dt PP vl (fn.ntmps, pinOf 0 om) (Valid PP GG) c (entry cs) (fun st => ∃ a, R a ∧ Fin (Valid PP GG) rs om (rc a) (oc a) st) (fun _ _ => False) (fun st => ∃ a, R a ∧ Fin (Valid PP GG) rs om (rc a) (oc a) st))
    (h1 : reck1 QQ CF f fn = (om, rs) → True := by intro h; (conv at h => lhs; cbv); have t : type_of% h := rfl; clear t; trivial) (h2 : reck2 QQ om fn = x → True := by intro h; (conv at h => lhs; cbv); have t : type_of% h := rfl; clear t; trivial)
    (h3 : reck3 x (fn.params.size + fn.nfree) fn.ntmps fn.results.toList = (vm, gs, vl) → True := by intro h; (conv at h => lhs; cbv); have t : type_of% h := rfl; clear t; trivial) (h4 : reck4 CM x vm gs = y → True := by intro h; (conv at h => lhs; cbv); have t : type_of% h := rfl; clear t; trivial)
    (h5 : reck5 y vm fn.ntmps om fn.results.toList = ls → True := by intro h; (conv at h => lhs; cbv); have t : type_of% h := rfl; clear t; trivial) (h5b : reck6 fn.ntmps y ls = c → True := by intro h; (conv at h => lhs; cbv); have t : type_of% h := rfl; clear t; trivial) (h6 : okFn PP vl om rs fn cs.length nr = true := by kernel_rfl)
    (h7 : comp PP (fn.ntmps, pinOf 0 om) vl (fn.body.getD .skip) = some c.erase := by kernel_rfl) : ∃ a, R a ∧ Valid PP GG f cs (retOf (rc a)) (oc a) := cvDM hf nr R rc oc hn h6 h7 hW
end Go.Proofs.YtoomonfpedjgoaaGreatDoor.Ab
