/-
  A part of a proof about the given program; what is proved is said where each theorem stands.
-/
import Derived.Lib.LaidTab
import Derived.Lib.ItoaLen
import Derived.Shelf.Strconv.Itoa3
import Derived.KernelRfl
import Derived.Test.YtbjmakmahooaiaaGreatProg
import Derived.Test.YtbjmakmahooaiaaGreatFrameA
import Derived.Test.YtbjmakmahooaiaaGreatFrameB
import Derived.Test.YtbjmakmahooaiaaGreatFrameC
import Derived.Test.YtbjmakmahooaiaaGreatFrameD
set_option linter.unusedVariables false
namespace Go.Proofs.YtbjmakmahooaiaaGreat.Ab
open Go.Proofs
noncomputable abbrev PP : Program := Tryz.prog
def pow10Cells : Obj → Prop
  | .cells cs _ _ => cs = (Lib.pow10Tab.map fun z => Value.int .u64 z).toArray
  | _ => False
class P10 (GG : GV) : Prop where
  h : GG 1 = some pow10Cells
def errCell : Obj → Prop
  | .cells cs _ _ => ∃ ev, cs[0]? = some ev ∧ (ev = .nilIface ∨ ∃ te pe, ev = .iface te pe)
  | _ => False
def intCell : Obj → Prop
  | .cells cs _ _ => ∃ m : Int, cs[0]? = some (.int .i64 m)
  | _ => False
class MaxL (GG : GV) : Prop where
  h : GG 0 = some intCell
noncomputable abbrev QQ : Program := { toTables := Tryz.progTables, funcs := #[] }
def CF : Cfg := []
def CM : List (Nat × List Mode) := [(72, [.give, .borrow, .borrow]), (108, [.nil, .borrow]), (134, [.give, .borrow])]
theorem cv {GG : GV} {f : FuncId} {fn : Func} {om : List (Option Mode)} {vl : List Nat} {rs : List (Mode × Nat × Option (Bool × Nat))} {x y c : ACode} {vm gs : Nat} {ls : Option Sk} {cs : List C} {r : C} {os : List (Option C)} (hf : PP.funcs[f]? = some fn) (rcs : List C)
    (hW : W PP vl (fn.ntmps, pinOf 0 om) (Valid PP GG) c (entry cs) (Fin (Valid PP GG) rs om rcs os) (fun _ _ => False) (Fin (Valid PP GG) rs om rcs os))
    (h1 : reck1 QQ CF f fn = (om, rs) → True := by intro h; (conv at h => lhs; cbv); have t : type_of% h := rfl; clear t; trivial) (h2 : reck2 QQ om fn = x → True := by intro h; (conv at h => lhs; cbv); have t : type_of% h := rfl; clear t; trivial)
    (h3 : reck3 x (fn.params.size + fn.nfree) fn.ntmps fn.results.toList = (vm, gs, vl) → True := by intro h; (conv at h => lhs; cbv); have t : type_of% h := rfl; clear t; trivial) (h4 : reck4 CM x vm gs = y → True := by intro h; (conv at h => lhs; cbv); have t : type_of% h := rfl; clear t; trivial)
    (h5 : reck5 y vm fn.ntmps om fn.results.toList = ls → True := by intro h; (conv at h => lhs; cbv); have t : type_of% h := rfl; clear t; trivial) (h5b : reck6 fn.ntmps y ls = c → True := by intro h; (conv at h => lhs; cbv); have t : type_of% h := rfl; clear t; trivial) (h6 : okFn PP vl om rs fn cs.length rcs.length = true := by kernel_rfl)
    (h7 : comp PP (fn.ntmps, pinOf 0 om) vl (fn.body.getD .skip) = some c.erase := by kernel_rfl) (h8 : retOf rcs = r := by rfl) : Valid PP GG f cs r os := cvM hf rcs h6 h7 h8 hW
end Go.Proofs.YtbjmakmahooaiaaGreat.Ab
