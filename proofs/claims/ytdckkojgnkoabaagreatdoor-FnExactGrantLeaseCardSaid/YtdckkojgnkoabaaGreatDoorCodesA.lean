/-
  A part of a proof about the given program; what is proved is said where each theorem stands.
-/
import Derived.Lib.LaidTab
import Derived.Lib.ItoaLen
import Derived.Shelf.Strconv.Itoa3
import Derived.KernelRfl
import Derived.Test.YtdckkojgnkoabaaGreatDoorProg
import Derived.Test.YtdckkojgnkoabaaGreatDoorFrameA
import Derived.Test.YtdckkojgnkoabaaGreatDoorFrameB
import Derived.Test.YtdckkojgnkoabaaGreatDoorFrameC
import Derived.Test.YtdckkojgnkoabaaGreatDoorFrameD
import Derived.Test.YtdckkojgnkoabaaGreatDoorFrameE
namespace Go.Proofs.YtdckkojgnkoabaaGreatDoor.Ab
open Go.Proofs
noncomputable abbrev PP : Program := Tryz.prog
/-- The table of powers of ten that the library's number texts lean on. -/
def pow10Cells : Obj → Prop
  | .cells cs _ _ => cs = (Lib.pow10Tab.map fun z => Value.int .u64 z).toArray
  | _ => False
class P10 (GG : GV) : Prop where
  h : GG 1 = some pow10Cells
/-- An error variable: nil or an error. -/
def errCell : Obj → Prop
  | .cells cs _ _ => ∃ ev, cs[0]? = some ev ∧ (ev = .nilIface ∨ ∃ te pe, ev = .iface te pe)
  | _ => False
/-- A number variable. -/
def intCell : Obj → Prop
  | .cells cs _ _ => ∃ m : Int, cs[0]? = some (.int .i64 m)
  | _ => False
class MaxL (GG : GV) : Prop where
  h : GG 0 = some intCell
/-- What is asked of the code of a function. -/
abbrev WX (GG : GV) (vl : List Nat) (nt : Nat) (om : List (Option Mode)) (rs : List (Mode × Nat × Option (Bool × Nat))) (c : ACode) (rcs cs : List C) (os : List (Option C)) : Prop :=
  W PP vl (nt, pinOf 0 om) (Valid PP GG) c (entry cs) (Fin (Valid PP GG) rs om rcs os) (fun _ _ => False) (Fin (Valid PP GG) rs om rcs os)
/-- An operation without a guard. -/
abbrev o1 (d : Dst) (p : AOp) : AOper := ⟨d, p, none, []⟩
@[simp] theorem o1_is (d : Dst) (p : AOp) : o1 d p = ⟨d, p, none, []⟩ := id rfl
abbrev rg (l : List AOper) : ACode := .reg l false
abbrev VT (n m : Nat) (fn : Func) (f : FuncId) (vl : List Nat) (om : List (Option Mode)) (rs : List (Mode × Nat × Option (Bool × Nat))) (c : ACode) : Prop :=
  ∀ {GG : GV} (rcs : List C) {cs : List C} {r : C} {os : List (Option C)}, (cs.length == n && rcs.length == m) = true → retOf rcs = r → WX GG vl fn.ntmps om rs c rcs cs os → Valid PP GG f cs r os
theorem mkV {n m : Nat} {fn : Func} {f : FuncId} {vl : List Nat} {om : List (Option Mode)} {rs : List (Mode × Nat × Option (Bool × Nat))} {c : ACode} (hf : PP.funcs[f]? = some fn) (hb : fn.body.isSome = true) (hname : (fn.name == "runtime.NumGoroutine") = false) (hr : resOk PP fn.results.toList rs = true) (hcomp : comp PP (fn.ntmps, pinOf 0 om) vl (fn.body.getD .skip) = some c.erase)
    (hvl : ((List.range n).all vl.contains) = true) (hn : decide (n ≤ fn.ntmps ∧ om.length ≤ n ∧ m = rs.length) = true) : VT n m fn f vl om rs c :=
  fun {_} rcs {_ _ _} hN hret hW => fn_valid_n n m _ _ _ _ rcs hf hb hname hr hcomp hvl hn hN hret hW
abbrev Qa (n0 : Nat) (n1 : Nat) : AOper := ⟨.loc n0, .mv (.var n1), none, []⟩
abbrev Qb (n0 : Nat) (n1 : Nat) (n2 : Nat) : AOper := ⟨.loc n0, .fld n1 (.var n2), none, []⟩
abbrev Qc (n0 : Nat) (n1 : Nat) : AOper := ⟨.var n0, .mv (.loc n1), none, []⟩
abbrev Qd (n0 : Nat) (n1 : Nat) (n2 : Nat) : AOper := ⟨.loc n0, .load false n1 (.loc n2), none, []⟩
abbrev Qe (n0 : Nat) (n1 : Int) : AOper := ⟨.var n0, .mv (.const (.d (.int .i64 n1))), none, []⟩
abbrev Qf (n0 : Nat) : AOper := ⟨.var n0, .mv (.const (.d (.bool false))), none, []⟩
abbrev Qg (n0 : Nat) (n1 : Nat) : AOper := ⟨.var n0, .box (.var n1), none, []⟩
abbrev Qh (n0 : Nat) (n1 : Nat) (n2 : Int) : AOper := ⟨.loc n0, .bin .int .add (.loc n1) (.const (.d (.int .i64 n2))), none, []⟩
abbrev Qi (n0 : Nat) (n1 : Nat) : AOper := ⟨.loc n0, .len false (.loc n1), none, []⟩
abbrev Qj (n0 : Nat) (n1 : Nat) (n2 : Nat) : AOper := ⟨.none, .store n0 (.loc n1) (.loc n2), none, []⟩
abbrev Qk (n0 : Nat) (n1 : Nat) : AOper := ⟨.loc n0, .split (.loc n1), none, []⟩
abbrev Ql (n0 : Nat) (n1 : Nat) (n2 : Nat) : AOper := ⟨.loc n0, .load true n1 (.var n2), none, []⟩
abbrev Qm (n0 : Nat) (n1 : Nat) (n2 : Nat) (n3 : Nat) : AOper := ⟨.loc n0, .idxA n1 (.loc n2) (.loc n3), none, []⟩
abbrev Qn (n0 : Nat) (n1 : Nat) (n2 : Nat) : AOper := ⟨.none, .store n0 (.var n1) (.loc n2), none, []⟩
abbrev Qo (n0 : Nat) (n1 : Nat) (n2 : Nat) : AOper := ⟨.loc n0, .load true n1 (.loc n2), none, []⟩
abbrev Qp (n0 : Nat) (n1 : Nat) (n2 : Nat) : AOper := ⟨.loc n0, .call (.fn n1) [(.loc n2)] [.borrow], none, []⟩
abbrev Qq (n0 : Nat) (n1 : Nat) (n2 : Nat) : AOper := ⟨.var n0, .bin .int .lss (.loc n1) (.loc n2), none, []⟩
abbrev Qr (n0 : Nat) (n1 : Nat) (n2 : Nat) (n3 : Nat) : AOper := ⟨.loc n0, .call (.fn n1) [(.loc n2), (.loc n3)] [.borrow, .borrow], none, []⟩
abbrev Qs (n0 : Nat) (n1 : Nat) (n2 : Nat) (n3 : List Nat) : AOper := ⟨.loc n0, .load false n1 (.loc n2), none, n3⟩
abbrev Qt (n0 : Nat) (n1 : Nat) (n2 : Nat) : AOper := ⟨.loc n0, .fld n1 (.loc n2), none, []⟩
abbrev Qu (n0 : Nat) (n1 : Nat) (n2 : Int) : AOper := ⟨.var n0, .bin .int .lss (.loc n1) (.const (.d (.int .i64 n2))), none, []⟩
abbrev Qv (n0 : Nat) (n1 : Nat) (n2 : Nat) : AOper := ⟨.var n0, .bin .int .neq (.loc n1) (.loc n2), none, []⟩
abbrev Qw (n0 : Nat) (n1 : Nat) (n2 : Nat) (n3 : Nat) (n4 : List Nat) : AOper := ⟨.loc n0, .load false n1 (.loc n2), some ((.loc n3), true), n4⟩
abbrev Qx (n0 : Nat) (n1 : Nat) (n2 : Nat) (n3 : Nat) : AOper := ⟨.loc n0, .load false n1 (.loc n2), some ((.loc n3), true), []⟩
abbrev Qy (n0 : Nat) : AOper := ⟨.var n0, .mv (.const (.d (.bool true))), none, []⟩
abbrev Qz (n0 : Nat) (n1 : Nat) (n2 : Nat) (n3 : Nat) (n4 : List Nat) : AOper := ⟨.loc n0, .idxA n1 (.loc n2) (.loc n3), none, n4⟩
abbrev Qaa (n0 : Nat) (n1 : Nat) (n2 : Nat) (n3 : Nat) : AOper := ⟨.loc n0, .fld n1 (.var n2), some ((.loc n3), true), []⟩
abbrev Qab (n0 : Nat) (n1 : Nat) (n2 : Nat) : AOper := ⟨.loc n0, .pick (.loc n1) (.loc n2) (.const (.d (.bool false))), none, []⟩
abbrev Qac (n0 : Nat) (n1 : Nat) (n2 : Nat) : AOper := ⟨.loc n0, .mv (.var n1), some ((.loc n2), true), []⟩
abbrev Qad (n0 : Nat) (n1 : Nat) (n2 : Nat) (n3 : Nat) : AOper := ⟨.loc n0, .fld n1 (.var n2), some ((.loc n3), false), []⟩
abbrev Qae (n0 : Nat) (n1 : Nat) (n2 : List Nat) : AOper := ⟨.loc n0, .split (.loc n1), none, n2⟩
abbrev Qaf (n0 : Nat) (n1 : Nat) (n2 : Nat) : AOper := ⟨.loc n0, .un .not (.loc n1), some ((.loc n2), false), []⟩
abbrev Qag (n0 : Nat) (n1 : Nat) (n2 : Nat) (n3 : List Nat) : AOper := ⟨.loc n0, .call (.fn n1) [(.loc n2)] [.borrow], none, n3⟩
abbrev Qah (n0 : Nat) (n1 : Nat) (n2 : Nat) : AOper := ⟨.loc n0, .pick (.loc n1) (.const (.d (.bool true))) (.loc n2), none, []⟩
abbrev Qai (n0 : Nat) (n1 : Nat) (n2 : Nat) (n3 : List Nat) : AOper := ⟨.loc n0, .load true n1 (.loc n2), none, n3⟩
abbrev Qaj (n0 : Nat) (n1 : Nat) (n2 : Nat) (n3 : Nat) (n4 : List Nat) : AOper := ⟨.loc n0, .fld n1 (.var n2), some ((.loc n3), true), n4⟩
abbrev Qak (n0 : Nat) (n1 : Nat) (n2 : Nat) : AOper := ⟨.var n0, .alloc [.nil n1 n2], none, []⟩
abbrev Qal (n0 : Nat) (n1 : Nat) (n2 : Nat) (n3 : Nat) : AOper := ⟨.loc n0, .load false n1 (.loc n2), some ((.loc n3), false), []⟩
abbrev Qam (n0 : Nat) (n1 : Nat) : AOper := ⟨.loc n0, .len true (.loc n1), none, []⟩
abbrev Qan (n0 : Nat) (n1 : Nat) (n2 : Nat) : AOper := ⟨.loc n0, .mv (.var n1), some ((.loc n2), false), []⟩
abbrev Qao (n0 : Nat) (n1 : Nat) : AOper := ⟨.var n0, .un .not (.loc n1), none, []⟩
abbrev Qap (n0 : Nat) (n1 : Nat) (n2 : Nat) (n3 : List Nat) : AOper := ⟨.loc n0, .mv (.var n1), some ((.loc n2), true), n3⟩
abbrev Qaq (n0 : Nat) (n1 : Nat) (n2 : Nat) : AOper := ⟨.var n0, .pick (.loc n1) (.const (.d (.bool true))) (.loc n2), none, []⟩
abbrev Qar (n0 : Nat) (n1 : Nat) (n2 : Nat) (n3 : Nat) (n4 : List Nat) : AOper := ⟨.loc n0, .load false n1 (.loc n2), some ((.loc n3), false), n4⟩
abbrev Qas (n0 : Nat) (n1 : Nat) (n2 : Nat) (n3 : List Nat) : AOper := ⟨.loc n0, .mv (.var n1), some ((.loc n2), false), n3⟩
abbrev Qat (n0 : Nat) (n1 : Nat) (n2 : Nat) (n3 : Nat) (n4 : Nat) (n5 : List Nat) : AOper := ⟨.loc n0, .idxA n1 (.loc n2) (.loc n3), some ((.loc n4), true), n5⟩
abbrev Qau (n0 : Nat) (n1 : Nat) (n2 : Nat) (n3 : Nat) (n4 : List Nat) : AOper := ⟨.loc n0, .fld n1 (.loc n2), some ((.loc n3), true), n4⟩
abbrev Qav (n0 : Nat) (n1 : Nat) (n2 : Nat) : AOper := ⟨.loc n0, .ext (.loc n1) n2, none, []⟩
abbrev Qaw (n0 : Nat) (n1 : Int) (n2 : Int) (n3 : Int) (n4 : Nat) (n5 : Nat) (n6 : Nat) (n7 : Nat) (n8 : Nat) (n9 : Nat) (n10 : Int) (n11 : Int) (n12 : Nat) (n13 : Nat) (n14 : Nat) (n15 : Nat) : AOper := ⟨.var n0, .alloc [.d (.int .i64 n1), .d (.int .i64 n2), .d (.int .i64 n3), .nil n4 n5, .nil n6 n7, .nil n8 n9, .d (.int .i64 n10), .d (.int .i64 n11), .nil n12 n13, .nil n14 n15], none, []⟩
abbrev Qax (n0 : Nat) (n1 : Nat) : AOper := ⟨.loc n0, .un .not (.loc n1), none, []⟩
abbrev Qay (n0 : Nat) (n1 : Nat) (n2 : Nat) (n3 : List Nat) : AOper := ⟨.loc n0, .fld n1 (.loc n2), none, n3⟩
abbrev Qaz (n0 : Nat) (n1 : Nat) (n2 : Nat) (n3 : Nat) (n4 : List Nat) : AOper := ⟨.loc n0, .fld n1 (.var n2), some ((.loc n3), false), n4⟩
abbrev Qba (n0 : Nat) (n1 : Nat) (n2 : Nat) : AOper := ⟨.var n0, .bin .int .lss (.var n1) (.var n2), none, []⟩
abbrev Qbb (n0 : Nat) (n1 : Nat) (n2 : Int) : AOper := ⟨.loc n0, .bin .int .add (.var n1) (.const (.d (.int .i64 n2))), none, []⟩
abbrev Qbc (n0 : Nat) (n1 : Nat) (n2 : Nat) (n3 : Nat) : AOper := ⟨.loc n0, .call (.fn n1) [(.loc n2), (.loc n3)] [.lend, .borrow], none, []⟩
abbrev Qbd (n0 : Nat) (n1 : Nat) (n2 : Nat) : AOper := ⟨.loc n0, .bin .int .sub (.loc n1) (.loc n2), none, []⟩
abbrev Qbe (n0 : Nat) (n1 : Nat) (n2 : Nat) (n3 : List Nat) : AOper := ⟨.none, .store n0 (.loc n1) (.loc n2), none, n3⟩
abbrev Qbf (n0 : Nat) (n1 : Nat) (n2 : Int) (n3 : Nat) (n4 : List Nat) : AOper := ⟨.loc n0, .bin .int .sub (.loc n1) (.const (.d (.int .i64 n2))), some ((.loc n3), true), n4⟩
abbrev Qbg (n0 : Nat) (n1 : Nat) (n2 : Nat) (n3 : List Nat) : AOper := ⟨.var n0, .pick (.loc n1) (.const (.d (.bool true))) (.loc n2), none, n3⟩
abbrev Qbh (n0 : Nat) (n1 : Nat) (n2 : Nat) (n3 : Int) (n4 : Int) : AOper := ⟨.loc n0, .call (.fn n1) [(.loc n2), (.const (.d (.int .i64 n3))), (.const (.d (.int .i64 n4)))] [.borrow, .borrow, .borrow], none, []⟩
abbrev Qbi (n0 : Nat) (n1 : Nat) (n2 : Nat) (n3 : Int) (n4 : Int) (n5 : Nat) : AOper := ⟨.loc n0, .call (.fn n1) [(.loc n2), (.const (.d (.int .i64 n3))), (.const (.d (.int .i64 n4)))] [.borrow, .borrow, .borrow], some ((.loc n5), false), []⟩
abbrev Qbj (n0 : Nat) (n1 : Nat) (n2 : Nat) (n3 : Nat) : AOper := ⟨.loc n0, .call (.fn n1) [(.loc n2)] [.borrow], some ((.loc n3), false), []⟩
abbrev Qbk (n0 : Nat) (n1 : Nat) (n2 : Nat) (n3 : List Nat) : AOper := ⟨.loc n0, .pick (.loc n1) (.const (.d (.bool true))) (.loc n2), none, n3⟩
abbrev Qbl (n0 : Nat) (n1 : Nat) (n2 : Nat) (n3 : List Nat) : AOper := ⟨.loc n0, .split (.loc n1), some ((.loc n2), false), n3⟩
abbrev Qbm (n0 : Nat) (n1 : Nat) (n2 : Nat) (n3 : Nat) (n4 : List Nat) : AOper := ⟨.loc n0, .pick (.loc n1) (.loc n2) (.const (.d (.bool false))), some ((.loc n3), false), n4⟩
abbrev Qbn (n0 : Nat) (n1 : Nat) (n2 : Nat) (n3 : List Nat) : AOper := ⟨.loc n0, .fld n1 (.var n2), none, n3⟩
abbrev Qbo (n0 : Nat) (n1 : Nat) (n2 : List Nat) : AOper := ⟨.loc n0, .un .not (.loc n1), none, n2⟩
abbrev Qbp (n0 : Nat) (n1 : Nat) (n2 : Int) (n3 : Nat) (n4 : List Nat) : AOper := ⟨.loc n0, .bin .int .gtr (.loc n1) (.const (.d (.int .i64 n2))), some ((.loc n3), false), n4⟩
abbrev Qbq (n0 : Nat) (n1 : Int) (n2 : Int) (n3 : Nat) (n4 : Nat) (n5 : Int) (n6 : Int) (n7 : Int) (n8 : Int) : AOper := ⟨.var n0, .alloc [.d (.int .i64 n1), .d (.int .i64 n2), .nil n3 n4, .d (.int .i64 n5), .d (.int .i64 n6), .d (.int .i64 n7), .d (.int .i64 n8)], none, []⟩
abbrev Qbr (n0 : Nat) (n1 : Nat) (n2 : Int) : AOper := ⟨.var n0, .bin .int .gtr (.loc n1) (.const (.d (.int .i64 n2))), none, []⟩
abbrev Qbs (n0 : Nat) (n1 : Nat) (n2 : Nat) (n3 : Nat) (n4 : List Nat) : AOper := ⟨.loc n0, .call (.fn n1) [(.loc n2), (.loc n3)] [.borrow, .borrow], none, n4⟩
abbrev Qbt (n0 : Nat) (n1 : Nat) (n2 : Nat) (n3 : Nat) : AOper := ⟨.loc n0, .load true n1 (.loc n2), some ((.loc n3), false), []⟩
abbrev Qbu (n0 : Nat) (n1 : Nat) (n2 : Nat) (n3 : Nat) (n4 : List Nat) : AOper := ⟨.loc n0, .bin .int .geq (.loc n1) (.loc n2), some ((.loc n3), true), n4⟩
abbrev Qbv (n0 : Nat) (n1 : Nat) (n2 : Nat) : AOper := ⟨.var n0, .mv (.const (.nil n1 n2)), none, []⟩
abbrev Qbw (n0 : Nat) (n1 : Nat) : AOper := ⟨.var n0, .len false (.var n1), none, []⟩
abbrev Qbx (n0 : Nat) (n1 : Nat) (n2 : Nat) (n3 : Nat) : AOper := ⟨.loc n0, .idxA n1 (.var n2) (.var n3), none, []⟩
abbrev Qby (n0 : Nat) (n1 : Nat) (n2 : Nat) (n3 : Int) (n4 : Int) (n5 : Nat) : AOper := ⟨.loc n0, .call (.fn n1) [(.loc n2), (.const (.d (.int .i64 n3))), (.const (.d (.int .i64 n4)))] [.borrow, .borrow, .borrow], some ((.loc n5), true), []⟩
abbrev Qbz (n0 : Nat) (n1 : Nat) (n2 : Nat) (n3 : List Nat) : AOper := ⟨.var n0, .bin .str .neq (.loc n1) (.loc n2), none, n3⟩
abbrev Qca (n0 : Nat) (n1 : Nat) (n2 : Int) : AOper := ⟨.loc n0, .bin .int .leq (.loc n1) (.const (.d (.int .i64 n2))), none, []⟩
abbrev Qcb (n0 : Nat) (n1 : Nat) : AOper := ⟨.loc n0, .mv (.loc n1), none, []⟩
abbrev Qcc (n0 : Nat) (n1 : Nat) (n2 : List Nat) : AOper := ⟨.var n0, .un .not (.loc n1), none, n2⟩
abbrev Qcd (n0 : Nat) (n1 : Nat) (n2 : Nat) (n3 : Nat) : AOper := ⟨.loc n0, .bin .int .leq (.loc n1) (.loc n2), some ((.loc n3), true), []⟩
abbrev Qce (n0 : Nat) (n1 : Nat) (n2 : Nat) : AOper := ⟨.var n0, .load false n1 (.loc n2), none, []⟩
abbrev Qcf (n0 : Nat) (n1 : Nat) (n2 : Nat) (n3 : Nat) (n4 : Nat) (n5 : List Nat) : AOper := ⟨.loc n0, .app n1 n2 (.loc n3) (.loc n4), none, n5⟩
abbrev Qcg (n0 : Nat) (n1 : Nat) (n2 : Nat) (n3 : Nat) : AOper := ⟨.loc n0, .load true n1 (.var n2), some ((.loc n3), false), []⟩
abbrev Qch (n0 : Nat) (n1 : Nat) (n2 : Nat) (n3 : List Nat) : AOper := ⟨.loc n0, .un .not (.loc n1), some ((.loc n2), false), n3⟩
abbrev Qci (n0 : Nat) (n1 : Nat) (n2 : Nat) : AOper := ⟨.var n0, .bin .str .neq (.loc n1) (.loc n2), none, []⟩
abbrev Qcj (n0 : Nat) (n1 : Nat) (n2 : Nat) : AOper := ⟨.loc n0, .un .not (.loc n1), some ((.loc n2), true), []⟩
abbrev Qck (n0 : Nat) (n1 : Nat) (n2 : Nat) (n3 : Int) (n4 : Int) : AOper := ⟨.var n0, .alloc [.nil n1 n2, .d (.int .i64 n3), .d (.int .i64 n4)], none, []⟩
abbrev Qcl (n0 : Nat) (n1 : Nat) (n2 : Int) (n3 : Nat) : AOper := ⟨.loc n0, .bin .int .add (.loc n1) (.const (.d (.int .i64 n2))), some ((.loc n3), true), []⟩
def c6_0:= rg [Qg 5 0,
Qf 10]
def c6_1:= rg [Qa 22 2,
Qam 23 22,
Qbr 24 23 1048576]
def c6_2:= rg [Qy 10]
def c6_3:= rg [Qe 11 1048576]
def c6_4:= rg [Ql 25 10 5,
Qa 26 11,
Qr 27 11 25 26,
Qc 11 27]
def c6_5:= rg [Qa 28 11,
Qu 29 28 0]
def c6_6:= rg [Qy 10]
def c6_7:= rg [Ql 31 10 5,
Qp 32 13 31,
Qa 33 1,
Qa 34 2,
Qa 35 3,
Qa 36 4,
⟨.loc 37, .call (.fn 27) [(.loc 32), (.loc 33), (.loc 34), (.loc 35), (.loc 36)] [.borrow, .borrow, .borrow, .borrow, .borrow], none, []⟩,
Qcb 30 37,
Qav 38 30 0,
Qav 39 30 1,
Qaw 12 0 0 0 1 7 0 6 0 2 0 0 0 3 0 2,
Qn 10 12 38,
Qc 13 39]
def c6_8:= rg [Ql 40 10 5,
Qp 41 13 40,
Qaw 14 0 0 0 1 7 0 6 0 2 0 0 0 3 0 2,
Qn 10 14 41]
def c6_9:= rg [Ql 43 10 14,
Qa 44 1,
Qa 45 2,
Qa 46 3,
Qa 47 4,
⟨.loc 48, .call (.fn 28) [(.loc 43), (.loc 44), (.loc 45), (.loc 46), (.loc 47)] [.borrow, .borrow, .borrow, .borrow, .borrow], none, []⟩,
Qcb 42 48,
Qav 49 42 0,
Qav 50 42 1,
Qaw 15 0 0 0 1 7 0 6 0 2 0 0 0 3 0 2,
Qn 10 15 49,
Qc 16 50]
def c6_10:= rg [Ql 51 10 15,
Ql 52 10 12,
Qr 53 15 51 52,
Qax 54 53,
Qk 55 54,
Qan 56 16 55,
Qan 57 13 55,
⟨.loc 58, .bin .int .neq (.loc 56) (.loc 57), some ((.loc 55), false), []⟩,
Qaq 59 55 58]
def c6_11:= rg [Qf 10]
def c6_12 : ACode := .reg [Ql 60 10 14,
  Ql 61 10 5,
  Qag 62 13 61 [1],
  Qbs 63 15 60 62 [0,2,1],
  Qcc 64 63 [3,0,2,1]] true
def c6_13:= rg [Qf 10]
def c6_14:= rg [Qe 17 1]
def c6_15:= rg [Ql 65 10 14,
Qa 66 17,
Qbc 67 19 65 66,
Qc 17 67]
def c6_16:= rg [Qa 68 17,
⟨.loc 69, .bin .int .lss (.loc 68) (.const (.d (.int .i64 0))), none, []⟩,
Qk 70 69,
Qcg 71 10 15 70,
Qcg 72 10 12 70,
⟨.loc 73, .call (.fn 15) [(.loc 71), (.loc 72)] [.borrow, .borrow], some ((.loc 70), false), []⟩,
Qaf 74 73 70,
Qah 75 70 74,
Qk 76 75,
Qan 77 16 76,
Qan 78 13 76,
⟨.loc 79, .bin .int .neq (.loc 77) (.loc 78), some ((.loc 76), false), []⟩,
Qaq 80 76 79]
def c6_17:= rg [Qf 10]
def c6_18:= rg [Qe 18 1]
def c6_19:= rg [Ql 81 10 15,
Qa 82 18,
Qbc 83 19 81 82,
Qc 18 83]
def c6_20:= rg [Qe 19 1]
def c6_21:= rg [Ql 84 10 15,
Qa 85 19,
Qr 86 29 84 85,
Qc 19 86]
def c6_22:= rg [Qa 87 19,
Qu 88 87 0]
def c6_23:= rg [Qf 10]
def c6_24:= rg [Qa 89 19,
Qa 90 18,
Qv 91 89 90]
def c6_25:= rg [Qf 10]
def c6_26:= rg [Ql 93 10 5,
Qp 94 13 93,
Qa 95 1,
Qa 96 2,
Qa 97 3,
Qa 98 4,
⟨.loc 99, .call (.fn 28) [(.loc 94), (.loc 95), (.loc 96), (.loc 97), (.loc 98)] [.borrow, .borrow, .borrow, .borrow, .borrow], none, []⟩,
Qcb 92 99,
Qav 100 92 0,
Qav 101 92 1,
Qaw 20 0 0 0 1 7 0 6 0 2 0 0 0 3 0 2,
Qn 10 20 100,
Qc 21 101]
def c6_27:= rg [Ql 102 10 20,
Ql 103 10 12,
Qr 104 15 102 103,
Qax 105 104,
Qk 106 105,
Qan 107 21 106,
Qan 108 13 106,
⟨.loc 109, .bin .int .neq (.loc 107) (.loc 108), some ((.loc 106), false), []⟩,
Qaq 110 106 109]
def c6_28:= rg [Qf 10]
def c6_29:= rg [Qe 19 1]
def c6_30:= rg [Ql 111 10 15,
Qa 112 19,
Qr 113 29 111 112,
Qc 19 113]
def c6_31:= rg [Qa 114 19,
Qu 115 114 0]
def c6_32:= rg [Qf 10]
def c6_33:= rg [Qa 116 19,
Qa 117 18,
Qv 118 116 117]
def c6_34:= rg [Qf 10]
def c6_35:= rg [Qy 10]
def c6 : ACode := (.seq c6_0 (.seq (.seq c6_1 (.cond (.var 24) (.seq c6_2 .ret) .skip)) (.seq c6_3 (.seq c6_4 (.seq (.seq c6_5 (.cond (.var 29) (.seq c6_6 .ret) .skip)) (.seq c6_7 (.seq c6_8 (.seq c6_9 (.seq (.seq c6_10 (.cond (.var 59) (.seq c6_11 .ret) .skip)) (.seq (.seq c6_12 (.cond (.var 64) (.seq c6_13 .ret) .skip)) (.seq c6_14 (.seq c6_15 (.seq (.seq c6_16 (.cond (.var 80) (.seq c6_17 .ret) .skip)) (.seq c6_18 (.seq c6_19 (.seq c6_20 (.seq c6_21 (.seq (.seq c6_22 (.cond (.var 88) (.seq c6_23 .ret) .skip)) (.seq (.seq c6_24 (.cond (.var 91) (.seq c6_25 .ret) .skip)) (.seq c6_26 (.seq (.seq c6_27 (.cond (.var 110) (.seq c6_28 .ret) .skip)) (.seq c6_29 (.seq c6_30 (.seq (.seq c6_31 (.cond (.var 115) (.seq c6_32 .ret) .skip)) (.seq (.seq c6_33 (.cond (.var 118) (.seq c6_34 .ret) .skip)) (.seq c6_35 .ret))))))))))))))))))))))))))
abbrev F_L_FnExactGrantLease : FuncId := 6
theorem v_L_FnExactGrantLease : VT 5 1 Tryz.f6 6 [0,1,2,3,4,5,10,11,12,13,14,15,16,17,18,19,20,21,24,29,59,64,80,88,91,110,115,118] [none, none, none, none, none] [(.give, 10, none)] c6 := mkV Tryz.func6 rfl rfl (by kernel_rfl) (by kernel_rfl) rfl rfl
def c11_0:= rg [Qg 2 0,
Qe 4 0]
def c11_1:= rg [Qb 5 3 2,
Qo 6 1 5,
Qa 7 1,
Qr 8 44 6 7,
Qc 1 8]
def c11_2:= rg [Qa 9 1,
Qu 10 9 0]
def c11_3:= rg [Qe 4 (-1)]
def c11_4:= rg [Qb 11 4 2,
Qo 12 1 11,
Qa 13 1,
Qr 14 45 12 13,
Qc 1 14]
def c11_5:= rg [Qa 15 1,
Qu 16 15 0]
def c11_6:= rg [Qe 4 (-1)]
def c11_7:= rg [Qb 17 5 2,
Qo 18 3 17,
Qa 19 1,
Qr 20 46 18 19,
Qc 1 20]
def c11_8:= rg [Qa 21 1,
Qu 22 21 0]
def c11_9:= rg [Qe 4 (-1)]
def c11_10:= rg [Qb 23 8 2,
Qo 24 1 23,
Qa 25 1,
Qr 26 47 24 25,
Qc 1 26]
def c11_11:= rg [Qa 27 1,
Qu 28 27 0]
def c11_12:= rg [Qe 4 (-1)]
def c11_13:= rg [Qb 29 9 2,
Qd 30 1 29,
Qa 31 1,
Qr 32 48 30 31,
Qc 1 32]
def c11_14:= rg [Qa 33 1,
Qu 34 33 0]
def c11_15:= rg [Qe 4 (-1)]
def c11_16:= rg [Qa 35 1,
Qc 4 35]
def c11 : ACode := (.seq c11_0 (.seq c11_1 (.seq (.seq c11_2 (.cond (.var 10) (.seq c11_3 .ret) .skip)) (.seq c11_4 (.seq (.seq c11_5 (.cond (.var 16) (.seq c11_6 .ret) .skip)) (.seq c11_7 (.seq (.seq c11_8 (.cond (.var 22) (.seq c11_9 .ret) .skip)) (.seq c11_10 (.seq (.seq c11_11 (.cond (.var 28) (.seq c11_12 .ret) .skip)) (.seq c11_13 (.seq (.seq c11_14 (.cond (.var 34) (.seq c11_15 .ret) .skip)) (.seq c11_16 .ret))))))))))))
abbrev F_L_szWorld : FuncId := 11
theorem v_L_szWorld : VT 2 1 Tryz.f11 11 [0,1,2,4,10,16,22,28,34] [none, none] [(.give, 4, none)] c11 := mkV Tryz.func11 rfl rfl (by kernel_rfl) (by kernel_rfl) rfl rfl
def c12_0:= rg [Qg 1 0,
Qf 2]
def c12_1:= rg [Qb 9 0 1,
Qd 10 1 9,
Qbh 11 49 10 0 1000000000,
Qax 12 11,
Qk 13 12,
Qad 14 1 1 13,
Qal 15 1 14 13,
Qbi 16 49 15 1 1000000000 13,
Qaf 17 16 13,
Qah 18 13 17,
Qk 19 18,
Qad 20 2 1 19,
Qal 21 1 20 19,
Qbi 22 49 21 0 1000000000 19,
Qaf 23 22 19,
Qah 24 19 23,
Qk 25 24,
Qad 26 3 1 25,
Qbt 27 1 26 25,
Qbj 28 50 27 25,
Qaf 29 28 25,
Qah 30 25 29,
Qk 31 30,
Qad 32 4 1 31,
Qbt 33 1 32 31,
Qbj 34 51 33 31,
Qaf 35 34 31,
Qah 36 31 35,
Qk 37 36,
Qad 38 5 1 37,
Qbt 39 3 38 37,
Qbj 40 52 39 37,
Qaf 41 40 37,
Qah 42 37 41,
Qk 43 42,
Qad 44 8 1 43,
Qbt 45 1 44 43,
Qbj 46 53 45 43,
Qaf 47 46 43,
Qaq 48 43 47]
def c12_2:= rg [Qf 2]
def c12_3:= rg [Qe 3 0]
def c12_4:= rg [Qa 49 3,
Qb 50 3 1,
Qt 51 0 50,
Qd 52 1 51,
Qi 53 52,
Qq 54 49 53]
def c12_5 : ACode := .reg [Qb 57 3 1,
  Qay 58 0 57 [0],
  Qs 59 1 58 [1,0],
  Qa 60 3,
  Qz 61 7 59 60 [2,1,0,3],
  Qay 62 0 61 [4,2,1,0,3],
  Qs 63 1 62 [5,4,2,1,0,3],
  Qb 64 1 1,
  Qs 65 1 64 [7],
  ⟨.var 66, .bin .int .geq (.loc 63) (.loc 65), none, [6, 5, 4, 2, 1, 0, 3, 8, 7]⟩] true
def c12_6:= rg [Qf 2]
def c12_7:= rg [Qa 55 3,
Qh 56 55 1,
Qc 3 56]
def c12_8 : ACode := (.seq (.seq c12_4 (.cond (.var 54) .skip (.exit 0))) (.seq (.block 1 (.seq c12_5 (.cond (.var 66) (.seq c12_6 .ret) .skip))) c12_7))
def c12_9:= rg [Qe 4 0]
def c12_10:= rg [Qa 67 4,
Qb 68 4 1,
Qt 69 0 68,
Qd 70 1 69,
Qi 71 70,
Qq 72 67 71]
def c12_11 : ACode := .reg [Qb 75 4 1,
  Qay 76 0 75 [0],
  Qs 77 1 76 [1,0],
  Qa 78 4,
  Qz 79 6 77 78 [2,1,0,3],
  Qay 80 0 79 [4,2,1,0,3],
  Qs 81 1 80 [5,4,2,1,0,3],
  Qb 82 1 1,
  Qs 83 1 82 [7],
  ⟨.var 84, .bin .int .geq (.loc 81) (.loc 83), none, [6, 5, 4, 2, 1, 0, 3, 8, 7]⟩] true
def c12_12:= rg [Qf 2]
def c12_13:= rg [Qa 73 4,
Qh 74 73 1,
Qc 4 74]
def c12_14 : ACode := (.seq (.seq c12_10 (.cond (.var 72) .skip (.exit 2))) (.seq (.block 3 (.seq c12_11 (.cond (.var 84) (.seq c12_12 .ret) .skip))) c12_13))
def c12_15:= rg [Qb 85 9 1,
Qd 86 1 85,
Qi 87 86,
Qb 88 4 1,
Qt 89 0 88,
Qd 90 1 89,
Qi 91 90,
⟨.var 92, .bin .int .gtr (.loc 87) (.loc 91), none, []⟩]
def c12_16:= rg [Qf 2]
def c12_17:= rg [Qe 5 0]
def c12_18:= rg [Qa 93 5,
Qb 94 9 1,
Qd 95 1 94,
Qi 96 95,
Qq 97 93 96]
def c12_19 : ACode := .reg [Qb 101 4 1,
  Qai 102 1 101 [0],
  Qb 103 9 1,
  Qs 104 1 103 [2],
  Qa 105 5,
  Qz 106 2 104 105 [3,2,4],
  Qay 107 0 106 [5,3,2,4],
  Qs 108 1 107 [6,5,3,2,4],
  Qbs 109 54 102 108 [1,0,7,6,5,3,2,4],
  ⟨.loc 100, .mv (.loc 109), none, [8, 1, 0, 7, 6, 5, 3, 2, 4]⟩,
  ⟨.loc 110, .ext (.loc 100) 0, none, [9, 8, 1, 0, 7, 6, 5, 3, 2, 4]⟩,
  ⟨.loc 111, .ext (.loc 100) 1, none, [9, 8, 1, 0, 7, 6, 5, 3, 2, 4]⟩,
  ⟨.loc 6, .alloc [.d (.int .i64 0), .d (.int .i64 0), .d (.str []), .d (.int .i64 0), .d (.int .i64 0), .d (.int .i64 0)], none, []⟩,
  Qbe 6 6 110 [10,9,8,1,0,7,6,5,3,2,4,12],
  ⟨.var 7, .mv (.loc 111), none, [11, 13, 10, 9, 8, 1, 0, 7, 6, 5, 3, 2, 4, 12]⟩] true
def c12_20 : ACode := .reg [Qa 112 7,
  Qbo 113 112 [0],
  Qae 114 113 [1,0],
  Qaz 115 9 1 114 [2,1,0],
  Qar 116 1 115 114 [3,2,1,0],
  Qas 117 5 114 [2,1,0],
  ⟨.loc 118, .idxA 2 (.loc 116) (.loc 117), some ((.loc 114), false), [4, 3, 5, 2, 1, 0]⟩,
  ⟨.loc 119, .fld 1 (.loc 118), some ((.loc 114), false), [6, 4, 3, 5, 2, 1, 0]⟩,
  Qar 120 1 119 114 [7,6,4,3,5,2,1,0],
  ⟨.loc 121, .call (.fn 55) [(.loc 120)] [.borrow], some ((.loc 114), false), [8, 7, 6, 4, 3, 5, 2, 1, 0]⟩,
  Qch 122 121 114 [9,8,7,6,4,3,5,2,1,0],
  Qbk 123 114 122 [10,9,8,7,6,4,3,5,2,1,0],
  Qae 124 123 [11,10,9,8,7,6,4,3,5,2,1,0],
  Qas 125 5 124 [12,11,10,9,8,7,6,4,3,5,2,1,0],
  Qbp 126 125 0 124 [13,12,11,10,9,8,7,6,4,3,5,2,1,0],
  Qbl 127 126 124 [14,13,12,11,10,9,8,7,6,4,3,5,2,1,0],
  Qaj 128 9 1 127 [15,14,13,12,11,10,9,8,7,6,4,3,5,2,1,0],
  Qw 129 1 128 127 [16,15,14,13,12,11,10,9,8,7,6,4,3,5,2,1,0],
  Qap 130 5 127 [15,14,13,12,11,10,9,8,7,6,4,3,5,2,1,0],
  Qbf 131 130 1 127 [18,15,14,13,12,11,10,9,8,7,6,4,3,5,2,1,0],
  Qat 132 2 129 131 127 [17,16,19,18,15,14,13,12,11,10,9,8,7,6,4,3,5,2,1,0],
  Qau 133 0 132 127 [20,17,16,19,18,15,14,13,12,11,10,9,8,7,6,4,3,5,2,1,0],
  Qw 134 1 133 127 [21,20,17,16,19,18,15,14,13,12,11,10,9,8,7,6,4,3,5,2,1,0],
  Qaj 135 9 1 127 [15,14,13,12,11,10,9,8,7,6,4,3,5,2,1,0],
  Qw 136 1 135 127 [23,15,14,13,12,11,10,9,8,7,6,4,3,5,2,1,0],
  Qap 137 5 127 [15,14,13,12,11,10,9,8,7,6,4,3,5,2,1,0],
  Qat 138 2 136 137 127 [24,23,25,15,14,13,12,11,10,9,8,7,6,4,3,5,2,1,0],
  Qau 139 0 138 127 [26,24,23,25,15,14,13,12,11,10,9,8,7,6,4,3,5,2,1,0],
  Qw 140 1 139 127 [27,26,24,23,25,15,14,13,12,11,10,9,8,7,6,4,3,5,2,1,0],
  Qbu 141 134 140 127 [22,21,20,17,16,19,18,28,27,26,24,23,25,15,14,13,12,11,10,9,8,7,6,4,3,5,2,1,0],
  Qbm 142 127 141 124 [29,22,21,20,17,16,19,18,28,27,26,24,23,25,15,14,13,12,11,10,9,8,7,6,4,3,5,2,1,0],
  Qbg 143 124 142 [30,29,22,21,20,17,16,19,18,28,27,26,24,23,25,15,14,13,12,11,10,9,8,7,6,4,3,5,2,1,0]] true
def c12_21:= rg [Qf 2]
def c12_22:= rg [Qe 8 0]
def c12_23:= rg [Qa 144 8,
Qa 145 5,
Qq 146 144 145]
def c12_24 : ACode := .reg [Qb 149 9 1,
  Qs 150 1 149 [0],
  Qa 151 8,
  Qz 152 2 150 151 [1,0,2],
  Qay 153 1 152 [3,1,0,2],
  Qs 154 1 153 [4,3,1,0,2],
  Qb 155 9 1,
  Qs 156 1 155 [6],
  Qa 157 5,
  Qz 158 2 156 157 [7,6,8],
  Qay 159 1 158 [9,7,6,8],
  Qs 160 1 159 [10,9,7,6,8],
  ⟨.var 161, .bin .str .eql (.loc 154) (.loc 160), none, [5, 4, 3, 1, 0, 2, 11, 10, 9, 7, 6, 8]⟩] true
def c12_25:= rg [Qf 2]
def c12_26:= rg [Qa 147 8,
Qh 148 147 1,
Qc 8 148]
def c12_27 : ACode := (.seq (.seq c12_23 (.cond (.var 146) .skip (.exit 6))) (.seq (.block 7 (.seq c12_24 (.cond (.var 161) (.seq c12_25 .ret) .skip))) c12_26))
def c12_28:= rg [Qa 98 5,
Qh 99 98 1,
Qc 5 99]
def c12_29 : ACode := (.seq (.seq c12_18 (.cond (.var 97) .skip (.exit 4))) (.seq (.block 5 (.seq c12_19 (.seq (.seq c12_20 (.cond (.var 143) (.seq c12_21 .ret) .skip)) (.seq c12_22 (.block 6 (.loop [1, 5, 8] c12_27)))))) c12_28))
def c12_30:= rg [Qy 2]
def c12 : ACode := (.seq c12_0 (.seq (.seq c12_1 (.cond (.var 48) (.seq c12_2 .ret) .skip)) (.seq (.seq c12_3 (.block 0 (.loop [1, 3] c12_8))) (.seq (.seq c12_9 (.block 2 (.loop [1, 4] c12_14))) (.seq (.seq c12_15 (.cond (.var 92) (.seq c12_16 .ret) .skip)) (.seq (.seq c12_17 (.block 4 (.loop [1, 5] c12_29))) (.seq c12_30 .ret)))))))
abbrev F_S_WorldOk : FuncId := 12
theorem v_S_WorldOk : VT 1 1 Tryz.f12 12 [0,1,2,3,4,5,7,8,48,54,66,72,84,92,97,143,146,161] [none] [(.give, 2, none)] c12 := mkV Tryz.func12 rfl rfl (by kernel_rfl) (by kernel_rfl) rfl rfl
def c13_0:= rg [Qg 1 0,
Qaw 2 0 0 0 1 7 0 6 0 2 0 0 0 3 0 2]
def c13_1:= rg [Qaw 3 0 0 0 1 7 0 6 0 2 0 0 0 3 0 2]
def c13_2:= rg [Qb 4 0 1,
Qd 5 1 4,
Qb 6 0 3,
Qj 1 6 5]
def c13_3:= rg [Qb 7 1 1,
Qd 8 1 7,
Qb 9 1 3,
Qj 1 9 8]
def c13_4:= rg [Qb 10 2 1,
Qd 11 1 10,
Qb 12 2 3,
Qj 1 12 11]
def c13_5:= rg [Qb 13 3 1,
Qo 14 1 13,
Qp 15 56 14,
Qb 16 3 3,
Qj 1 16 15]
def c13_6:= rg [Qb 17 4 1,
Qo 18 1 17,
Qp 19 57 18,
Qb 20 4 3,
Qj 1 20 19]
def c13_7:= rg [Qb 21 5 1,
Qo 22 3 21,
Qp 23 58 22,
Qb 24 5 3,
Qj 3 24 23]
def c13_8:= rg [Qb 25 8 1,
Qo 26 1 25,
Qp 27 59 26,
Qb 28 8 3,
Qj 1 28 27]
def c13_9:= rg [Qb 29 9 1,
Qd 30 1 29,
Qp 31 60 30,
Qb 32 9 3,
Qj 1 32 31]
def c13_10:= rg [Ql 33 10 3,
Qn 10 2 33]
def c13 : ACode := (.seq c13_0 (.seq c13_1 (.seq c13_2 (.seq c13_3 (.seq c13_4 (.seq c13_5 (.seq c13_6 (.seq c13_7 (.seq c13_8 (.seq c13_9 (.seq c13_10 .ret)))))))))))
abbrev F_L_toWorld : FuncId := 13
theorem v_L_toWorld : VT 1 1 Tryz.f13 13 [0,1,2,3] [none] [(.give, 2, some (true, 10))] c13 := mkV Tryz.func13 rfl rfl (by kernel_rfl) (by kernel_rfl) rfl rfl
def c15_0:= rg [Qg 2 0,
Qg 3 1,
Qf 4]
def c15_1:= rg [Qb 5 0 2,
Qd 6 1 5,
Qb 7 0 3,
Qd 8 1 7,
Qv 9 6 8]
def c15_2:= rg [Qf 4]
def c15_3:= rg [Qb 10 1 2,
Qd 11 1 10,
Qb 12 1 3,
Qd 13 1 12,
Qv 14 11 13]
def c15_4:= rg [Qf 4]
def c15_5:= rg [Qb 15 2 2,
Qd 16 1 15,
Qb 17 2 3,
Qd 18 1 17,
Qv 19 16 18]
def c15_6:= rg [Qf 4]
def c15_7:= rg [Qb 20 3 2,
Qo 21 1 20,
Qb 22 3 3,
Qo 23 1 22,
Qr 24 62 21 23,
Qao 25 24]
def c15_8:= rg [Qf 4]
def c15_9:= rg [Qb 26 4 2,
Qo 27 1 26,
Qb 28 4 3,
Qo 29 1 28,
Qr 30 63 27 29,
Qao 31 30]
def c15_10:= rg [Qf 4]
def c15_11:= rg [Qb 32 5 2,
Qo 33 3 32,
Qb 34 5 3,
Qo 35 3 34,
Qr 36 64 33 35,
Qao 37 36]
def c15_12:= rg [Qf 4]
def c15_13:= rg [Qb 38 8 2,
Qo 39 1 38,
Qb 40 8 3,
Qo 41 1 40,
Qr 42 65 39 41,
Qao 43 42]
def c15_14:= rg [Qf 4]
def c15_15:= rg [Qb 44 9 2,
Qd 45 1 44,
Qb 46 9 3,
Qd 47 1 46,
Qr 48 66 45 47,
Qao 49 48]
def c15_16:= rg [Qf 4]
def c15_17:= rg [Qy 4]
def c15 : ACode := (.seq c15_0 (.seq (.seq c15_1 (.cond (.var 9) (.seq c15_2 .ret) .skip)) (.seq (.seq c15_3 (.cond (.var 14) (.seq c15_4 .ret) .skip)) (.seq (.seq c15_5 (.cond (.var 19) (.seq c15_6 .ret) .skip)) (.seq (.seq c15_7 (.cond (.var 25) (.seq c15_8 .ret) .skip)) (.seq (.seq c15_9 (.cond (.var 31) (.seq c15_10 .ret) .skip)) (.seq (.seq c15_11 (.cond (.var 37) (.seq c15_12 .ret) .skip)) (.seq (.seq c15_13 (.cond (.var 43) (.seq c15_14 .ret) .skip)) (.seq (.seq c15_15 (.cond (.var 49) (.seq c15_16 .ret) .skip)) (.seq c15_17 .ret))))))))))
abbrev F_L_eqWorld : FuncId := 15
theorem v_L_eqWorld : VT 2 1 Tryz.f15 15 [0,1,2,3,4,9,14,19,25,31,37,43,49] [none, none] [(.give, 4, none)] c15 := mkV Tryz.func15 rfl rfl (by kernel_rfl) (by kernel_rfl) rfl rfl
def c18_0:= rg [Qf 4]
def c18_1:= rg [Qa 6 0,
Qi 7 6,
Qa 8 1,
Qi 9 8,
Qv 10 7 9]
def c18_2:= rg [Qf 4]
def c18_3:= rg [Qe 5 0]
def c18_4:= rg [Qa 11 5,
Qa 12 0,
Qi 13 12,
Qq 14 11 13]
def c18_5 : ACode := .reg [Qa 17 0,
  Qa 18 5,
  Qz 19 1 17 18 [0,1],
  Qs 20 1 19 [2,0,1],
  Qa 21 1,
  Qa 22 5,
  Qz 23 1 21 22 [4,5],
  Qs 24 1 23 [6,4,5],
  Qbz 25 20 24 [3,2,0,1,7,6,4,5]] true
def c18_6:= rg [Qf 4]
def c18_7:= rg [Qa 15 5,
Qh 16 15 1,
Qc 5 16]
def c18_8 : ACode := (.seq (.seq c18_4 (.cond (.var 14) .skip (.exit 0))) (.seq (.block 1 (.seq c18_5 (.cond (.var 25) (.seq c18_6 .ret) .skip))) c18_7))
def c18_9:= rg [Qy 4]
def c18 : ACode := (.seq c18_0 (.seq (.seq c18_1 (.cond (.var 10) (.seq c18_2 .ret) .skip)) (.seq (.seq c18_3 (.block 0 (.loop [0, 1, 5] c18_8))) (.seq c18_9 .ret))))
abbrev F_L_eqStringS : FuncId := 18
theorem v_L_eqStringS : VT 2 1 Tryz.f18 18 [0,1,4,5,10,14,25] [none, none] [(.give, 4, none)] c18 := mkV Tryz.func18 rfl rfl (by kernel_rfl) (by kernel_rfl) rfl rfl
def c19_0:= rg [Qg 2 0,
Qe 4 0]
def c19_1:= rg [Qb 5 3 2,
Qo 6 1 5,
Qa 7 1,
Qbc 8 70 6 7,
Qc 1 8]
def c19_2:= rg [Qb 9 4 2,
Qo 10 1 9,
Qa 11 1,
Qbc 12 71 10 11,
Qc 1 12]
def c19_3:= rg [Qb 13 5 2,
Qo 14 3 13,
Qa 15 1,
Qbc 16 72 14 15,
Qc 1 16]
def c19_4:= rg [Qb 17 8 2,
Qo 18 1 17,
Qa 19 1,
Qbc 20 73 18 19,
Qc 1 20]
def c19_5:= rg [Qb 21 9 2,
Qd 22 1 21,
Qa 23 1,
Qbc 24 74 22 23,
Qc 1 24]
def c19_6:= rg [Qa 25 1,
Qc 4 25]
def c19 : ACode := (.seq c19_0 (.seq c19_1 (.seq c19_2 (.seq c19_3 (.seq c19_4 (.seq c19_5 (.seq c19_6 .ret)))))))
abbrev F_L_markWorld : FuncId := 19
theorem v_L_markWorld : VT 2 1 Tryz.f19 19 [0,1,2,4] [some .give, none] [(.give, 4, none)] c19 := mkV Tryz.func19 rfl rfl (by kernel_rfl) (by kernel_rfl) rfl rfl
def c20_0:= rg [Qe 4 0]
def c20_1:= rg [Qe 5 0]
def c20_2:= rg [Qa 6 5,
Qa 7 0,
Qi 8 7,
Qq 9 6 8]
def c20_3:= rg [Qa 12 0,
Qa 13 5,
Qa 14 1,
Qp 15 75 14,
Qm 16 1 12 13,
Qj 1 16 15]
def c20_4:= rg [Qa 17 1,
Qh 18 17 1,
Qc 1 18]
def c20_5:= rg [Qa 10 5,
Qh 11 10 1,
Qc 5 11]
def c20_6 : ACode := (.seq (.seq c20_2 (.cond (.var 9) .skip (.exit 0))) (.seq (.block 1 (.seq c20_3 c20_4)) c20_5))
def c20_7:= rg [Qa 19 1,
Qc 4 19]
def c20 : ACode := (.seq c20_0 (.seq (.seq c20_1 (.block 0 (.loop [0, 1, 5] c20_6))) (.seq c20_7 .ret)))
abbrev F_L_markStringS : FuncId := 20
theorem v_L_markStringS : VT 2 1 Tryz.f20 20 [0,1,4,5,9] [some .give, none] [(.give, 4, none)] c20 := mkV Tryz.func20 rfl rfl (by kernel_rfl) (by kernel_rfl) rfl rfl
def c21_0:= rg [Qe 4 0]
def c21_1:= rg [Qe 5 0]
def c21_2:= rg [Qa 6 5,
Qa 7 0,
Qi 8 7,
Qq 9 6 8]
def c21_3 : ACode := .reg [Qa 12 0,
  Qa 13 5,
  Qz 14 1 12 13 [0,1],
  Qs 15 1 14 [2,0,1],
  Qa 16 1,
  Qag 17 75 16 [4],
  Qbz 18 15 17 [3,2,0,1,5,4]] true
def c21_4:= rg [Qe 4 (-1)]
def c21_5:= rg [Qa 19 1,
Qh 20 19 1,
Qc 1 20]
def c21_6:= rg [Qa 10 5,
Qh 11 10 1,
Qc 5 11]
def c21_7 : ACode := (.seq (.seq c21_2 (.cond (.var 9) .skip (.exit 0))) (.seq (.block 1 (.seq (.seq c21_3 (.cond (.var 18) (.seq c21_4 .ret) .skip)) c21_5)) c21_6))
def c21_8:= rg [Qa 21 1,
Qc 4 21]
def c21 : ACode := (.seq c21_0 (.seq (.seq c21_1 (.block 0 (.loop [0, 1, 5] c21_7))) (.seq c21_8 .ret)))
abbrev F_L_heldStringS : FuncId := 21
theorem v_L_heldStringS : VT 2 1 Tryz.f21 21 [0,1,4,5,9,18] [none, none] [(.give, 4, none)] c21 := mkV Tryz.func21 rfl rfl (by kernel_rfl) (by kernel_rfl) rfl rfl
def c27_0:= rg [Qg 5 0,
Qaw 10 0 0 0 1 7 0 6 0 2 0 0 0 3 0 2,
Qe 11 0]
def c27_1:= rg [Ql 16 10 5,
Qp 17 81 16,
Qaw 12 0 0 0 1 7 0 6 0 2 0 0 0 3 0 2,
Qn 10 12 17]
def c27_2:= rg [Ql 18 10 5,
Qp 19 12 18,
Qao 20 19]
def c27_3:= rg [Ql 21 10 12,
Qn 10 10 21,
Qe 11 0]
def c27_4:= rg [Qb 23 3 5,
Qo 24 1 23,
Qa 25 1,
Qr 26 82 24 25,
Qcb 22 26,
Qav 27 22 0,
Qav 28 22 1,
Qbq 13 0 0 0 1 0 0 0 0,
Qn 7 13 27,
Qc 14 28]
def c27_5:= rg [Qa 29 14,
Qax 30 29,
Qk 31 30,
Qcg 32 7 13 31,
Qad 33 0 5 31,
Qal 34 1 33 31,
⟨.loc 35, .call (.fn 83) [(.loc 32), (.loc 34)] [.borrow, .borrow], some ((.loc 31), false), []⟩,
Qah 36 31 35,
Qk 37 36,
Qad 38 1 5 37,
Qal 39 1 38 37,
⟨.loc 40, .bin .int .eql (.loc 39) (.const (.d (.int .i64 1000000000))), some ((.loc 37), false), []⟩,
Qah 41 37 40,
Qk 42 41,
Qan 43 4 42,
⟨.loc 44, .bin .int .gtr (.loc 43) (.const (.d (.int .i64 1000000000))), some ((.loc 42), false), []⟩,
Qah 45 42 44,
Qk 46 45,
Qan 47 3 46,
Qan 48 4 46,
⟨.loc 49, .call (.fn 49) [(.loc 47), (.const (.d (.int .i64 1))), (.loc 48)] [.borrow, .borrow, .borrow], some ((.loc 46), false), []⟩,
Qaf 50 49 46,
Qaq 51 46 50]
def c27_6:= rg [Ql 52 10 12,
Qn 10 10 52,
Qe 11 0]
def c27_7:= rg [Qb 54 4 5,
Qo 55 1 54,
Qb 56 1 5,
Qd 57 1 56,
Qa 58 1,
Qa 59 2,
Qb 60 0 5,
Qd 61 1 60,
Qb 62 0 5,
Qd 63 1 62,
Qa 64 3,
⟨.loc 65, .bin .int .add (.loc 63) (.loc 64), none, []⟩,
Qb 66 0 5,
Qd 67 1 66,
Qa 68 4,
⟨.loc 69, .bin .int .add (.loc 67) (.loc 68), none, []⟩,
⟨.loc 70, .build [.d (.int .i64 0), .d (.int .i64 0), .d (.str []), .d (.int .i64 0), .d (.int .i64 0), .d (.int .i64 0)] [(0, 1, (.loc 57)), (1, 1, (.loc 58)), (2, 1, (.loc 59)), (3, 1, (.loc 61)), (4, 1, (.loc 65)), (5, 1, (.loc 69))], none, []⟩,
Qr 71 84 55 70,
Qcb 53 71,
Qav 72 53 0,
Qav 73 53 1,
Qak 15 0 6,
Qn 1 15 72,
Qc 14 73]
def c27_8:= rg [Qa 74 14,
Qao 75 74]
def c27_9:= rg [Ql 76 10 12,
Qn 10 10 76,
Qe 11 0]
def c27_10:= rg [Ql 77 1 15,
Qb 78 4 12,
Qj 1 78 77]
def c27_11:= rg [Qb 79 1 5,
Qd 80 1 79,
Qh 81 80 1,
Qb 82 1 12,
Qj 1 82 81]
def c27_12 : ACode := .reg [Ql 83 10 12,
  Qb 84 1 5,
  Qs 85 1 84 [1],
  ⟨.none, .store 10 (.var 10) (.loc 83), none, [0]⟩,
  ⟨.var 11, .mv (.loc 85), none, [2, 1, 3, 0]⟩] true
def c27 : ACode := (.seq c27_0 (.seq c27_1 (.seq (.seq c27_2 (.cond (.var 20) (.seq c27_3 .ret) .skip)) (.seq c27_4 (.seq (.seq c27_5 (.cond (.var 51) (.seq c27_6 .ret) .skip)) (.seq c27_7 (.seq (.seq c27_8 (.cond (.var 75) (.seq c27_9 .ret) .skip)) (.seq c27_10 (.seq c27_11 (.seq c27_12 .ret))))))))))
abbrev F_S_GrantLease : FuncId := 27
theorem v_S_GrantLease : VT 5 2 Tryz.f27 27 [0,1,2,3,4,5,10,11,12,13,14,15,20,51,75] [none, none, none, none, none] [(.give, 10, some (true, 10)), (.give, 11, none)] c27 := mkV Tryz.func27 rfl rfl (by kernel_rfl) (by kernel_rfl) rfl rfl
def c28_0:= rg [Qg 5 0,
Qaw 10 0 0 0 1 7 0 6 0 2 0 0 0 3 0 2,
Qe 11 0]
def c28_1:= rg [Ql 12 10 5,
Qp 13 61 12,
Qao 14 13]
def c28_2:= rg [Ql 15 10 5,
Qp 16 85 15,
Qn 10 10 16,
Qe 11 0]
def c28_3:= rg [Ql 17 10 5,
Qa 18 1,
Qa 19 2,
Qa 20 3,
Qa 21 4,
⟨.loc 22, .call (.fn 86) [(.loc 17), (.loc 18), (.loc 19), (.loc 20), (.loc 21)] [.borrow, .borrow, .borrow, .borrow, .borrow], none, []⟩,
Qav 23 22 0,
Qav 24 22 1,
Qn 10 10 23,
Qc 11 24]
def c28 : ACode := (.seq c28_0 (.seq (.seq c28_1 (.cond (.var 14) (.seq c28_2 .ret) .skip)) (.seq c28_3 .ret)))
abbrev F_I_GrantLease : FuncId := 28
theorem v_I_GrantLease : VT 5 2 Tryz.f28 28 [0,1,2,3,4,5,10,11,14] [none, none, none, none, none] [(.give, 10, some (true, 10)), (.give, 11, none)] c28 := mkV Tryz.func28 rfl rfl (by kernel_rfl) (by kernel_rfl) rfl rfl
def c29_0:= rg [Qg 2 0,
Qe 4 0]
def c29_1:= rg [Qb 5 3 2,
Qo 6 1 5,
Qa 7 1,
Qr 8 87 6 7,
Qc 1 8]
def c29_2:= rg [Qa 9 1,
Qu 10 9 0]
def c29_3:= rg [Qe 4 (-1)]
def c29_4:= rg [Qb 11 4 2,
Qo 12 1 11,
Qa 13 1,
Qr 14 88 12 13,
Qc 1 14]
def c29_5:= rg [Qa 15 1,
Qu 16 15 0]
def c29_6:= rg [Qe 4 (-1)]
def c29_7:= rg [Qb 17 5 2,
Qo 18 3 17,
Qa 19 1,
Qr 20 89 18 19,
Qc 1 20]
def c29_8:= rg [Qa 21 1,
Qu 22 21 0]
def c29_9:= rg [Qe 4 (-1)]
def c29_10:= rg [Qb 23 8 2,
Qo 24 1 23,
Qa 25 1,
Qr 26 90 24 25,
Qc 1 26]
def c29_11:= rg [Qa 27 1,
Qu 28 27 0]
def c29_12:= rg [Qe 4 (-1)]
def c29_13:= rg [Qb 29 9 2,
Qd 30 1 29,
Qa 31 1,
Qr 32 91 30 31,
Qc 1 32]
def c29_14:= rg [Qa 33 1,
Qu 34 33 0]
def c29_15:= rg [Qe 4 (-1)]
def c29_16:= rg [Qa 35 1,
Qc 4 35]
def c29 : ACode := (.seq c29_0 (.seq c29_1 (.seq (.seq c29_2 (.cond (.var 10) (.seq c29_3 .ret) .skip)) (.seq c29_4 (.seq (.seq c29_5 (.cond (.var 16) (.seq c29_6 .ret) .skip)) (.seq c29_7 (.seq (.seq c29_8 (.cond (.var 22) (.seq c29_9 .ret) .skip)) (.seq c29_10 (.seq (.seq c29_11 (.cond (.var 28) (.seq c29_12 .ret) .skip)) (.seq c29_13 (.seq (.seq c29_14 (.cond (.var 34) (.seq c29_15 .ret) .skip)) (.seq c29_16 .ret))))))))))))
abbrev F_L_heldWorld : FuncId := 29
theorem v_L_heldWorld : VT 2 1 Tryz.f29 29 [0,1,2,4,10,16,22,28,34] [none, none] [(.give, 4, none)] c29 := mkV Tryz.func29 rfl rfl (by kernel_rfl) (by kernel_rfl) rfl rfl
def c43_0:= rg [Qg 2 0,
Qg 3 1,
Qf 4]
def c43_1:= rg [Qb 5 0 2,
Qd 6 1 5,
Qb 7 0 3,
Qd 8 1 7,
Qci 9 6 8]
def c43_2:= rg [Qf 4]
def c43_3:= rg [Qb 10 1 2,
Qd 11 1 10,
Qb 12 1 3,
Qd 13 1 12,
Qci 14 11 13]
def c43_4:= rg [Qf 4]
def c43_5:= rg [Qy 4]
def c43 : ACode := (.seq c43_0 (.seq (.seq c43_1 (.cond (.var 9) (.seq c43_2 .ret) .skip)) (.seq (.seq c43_3 (.cond (.var 14) (.seq c43_4 .ret) .skip)) (.seq c43_5 .ret))))
abbrev F_L_eqUser : FuncId := 43
theorem v_L_eqUser : VT 2 1 Tryz.f43 43 [0,1,2,3,4,9,14] [none, none] [(.give, 4, none)] c43 := mkV Tryz.func43 rfl rfl (by kernel_rfl) (by kernel_rfl) rfl rfl
def c44_0:= rg [Qg 2 0,
Qe 4 0]
def c44_1:= rg [Qb 5 0 2,
Qd 6 1 5,
Qa 7 1,
Qr 8 109 6 7,
Qc 1 8]
def c44_2:= rg [Qa 9 1,
Qu 10 9 0]
def c44_3:= rg [Qe 4 (-1)]
def c44_4:= rg [Qa 11 1,
Qc 4 11]
def c44 : ACode := (.seq c44_0 (.seq c44_1 (.seq (.seq c44_2 (.cond (.var 10) (.seq c44_3 .ret) .skip)) (.seq c44_4 .ret))))
abbrev F_L_szForest : FuncId := 44
theorem v_L_szForest : VT 2 1 Tryz.f44 44 [0,1,2,4,10] [none, none] [(.give, 4, none)] c44 := mkV Tryz.func44 rfl rfl (by kernel_rfl) (by kernel_rfl) rfl rfl
def c45_0:= rg [Qg 2 0,
Qe 4 0]
def c45_1:= rg [Qb 5 0 2,
Qd 6 1 5,
Qa 7 1,
Qr 8 110 6 7,
Qc 1 8]
def c45_2:= rg [Qa 9 1,
Qu 10 9 0]
def c45_3:= rg [Qe 4 (-1)]
def c45_4:= rg [Qa 11 1,
Qc 4 11]
def c45 : ACode := (.seq c45_0 (.seq c45_1 (.seq (.seq c45_2 (.cond (.var 10) (.seq c45_3 .ret) .skip)) (.seq c45_4 .ret))))
abbrev F_L_szBook : FuncId := 45
theorem v_L_szBook : VT 2 1 Tryz.f45 45 [0,1,2,4,10] [none, none] [(.give, 4, none)] c45 := mkV Tryz.func45 rfl rfl (by kernel_rfl) (by kernel_rfl) rfl rfl
def c46_0:= rg [Qg 2 0,
Qe 4 0]
def c46_1:= rg [Qb 5 0 2,
Qd 6 1 5,
Qa 7 1,
Qr 8 111 6 7,
Qc 1 8]
def c46_2:= rg [Qa 9 1,
Qu 10 9 0]
def c46_3:= rg [Qe 4 (-1)]
def c46_4:= rg [Qa 11 1,
Qc 4 11]
def c46 : ACode := (.seq c46_0 (.seq c46_1 (.seq (.seq c46_2 (.cond (.var 10) (.seq c46_3 .ret) .skip)) (.seq c46_4 .ret))))
abbrev F_L_szFar : FuncId := 46
theorem v_L_szFar : VT 2 1 Tryz.f46 46 [0,1,2,4,10] [none, none] [(.give, 4, none)] c46 := mkV Tryz.func46 rfl rfl (by kernel_rfl) (by kernel_rfl) rfl rfl
def c47_0:= rg [Qg 2 0,
Qe 4 0]
def c47_1:= rg [Qb 5 0 2,
Qd 6 1 5,
Qa 7 1,
Qr 8 112 6 7,
Qc 1 8]
def c47_2:= rg [Qa 9 1,
Qu 10 9 0]
def c47_3:= rg [Qe 4 (-1)]
def c47_4:= rg [Qa 11 1,
Qc 4 11]
def c47 : ACode := (.seq c47_0 (.seq c47_1 (.seq (.seq c47_2 (.cond (.var 10) (.seq c47_3 .ret) .skip)) (.seq c47_4 .ret))))
abbrev F_L_szQueue : FuncId := 47
theorem v_L_szQueue : VT 2 1 Tryz.f47 47 [0,1,2,4,10] [none, none] [(.give, 4, none)] c47 := mkV Tryz.func47 rfl rfl (by kernel_rfl) (by kernel_rfl) rfl rfl
def c48_0:= rg [Qe 4 0]
def c48_1:= rg [Qa 6 1,
Qa 7 0,
Qi 8 7,
Qbd 9 6 8,
Qc 1 9]
def c48_2:= rg [Qa 10 1,
Qu 11 10 0]
def c48_3:= rg [Qe 4 (-1)]
def c48_4:= rg [Qe 5 0]
def c48_5:= rg [Qa 12 5,
Qa 13 0,
Qi 14 13,
Qq 15 12 14]
def c48_6:= rg [Qa 18 0,
Qa 19 5,
Qm 20 2 18 19,
Qo 21 2 20,
Qa 22 1,
Qr 23 113 21 22,
Qc 1 23]
def c48_7:= rg [Qa 24 1,
Qu 25 24 0]
def c48_8:= rg [Qe 4 (-1)]
def c48_9:= rg [Qa 16 5,
Qh 17 16 1,
Qc 5 17]
def c48_10 : ACode := (.seq (.seq c48_5 (.cond (.var 15) .skip (.exit 0))) (.seq (.block 1 (.seq c48_6 (.seq c48_7 (.cond (.var 25) (.seq c48_8 .ret) .skip)))) c48_9))
def c48_11:= rg [Qa 26 1,
Qc 4 26]
def c48 : ACode := (.seq c48_0 (.seq c48_1 (.seq (.seq c48_2 (.cond (.var 11) (.seq c48_3 .ret) .skip)) (.seq (.seq c48_4 (.block 0 (.loop [0, 1, 5] c48_10))) (.seq c48_11 .ret)))))
abbrev F_L_szOwnedS : FuncId := 48
theorem v_L_szOwnedS : VT 2 1 Tryz.f48 48 [0,1,4,5,11,15,25] [none, none] [(.give, 4, none)] c48 := mkV Tryz.func48 rfl rfl (by kernel_rfl) (by kernel_rfl) rfl rfl
def c49_0:= rg [Qf 6]
def c49_1:= rg [Qa 7 1,
Qa 8 0,
⟨.loc 9, .bin .int .leq (.loc 7) (.loc 8), none, []⟩,
Qk 10 9,
Qac 11 0 10,
Qac 12 2 10,
Qcd 13 11 12 10,
Qab 14 10 13,
Qc 6 14]
def c49 : ACode := (.seq c49_0 (.seq c49_1 .ret))
abbrev F_S_l01In : FuncId := 49
theorem v_S_l01In : VT 3 1 Tryz.f49 49 [0,1,2,6] [none, none, none] [(.give, 6, none)] c49 := mkV Tryz.func49 rfl rfl (by kernel_rfl) (by kernel_rfl) rfl rfl
def c50_0:= rg [Qg 1 0,
Qf 2]
def c50_1:= rg [Qb 5 0 1,
Qd 6 1 5,
Qi 7 6,
Qbr 8 7 120]
def c50_2:= rg [Qf 2]
def c50_3:= rg [Qe 3 0]
def c50_4:= rg [Qa 9 3,
Qb 10 0 1,
Qd 11 1 10,
Qi 12 11,
Qq 13 9 12]
def c50_5:= rg [Qb 16 0 1,
Qd 17 1 16,
Qa 18 3,
Qm 19 7 17 18,
Qo 20 7 19,
Qbq 4 0 0 0 1 0 0 0 0,
Qn 7 4 20]
def c50_6 : ACode := .reg [Ql 21 7 4,
  Qag 22 114 21 [0],
  Qbo 23 22 [1,0],
  Qae 24 23 [2,1,0],
  Qas 25 3 24 [3,2,1,0],
  Qbp 26 25 0 24 [4,3,2,1,0],
  Qbl 27 26 24 [5,4,3,2,1,0],
  Qaj 28 0 1 27 [6,5,4,3,2,1,0],
  Qw 29 1 28 27 [7,6,5,4,3,2,1,0],
  Qap 30 3 27 [6,5,4,3,2,1,0],
  Qbf 31 30 1 27 [9,6,5,4,3,2,1,0],
  Qat 32 7 29 31 27 [8,7,10,9,6,5,4,3,2,1,0],
  Qau 33 0 32 27 [11,8,7,10,9,6,5,4,3,2,1,0],
  Qw 34 1 33 27 [12,11,8,7,10,9,6,5,4,3,2,1,0],
  Qaj 35 0 4 27 [6,5,4,3,2,1,0],
  Qw 36 1 35 27 [14,6,5,4,3,2,1,0],
  Qbu 37 34 36 27 [13,12,11,8,7,10,9,15,14,6,5,4,3,2,1,0],
  Qbm 38 27 37 24 [16,13,12,11,8,7,10,9,15,14,6,5,4,3,2,1,0],
  Qbk 39 24 38 [17,16,13,12,11,8,7,10,9,15,14,6,5,4,3,2,1,0],
  Qae 40 39 [18,17,16,13,12,11,8,7,10,9,15,14,6,5,4,3,2,1,0],
  Qaz 41 1 4 40 [19,18,17,16,13,12,11,8,7,10,9,15,14,6,5,4,3,2,1,0],
  Qar 42 1 41 40 [20,19,18,17,16,13,12,11,8,7,10,9,15,14,6,5,4,3,2,1,0],
  ⟨.loc 43, .bin .int .neq (.loc 42) (.const (.d (.int .i64 0))), some ((.loc 40), false), [21, 20, 19, 18, 17, 16, 13, 12, 11, 8, 7, 10, 9, 15, 14, 6, 5, 4, 3, 2, 1, 0]⟩,
  Qbl 44 43 40 [22,21,20,19,18,17,16,13,12,11,8,7,10,9,15,14,6,5,4,3,2,1,0],
  ⟨.loc 45, .load true 1 (.var 1), some ((.loc 44), true), [23, 22, 21, 20, 19, 18, 17, 16, 13, 12, 11, 8, 7, 10, 9, 15, 14, 6, 5, 4, 3, 2, 1, 0]⟩,
  Qaj 46 1 4 44 [23,22,21,20,19,18,17,16,13,12,11,8,7,10,9,15,14,6,5,4,3,2,1,0],
  Qw 47 1 46 44 [25,23,22,21,20,19,18,17,16,13,12,11,8,7,10,9,15,14,6,5,4,3,2,1,0],
  ⟨.loc 48, .call (.fn 115) [(.loc 45), (.loc 47)] [.borrow, .borrow], some ((.loc 44), true), [24, 26, 25, 23, 22, 21, 20, 19, 18, 17, 16, 13, 12, 11, 8, 7, 10, 9, 15, 14, 6, 5, 4, 3, 2, 1, 0]⟩,
  ⟨.loc 49, .bin .int .lss (.loc 48) (.const (.d (.int .i64 0))), some ((.loc 44), true), [27, 24, 26, 25, 23, 22, 21, 20, 19, 18, 17, 16, 13, 12, 11, 8, 7, 10, 9, 15, 14, 6, 5, 4, 3, 2, 1, 0]⟩,
  Qbm 50 44 49 40 [28,27,24,26,25,23,22,21,20,19,18,17,16,13,12,11,8,7,10,9,15,14,6,5,4,3,2,1,0],
  Qbg 51 40 50 [29,28,27,24,26,25,23,22,21,20,19,18,17,16,13,12,11,8,7,10,9,15,14,6,5,4,3,2,1,0]] true
def c50_7:= rg [Qf 2]
def c50_8:= rg [Qa 14 3,
Qh 15 14 1,
Qc 3 15]
def c50_9 : ACode := (.seq (.seq c50_4 (.cond (.var 13) .skip (.exit 0))) (.seq (.block 1 (.seq c50_5 (.seq c50_6 (.cond (.var 51) (.seq c50_7 .ret) .skip)))) c50_8))
def c50_10:= rg [Qy 2]
def c50 : ACode := (.seq c50_0 (.seq (.seq c50_1 (.cond (.var 8) (.seq c50_2 .ret) .skip)) (.seq (.seq c50_3 (.block 0 (.loop [1, 3] c50_9))) (.seq c50_10 .ret))))
abbrev F_S_ForestOk : FuncId := 50
theorem v_S_ForestOk : VT 1 1 Tryz.f50 50 [0,1,2,3,4,8,13,51] [none] [(.give, 2, none)] c50 := mkV Tryz.func50 rfl rfl (by kernel_rfl) (by kernel_rfl) rfl rfl
def c51_0:= rg [Qg 1 0,
Qf 2]
def c51_1:= rg [Qb 4 0 1,
Qd 5 1 4,
Qi 6 5,
Qbr 7 6 150]
def c51_2:= rg [Qf 2]
def c51_3:= rg [Qe 3 0]
def c51_4:= rg [Qa 8 3,
Qb 9 0 1,
Qd 10 1 9,
Qi 11 10,
Qq 12 8 11]
def c51_5 : ACode := .reg [Qb 15 0 1,
  Qs 16 1 15 [0],
  Qa 17 3,
  Qz 18 6 16 17 [1,0,2],
  Qai 19 6 18 [3,1,0,2],
  Qag 20 116 19 [4,3,1,0,2],
  Qbo 21 20 [5,4,3,1,0,2],
  Qae 22 21 [6,5,4,3,1,0,2],
  Qas 23 3 22 [7,6,5,4,3,1,0,2],
  Qbp 24 23 0 22 [8,7,6,5,4,3,1,0,2],
  Qbl 25 24 22 [9,8,7,6,5,4,3,1,0,2],
  Qaj 26 0 1 25 [10,9,8,7,6,5,4,3,1,0,2],
  Qw 27 1 26 25 [11,10,9,8,7,6,5,4,3,1,0,2],
  Qap 28 3 25 [10,9,8,7,6,5,4,3,1,0,2],
  Qbf 29 28 1 25 [13,10,9,8,7,6,5,4,3,1,0,2],
  Qat 30 6 27 29 25 [12,11,14,13,10,9,8,7,6,5,4,3,1,0,2],
  Qau 31 0 30 25 [15,12,11,14,13,10,9,8,7,6,5,4,3,1,0,2],
  Qw 32 1 31 25 [16,15,12,11,14,13,10,9,8,7,6,5,4,3,1,0,2],
  Qaj 33 0 1 25 [10,9,8,7,6,5,4,3,1,0,2],
  Qw 34 1 33 25 [18,10,9,8,7,6,5,4,3,1,0,2],
  Qap 35 3 25 [10,9,8,7,6,5,4,3,1,0,2],
  Qat 36 6 34 35 25 [19,18,20,10,9,8,7,6,5,4,3,1,0,2],
  Qau 37 0 36 25 [21,19,18,20,10,9,8,7,6,5,4,3,1,0,2],
  Qw 38 1 37 25 [22,21,19,18,20,10,9,8,7,6,5,4,3,1,0,2],
  Qbu 39 32 38 25 [17,16,15,12,11,14,13,23,22,21,19,18,20,10,9,8,7,6,5,4,3,1,0,2],
  Qbm 40 25 39 22 [24,17,16,15,12,11,14,13,23,22,21,19,18,20,10,9,8,7,6,5,4,3,1,0,2],
  Qbg 41 22 40 [25,24,17,16,15,12,11,14,13,23,22,21,19,18,20,10,9,8,7,6,5,4,3,1,0,2]] true
def c51_6:= rg [Qf 2]
def c51_7:= rg [Qa 13 3,
Qh 14 13 1,
Qc 3 14]
def c51_8 : ACode := (.seq (.seq c51_4 (.cond (.var 12) .skip (.exit 0))) (.seq (.block 1 (.seq c51_5 (.cond (.var 41) (.seq c51_6 .ret) .skip))) c51_7))
def c51_9:= rg [Qy 2]
def c51 : ACode := (.seq c51_0 (.seq (.seq c51_1 (.cond (.var 7) (.seq c51_2 .ret) .skip)) (.seq (.seq c51_3 (.block 0 (.loop [1, 3] c51_8))) (.seq c51_9 .ret))))
abbrev F_S_BookOk : FuncId := 51
theorem v_S_BookOk : VT 1 1 Tryz.f51 51 [0,1,2,3,7,12,41] [none] [(.give, 2, none)] c51 := mkV Tryz.func51 rfl rfl (by kernel_rfl) (by kernel_rfl) rfl rfl
def c52_0:= rg [Qg 1 0,
Qf 2]
def c52_1:= rg [Qb 4 0 1,
Qd 5 1 4,
Qi 6 5,
⟨.loc 7, .bin .int .gtr (.loc 6) (.const (.d (.int .i64 120))), none, []⟩,
Qk 8 7,
Qad 9 1 1 8,
Qal 10 1 9 8,
Qbi 11 49 10 0 1000 8,
Qaf 12 11 8,
Qah 13 8 12,
Qk 14 13,
Qad 15 2 1 14,
Qal 16 1 15 14,
Qbi 17 49 16 0 1000000000 14,
Qaf 18 17 14,
Qaq 19 14 18]
def c52_2:= rg [Qf 2]
def c52_3:= rg [Qe 3 0]
def c52_4:= rg [Qa 20 3,
Qb 21 0 1,
Qd 22 1 21,
Qi 23 22,
Qq 24 20 23]
def c52_5 : ACode := .reg [Qb 27 0 1,
  Qs 28 1 27 [0],
  Qa 29 3,
  Qz 30 2 28 29 [1,0,2],
  Qay 31 0 30 [3,1,0,2],
  Qs 32 1 31 [4,3,1,0,2],
  Qag 33 55 32 [5,4,3,1,0,2],
  Qbo 34 33 [6,5,4,3,1,0,2],
  Qae 35 34 [7,6,5,4,3,1,0,2],
  Qas 36 3 35 [8,7,6,5,4,3,1,0,2],
  Qbp 37 36 0 35 [9,8,7,6,5,4,3,1,0,2],
  Qbl 38 37 35 [10,9,8,7,6,5,4,3,1,0,2],
  Qaj 39 0 1 38 [11,10,9,8,7,6,5,4,3,1,0,2],
  Qw 40 1 39 38 [12,11,10,9,8,7,6,5,4,3,1,0,2],
  Qap 41 3 38 [11,10,9,8,7,6,5,4,3,1,0,2],
  Qbf 42 41 1 38 [14,11,10,9,8,7,6,5,4,3,1,0,2],
  Qat 43 2 40 42 38 [13,12,15,14,11,10,9,8,7,6,5,4,3,1,0,2],
  Qau 44 0 43 38 [16,13,12,15,14,11,10,9,8,7,6,5,4,3,1,0,2],
  Qw 45 1 44 38 [17,16,13,12,15,14,11,10,9,8,7,6,5,4,3,1,0,2],
  Qaj 46 0 1 38 [11,10,9,8,7,6,5,4,3,1,0,2],
  Qw 47 1 46 38 [19,11,10,9,8,7,6,5,4,3,1,0,2],
  Qap 48 3 38 [11,10,9,8,7,6,5,4,3,1,0,2],
  Qat 49 2 47 48 38 [20,19,21,11,10,9,8,7,6,5,4,3,1,0,2],
  Qau 50 0 49 38 [22,20,19,21,11,10,9,8,7,6,5,4,3,1,0,2],
  Qw 51 1 50 38 [23,22,20,19,21,11,10,9,8,7,6,5,4,3,1,0,2],
  ⟨.loc 52, .bin .str .geq (.loc 45) (.loc 51), some ((.loc 38), true), [18, 17, 16, 13, 12, 15, 14, 24, 23, 22, 20, 19, 21, 11, 10, 9, 8, 7, 6, 5, 4, 3, 1, 0, 2]⟩,
  Qbm 53 38 52 35 [25,18,17,16,13,12,15,14,24,23,22,20,19,21,11,10,9,8,7,6,5,4,3,1,0,2],
  Qbg 54 35 53 [26,25,18,17,16,13,12,15,14,24,23,22,20,19,21,11,10,9,8,7,6,5,4,3,1,0,2]] true
def c52_6:= rg [Qf 2]
def c52_7:= rg [Qa 25 3,
Qh 26 25 1,
Qc 3 26]
def c52_8 : ACode := (.seq (.seq c52_4 (.cond (.var 24) .skip (.exit 0))) (.seq (.block 1 (.seq c52_5 (.cond (.var 54) (.seq c52_6 .ret) .skip))) c52_7))
def c52_9:= rg [Qy 2]
def c52 : ACode := (.seq c52_0 (.seq (.seq c52_1 (.cond (.var 19) (.seq c52_2 .ret) .skip)) (.seq (.seq c52_3 (.block 0 (.loop [1, 3] c52_8))) (.seq c52_9 .ret))))
abbrev F_S_FarOk : FuncId := 52
theorem v_S_FarOk : VT 1 1 Tryz.f52 52 [0,1,2,3,19,24,54] [none] [(.give, 2, none)] c52 := mkV Tryz.func52 rfl rfl (by kernel_rfl) (by kernel_rfl) rfl rfl
def c53_0:= rg [Qg 1 0,
Qf 2]
def c53_1:= rg [Qb 6 0 1,
Qd 7 1 6,
Qi 8 7,
Qbr 9 8 120]
def c53_2:= rg [Qf 2]
def c53_3:= rg [Qe 3 0]
def c53_4:= rg [Qa 10 3,
Qb 11 0 1,
Qd 12 1 11,
Qi 13 12,
Qq 14 10 13]
def c53_5:= rg [Qb 17 0 1,
Qd 18 1 17,
Qa 19 3,
Qm 20 3 18 19,
Qo 21 3 20,
⟨.var 4, .alloc [.d (.str []), .d (.int .i64 0), .d (.int .i64 0)], none, []⟩,
Qn 3 4 21]
def c53_6:= rg [Qb 22 0 4,
Qd 23 1 22,
Qp 24 55 23,
Qax 25 24,
Qk 26 25,
Qad 27 1 4 26,
Qal 28 1 27 26,
Qbi 29 49 28 0 2000000000 26,
Qaf 30 29 26,
Qah 31 26 30,
Qk 32 31,
Qad 33 2 4 32,
Qal 34 1 33 32,
Qbi 35 49 34 0 5 32,
Qaf 36 35 32,
Qaq 37 32 36]
def c53_7:= rg [Qf 2]
def c53_8:= rg [Qe 5 0]
def c53_9:= rg [Qa 38 5,
Qa 39 3,
Qq 40 38 39]
def c53_10 : ACode := .reg [Qb 43 0 1,
  Qs 44 1 43 [0],
  Qa 45 5,
  Qz 46 3 44 45 [1,0,2],
  Qay 47 0 46 [3,1,0,2],
  Qs 48 1 47 [4,3,1,0,2],
  Qb 49 0 4,
  Qs 50 1 49 [6],
  ⟨.var 51, .bin .str .eql (.loc 48) (.loc 50), none, [5, 4, 3, 1, 0, 2, 7, 6]⟩] true
def c53_11:= rg [Qf 2]
def c53_12:= rg [Qa 41 5,
Qh 42 41 1,
Qc 5 42]
def c53_13 : ACode := (.seq (.seq c53_9 (.cond (.var 40) .skip (.exit 2))) (.seq (.block 3 (.seq c53_10 (.cond (.var 51) (.seq c53_11 .ret) .skip))) c53_12))
def c53_14:= rg [Qa 15 3,
Qh 16 15 1,
Qc 3 16]
def c53_15 : ACode := (.seq (.seq c53_4 (.cond (.var 14) .skip (.exit 0))) (.seq (.block 1 (.seq c53_5 (.seq (.seq c53_6 (.cond (.var 37) (.seq c53_7 .ret) .skip)) (.seq c53_8 (.block 2 (.loop [1, 3, 4, 5] c53_13)))))) c53_14))
def c53_16:= rg [Qy 2]
def c53 : ACode := (.seq c53_0 (.seq (.seq c53_1 (.cond (.var 9) (.seq c53_2 .ret) .skip)) (.seq (.seq c53_3 (.block 0 (.loop [1, 3] c53_15))) (.seq c53_16 .ret))))
abbrev F_S_QueueOk : FuncId := 53
theorem v_S_QueueOk : VT 1 1 Tryz.f53 53 [0,1,2,3,4,5,9,14,37,40,51] [none] [(.give, 2, none)] c53 := mkV Tryz.func53 rfl rfl (by kernel_rfl) (by kernel_rfl) rfl rfl
def c54_0:= rg [Qg 2 0,
⟨.var 4, .alloc [.d (.int .i64 0), .d (.int .i64 0), .d (.str []), .d (.int .i64 0), .d (.int .i64 0), .d (.int .i64 0)], none, []⟩,
Qf 5]
def c54_1:= rg [Ql 7 1 2,
Qp 8 51 7,
Qao 9 8]
def c54_2:= rg [⟨.loc 10, .build [.d (.int .i64 0), .d (.int .i64 0), .d (.str []), .d (.int .i64 0), .d (.int .i64 0), .d (.int .i64 0)] [], none, []⟩,
Qn 6 4 10,
Qf 5]
def c54_3:= rg [Qe 6 0]
def c54_4:= rg [Qa 11 6,
Qb 12 0 2,
Qd 13 1 12,
Qi 14 13,
Qq 15 11 14]
def c54_5:= rg [Qb 18 0 2,
Qd 19 1 18,
Qa 20 6,
Qm 21 6 19 20,
Qt 22 0 21,
Qd 23 1 22,
Qa 24 1,
⟨.var 25, .bin .int .eql (.loc 23) (.loc 24), none, []⟩]
def c54_6:= rg [Qb 26 0 2,
Qd 27 1 26,
Qa 28 6,
Qm 29 6 27 28,
Qo 30 6 29,
Qn 6 4 30,
Qy 5]
def c54_7:= rg [Qa 16 6,
Qh 17 16 1,
Qc 6 17]
def c54_8 : ACode := (.seq (.seq c54_4 (.cond (.var 15) .skip (.exit 0))) (.seq (.block 1 (.seq c54_5 (.cond (.var 25) (.seq c54_6 .ret) .skip))) c54_7))
def c54_9:= rg [⟨.loc 31, .build [.d (.int .i64 0), .d (.int .i64 0), .d (.str []), .d (.int .i64 0), .d (.int .i64 0), .d (.int .i64 0)] [], none, []⟩,
Qn 6 4 31,
Qf 5]
def c54 : ACode := (.seq c54_0 (.seq (.seq c54_1 (.cond (.var 9) (.seq c54_2 .ret) .skip)) (.seq (.seq c54_3 (.block 0 (.loop [1, 2, 4, 6] c54_8))) (.seq c54_9 .ret))))
abbrev F_S_FindLease : FuncId := 54
theorem v_S_FindLease : VT 2 2 Tryz.f54 54 [0,1,2,4,5,6,9,15,25] [none, none] [(.give, 4, some (true, 6)), (.give, 5, none)] c54 := mkV Tryz.func54 rfl rfl (by kernel_rfl) (by kernel_rfl) rfl rfl
def c55_0:= rg [Qf 2]
def c55_1:= rg [Qe 3 0]
def c55_2:= rg [Qa 5 3,
Qa 6 0,
Qam 7 6,
Qq 8 5 7]
def c55_3:= rg [Qa 11 0,
Qa 12 3,
⟨.loc 13, .idxS (.loc 11) (.loc 12), none, []⟩,
Qc 4 13]
def c55_4:= rg [Qa 14 4,
⟨.loc 15, .bin .int .geq (.loc 14) (.const (.d (.int .u8 97))), none, []⟩,
Qk 16 15,
Qac 17 4 16,
⟨.loc 18, .bin .int .leq (.loc 17) (.const (.d (.int .u8 122))), some ((.loc 16), true), []⟩,
Qab 19 16 18,
Qax 20 19,
Qk 21 20,
Qac 22 4 21,
⟨.loc 23, .bin .int .geq (.loc 22) (.const (.d (.int .u8 48))), some ((.loc 21), true), []⟩,
⟨.loc 24, .split (.loc 23), some ((.loc 21), true), []⟩,
Qac 25 4 24,
⟨.loc 26, .bin .int .leq (.loc 25) (.const (.d (.int .u8 57))), some ((.loc 24), true), []⟩,
⟨.loc 27, .pick (.loc 24) (.loc 26) (.const (.d (.bool false))), some ((.loc 21), true), []⟩,
Qcj 28 27 21,
⟨.var 29, .pick (.loc 21) (.loc 28) (.const (.d (.bool false))), none, []⟩]
def c55_5:= rg [Qf 2]
def c55_6:= rg [Qa 9 3,
Qh 10 9 1,
Qc 3 10]
def c55_7 : ACode := (.seq (.seq c55_2 (.cond (.var 8) .skip (.exit 0))) (.seq (.block 1 (.seq c55_3 (.seq c55_4 (.cond (.var 29) (.seq c55_5 .ret) .skip)))) c55_6))
def c55_8:= rg [Qa 30 0,
Qam 31 30,
Qbh 32 49 31 1 12,
Qc 2 32]
def c55 : ACode := (.seq c55_0 (.seq (.seq c55_1 (.block 0 (.loop [0, 3] c55_7))) (.seq c55_8 .ret)))
abbrev F_S_l01Name : FuncId := 55
theorem v_S_l01Name : VT 1 1 Tryz.f55 55 [0,2,3,4,8,29] [none] [(.give, 2, none)] c55 := mkV Tryz.func55 rfl rfl (by kernel_rfl) (by kernel_rfl) rfl rfl
def c56_0:= rg [Qg 1 0,
Qak 2 1 7]
def c56_1:= rg [Qak 3 1 7]
def c56_2:= rg [Qb 4 0 1,
Qd 5 1 4,
Qp 6 117 5,
Qb 7 0 3,
Qj 1 7 6]
def c56_3:= rg [Ql 8 1 3,
Qn 1 2 8]
def c56 : ACode := (.seq c56_0 (.seq c56_1 (.seq c56_2 (.seq c56_3 .ret))))
abbrev F_L_toForest : FuncId := 56
theorem v_L_toForest : VT 1 1 Tryz.f56 56 [0,1,2,3] [none] [(.give, 2, some (true, 1))] c56 := mkV Tryz.func56 rfl rfl (by kernel_rfl) (by kernel_rfl) rfl rfl
def c57_0:= rg [Qg 1 0,
Qak 2 0 6]
def c57_1:= rg [Qak 3 0 6]
def c57_2:= rg [Qb 4 0 1,
Qd 5 1 4,
Qp 6 118 5,
Qb 7 0 3,
Qj 1 7 6]
def c57_3:= rg [Ql 8 1 3,
Qn 1 2 8]
def c57 : ACode := (.seq c57_0 (.seq c57_1 (.seq c57_2 (.seq c57_3 .ret))))
abbrev F_L_toBook : FuncId := 57
theorem v_L_toBook : VT 1 1 Tryz.f57 57 [0,1,2,3] [none] [(.give, 2, some (true, 1))] c57 := mkV Tryz.func57 rfl rfl (by kernel_rfl) (by kernel_rfl) rfl rfl
def c58_0:= rg [Qg 1 0,
Qck 2 0 2 0 0]
def c58_1:= rg [Qck 3 0 2 0 0]
def c58_2:= rg [Qb 4 0 1,
Qd 5 1 4,
Qp 6 119 5,
Qb 7 0 3,
Qj 1 7 6]
def c58_3:= rg [Qb 8 1 1,
Qd 9 1 8,
Qb 10 1 3,
Qj 1 10 9]
def c58_4:= rg [Qb 11 2 1,
Qd 12 1 11,
Qb 13 2 3,
Qj 1 13 12]
def c58_5:= rg [Ql 14 3 3,
Qn 3 2 14]
def c58 : ACode := (.seq c58_0 (.seq c58_1 (.seq c58_2 (.seq c58_3 (.seq c58_4 (.seq c58_5 .ret))))))
abbrev F_L_toFar : FuncId := 58
theorem v_L_toFar : VT 1 1 Tryz.f58 58 [0,1,2,3] [none] [(.give, 2, some (true, 3))] c58 := mkV Tryz.func58 rfl rfl (by kernel_rfl) (by kernel_rfl) rfl rfl
def c59_0:= rg [Qg 1 0,
Qak 2 0 3]
def c59_1:= rg [Qak 3 0 3]
def c59_2:= rg [Qb 4 0 1,
Qd 5 1 4,
Qp 6 120 5,
Qb 7 0 3,
Qj 1 7 6]
def c59_3:= rg [Ql 8 1 3,
Qn 1 2 8]
def c59 : ACode := (.seq c59_0 (.seq c59_1 (.seq c59_2 (.seq c59_3 .ret))))
abbrev F_L_toQueue : FuncId := 59
theorem v_L_toQueue : VT 1 1 Tryz.f59 59 [0,1,2,3] [none] [(.give, 2, some (true, 1))] c59 := mkV Tryz.func59 rfl rfl (by kernel_rfl) (by kernel_rfl) rfl rfl
def c60_0:= rg [Qbv 2 0 2]
def c60_1:= rg [Qa 5 0,
Qi 6 5,
⟨.loc 7, .mkslice 0 2 24 [.int .i64 0, .str []] (.loc 6) (.loc 6), none, []⟩,
Qc 3 7]
def c60_2:= rg [Qe 4 0]
def c60_3:= rg [Qa 8 4,
Qa 9 0,
Qi 10 9,
Qq 11 8 10]
def c60_4:= rg [Qa 14 3,
Qa 15 4,
Qa 16 0,
Qa 17 4,
Qm 18 2 16 17,
Qo 19 2 18,
Qp 20 121 19,
Qm 21 2 14 15,
Qj 2 21 20]
def c60_5:= rg [Qa 12 4,
Qh 13 12 1,
Qc 4 13]
def c60_6 : ACode := (.seq (.seq c60_3 (.cond (.var 11) .skip (.exit 0))) (.seq (.block 1 c60_4) c60_5))
def c60_7:= rg [Qa 22 3,
Qc 2 22]
def c60 : ACode := (.seq c60_0 (.seq c60_1 (.seq (.seq c60_2 (.block 0 (.loop [0, 3, 4] c60_6))) (.seq c60_7 .ret))))
abbrev F_L_toOwnedS : FuncId := 60
theorem v_L_toOwnedS : VT 1 1 Tryz.f60 60 [0,2,3,4,11] [none] [(.give, 2, none)] c60 := mkV Tryz.func60 rfl rfl (by kernel_rfl) (by kernel_rfl) rfl rfl
def c61_0:= rg [Qg 1 0,
Qf 2]
def c61_1:= rg [Qb 7 0 1,
Qd 8 1 7,
Qbh 9 103 8 0 1000000000,
Qax 10 9,
Qk 11 10,
Qad 12 1 1 11,
Qal 13 1 12 11,
Qbi 14 103 13 1 1000000000 11,
Qaf 15 14 11,
Qah 16 11 15,
Qk 17 16,
Qad 18 2 1 17,
Qal 19 1 18 17,
Qbi 20 103 19 0 1000000000 17,
Qaf 21 20 17,
Qah 22 17 21,
Qk 23 22,
Qad 24 3 1 23,
Qbt 25 1 24 23,
Qbj 26 122 25 23,
Qaf 27 26 23,
Qah 28 23 27,
Qk 29 28,
Qad 30 4 1 29,
Qbt 31 1 30 29,
Qbj 32 123 31 29,
Qaf 33 32 29,
Qah 34 29 33,
Qk 35 34,
Qad 36 5 1 35,
Qbt 37 3 36 35,
Qbj 38 124 37 35,
Qaf 39 38 35,
Qah 40 35 39,
Qk 41 40,
Qad 42 8 1 41,
Qbt 43 1 42 41,
Qbj 44 125 43 41,
Qaf 45 44 41,
Qaq 46 41 45]
def c61_2:= rg [Qf 2]
def c61_3:= rg [Qb 47 3 1,
Qt 48 0 47,
Qd 49 1 48,
Qi 50 49,
Qc 3 50]
def c61_4 : ACode := .reg [Qa 51 3,
  ⟨.loc 52, .bin .int .gtr (.loc 51) (.const (.d (.int .i64 0))), none, [0]⟩,
  Qae 53 52 [1,0],
  Qaj 54 3 1 53 [2,1,0],
  Qau 55 0 54 53 [3,2,1,0],
  Qw 56 1 55 53 [4,3,2,1,0],
  Qap 57 3 53 [2,1,0],
  Qbf 58 57 1 53 [6,2,1,0],
  Qat 59 7 56 58 53 [5,4,3,7,6,2,1,0],
  Qau 60 0 59 53 [8,5,4,3,7,6,2,1,0],
  Qw 61 1 60 53 [9,8,5,4,3,7,6,2,1,0],
  Qaj 62 1 1 53 [2,1,0],
  Qw 63 1 62 53 [11,2,1,0],
  Qbu 64 61 63 53 [10,9,8,5,4,3,7,6,12,11,2,1,0],
  ⟨.var 65, .pick (.loc 53) (.loc 64) (.const (.d (.bool false))), none, [13, 10, 9, 8, 5, 4, 3, 7, 6, 12, 11, 2, 1, 0]⟩] true
def c61_5:= rg [Qf 2]
def c61_6:= rg [Qb 66 4 1,
Qt 67 0 66,
Qd 68 1 67,
Qi 69 68,
Qc 4 69]
def c61_7 : ACode := .reg [Qa 70 4,
  ⟨.loc 71, .bin .int .gtr (.loc 70) (.const (.d (.int .i64 0))), none, [0]⟩,
  Qae 72 71 [1,0],
  Qaj 73 4 1 72 [2,1,0],
  Qau 74 0 73 72 [3,2,1,0],
  Qw 75 1 74 72 [4,3,2,1,0],
  Qap 76 4 72 [2,1,0],
  Qbf 77 76 1 72 [6,2,1,0],
  Qat 78 6 75 77 72 [5,4,3,7,6,2,1,0],
  Qau 79 0 78 72 [8,5,4,3,7,6,2,1,0],
  Qw 80 1 79 72 [9,8,5,4,3,7,6,2,1,0],
  Qaj 81 1 1 72 [2,1,0],
  Qw 82 1 81 72 [11,2,1,0],
  Qbu 83 80 82 72 [10,9,8,5,4,3,7,6,12,11,2,1,0],
  ⟨.var 84, .pick (.loc 72) (.loc 83) (.const (.d (.bool false))), none, [13, 10, 9, 8, 5, 4, 3, 7, 6, 12, 11, 2, 1, 0]⟩] true
def c61_8:= rg [Qf 2]
def c61_9:= rg [Qb 85 9 1,
Qce 86 1 85,
Qbw 87 86,
Qe 88 0]
def c61_10:= rg [Qba 89 88 87]
def c61_11:= rg [Qa 90 88,
Qbx 91 2 86 88,
Qo 92 2 91,
⟨.var 6, .alloc [.d (.int .i64 0), .d (.str [])], none, []⟩,
Qc 5 90,
Qn 2 6 92]
def c61_12 : ACode := .reg [Qa 93 5,
  ⟨.loc 94, .bin .int .gtr (.loc 93) (.const (.d (.int .i64 0))), none, [0]⟩,
  Qae 95 94 [1,0],
  Qaj 96 9 1 95 [2,1,0],
  Qw 97 1 96 95 [3,2,1,0],
  Qap 98 5 95 [2,1,0],
  Qbf 99 98 1 95 [5,2,1,0],
  Qat 100 2 97 99 95 [4,3,6,5,2,1,0],
  Qau 101 0 100 95 [7,4,3,6,5,2,1,0],
  Qw 102 1 101 95 [8,7,4,3,6,5,2,1,0],
  Qaj 103 0 6 95 [2,1,0],
  Qw 104 1 103 95 [10,2,1,0],
  Qbu 105 102 104 95 [9,8,7,4,3,6,5,11,10,2,1,0],
  ⟨.loc 106, .pick (.loc 95) (.loc 105) (.const (.d (.bool false))), none, [12, 9, 8, 7, 4, 3, 6, 5, 11, 10, 2, 1, 0]⟩,
  Qae 107 106 [13,12,9,8,7,4,3,6,5,11,10,2,1,0],
  Qaz 108 4 1 107 [14,13,12,9,8,7,4,3,6,5,11,10,2,1,0],
  ⟨.loc 109, .load true 1 (.loc 108), some ((.loc 107), false), [15, 14, 13, 12, 9, 8, 7, 4, 3, 6, 5, 11, 10, 2, 1, 0]⟩,
  Qaz 110 0 6 107 [14,13,12,9,8,7,4,3,6,5,11,10,2,1,0],
  Qar 111 1 110 107 [17,14,13,12,9,8,7,4,3,6,5,11,10,2,1,0],
  ⟨.loc 112, .call (.fn 94) [(.loc 109), (.loc 111)] [.borrow, .borrow], some ((.loc 107), false), [16, 15, 18, 17, 14, 13, 12, 9, 8, 7, 4, 3, 6, 5, 11, 10, 2, 1, 0]⟩,
  ⟨.loc 113, .bin .int .lss (.loc 112) (.const (.d (.int .i64 0))), some ((.loc 107), false), [19, 16, 15, 18, 17, 14, 13, 12, 9, 8, 7, 4, 3, 6, 5, 11, 10, 2, 1, 0]⟩,
  Qbk 114 107 113 [20,19,16,15,18,17,14,13,12,9,8,7,4,3,6,5,11,10,2,1,0],
  Qae 115 114 [21,20,19,16,15,18,17,14,13,12,9,8,7,4,3,6,5,11,10,2,1,0],
  Qaz 116 1 6 115 [22,21,20,19,16,15,18,17,14,13,12,9,8,7,4,3,6,5,11,10,2,1,0],
  Qar 117 1 116 115 [23,22,21,20,19,16,15,18,17,14,13,12,9,8,7,4,3,6,5,11,10,2,1,0],
  ⟨.loc 118, .call (.fn 126) [(.loc 117)] [.borrow], some ((.loc 115), false), [24, 23, 22, 21, 20, 19, 16, 15, 18, 17, 14, 13, 12, 9, 8, 7, 4, 3, 6, 5, 11, 10, 2, 1, 0]⟩,
  Qch 119 118 115 [25,24,23,22,21,20,19,16,15,18,17,14,13,12,9,8,7,4,3,6,5,11,10,2,1,0],
  Qbk 120 115 119 [26,25,24,23,22,21,20,19,16,15,18,17,14,13,12,9,8,7,4,3,6,5,11,10,2,1,0],
  Qae 121 120 [27,26,25,24,23,22,21,20,19,16,15,18,17,14,13,12,9,8,7,4,3,6,5,11,10,2,1,0],
  Qaz 122 9 1 121 [28,27,26,25,24,23,22,21,20,19,16,15,18,17,14,13,12,9,8,7,4,3,6,5,11,10,2,1,0],
  Qar 123 1 122 121 [29,28,27,26,25,24,23,22,21,20,19,16,15,18,17,14,13,12,9,8,7,4,3,6,5,11,10,2,1,0],
  Qas 124 5 121 [28,27,26,25,24,23,22,21,20,19,16,15,18,17,14,13,12,9,8,7,4,3,6,5,11,10,2,1,0],
  ⟨.loc 125, .sliceA 2 (.loc 123) none (some (.loc 124)), some ((.loc 121), false), [30, 29, 31, 28, 27, 26, 25, 24, 23, 22, 21, 20, 19, 16, 15, 18, 17, 14, 13, 12, 9, 8, 7, 4, 3, 6, 5, 11, 10, 2, 1, 0]⟩,
  ⟨.loc 126, .clo 127 [(.var 6)], some ((.loc 121), false), [28, 27, 26, 25, 24, 23, 22, 21, 20, 19, 16, 15, 18, 17, 14, 13, 12, 9, 8, 7, 4, 3, 6, 5, 11, 10, 2, 1, 0]⟩,
  ⟨.loc 127, .call (.fn 68) [(.loc 125), (.loc 126)] [.borrow, .borrow], some ((.loc 121), false), [32, 30, 29, 31, 33, 28, 27, 26, 25, 24, 23, 22, 21, 20, 19, 16, 15, 18, 17, 14, 13, 12, 9, 8, 7, 4, 3, 6, 5, 11, 10, 2, 1, 0]⟩,
  Qbg 128 121 127 [34,32,30,29,31,33,28,27,26,25,24,23,22,21,20,19,16,15,18,17,14,13,12,9,8,7,4,3,6,5,11,10,2,1,0]] true
def c61_13:= rg [Qf 2]
def c61_14:= rg [Qbb 129 88 1,
Qc 88 129]
def c61_15 : ACode := (.seq c61_10 (.seq (.cond (.var 89) .skip (.exit 0)) (.seq (.block 1 (.seq c61_11 (.seq c61_12 (.cond (.var 128) (.seq c61_13 .ret) .skip)))) c61_14)))
def c61_16:= rg [Qy 2]
def c61 : ACode := (.seq c61_0 (.seq (.seq c61_1 (.cond (.var 46) (.seq c61_2 .ret) .skip)) (.seq (.seq c61_3 (.seq c61_4 (.cond (.var 65) (.seq c61_5 .ret) .skip))) (.seq (.seq c61_6 (.seq c61_7 (.cond (.var 84) (.seq c61_8 .ret) .skip))) (.seq (.seq c61_9 (.block 0 (.loop [1, 86, 87, 88] c61_15))) (.seq c61_16 .ret))))))
abbrev F_I_isWorld : FuncId := 61
theorem v_I_isWorld : VT 1 1 Tryz.f61 61 [0,1,2,3,4,5,6,46,65,84,86,87,88,89,128] [none] [(.give, 2, none)] c61 := mkV Tryz.func61 rfl rfl (by kernel_rfl) (by kernel_rfl) rfl rfl
def c62_0:= rg [Qg 2 0,
Qg 3 1,
Qf 4]
def c62_1:= rg [Qb 5 0 2,
Qd 6 1 5,
Qb 7 0 3,
Qd 8 1 7,
Qr 9 128 6 8,
Qao 10 9]
def c62_2:= rg [Qf 4]
def c62_3:= rg [Qy 4]
def c62 : ACode := (.seq c62_0 (.seq (.seq c62_1 (.cond (.var 10) (.seq c62_2 .ret) .skip)) (.seq c62_3 .ret)))
abbrev F_L_eqForest : FuncId := 62
theorem v_L_eqForest : VT 2 1 Tryz.f62 62 [0,1,2,3,4,10] [none, none] [(.give, 4, none)] c62 := mkV Tryz.func62 rfl rfl (by kernel_rfl) (by kernel_rfl) rfl rfl
def c63_0:= rg [Qg 2 0,
Qg 3 1,
Qf 4]
def c63_1:= rg [Qb 5 0 2,
Qd 6 1 5,
Qb 7 0 3,
Qd 8 1 7,
Qr 9 129 6 8,
Qao 10 9]
def c63_2:= rg [Qf 4]
def c63_3:= rg [Qy 4]
def c63 : ACode := (.seq c63_0 (.seq (.seq c63_1 (.cond (.var 10) (.seq c63_2 .ret) .skip)) (.seq c63_3 .ret)))
abbrev F_L_eqBook : FuncId := 63
theorem v_L_eqBook : VT 2 1 Tryz.f63 63 [0,1,2,3,4,10] [none, none] [(.give, 4, none)] c63 := mkV Tryz.func63 rfl rfl (by kernel_rfl) (by kernel_rfl) rfl rfl
def c64_0:= rg [Qg 2 0,
Qg 3 1,
Qf 4]
def c64_1:= rg [Qb 5 0 2,
Qd 6 1 5,
Qb 7 0 3,
Qd 8 1 7,
Qr 9 130 6 8,
Qao 10 9]
def c64_2:= rg [Qf 4]
def c64_3:= rg [Qb 11 1 2,
Qd 12 1 11,
Qb 13 1 3,
Qd 14 1 13,
Qv 15 12 14]
def c64_4:= rg [Qf 4]
def c64_5:= rg [Qb 16 2 2,
Qd 17 1 16,
Qb 18 2 3,
Qd 19 1 18,
Qv 20 17 19]
def c64_6:= rg [Qf 4]
def c64_7:= rg [Qy 4]
def c64 : ACode := (.seq c64_0 (.seq (.seq c64_1 (.cond (.var 10) (.seq c64_2 .ret) .skip)) (.seq (.seq c64_3 (.cond (.var 15) (.seq c64_4 .ret) .skip)) (.seq (.seq c64_5 (.cond (.var 20) (.seq c64_6 .ret) .skip)) (.seq c64_7 .ret)))))
abbrev F_L_eqFar : FuncId := 64
theorem v_L_eqFar : VT 2 1 Tryz.f64 64 [0,1,2,3,4,10,15,20] [none, none] [(.give, 4, none)] c64 := mkV Tryz.func64 rfl rfl (by kernel_rfl) (by kernel_rfl) rfl rfl
def c65_0:= rg [Qg 2 0,
Qg 3 1,
Qf 4]
def c65_1:= rg [Qb 5 0 2,
Qd 6 1 5,
Qb 7 0 3,
Qd 8 1 7,
Qr 9 131 6 8,
Qao 10 9]
def c65_2:= rg [Qf 4]
def c65_3:= rg [Qy 4]
def c65 : ACode := (.seq c65_0 (.seq (.seq c65_1 (.cond (.var 10) (.seq c65_2 .ret) .skip)) (.seq c65_3 .ret)))
abbrev F_L_eqQueue : FuncId := 65
theorem v_L_eqQueue : VT 2 1 Tryz.f65 65 [0,1,2,3,4,10] [none, none] [(.give, 4, none)] c65 := mkV Tryz.func65 rfl rfl (by kernel_rfl) (by kernel_rfl) rfl rfl
def c66_0:= rg [Qf 4]
def c66_1:= rg [Qa 6 0,
Qi 7 6,
Qa 8 1,
Qi 9 8,
Qv 10 7 9]
def c66_2:= rg [Qf 4]
def c66_3:= rg [Qe 5 0]
def c66_4:= rg [Qa 11 5,
Qa 12 0,
Qi 13 12,
Qq 14 11 13]
def c66_5 : ACode := .reg [Qa 17 0,
  Qa 18 5,
  Qz 19 2 17 18 [0,1],
  Qai 20 2 19 [2,0,1],
  Qa 21 1,
  Qa 22 5,
  Qz 23 2 21 22 [4,5],
  Qai 24 2 23 [6,4,5],
  Qbs 25 132 20 24 [3,2,0,1,7,6,4,5],
  Qcc 26 25 [8,3,2,0,1,7,6,4,5]] true
def c66_6:= rg [Qf 4]
def c66_7:= rg [Qa 15 5,
Qh 16 15 1,
Qc 5 16]
def c66_8 : ACode := (.seq (.seq c66_4 (.cond (.var 14) .skip (.exit 0))) (.seq (.block 1 (.seq c66_5 (.cond (.var 26) (.seq c66_6 .ret) .skip))) c66_7))
def c66_9:= rg [Qy 4]
def c66 : ACode := (.seq c66_0 (.seq (.seq c66_1 (.cond (.var 10) (.seq c66_2 .ret) .skip)) (.seq (.seq c66_3 (.block 0 (.loop [0, 1, 5] c66_8))) (.seq c66_9 .ret))))
abbrev F_L_eqOwnedS : FuncId := 66
theorem v_L_eqOwnedS : VT 2 1 Tryz.f66 66 [0,1,4,5,10,14,26] [none, none] [(.give, 4, none)] c66 := mkV Tryz.func66 rfl rfl (by kernel_rfl) (by kernel_rfl) rfl rfl
def c67_0:= rg [Qg 2 0,
Qg 3 1,
Qf 4]
def c67_1:= rg [Qb 5 0 2,
Qd 6 1 5,
⟨.loc 7, .clo 134 [(.var 3)], none, []⟩,
Qr 8 133 6 7,
Qc 4 8]
def c67 : ACode := (.seq c67_0 (.seq c67_1 .ret))
abbrev F_I_hasJob : FuncId := 67
theorem v_I_hasJob : VT 2 1 Tryz.f67 67 [0,1,2,3,4] [none, none] [(.give, 4, none)] c67 := mkV Tryz.func67 rfl rfl (by kernel_rfl) (by kernel_rfl) rfl rfl
def c68_0:= rg [Qf 4]
def c68_1:= rg [Qa 5 0,
Qa 6 1,
Qr 7 135 5 6,
⟨.loc 8, .bin .int .geq (.loc 7) (.const (.d (.int .i64 0))), none, []⟩,
Qc 4 8]
def c68 : ACode := (.seq c68_0 (.seq c68_1 .ret))
abbrev F_slices_ContainsFunc___impl_Owned_impl_Owned_ : FuncId := 68
theorem v_slices_ContainsFunc___impl_Owned_impl_Owned_ : VT 2 1 Tryz.f68 68 [0,1,4] [none, none] [(.give, 4, none)] c68 := mkV Tryz.func68 rfl rfl (by kernel_rfl) (by kernel_rfl) rfl rfl
def c70_0:= rg [Qg 2 0,
Qe 4 0]
def c70_1:= rg [Qb 5 0 2,
Qd 6 1 5,
Qa 7 1,
Qbc 8 136 6 7,
Qc 1 8]
def c70_2:= rg [Qa 9 1,
Qc 4 9]
def c70 : ACode := (.seq c70_0 (.seq c70_1 (.seq c70_2 .ret)))
abbrev F_L_markForest : FuncId := 70
theorem v_L_markForest : VT 2 1 Tryz.f70 70 [0,1,2,4] [some .give, none] [(.give, 4, none)] c70 := mkV Tryz.func70 rfl rfl (by kernel_rfl) (by kernel_rfl) rfl rfl
def c71_0:= rg [Qg 2 0,
Qe 4 0]
def c71_1:= rg [Qb 5 0 2,
Qd 6 1 5,
Qa 7 1,
Qbc 8 137 6 7,
Qc 1 8]
def c71_2:= rg [Qa 9 1,
Qc 4 9]
def c71 : ACode := (.seq c71_0 (.seq c71_1 (.seq c71_2 .ret)))
abbrev F_L_markBook : FuncId := 71
theorem v_L_markBook : VT 2 1 Tryz.f71 71 [0,1,2,4] [some .give, none] [(.give, 4, none)] c71 := mkV Tryz.func71 rfl rfl (by kernel_rfl) (by kernel_rfl) rfl rfl
def c72_0:= rg [Qg 2 0,
Qe 4 0]
def c72_1:= rg [Qb 5 0 2,
Qd 6 1 5,
Qa 7 1,
Qbc 8 138 6 7,
Qc 1 8]
def c72_2:= rg [Qa 9 1,
Qc 4 9]
def c72 : ACode := (.seq c72_0 (.seq c72_1 (.seq c72_2 .ret)))
abbrev F_L_markFar : FuncId := 72
theorem v_L_markFar : VT 2 1 Tryz.f72 72 [0,1,2,4] [some .give, none] [(.give, 4, none)] c72 := mkV Tryz.func72 rfl rfl (by kernel_rfl) (by kernel_rfl) rfl rfl
def c73_0:= rg [Qg 2 0,
Qe 4 0]
def c73_1:= rg [Qb 5 0 2,
Qd 6 1 5,
Qa 7 1,
Qbc 8 139 6 7,
Qc 1 8]
def c73_2:= rg [Qa 9 1,
Qc 4 9]
def c73 : ACode := (.seq c73_0 (.seq c73_1 (.seq c73_2 .ret)))
abbrev F_L_markQueue : FuncId := 73
theorem v_L_markQueue : VT 2 1 Tryz.f73 73 [0,1,2,4] [some .give, none] [(.give, 4, none)] c73 := mkV Tryz.func73 rfl rfl (by kernel_rfl) (by kernel_rfl) rfl rfl
def c74_0:= rg [Qe 4 0]
def c74_1:= rg [Qe 5 0]
def c74_2:= rg [Qa 6 5,
Qa 7 0,
Qi 8 7,
Qq 9 6 8]
def c74_3:= rg [Qa 12 0,
Qa 13 5,
Qa 14 1,
Qm 15 2 12 13,
Qt 16 0 15,
Qj 1 16 14]
def c74_4:= rg [Qa 17 1,
Qh 18 17 1,
Qc 1 18]
def c74_5:= rg [Qa 19 0,
Qa 20 5,
Qa 21 1,
Qp 22 75 21,
Qm 23 2 19 20,
Qt 24 1 23,
Qj 1 24 22]
def c74_6:= rg [Qa 25 1,
Qh 26 25 1,
Qc 1 26]
def c74_7:= rg [Qa 10 5,
Qh 11 10 1,
Qc 5 11]
def c74_8 : ACode := (.seq (.seq c74_2 (.cond (.var 9) .skip (.exit 0))) (.seq (.block 1 (.seq c74_3 (.seq c74_4 (.seq c74_5 c74_6)))) c74_7))
def c74_9:= rg [Qa 27 1,
Qc 4 27]
def c74 : ACode := (.seq c74_0 (.seq (.seq c74_1 (.block 0 (.loop [0, 1, 5] c74_8))) (.seq c74_9 .ret)))
abbrev F_L_markOwnedS : FuncId := 74
theorem v_L_markOwnedS : VT 2 1 Tryz.f74 74 [0,1,4,5,9] [some .give, none] [(.give, 4, none)] c74 := mkV Tryz.func74 rfl rfl (by kernel_rfl) (by kernel_rfl) rfl rfl
def c75_0:= rg [⟨.var 2, .mv (.const (.d (.str []))), none, []⟩]
def c75_1:= rg [Qa 4 0,
⟨.var 5, .bin .int .leq (.loc 4) (.const (.d (.int .i64 0))), none, []⟩]
def c75_2:= rg [⟨.var 2, .mv (.const (.d (.str [109, 48]))), none, []⟩]
def c75_3:= rg [⟨.var 3, .mv (.const (.d (.str []))), none, []⟩]
def c75_4:= rg [Qa 6 0,
Qbr 7 6 0]
def c75_5:= rg [Qa 8 0,
⟨.loc 9, .bin .int .rem (.loc 8) (.const (.d (.int .i64 10))), none, []⟩,
⟨.loc 10, .bin .int .add (.const (.d (.int .i64 48))) (.loc 9), none, []⟩,
⟨.loc 11, .conv .u8 (.loc 10), none, []⟩,
⟨.loc 12, .lit 0 1 1 [.int .u8 0] [(0, (.loc 11))], none, []⟩,
⟨.loc 13, .b2s (.loc 12), none, []⟩,
Qa 14 3,
⟨.loc 15, .bin .str .add (.loc 13) (.loc 14), none, []⟩,
Qc 3 15]
def c75_6:= rg [Qa 16 0,
⟨.loc 17, .bin .int .quo (.loc 16) (.const (.d (.int .i64 10))), none, []⟩,
Qc 0 17]
def c75_7 : ACode := (.seq (.seq c75_4 (.cond (.var 7) .skip (.exit 0))) (.block 1 (.seq c75_5 c75_6)))
def c75_8:= rg [Qa 18 3,
⟨.loc 19, .bin .str .add (.const (.d (.str [109]))) (.loc 18), none, []⟩,
Qc 2 19]
def c75 : ACode := (.seq c75_0 (.seq (.seq c75_1 (.cond (.var 5) (.seq c75_2 .ret) .skip)) (.seq c75_3 (.seq (.block 0 (.loop [0, 3] c75_7)) (.seq c75_8 .ret)))))
abbrev F_L_markText : FuncId := 75
theorem v_L_markText : VT 1 1 Tryz.f75 75 [0,2,3,5,7] [none] [(.give, 2, none)] c75 := mkV Tryz.func75 rfl rfl (by kernel_rfl) (by kernel_rfl) rfl rfl
def c81_0:= rg [Qg 1 0,
Qaw 2 0 0 0 1 7 0 6 0 2 0 0 0 3 0 2]
def c81_1:= rg [Ql 5 10 1,
Qaw 3 0 0 0 1 7 0 6 0 2 0 0 0 3 0 2,
Qn 10 3 5]
def c81_2:= rg [Qb 6 3 1,
Qo 7 1 6,
Qp 8 143 7,
Qb 9 3 3,
Qj 1 9 8]
def c81_3:= rg [Qb 10 4 1,
Qo 11 1 10,
Qp 12 144 11,
Qb 13 4 3,
Qj 1 13 12]
def c81_4:= rg [Qb 14 5 1,
Qo 15 3 14,
Qp 16 145 15,
Qb 17 5 3,
Qj 3 17 16]
def c81_5:= rg [Qb 18 8 1,
Qo 19 1 18,
Qp 20 146 19,
Qb 21 8 3,
Qj 1 21 20]
def c81_6:= rg [Qb 22 9 3,
⟨.none, .store 1 (.loc 22) (.const (.nil 0 2)), none, []⟩]
def c81_7:= rg [Qe 4 0]
def c81_8:= rg [Qa 23 4,
Qb 24 9 1,
Qd 25 1 24,
Qi 26 25,
Qq 27 23 26]
def c81_9 : ACode := .reg [Qb 30 9 3,
  Qs 31 1 30 [0],
  Qb 32 9 1,
  Qs 33 1 32 [2],
  Qa 34 4,
  Qz 35 2 33 34 [3,2,4],
  Qai 36 2 35 [5,3,2,4],
  ⟨.loc 37, .lit 0 2 1 [.int .i64 0, .str []] [(0, (.loc 36))], none, [6, 5, 3, 2, 4]⟩,
  Qcf 38 2 24 31 37 [1,0,7,6,5,3,2,4],
  Qbn 39 9 3 [8,1,0,7,6,5,3,2,4],
  Qbe 1 39 38 [9,8,1,0,7,6,5,3,2,4]] true
def c81_10:= rg [Qa 28 4,
Qh 29 28 1,
Qc 4 29]
def c81_11 : ACode := (.seq (.seq c81_8 (.cond (.var 27) .skip (.exit 0))) (.seq (.block 1 c81_9) c81_10))
def c81_12:= rg [Ql 40 10 3,
Qn 10 2 40]
def c81 : ACode := (.seq c81_0 (.seq c81_1 (.seq c81_2 (.seq c81_3 (.seq c81_4 (.seq c81_5 (.seq c81_6 (.seq (.seq c81_7 (.block 0 (.loop [1, 2, 3, 4] c81_11))) (.seq c81_12 .ret)))))))))
abbrev F_S_l16Copy : FuncId := 81
theorem v_S_l16Copy : VT 1 1 Tryz.f81 81 [0,1,2,3,4,27] [none] [(.give, 2, some (true, 10))] c81 := mkV Tryz.func81 rfl rfl (by kernel_rfl) (by kernel_rfl) rfl rfl
def c82_0:= rg [Qg 2 0,
Qbq 4 0 0 0 1 0 0 0 0,
Qf 5]
def c82_1:= rg [Ql 6 1 2,
Qp 7 50 6,
Qax 8 7,
Qk 9 8,
Qcg 10 1 2 9,
Qan 11 1 9,
⟨.loc 12, .call (.fn 115) [(.loc 10), (.loc 11)] [.borrow, .borrow], some ((.loc 9), false), []⟩,
⟨.loc 13, .bin .int .lss (.loc 12) (.const (.d (.int .i64 0))), some ((.loc 9), false), []⟩,
Qaq 14 9 13]
def c82_2:= rg [⟨.loc 15, .build [.d (.int .i64 0), .d (.int .i64 0), .nil 0 1, .d (.int .i64 0), .d (.int .i64 0), .d (.int .i64 0), .d (.int .i64 0)] [], none, []⟩,
Qn 7 4 15,
Qf 5]
def c82_3 : ACode := .reg [Qb 16 0 2,
  Qs 17 1 16 [0],
  Ql 18 1 2,
  Qa 19 1,
  Qbs 20 115 18 19 [2,3],
  Qz 21 7 17 20 [1,0,4,2,3],
  Qai 22 7 21 [5,1,0,4,2,3],
  Qag 23 147 22 [6,5,1,0,4,2,3],
  ⟨.none, .store 7 (.var 4) (.loc 23), none, [7, 6, 5, 1, 0, 4, 2, 3]⟩,
  ⟨.var 5, .mv (.const (.d (.bool true))), none, [8, 7, 6, 5, 1, 0, 4, 2, 3]⟩] true
def c82 : ACode := (.seq c82_0 (.seq (.seq c82_1 (.cond (.var 14) (.seq c82_2 .ret) .skip)) (.seq c82_3 .ret)))
abbrev F_S_FindToken : FuncId := 82
theorem v_S_FindToken : VT 2 2 Tryz.f82 82 [0,1,2,4,5,14] [none, none] [(.give, 4, some (true, 7)), (.give, 5, none)] c82 := mkV Tryz.func82 rfl rfl (by kernel_rfl) (by kernel_rfl) rfl rfl
def c83_0:= rg [Qg 2 0,
Qf 4]
def c83_1:= rg [Qb 5 4 2,
Qd 6 1 5,
⟨.loc 7, .bin .int .neq (.loc 6) (.const (.d (.int .i64 0))), none, []⟩,
Qk 8 7,
Qaa 9 4 2 8,
Qx 10 1 9 8,
Qac 11 1 8,
Qcd 12 10 11 8,
Qab 13 8 12,
Qc 4 13]
def c83 : ACode := (.seq c83_0 (.seq c83_1 .ret))
abbrev F_S_l08Over : FuncId := 83
theorem v_S_l08Over : VT 2 1 Tryz.f83 83 [0,1,2,4] [none, none] [(.give, 4, none)] c83 := mkV Tryz.func83 rfl rfl (by kernel_rfl) (by kernel_rfl) rfl rfl
def c84_0:= rg [Qg 2 0,
Qg 3 1,
Qak 4 0 6,
Qf 5]
def c84_1:= rg [Ql 7 1 2,
Qp 8 144 7,
Qak 6 0 6,
Qn 1 6 8]
def c84_2:= rg [Qb 9 0 6,
Qd 10 1 9,
Ql 11 6 3,
⟨.loc 12, .lit 0 6 1 [.int .i64 0, .int .i64 0, .str [], .int .i64 0, .int .i64 0, .int .i64 0] [(0, (.loc 11))], none, []⟩,
⟨.loc 13, .app 6 56 (.loc 10) (.loc 12), none, []⟩,
Qb 14 0 6,
Qj 1 14 13]
def c84_3:= rg [Ql 15 1 2,
Qp 16 51 15,
Qax 17 16,
Qk 18 17,
Qcg 19 1 6 18,
Qbj 20 51 19 18,
Qaf 21 20 18,
Qaq 22 18 21]
def c84_4:= rg [Ql 23 1 2,
Qp 24 144 23,
Qn 1 4 24,
Qf 5]
def c84_5:= rg [Ql 25 1 6,
Qn 1 4 25,
Qy 5]
def c84 : ACode := (.seq c84_0 (.seq c84_1 (.seq c84_2 (.seq (.seq c84_3 (.cond (.var 22) (.seq c84_4 .ret) .skip)) (.seq c84_5 .ret)))))
abbrev F_S_AddLease : FuncId := 84
theorem v_S_AddLease : VT 2 2 Tryz.f84 84 [0,1,2,3,4,5,6,22] [none, none] [(.give, 4, some (true, 1)), (.give, 5, none)] c84 := mkV Tryz.func84 rfl rfl (by kernel_rfl) (by kernel_rfl) rfl rfl
def c85_0:= rg [Qg 1 0,
Qaw 2 0 0 0 1 7 0 6 0 2 0 0 0 3 0 2]
def c85_1 : ACode := .reg [Qb 3 3 1,
  Qai 4 1 3 [0],
  Qag 5 148 4 [1,0],
  Qb 6 4 1,
  Qai 7 1 6 [3],
  Qag 8 149 7 [4,3,2,1,0],
  Qb 9 5 1,
  Qai 10 3 9 [6],
  Qag 11 150 10 [7,6,5,4,3,2,1,0],
  Qb 12 8 1,
  Qai 13 1 12 [9],
  Qag 14 151 13 [10,9,8,7,6,5,4,3,2,1,0],
  Qbn 15 3 1 [2,1,0,4,3,7,6,10,9],
  Qbe 1 15 5 [12,11,8,5,2,1,0,4,3,7,6,10,9],
  Qbn 16 4 1 [13,12,11,8,5,2,1,0,4,3,7,6,10,9],
  Qbe 1 16 8 [14,13,12,11,8,5,2,1,0,4,3,7,6,10,9],
  Qbn 17 5 1 [15,14,13,12,11,8,5,2,1,0,4,3,7,6,10,9],
  Qbe 3 17 11 [16,15,14,13,12,11,8,5,2,1,0,4,3,7,6,10,9],
  Qbn 18 8 1 [17,16,15,14,13,12,11,8,5,2,1,0,4,3,7,6,10,9],
  Qbe 1 18 14 [18,17,16,15,14,13,12,11,8,5,2,1,0,4,3,7,6,10,9]] true
def c85_2:= rg [Qb 19 9 1,
Qd 20 1 19,
Qp 21 152 20,
Qb 22 9 1,
Qj 1 22 21]
def c85_3:= rg [Ql 23 10 1,
Qn 10 2 23]
def c85 : ACode := (.seq c85_0 (.seq c85_1 (.seq c85_2 (.seq c85_3 .ret))))
abbrev F_I_cloneWorld : FuncId := 85
theorem v_I_cloneWorld : VT 1 1 Tryz.f85 85 [0,1,2] [none] [(.give, 2, some (true, 10))] c85 := mkV Tryz.func85 rfl rfl (by kernel_rfl) (by kernel_rfl) rfl rfl
def c86_0:= rg [Qg 5 0,
Qaw 10 0 0 0 1 7 0 6 0 2 0 0 0 3 0 2,
Qe 11 0]
def c86_1:= rg [Ql 16 10 5,
Qp 17 85 16,
Qaw 12 0 0 0 1 7 0 6 0 2 0 0 0 3 0 2,
Qn 10 12 17]
def c86_2:= rg [Qb 18 3 5,
Qo 19 1 18,
Qa 20 1,
Qr 21 99 19 20,
Qc 13 21]
def c86_3 : ACode := .reg [Qa 22 13,
  ⟨.loc 23, .bin .int .lss (.loc 22) (.const (.d (.int .i64 0))), none, [0]⟩,
  Qae 24 23 [1,0],
  Qaz 25 3 5 24 [2,1,0],
  ⟨.loc 26, .fld 0 (.loc 25), some ((.loc 24), false), [3, 2, 1, 0]⟩,
  Qar 27 1 26 24 [4,3,2,1,0],
  Qas 28 13 24 [2,1,0],
  ⟨.loc 29, .idxA 7 (.loc 27) (.loc 28), some ((.loc 24), false), [5, 4, 3, 6, 2, 1, 0]⟩,
  ⟨.loc 30, .fld 4 (.loc 29), some ((.loc 24), false), [7, 5, 4, 3, 6, 2, 1, 0]⟩,
  Qar 31 1 30 24 [8,7,5,4,3,6,2,1,0],
  Qaz 32 0 5 24 [2,1,0],
  Qar 33 1 32 24 [10,2,1,0],
  ⟨.loc 34, .call (.fn 153) [(.loc 31), (.loc 33)] [.borrow, .borrow], some ((.loc 24), false), [9, 8, 7, 5, 4, 3, 6, 11, 10, 2, 1, 0]⟩,
  Qbk 35 24 34 [12,9,8,7,5,4,3,6,11,10,2,1,0],
  Qae 36 35 [13,12,9,8,7,5,4,3,6,11,10,2,1,0],
  Qaz 37 1 5 36 [14,13,12,9,8,7,5,4,3,6,11,10,2,1,0],
  Qar 38 1 37 36 [15,14,13,12,9,8,7,5,4,3,6,11,10,2,1,0],
  ⟨.loc 39, .bin .int .eql (.loc 38) (.const (.d (.int .i64 1000000000))), some ((.loc 36), false), [16, 15, 14, 13, 12, 9, 8, 7, 5, 4, 3, 6, 11, 10, 2, 1, 0]⟩,
  Qbk 40 36 39 [17,16,15,14,13,12,9,8,7,5,4,3,6,11,10,2,1,0],
  Qae 41 40 [18,17,16,15,14,13,12,9,8,7,5,4,3,6,11,10,2,1,0],
  Qas 42 3 41 [19,18,17,16,15,14,13,12,9,8,7,5,4,3,6,11,10,2,1,0],
  Qas 43 4 41 [19,18,17,16,15,14,13,12,9,8,7,5,4,3,6,11,10,2,1,0],
  ⟨.loc 44, .call (.fn 103) [(.loc 42), (.const (.d (.int .i64 1))), (.loc 43)] [.borrow, .borrow, .borrow], some ((.loc 41), false), [20, 21, 19, 18, 17, 16, 15, 14, 13, 12, 9, 8, 7, 5, 4, 3, 6, 11, 10, 2, 1, 0]⟩,
  Qch 45 44 41 [22,20,21,19,18,17,16,15,14,13,12,9,8,7,5,4,3,6,11,10,2,1,0],
  Qbk 46 41 45 [23,22,20,21,19,18,17,16,15,14,13,12,9,8,7,5,4,3,6,11,10,2,1,0],
  Qae 47 46 [24,23,22,20,21,19,18,17,16,15,14,13,12,9,8,7,5,4,3,6,11,10,2,1,0],
  Qas 48 4 47 [25,24,23,22,20,21,19,18,17,16,15,14,13,12,9,8,7,5,4,3,6,11,10,2,1,0],
  Qbp 49 48 1000000000 47 [26,25,24,23,22,20,21,19,18,17,16,15,14,13,12,9,8,7,5,4,3,6,11,10,2,1,0],
  Qbg 50 47 49 [27,26,25,24,23,22,20,21,19,18,17,16,15,14,13,12,9,8,7,5,4,3,6,11,10,2,1,0]] true
def c86_4:= rg [Ql 51 10 12,
Qn 10 10 51,
Qe 11 0]
def c86_5:= rg [Qb 53 4 5,
Qo 54 1 53,
Qb 55 1 5,
Qd 56 1 55,
Qa 57 1,
Qa 58 2,
Qb 59 0 5,
Qd 60 1 59,
Qb 61 0 5,
Qd 62 1 61,
Qa 63 3,
⟨.loc 64, .bin .int .add (.loc 62) (.loc 63), none, []⟩,
Qb 65 0 5,
Qd 66 1 65,
Qa 67 4,
⟨.loc 68, .bin .int .add (.loc 66) (.loc 67), none, []⟩,
⟨.loc 69, .build [.d (.int .i64 0), .d (.int .i64 0), .d (.str []), .d (.int .i64 0), .d (.int .i64 0), .d (.int .i64 0)] [(0, 1, (.loc 56)), (1, 1, (.loc 57)), (2, 1, (.loc 58)), (3, 1, (.loc 60)), (4, 1, (.loc 64)), (5, 1, (.loc 68))], none, []⟩,
Qr 70 154 54 69,
Qcb 52 70,
Qav 71 52 0,
Qav 72 52 1,
Qak 14 0 6,
Qn 1 14 71,
Qc 15 72]
def c86_6:= rg [Qa 73 15,
Qao 74 73]
def c86_7:= rg [Ql 75 10 12,
Qn 10 10 75,
Qe 11 0]
def c86_8:= rg [Ql 76 1 14,
Qb 77 4 12,
Qj 1 77 76]
def c86_9:= rg [Qb 78 1 12,
Qd 79 1 78,
Qh 80 79 1,
Qb 81 1 12,
Qj 1 81 80]
def c86_10 : ACode := .reg [Ql 82 10 12,
  Qb 83 1 5,
  Qs 84 1 83 [1],
  ⟨.none, .store 10 (.var 10) (.loc 82), none, [0]⟩,
  ⟨.var 11, .mv (.loc 84), none, [2, 1, 3, 0]⟩] true
def c86 : ACode := (.seq c86_0 (.seq c86_1 (.seq c86_2 (.seq (.seq c86_3 (.cond (.var 50) (.seq c86_4 .ret) .skip)) (.seq c86_5 (.seq (.seq c86_6 (.cond (.var 74) (.seq c86_7 .ret) .skip)) (.seq c86_8 (.seq c86_9 (.seq c86_10 .ret)))))))))
abbrev F_I_grantLease : FuncId := 86
theorem v_I_grantLease : VT 5 2 Tryz.f86 86 [0,1,2,3,4,5,10,11,12,13,14,15,50,74] [none, none, none, none, none] [(.give, 10, some (true, 10)), (.give, 11, none)] c86 := mkV Tryz.func86 rfl rfl (by kernel_rfl) (by kernel_rfl) rfl rfl
def c87_0:= rg [Qg 2 0,
Qe 4 0]
def c87_1:= rg [Qb 5 0 2,
Qd 6 1 5,
Qa 7 1,
Qr 8 155 6 7,
Qc 1 8]
def c87_2:= rg [Qa 9 1,
Qu 10 9 0]
def c87_3:= rg [Qe 4 (-1)]
def c87_4:= rg [Qa 11 1,
Qc 4 11]
def c87 : ACode := (.seq c87_0 (.seq c87_1 (.seq (.seq c87_2 (.cond (.var 10) (.seq c87_3 .ret) .skip)) (.seq c87_4 .ret))))
abbrev F_L_heldForest : FuncId := 87
theorem v_L_heldForest : VT 2 1 Tryz.f87 87 [0,1,2,4,10] [none, none] [(.give, 4, none)] c87 := mkV Tryz.func87 rfl rfl (by kernel_rfl) (by kernel_rfl) rfl rfl
def c88_0:= rg [Qg 2 0,
Qe 4 0]
def c88_1:= rg [Qb 5 0 2,
Qd 6 1 5,
Qa 7 1,
Qr 8 156 6 7,
Qc 1 8]
def c88_2:= rg [Qa 9 1,
Qu 10 9 0]
def c88_3:= rg [Qe 4 (-1)]
def c88_4:= rg [Qa 11 1,
Qc 4 11]
def c88 : ACode := (.seq c88_0 (.seq c88_1 (.seq (.seq c88_2 (.cond (.var 10) (.seq c88_3 .ret) .skip)) (.seq c88_4 .ret))))
abbrev F_L_heldBook : FuncId := 88
theorem v_L_heldBook : VT 2 1 Tryz.f88 88 [0,1,2,4,10] [none, none] [(.give, 4, none)] c88 := mkV Tryz.func88 rfl rfl (by kernel_rfl) (by kernel_rfl) rfl rfl
def c89_0:= rg [Qg 2 0,
Qe 4 0]
def c89_1:= rg [Qb 5 0 2,
Qd 6 1 5,
Qa 7 1,
Qr 8 157 6 7,
Qc 1 8]
def c89_2:= rg [Qa 9 1,
Qu 10 9 0]
def c89_3:= rg [Qe 4 (-1)]
def c89_4:= rg [Qa 11 1,
Qc 4 11]
def c89 : ACode := (.seq c89_0 (.seq c89_1 (.seq (.seq c89_2 (.cond (.var 10) (.seq c89_3 .ret) .skip)) (.seq c89_4 .ret))))
abbrev F_L_heldFar : FuncId := 89
theorem v_L_heldFar : VT 2 1 Tryz.f89 89 [0,1,2,4,10] [none, none] [(.give, 4, none)] c89 := mkV Tryz.func89 rfl rfl (by kernel_rfl) (by kernel_rfl) rfl rfl
def c90_0:= rg [Qg 2 0,
Qe 4 0]
def c90_1:= rg [Qb 5 0 2,
Qd 6 1 5,
Qa 7 1,
Qr 8 158 6 7,
Qc 1 8]
def c90_2:= rg [Qa 9 1,
Qu 10 9 0]
def c90_3:= rg [Qe 4 (-1)]
def c90_4:= rg [Qa 11 1,
Qc 4 11]
def c90 : ACode := (.seq c90_0 (.seq c90_1 (.seq (.seq c90_2 (.cond (.var 10) (.seq c90_3 .ret) .skip)) (.seq c90_4 .ret))))
abbrev F_L_heldQueue : FuncId := 90
theorem v_L_heldQueue : VT 2 1 Tryz.f90 90 [0,1,2,4,10] [none, none] [(.give, 4, none)] c90 := mkV Tryz.func90 rfl rfl (by kernel_rfl) (by kernel_rfl) rfl rfl
def c91_0:= rg [Qe 4 0]
def c91_1:= rg [Qe 5 0]
def c91_2:= rg [Qa 6 5,
Qa 7 0,
Qi 8 7,
Qq 9 6 8]
def c91_3:= rg [Qa 12 0,
Qa 13 5,
Qm 14 2 12 13,
Qt 15 0 14,
Qd 16 1 15,
Qa 17 1,
Qv 18 16 17]
def c91_4:= rg [Qe 4 (-1)]
def c91_5:= rg [Qa 19 1,
Qh 20 19 1,
Qc 1 20]
def c91_6 : ACode := .reg [Qa 21 0,
  Qa 22 5,
  Qz 23 2 21 22 [0,1],
  Qay 24 1 23 [2,0,1],
  Qs 25 1 24 [3,2,0,1],
  Qa 26 1,
  Qag 27 75 26 [5],
  Qbz 28 25 27 [4,3,2,0,1,6,5]] true
def c91_7:= rg [Qe 4 (-1)]
def c91_8:= rg [Qa 29 1,
Qh 30 29 1,
Qc 1 30]
def c91_9:= rg [Qa 10 5,
Qh 11 10 1,
Qc 5 11]
def c91_10 : ACode := (.seq (.seq c91_2 (.cond (.var 9) .skip (.exit 0))) (.seq (.block 1 (.seq (.seq c91_3 (.cond (.var 18) (.seq c91_4 .ret) .skip)) (.seq c91_5 (.seq (.seq c91_6 (.cond (.var 28) (.seq c91_7 .ret) .skip)) c91_8)))) c91_9))
def c91_11:= rg [Qa 31 1,
Qc 4 31]
def c91 : ACode := (.seq c91_0 (.seq (.seq c91_1 (.block 0 (.loop [0, 1, 5] c91_10))) (.seq c91_11 .ret)))
abbrev F_L_heldOwnedS : FuncId := 91
theorem v_L_heldOwnedS : VT 2 1 Tryz.f91 91 [0,1,4,5,9,18,28] [none, none] [(.give, 4, none)] c91 := mkV Tryz.func91 rfl rfl (by kernel_rfl) (by kernel_rfl) rfl rfl
def c94_0:= rg [Qg 2 0,
Qg 3 1,
Qe 4 0]
def c94_1:= rg [Qb 5 0 2,
Qd 6 1 5,
⟨.loc 7, .clo 163 [(.var 3)], none, []⟩,
Qr 8 162 6 7,
Qc 4 8]
def c94 : ACode := (.seq c94_0 (.seq c94_1 .ret))
abbrev F_I_leaseIndex : FuncId := 94
theorem v_I_leaseIndex : VT 2 1 Tryz.f94 94 [0,1,2,3,4] [none, none] [(.give, 4, none)] c94 := mkV Tryz.func94 rfl rfl (by kernel_rfl) (by kernel_rfl) rfl rfl
def c99_0:= rg [Qg 2 0,
Qg 3 1,
Qe 4 0]
def c99_1:= rg [Qb 5 0 2,
Qd 6 1 5,
⟨.loc 7, .clo 170 [(.var 3)], none, []⟩,
Qr 8 169 6 7,
Qc 4 8]
def c99 : ACode := (.seq c99_0 (.seq c99_1 .ret))
abbrev F_I_tokenIndex : FuncId := 99
theorem v_I_tokenIndex : VT 2 1 Tryz.f99 99 [0,1,2,3,4] [none, none] [(.give, 4, none)] c99 := mkV Tryz.func99 rfl rfl (by kernel_rfl) (by kernel_rfl) rfl rfl
def c103_0:= rg [Qf 6]
def c103_1:= rg [Qa 7 0,
Qa 8 1,
⟨.loc 9, .bin .int .geq (.loc 7) (.loc 8), none, []⟩,
Qk 10 9,
Qac 11 0 10,
Qac 12 2 10,
Qcd 13 11 12 10,
Qab 14 10 13,
Qc 6 14]
def c103 : ACode := (.seq c103_0 (.seq c103_1 .ret))
abbrev F_I_within : FuncId := 103
theorem v_I_within : VT 3 1 Tryz.f103 103 [0,1,2,6] [none, none, none] [(.give, 6, none)] c103 := mkV Tryz.func103 rfl rfl (by kernel_rfl) (by kernel_rfl) rfl rfl
def c109_0:= rg [Qe 4 0]
def c109_1:= rg [Qa 6 1,
Qa 7 0,
Qi 8 7,
Qbd 9 6 8,
Qc 1 9]
def c109_2:= rg [Qa 10 1,
Qu 11 10 0]
def c109_3:= rg [Qe 4 (-1)]
def c109_4:= rg [Qe 5 0]
def c109_5:= rg [Qa 12 5,
Qa 13 0,
Qi 14 13,
Qq 15 12 14]
def c109_6:= rg [Qa 18 0,
Qa 19 5,
Qm 20 7 18 19,
Qo 21 7 20,
Qa 22 1,
Qr 23 181 21 22,
Qc 1 23]
def c109_7:= rg [Qa 24 1,
Qu 25 24 0]
def c109_8:= rg [Qe 4 (-1)]
def c109_9:= rg [Qa 16 5,
Qh 17 16 1,
Qc 5 17]
def c109_10 : ACode := (.seq (.seq c109_5 (.cond (.var 15) .skip (.exit 0))) (.seq (.block 1 (.seq c109_6 (.seq c109_7 (.cond (.var 25) (.seq c109_8 .ret) .skip)))) c109_9))
def c109_11:= rg [Qa 26 1,
Qc 4 26]
def c109 : ACode := (.seq c109_0 (.seq c109_1 (.seq (.seq c109_2 (.cond (.var 11) (.seq c109_3 .ret) .skip)) (.seq (.seq c109_4 (.block 0 (.loop [0, 1, 5] c109_10))) (.seq c109_11 .ret)))))
abbrev F_L_szTokenS : FuncId := 109
theorem v_L_szTokenS : VT 2 1 Tryz.f109 109 [0,1,4,5,11,15,25] [none, none] [(.give, 4, none)] c109 := mkV Tryz.func109 rfl rfl (by kernel_rfl) (by kernel_rfl) rfl rfl
def c110_0:= rg [Qe 4 0]
def c110_1:= rg [Qa 6 1,
Qa 7 0,
Qi 8 7,
Qbd 9 6 8,
Qc 1 9]
def c110_2:= rg [Qa 10 1,
Qu 11 10 0]
def c110_3:= rg [Qe 4 (-1)]
def c110_4:= rg [Qe 5 0]
def c110_5:= rg [Qa 12 5,
Qa 13 0,
Qi 14 13,
Qq 15 12 14]
def c110_6:= rg [Qa 18 0,
Qa 19 5,
Qm 20 6 18 19,
Qo 21 6 20,
Qa 22 1,
Qr 23 182 21 22,
Qc 1 23]
def c110_7:= rg [Qa 24 1,
Qu 25 24 0]
def c110_8:= rg [Qe 4 (-1)]
def c110_9:= rg [Qa 16 5,
Qh 17 16 1,
Qc 5 17]
def c110_10 : ACode := (.seq (.seq c110_5 (.cond (.var 15) .skip (.exit 0))) (.seq (.block 1 (.seq c110_6 (.seq c110_7 (.cond (.var 25) (.seq c110_8 .ret) .skip)))) c110_9))
def c110_11:= rg [Qa 26 1,
Qc 4 26]
def c110 : ACode := (.seq c110_0 (.seq c110_1 (.seq (.seq c110_2 (.cond (.var 11) (.seq c110_3 .ret) .skip)) (.seq (.seq c110_4 (.block 0 (.loop [0, 1, 5] c110_10))) (.seq c110_11 .ret)))))
abbrev F_L_szLeaseS : FuncId := 110
theorem v_L_szLeaseS : VT 2 1 Tryz.f110 110 [0,1,4,5,11,15,25] [none, none] [(.give, 4, none)] c110 := mkV Tryz.func110 rfl rfl (by kernel_rfl) (by kernel_rfl) rfl rfl
def c111_0:= rg [Qe 4 0]
def c111_1:= rg [Qa 6 1,
Qa 7 0,
Qi 8 7,
Qbd 9 6 8,
Qc 1 9]
def c111_2:= rg [Qa 10 1,
Qu 11 10 0]
def c111_3:= rg [Qe 4 (-1)]
def c111_4:= rg [Qe 5 0]
def c111_5:= rg [Qa 12 5,
Qa 13 0,
Qi 14 13,
Qq 15 12 14]
def c111_6:= rg [Qa 18 0,
Qa 19 5,
Qm 20 2 18 19,
Qo 21 2 20,
Qa 22 1,
Qr 23 183 21 22,
Qc 1 23]
def c111_7:= rg [Qa 24 1,
Qu 25 24 0]
def c111_8:= rg [Qe 4 (-1)]
def c111_9:= rg [Qa 16 5,
Qh 17 16 1,
Qc 5 17]
def c111_10 : ACode := (.seq (.seq c111_5 (.cond (.var 15) .skip (.exit 0))) (.seq (.block 1 (.seq c111_6 (.seq c111_7 (.cond (.var 25) (.seq c111_8 .ret) .skip)))) c111_9))
def c111_11:= rg [Qa 26 1,
Qc 4 26]
def c111 : ACode := (.seq c111_0 (.seq c111_1 (.seq (.seq c111_2 (.cond (.var 11) (.seq c111_3 .ret) .skip)) (.seq (.seq c111_4 (.block 0 (.loop [0, 1, 5] c111_10))) (.seq c111_11 .ret)))))
abbrev F_L_szUserS : FuncId := 111
theorem v_L_szUserS : VT 2 1 Tryz.f111 111 [0,1,4,5,11,15,25] [none, none] [(.give, 4, none)] c111 := mkV Tryz.func111 rfl rfl (by kernel_rfl) (by kernel_rfl) rfl rfl
def c112_0:= rg [Qe 4 0]
def c112_1:= rg [Qa 6 1,
Qa 7 0,
Qi 8 7,
Qbd 9 6 8,
Qc 1 9]
def c112_2:= rg [Qa 10 1,
Qu 11 10 0]
def c112_3:= rg [Qe 4 (-1)]
def c112_4:= rg [Qe 5 0]
def c112_5:= rg [Qa 12 5,
Qa 13 0,
Qi 14 13,
Qq 15 12 14]
def c112_6:= rg [Qa 18 0,
Qa 19 5,
Qm 20 3 18 19,
Qo 21 3 20,
Qa 22 1,
Qr 23 184 21 22,
Qc 1 23]
def c112_7:= rg [Qa 24 1,
Qu 25 24 0]
def c112_8:= rg [Qe 4 (-1)]
def c112_9:= rg [Qa 16 5,
Qh 17 16 1,
Qc 5 17]
def c112_10 : ACode := (.seq (.seq c112_5 (.cond (.var 15) .skip (.exit 0))) (.seq (.block 1 (.seq c112_6 (.seq c112_7 (.cond (.var 25) (.seq c112_8 .ret) .skip)))) c112_9))
def c112_11:= rg [Qa 26 1,
Qc 4 26]
def c112 : ACode := (.seq c112_0 (.seq c112_1 (.seq (.seq c112_2 (.cond (.var 11) (.seq c112_3 .ret) .skip)) (.seq (.seq c112_4 (.block 0 (.loop [0, 1, 5] c112_10))) (.seq c112_11 .ret)))))
abbrev F_L_szJobS : FuncId := 112
theorem v_L_szJobS : VT 2 1 Tryz.f112 112 [0,1,4,5,11,15,25] [none, none] [(.give, 4, none)] c112 := mkV Tryz.func112 rfl rfl (by kernel_rfl) (by kernel_rfl) rfl rfl
def c113_0:= rg [Qg 2 0,
Qe 4 0]
def c113_1:= rg [Qa 5 1,
Qb 6 1 2,
Qd 7 1 6,
Qam 8 7,
Qbd 9 5 8,
Qc 1 9]
def c113_2:= rg [Qa 10 1,
Qu 11 10 0]
def c113_3:= rg [Qe 4 (-1)]
def c113_4:= rg [Qa 12 1,
Qc 4 12]
def c113 : ACode := (.seq c113_0 (.seq c113_1 (.seq (.seq c113_2 (.cond (.var 11) (.seq c113_3 .ret) .skip)) (.seq c113_4 .ret))))
abbrev F_L_szOwned : FuncId := 113
theorem v_L_szOwned : VT 2 1 Tryz.f113 113 [0,1,2,4,11] [none, none] [(.give, 4, none)] c113 := mkV Tryz.func113 rfl rfl (by kernel_rfl) (by kernel_rfl) rfl rfl
def c114_0:= rg [Qg 1 0,
Qf 2]
def c114_1:= rg [Qb 3 0 1,
Qd 4 1 3,
Qbh 5 49 4 1 1000000000,
Qax 6 5,
Qk 7 6,
Qad 8 1 1 7,
Qal 9 1 8 7,
⟨.loc 10, .bin .int .lss (.loc 9) (.const (.d (.int .i64 0))), some ((.loc 7), false), []⟩,
Qah 11 7 10,
Qk 12 11,
Qad 13 1 1 12,
Qal 14 1 13 12,
Qad 15 0 1 12,
Qal 16 1 15 12,
⟨.loc 17, .bin .int .geq (.loc 14) (.loc 16), some ((.loc 12), false), []⟩,
Qah 18 12 17,
Qk 19 18,
Qad 20 2 1 19,
Qal 21 1 20 19,
Qbj 22 185 21 19,
Qaf 23 22 19,
Qah 24 19 23,
Qk 25 24,
Qad 26 3 1 25,
Qal 27 1 26 25,
Qbi 28 49 27 0 1000000000 25,
Qaf 29 28 25,
Qah 30 25 29,
Qk 31 30,
Qad 32 6 1 31,
Qal 33 1 32 31,
Qbi 34 49 33 0 1000 31,
Qaf 35 34 31,
Qaq 36 31 35]
def c114_2:= rg [Qf 2]
def c114_3:= rg [Qb 37 4 1,
Qd 38 1 37,
⟨.loc 39, .bin .int .neq (.loc 38) (.const (.d (.int .i64 0))), none, []⟩,
Qk 40 39,
Qaa 41 4 1 40,
Qx 42 1 41 40,
Qaa 43 3 1 40,
Qx 44 1 43 40,
Qcl 45 44 1 40,
⟨.loc 46, .call (.fn 49) [(.loc 42), (.loc 45), (.const (.d (.int .i64 1000000000)))] [.borrow, .borrow, .borrow], some ((.loc 40), true), []⟩,
Qcj 47 46 40,
⟨.var 48, .pick (.loc 40) (.loc 47) (.const (.d (.bool false))), none, []⟩]
def c114_4:= rg [Qf 2]
def c114_5:= rg [Qb 49 5 1,
Qd 50 1 49,
⟨.var 51, .bin .int .eql (.loc 50) (.const (.d (.int .i64 0))), none, []⟩]
def c114_6:= rg [Qy 2]
def c114_7:= rg [Qb 52 5 1,
Qd 53 1 52,
Qb 54 3 1,
Qd 55 1 54,
Qh 56 55 1,
⟨.loc 57, .call (.fn 49) [(.loc 53), (.loc 56), (.const (.d (.int .i64 1000000000)))] [.borrow, .borrow, .borrow], none, []⟩,
Qk 58 57,
Qaa 59 4 1 58,
Qx 60 1 59 58,
⟨.loc 61, .bin .int .neq (.loc 60) (.const (.d (.int .i64 0))), some ((.loc 58), true), []⟩,
Qab 62 58 61,
Qk 63 62,
Qaa 64 4 1 63,
Qx 65 1 64 63,
Qaa 66 5 1 63,
Qx 67 1 66 63,
Qcd 68 65 67 63,
Qab 69 63 68,
Qc 2 69]
def c114 : ACode := (.seq c114_0 (.seq (.seq c114_1 (.cond (.var 36) (.seq c114_2 .ret) .skip)) (.seq (.seq c114_3 (.cond (.var 48) (.seq c114_4 .ret) .skip)) (.seq (.seq c114_5 (.cond (.var 51) (.seq c114_6 .ret) .skip)) (.seq c114_7 .ret)))))
abbrev F_S_l08Token : FuncId := 114
theorem v_S_l08Token : VT 1 1 Tryz.f114 114 [0,1,2,36,48,51] [none] [(.give, 2, none)] c114 := mkV Tryz.func114 rfl rfl (by kernel_rfl) (by kernel_rfl) rfl rfl
def c115_0:= rg [Qg 2 0,
Qe 4 0]
def c115_1:= rg [Qe 5 0]
def c115_2:= rg [Qa 6 5,
Qb 7 0 2,
Qd 8 1 7,
Qi 9 8,
Qq 10 6 9]
def c115_3:= rg [Qb 13 0 2,
Qd 14 1 13,
Qa 15 5,
Qm 16 7 14 15,
Qt 17 0 16,
Qd 18 1 17,
Qa 19 1,
⟨.var 20, .bin .int .eql (.loc 18) (.loc 19), none, []⟩]
def c115_4:= rg [Qa 21 5,
Qc 4 21]
def c115_5:= rg [Qa 11 5,
Qh 12 11 1,
Qc 5 12]
def c115_6 : ACode := (.seq (.seq c115_2 (.cond (.var 10) .skip (.exit 0))) (.seq (.block 1 (.seq c115_3 (.cond (.var 20) (.seq c115_4 .ret) .skip))) c115_5))
def c115_7:= rg [Qe 4 (-1)]
def c115 : ACode := (.seq c115_0 (.seq (.seq c115_1 (.block 0 (.loop [1, 2, 5] c115_6))) (.seq c115_7 .ret)))
abbrev F_S_l08At : FuncId := 115
theorem v_S_l08At : VT 2 1 Tryz.f115 115 [0,1,2,4,5,10,20] [none, none] [(.give, 4, none)] c115 := mkV Tryz.func115 rfl rfl (by kernel_rfl) (by kernel_rfl) rfl rfl
def c116_0:= rg [Qg 1 0,
Qf 2]
def c116_1:= rg [Qb 3 0 1,
Qd 4 1 3,
Qbh 5 49 4 1 1000000000,
Qk 6 5,
Qaa 7 1 1 6,
Qx 8 1 7 6,
Qby 9 49 8 0 1000000000 6,
Qab 10 6 9,
Qk 11 10,
Qaa 12 2 1 11,
Qx 13 1 12 11,
⟨.loc 14, .call (.fn 186) [(.loc 13)] [.borrow], some ((.loc 11), true), []⟩,
Qab 15 11 14,
Qk 16 15,
Qaa 17 3 1 16,
Qx 18 1 17 16,
Qby 19 49 18 0 1000000000 16,
Qab 20 16 19,
Qk 21 20,
Qaa 22 5 1 21,
Qx 23 1 22 21,
Qaa 24 3 1 21,
Qx 25 1 24 21,
Qcl 26 25 1 21,
⟨.loc 27, .call (.fn 49) [(.loc 23), (.loc 26), (.const (.d (.int .i64 1000000000)))] [.borrow, .borrow, .borrow], some ((.loc 21), true), []⟩,
Qab 28 21 27,
Qk 29 28,
Qaa 30 4 1 29,
Qx 31 1 30 29,
Qaa 32 3 1 29,
Qx 33 1 32 29,
Qcl 34 33 1 29,
Qaa 35 5 1 29,
Qx 36 1 35 29,
⟨.loc 37, .call (.fn 49) [(.loc 31), (.loc 34), (.loc 36)] [.borrow, .borrow, .borrow], some ((.loc 29), true), []⟩,
Qab 38 29 37,
Qc 2 38]
def c116 : ACode := (.seq c116_0 (.seq c116_1 .ret))
abbrev F_S_l09Lease : FuncId := 116
theorem v_S_l09Lease : VT 1 1 Tryz.f116 116 [0,1,2] [none] [(.give, 2, none)] c116 := mkV Tryz.func116 rfl rfl (by kernel_rfl) (by kernel_rfl) rfl rfl
def c117_0:= rg [Qbv 2 1 7]
def c117_1:= rg [Qa 5 0,
Qi 6 5,
⟨.loc 7, .mkslice 1 7 72 [.int .i64 0, .int .i64 0, .slc 1 [], .int .i64 0, .int .i64 0, .int .i64 0, .int .i64 0] (.loc 6) (.loc 6), none, []⟩,
Qc 3 7]
def c117_2:= rg [Qe 4 0]
def c117_3:= rg [Qa 8 4,
Qa 9 0,
Qi 10 9,
Qq 11 8 10]
def c117_4:= rg [Qa 14 3,
Qa 15 4,
Qa 16 0,
Qa 17 4,
Qm 18 7 16 17,
Qo 19 7 18,
Qp 20 187 19,
Qm 21 7 14 15,
Qj 7 21 20]
def c117_5:= rg [Qa 12 4,
Qh 13 12 1,
Qc 4 13]
def c117_6 : ACode := (.seq (.seq c117_3 (.cond (.var 11) .skip (.exit 0))) (.seq (.block 1 c117_4) c117_5))
def c117_7:= rg [Qa 22 3,
Qc 2 22]
def c117 : ACode := (.seq c117_0 (.seq c117_1 (.seq (.seq c117_2 (.block 0 (.loop [0, 3, 4] c117_6))) (.seq c117_7 .ret))))
abbrev F_L_toTokenS : FuncId := 117
theorem v_L_toTokenS : VT 1 1 Tryz.f117 117 [0,2,3,4,11] [none] [(.give, 2, none)] c117 := mkV Tryz.func117 rfl rfl (by kernel_rfl) (by kernel_rfl) rfl rfl
def c118_0:= rg [Qbv 2 0 6]
def c118_1:= rg [Qa 5 0,
Qi 6 5,
⟨.loc 7, .mkslice 0 6 56 [.int .i64 0, .int .i64 0, .str [], .int .i64 0, .int .i64 0, .int .i64 0] (.loc 6) (.loc 6), none, []⟩,
Qc 3 7]
def c118_2:= rg [Qe 4 0]
def c118_3:= rg [Qa 8 4,
Qa 9 0,
Qi 10 9,
Qq 11 8 10]
def c118_4:= rg [Qa 14 3,
Qa 15 4,
Qa 16 0,
Qa 17 4,
Qm 18 6 16 17,
Qo 19 6 18,
Qp 20 188 19,
Qm 21 6 14 15,
Qj 6 21 20]
def c118_5:= rg [Qa 12 4,
Qh 13 12 1,
Qc 4 13]
def c118_6 : ACode := (.seq (.seq c118_3 (.cond (.var 11) .skip (.exit 0))) (.seq (.block 1 c118_4) c118_5))
def c118_7:= rg [Qa 22 3,
Qc 2 22]
def c118 : ACode := (.seq c118_0 (.seq c118_1 (.seq (.seq c118_2 (.block 0 (.loop [0, 3, 4] c118_6))) (.seq c118_7 .ret))))
abbrev F_L_toLeaseS : FuncId := 118
theorem v_L_toLeaseS : VT 1 1 Tryz.f118 118 [0,2,3,4,11] [none] [(.give, 2, none)] c118 := mkV Tryz.func118 rfl rfl (by kernel_rfl) (by kernel_rfl) rfl rfl
def c119_0:= rg [Qbv 2 0 2]
def c119_1:= rg [Qa 5 0,
Qi 6 5,
⟨.loc 7, .mkslice 0 2 32 [.str [], .str []] (.loc 6) (.loc 6), none, []⟩,
Qc 3 7]
def c119_2:= rg [Qe 4 0]
def c119_3:= rg [Qa 8 4,
Qa 9 0,
Qi 10 9,
Qq 11 8 10]
def c119_4:= rg [Qa 14 3,
Qa 15 4,
Qa 16 0,
Qa 17 4,
Qm 18 2 16 17,
Qo 19 2 18,
Qp 20 189 19,
Qm 21 2 14 15,
Qj 2 21 20]
def c119_5:= rg [Qa 12 4,
Qh 13 12 1,
Qc 4 13]
def c119_6 : ACode := (.seq (.seq c119_3 (.cond (.var 11) .skip (.exit 0))) (.seq (.block 1 c119_4) c119_5))
def c119_7:= rg [Qa 22 3,
Qc 2 22]
def c119 : ACode := (.seq c119_0 (.seq c119_1 (.seq (.seq c119_2 (.block 0 (.loop [0, 3, 4] c119_6))) (.seq c119_7 .ret))))
abbrev F_L_toUserS : FuncId := 119
theorem v_L_toUserS : VT 1 1 Tryz.f119 119 [0,2,3,4,11] [none] [(.give, 2, none)] c119 := mkV Tryz.func119 rfl rfl (by kernel_rfl) (by kernel_rfl) rfl rfl
def c120_0:= rg [Qbv 2 0 3]
def c120_1:= rg [Qa 5 0,
Qi 6 5,
⟨.loc 7, .mkslice 0 3 32 [.str [], .int .i64 0, .int .i64 0] (.loc 6) (.loc 6), none, []⟩,
Qc 3 7]
def c120_2:= rg [Qe 4 0]
def c120_3:= rg [Qa 8 4,
Qa 9 0,
Qi 10 9,
Qq 11 8 10]
def c120_4:= rg [Qa 14 3,
Qa 15 4,
Qa 16 0,
Qa 17 4,
Qm 18 3 16 17,
Qo 19 3 18,
Qp 20 190 19,
Qm 21 3 14 15,
Qj 3 21 20]
def c120_5:= rg [Qa 12 4,
Qh 13 12 1,
Qc 4 13]
def c120_6 : ACode := (.seq (.seq c120_3 (.cond (.var 11) .skip (.exit 0))) (.seq (.block 1 c120_4) c120_5))
def c120_7:= rg [Qa 22 3,
Qc 2 22]
def c120 : ACode := (.seq c120_0 (.seq c120_1 (.seq (.seq c120_2 (.block 0 (.loop [0, 3, 4] c120_6))) (.seq c120_7 .ret))))
abbrev F_L_toJobS : FuncId := 120
theorem v_L_toJobS : VT 1 1 Tryz.f120 120 [0,2,3,4,11] [none] [(.give, 2, none)] c120 := mkV Tryz.func120 rfl rfl (by kernel_rfl) (by kernel_rfl) rfl rfl
def c121_0:= rg [Qg 1 0,
⟨.var 2, .alloc [.d (.int .i64 0), .d (.str [])], none, []⟩]
def c121_1:= rg [⟨.var 3, .alloc [.d (.int .i64 0), .d (.str [])], none, []⟩]
def c121_2:= rg [Qb 4 0 1,
Qd 5 1 4,
Qb 6 0 3,
Qj 1 6 5]
def c121_3:= rg [Qb 7 1 1,
Qd 8 1 7,
Qb 9 1 3,
Qj 1 9 8]
def c121_4:= rg [Ql 10 2 3,
Qn 2 2 10]
def c121 : ACode := (.seq c121_0 (.seq c121_1 (.seq c121_2 (.seq c121_3 (.seq c121_4 .ret)))))
abbrev F_L_toOwned : FuncId := 121
theorem v_L_toOwned : VT 1 1 Tryz.f121 121 [0,1,2,3] [none] [(.give, 2, some (true, 2))] c121 := mkV Tryz.func121 rfl rfl (by kernel_rfl) (by kernel_rfl) rfl rfl
def c122_0:= rg [Qg 1 0,
Qf 2]
def c122_1:= rg [Qb 5 0 1,
Qce 6 1 5,
Qbw 7 6,
Qe 8 0]
def c122_2:= rg [Qba 9 8 7]
def c122_3:= rg [Qa 10 8,
Qbx 11 7 6 8,
Qo 12 7 11,
Qbq 4 0 0 0 1 0 0 0 0,
Qc 3 10,
Qn 7 4 12]
def c122_4 : ACode := .reg [Ql 13 7 4,
  Qag 14 191 13 [0],
  Qbo 15 14 [1,0],
  Qae 16 15 [2,1,0],
  Qas 17 3 16 [3,2,1,0],
  Qbp 18 17 0 16 [4,3,2,1,0],
  Qbl 19 18 16 [5,4,3,2,1,0],
  Qaj 20 0 1 19 [6,5,4,3,2,1,0],
  Qw 21 1 20 19 [7,6,5,4,3,2,1,0],
  Qap 22 3 19 [6,5,4,3,2,1,0],
  Qbf 23 22 1 19 [9,6,5,4,3,2,1,0],
  Qat 24 7 21 23 19 [8,7,10,9,6,5,4,3,2,1,0],
  Qau 25 0 24 19 [11,8,7,10,9,6,5,4,3,2,1,0],
  Qw 26 1 25 19 [12,11,8,7,10,9,6,5,4,3,2,1,0],
  Qaj 27 0 4 19 [6,5,4,3,2,1,0],
  Qw 28 1 27 19 [14,6,5,4,3,2,1,0],
  Qbu 29 26 28 19 [13,12,11,8,7,10,9,15,14,6,5,4,3,2,1,0],
  Qbm 30 19 29 16 [16,13,12,11,8,7,10,9,15,14,6,5,4,3,2,1,0],
  Qbk 31 16 30 [17,16,13,12,11,8,7,10,9,15,14,6,5,4,3,2,1,0],
  Qae 32 31 [18,17,16,13,12,11,8,7,10,9,15,14,6,5,4,3,2,1,0],
  Qaz 33 1 4 32 [19,18,17,16,13,12,11,8,7,10,9,15,14,6,5,4,3,2,1,0],
  Qar 34 1 33 32 [20,19,18,17,16,13,12,11,8,7,10,9,15,14,6,5,4,3,2,1,0],
  ⟨.loc 35, .bin .int .neq (.loc 34) (.const (.d (.int .i64 0))), some ((.loc 32), false), [21, 20, 19, 18, 17, 16, 13, 12, 11, 8, 7, 10, 9, 15, 14, 6, 5, 4, 3, 2, 1, 0]⟩,
  Qbl 36 35 32 [22,21,20,19,18,17,16,13,12,11,8,7,10,9,15,14,6,5,4,3,2,1,0],
  ⟨.loc 37, .load true 1 (.var 1), some ((.loc 36), true), [23, 22, 21, 20, 19, 18, 17, 16, 13, 12, 11, 8, 7, 10, 9, 15, 14, 6, 5, 4, 3, 2, 1, 0]⟩,
  Qaj 38 1 4 36 [23,22,21,20,19,18,17,16,13,12,11,8,7,10,9,15,14,6,5,4,3,2,1,0],
  Qw 39 1 38 36 [25,23,22,21,20,19,18,17,16,13,12,11,8,7,10,9,15,14,6,5,4,3,2,1,0],
  ⟨.loc 40, .call (.fn 99) [(.loc 37), (.loc 39)] [.borrow, .borrow], some ((.loc 36), true), [24, 26, 25, 23, 22, 21, 20, 19, 18, 17, 16, 13, 12, 11, 8, 7, 10, 9, 15, 14, 6, 5, 4, 3, 2, 1, 0]⟩,
  ⟨.loc 41, .bin .int .lss (.loc 40) (.const (.d (.int .i64 0))), some ((.loc 36), true), [27, 24, 26, 25, 23, 22, 21, 20, 19, 18, 17, 16, 13, 12, 11, 8, 7, 10, 9, 15, 14, 6, 5, 4, 3, 2, 1, 0]⟩,
  Qbm 42 36 41 32 [28,27,24,26,25,23,22,21,20,19,18,17,16,13,12,11,8,7,10,9,15,14,6,5,4,3,2,1,0],
  Qbg 43 32 42 [29,28,27,24,26,25,23,22,21,20,19,18,17,16,13,12,11,8,7,10,9,15,14,6,5,4,3,2,1,0]] true
def c122_5:= rg [Qf 2]
def c122_6:= rg [Qbb 44 8 1,
Qc 8 44]
def c122_7 : ACode := (.seq c122_2 (.seq (.cond (.var 9) .skip (.exit 0)) (.seq (.block 1 (.seq c122_3 (.seq c122_4 (.cond (.var 43) (.seq c122_5 .ret) .skip)))) c122_6)))
def c122_8:= rg [Qb 45 0 1,
Qd 46 1 45,
Qi 47 46,
Qca 48 47 120,
Qc 2 48]
def c122 : ACode := (.seq c122_0 (.seq (.seq c122_1 (.block 0 (.loop [1, 6, 7, 8] c122_7))) (.seq c122_8 .ret)))
abbrev F_I_isForest : FuncId := 122
theorem v_I_isForest : VT 1 1 Tryz.f122 122 [0,1,2,3,4,6,7,8,9,43] [none] [(.give, 2, none)] c122 := mkV Tryz.func122 rfl rfl (by kernel_rfl) (by kernel_rfl) rfl rfl
def c123_0:= rg [Qg 1 0,
Qf 2]
def c123_1:= rg [Qb 5 0 1,
Qce 6 1 5,
Qbw 7 6,
Qe 8 0]
def c123_2:= rg [Qba 9 8 7]
def c123_3:= rg [Qa 10 8,
Qbx 11 6 6 8,
Qo 12 6 11,
⟨.var 4, .alloc [.d (.int .i64 0), .d (.int .i64 0), .d (.str []), .d (.int .i64 0), .d (.int .i64 0), .d (.int .i64 0)], none, []⟩,
Qc 3 10,
Qn 6 4 12]
def c123_4 : ACode := .reg [Ql 13 6 4,
  Qag 14 192 13 [0],
  Qbo 15 14 [1,0],
  Qae 16 15 [2,1,0],
  Qas 17 3 16 [3,2,1,0],
  Qbp 18 17 0 16 [4,3,2,1,0],
  Qbl 19 18 16 [5,4,3,2,1,0],
  Qaj 20 0 1 19 [6,5,4,3,2,1,0],
  Qw 21 1 20 19 [7,6,5,4,3,2,1,0],
  Qap 22 3 19 [6,5,4,3,2,1,0],
  Qbf 23 22 1 19 [9,6,5,4,3,2,1,0],
  Qat 24 6 21 23 19 [8,7,10,9,6,5,4,3,2,1,0],
  Qau 25 0 24 19 [11,8,7,10,9,6,5,4,3,2,1,0],
  Qw 26 1 25 19 [12,11,8,7,10,9,6,5,4,3,2,1,0],
  Qaj 27 0 4 19 [6,5,4,3,2,1,0],
  Qw 28 1 27 19 [14,6,5,4,3,2,1,0],
  Qbu 29 26 28 19 [13,12,11,8,7,10,9,15,14,6,5,4,3,2,1,0],
  Qbm 30 19 29 16 [16,13,12,11,8,7,10,9,15,14,6,5,4,3,2,1,0],
  Qbg 31 16 30 [17,16,13,12,11,8,7,10,9,15,14,6,5,4,3,2,1,0]] true
def c123_5:= rg [Qf 2]
def c123_6:= rg [Qbb 32 8 1,
Qc 8 32]
def c123_7 : ACode := (.seq c123_2 (.seq (.cond (.var 9) .skip (.exit 0)) (.seq (.block 1 (.seq c123_3 (.seq c123_4 (.cond (.var 31) (.seq c123_5 .ret) .skip)))) c123_6)))
def c123_8:= rg [Qb 33 0 1,
Qd 34 1 33,
Qi 35 34,
Qca 36 35 150,
Qc 2 36]
def c123 : ACode := (.seq c123_0 (.seq (.seq c123_1 (.block 0 (.loop [1, 6, 7, 8] c123_7))) (.seq c123_8 .ret)))
abbrev F_I_isBook : FuncId := 123
theorem v_I_isBook : VT 1 1 Tryz.f123 123 [0,1,2,3,4,6,7,8,9,31] [none] [(.give, 2, none)] c123 := mkV Tryz.func123 rfl rfl (by kernel_rfl) (by kernel_rfl) rfl rfl
def c124_0:= rg [Qg 1 0,
Qf 2]
def c124_1:= rg [Qb 5 0 1,
Qce 6 1 5,
Qbw 7 6,
Qe 8 0]
def c124_2:= rg [Qba 9 8 7]
def c124_3:= rg [Qa 10 8,
Qbx 11 2 6 8,
Qo 12 2 11,
⟨.var 4, .alloc [.d (.str []), .d (.str [])], none, []⟩,
Qc 3 10,
Qn 2 4 12]
def c124_4 : ACode := .reg [Qb 13 0 4,
  Qs 14 1 13 [0],
  Qag 15 126 14 [1,0],
  Qbo 16 15 [2,1,0],
  Qae 17 16 [3,2,1,0],
  Qas 18 3 17 [4,3,2,1,0],
  Qbp 19 18 0 17 [5,4,3,2,1,0],
  Qbl 20 19 17 [6,5,4,3,2,1,0],
  Qaj 21 0 1 20 [7,6,5,4,3,2,1,0],
  Qw 22 1 21 20 [8,7,6,5,4,3,2,1,0],
  Qap 23 3 20 [7,6,5,4,3,2,1,0],
  Qbf 24 23 1 20 [10,7,6,5,4,3,2,1,0],
  Qat 25 2 22 24 20 [9,8,11,10,7,6,5,4,3,2,1,0],
  Qau 26 0 25 20 [12,9,8,11,10,7,6,5,4,3,2,1,0],
  Qw 27 1 26 20 [13,12,9,8,11,10,7,6,5,4,3,2,1,0],
  Qaj 28 0 4 20 [7,6,5,4,3,2,1,0],
  Qw 29 1 28 20 [15,7,6,5,4,3,2,1,0],
  ⟨.loc 30, .bin .str .geq (.loc 27) (.loc 29), some ((.loc 20), true), [14, 13, 12, 9, 8, 11, 10, 16, 15, 7, 6, 5, 4, 3, 2, 1, 0]⟩,
  Qbm 31 20 30 17 [17,14,13,12,9,8,11,10,16,15,7,6,5,4,3,2,1,0],
  Qbg 32 17 31 [18,17,14,13,12,9,8,11,10,16,15,7,6,5,4,3,2,1,0]] true
def c124_5:= rg [Qf 2]
def c124_6:= rg [Qbb 33 8 1,
Qc 8 33]
def c124_7 : ACode := (.seq c124_2 (.seq (.cond (.var 9) .skip (.exit 0)) (.seq (.block 1 (.seq c124_3 (.seq c124_4 (.cond (.var 32) (.seq c124_5 .ret) .skip)))) c124_6)))
def c124_8:= rg [Qb 34 0 1,
Qd 35 1 34,
Qi 36 35,
Qca 37 36 120,
Qk 38 37,
Qaa 39 1 1 38,
Qx 40 1 39 38,
Qby 41 103 40 0 1000 38,
Qab 42 38 41,
Qk 43 42,
Qaa 44 2 1 43,
Qx 45 1 44 43,
Qby 46 103 45 0 1000000000 43,
Qab 47 43 46,
Qc 2 47]
def c124 : ACode := (.seq c124_0 (.seq (.seq c124_1 (.block 0 (.loop [1, 6, 7, 8] c124_7))) (.seq c124_8 .ret)))
abbrev F_I_isFar : FuncId := 124
theorem v_I_isFar : VT 1 1 Tryz.f124 124 [0,1,2,3,4,6,7,8,9,32] [none] [(.give, 2, none)] c124 := mkV Tryz.func124 rfl rfl (by kernel_rfl) (by kernel_rfl) rfl rfl
def c125_0:= rg [Qg 1 0,
Qf 2]
def c125_1:= rg [Qb 5 0 1,
Qce 6 1 5,
Qbw 7 6,
Qe 8 0]
def c125_2:= rg [Qba 9 8 7]
def c125_3:= rg [Qa 10 8,
Qbx 11 3 6 8,
Qo 12 3 11,
⟨.var 4, .alloc [.d (.str []), .d (.int .i64 0), .d (.int .i64 0)], none, []⟩,
Qc 3 10,
Qn 3 4 12]
def c125_4 : ACode := .reg [Qb 13 0 4,
  Qs 14 1 13 [0],
  Qag 15 126 14 [1,0],
  Qbo 16 15 [2,1,0],
  Qae 17 16 [3,2,1,0],
  Qaz 18 1 4 17 [4,3,2,1,0],
  Qar 19 1 18 17 [5,4,3,2,1,0],
  ⟨.loc 20, .call (.fn 103) [(.loc 19), (.const (.d (.int .i64 0))), (.const (.d (.int .i64 2000000000)))] [.borrow, .borrow, .borrow], some ((.loc 17), false), [6, 5, 4, 3, 2, 1, 0]⟩,
  Qch 21 20 17 [7,6,5,4,3,2,1,0],
  Qbk 22 17 21 [8,7,6,5,4,3,2,1,0],
  Qae 23 22 [9,8,7,6,5,4,3,2,1,0],
  Qaz 24 2 4 23 [10,9,8,7,6,5,4,3,2,1,0],
  Qar 25 1 24 23 [11,10,9,8,7,6,5,4,3,2,1,0],
  ⟨.loc 26, .call (.fn 103) [(.loc 25), (.const (.d (.int .i64 0))), (.const (.d (.int .i64 5)))] [.borrow, .borrow, .borrow], some ((.loc 23), false), [12, 11, 10, 9, 8, 7, 6, 5, 4, 3, 2, 1, 0]⟩,
  Qch 27 26 23 [13,12,11,10,9,8,7,6,5,4,3,2,1,0],
  Qbk 28 23 27 [14,13,12,11,10,9,8,7,6,5,4,3,2,1,0],
  Qae 29 28 [15,14,13,12,11,10,9,8,7,6,5,4,3,2,1,0],
  Qaz 30 0 1 29 [16,15,14,13,12,11,10,9,8,7,6,5,4,3,2,1,0],
  Qar 31 1 30 29 [17,16,15,14,13,12,11,10,9,8,7,6,5,4,3,2,1,0],
  Qas 32 3 29 [16,15,14,13,12,11,10,9,8,7,6,5,4,3,2,1,0],
  ⟨.loc 33, .sliceA 3 (.loc 31) none (some (.loc 32)), some ((.loc 29), false), [18, 17, 19, 16, 15, 14, 13, 12, 11, 10, 9, 8, 7, 6, 5, 4, 3, 2, 1, 0]⟩,
  ⟨.loc 34, .build [.nil 0 3] [(0, 1, (.loc 33))], some ((.loc 29), false), [20, 18, 17, 19, 16, 15, 14, 13, 12, 11, 10, 9, 8, 7, 6, 5, 4, 3, 2, 1, 0]⟩,
  Qaz 35 0 4 29 [16,15,14,13,12,11,10,9,8,7,6,5,4,3,2,1,0],
  Qar 36 1 35 29 [22,16,15,14,13,12,11,10,9,8,7,6,5,4,3,2,1,0],
  ⟨.loc 37, .call (.fn 67) [(.loc 34), (.loc 36)] [.borrow, .borrow], some ((.loc 29), false), [21, 20, 18, 17, 19, 23, 22, 16, 15, 14, 13, 12, 11, 10, 9, 8, 7, 6, 5, 4, 3, 2, 1, 0]⟩,
  Qbg 38 29 37 [24,21,20,18,17,19,23,22,16,15,14,13,12,11,10,9,8,7,6,5,4,3,2,1,0]] true
def c125_5:= rg [Qf 2]
def c125_6:= rg [Qbb 39 8 1,
Qc 8 39]
def c125_7 : ACode := (.seq c125_2 (.seq (.cond (.var 9) .skip (.exit 0)) (.seq (.block 1 (.seq c125_3 (.seq c125_4 (.cond (.var 38) (.seq c125_5 .ret) .skip)))) c125_6)))
def c125_8:= rg [Qb 40 0 1,
Qd 41 1 40,
Qi 42 41,
Qca 43 42 120,
Qc 2 43]
def c125 : ACode := (.seq c125_0 (.seq (.seq c125_1 (.block 0 (.loop [1, 6, 7, 8] c125_7))) (.seq c125_8 .ret)))
abbrev F_I_isQueue : FuncId := 125
theorem v_I_isQueue : VT 1 1 Tryz.f125 125 [0,1,2,3,4,6,7,8,9,38] [none] [(.give, 2, none)] c125 := mkV Tryz.func125 rfl rfl (by kernel_rfl) (by kernel_rfl) rfl rfl
def c126_0:= rg [Qf 2]
def c126_1:= rg [Qa 3 0,
Qam 4 3,
Qbh 5 103 4 1 12,
Qk 6 5,
Qac 7 0 6,
⟨.loc 8, .call (.fn 193) [(.loc 7), (.const (.d (.str [97, 98, 99, 100, 101, 102, 103, 104, 105, 106, 107, 108, 109, 110, 111, 112, 113, 114, 115, 116, 117, 118, 119, 120, 121, 122, 48, 49, 50, 51, 52, 53, 54, 55, 56, 57])))] [.borrow, .borrow], some ((.loc 6), true), []⟩,
Qab 9 6 8,
Qc 2 9]
def c126 : ACode := (.seq c126_0 (.seq c126_1 .ret))
abbrev F_I_isName : FuncId := 126
theorem v_I_isName : VT 1 1 Tryz.f126 126 [0,2] [none] [(.give, 2, none)] c126 := mkV Tryz.func126 rfl rfl (by kernel_rfl) (by kernel_rfl) rfl rfl
def c127_0:= rg [Qg 2 0,
Qf 3]
def c127_1:= rg [Qb 4 1 2,
Qd 5 1 4,
Qb 6 1 1,
Qd 7 1 6,
⟨.loc 8, .bin .str .eql (.loc 5) (.loc 7), none, []⟩,
Qc 3 8]
def c127 : ACode := (.seq c127_0 (.seq c127_1 .ret))
abbrev F_I_isWorld_c1 : FuncId := 127
theorem v_I_isWorld_c1 : VT 2 1 Tryz.f127 127 [0,1,2,3] [none] [(.give, 3, none)] c127 := mkV Tryz.func127 rfl rfl (by kernel_rfl) (by kernel_rfl) rfl rfl
def c128_0:= rg [Qf 4]
def c128_1:= rg [Qa 6 0,
Qi 7 6,
Qa 8 1,
Qi 9 8,
Qv 10 7 9]
def c128_2:= rg [Qf 4]
def c128_3:= rg [Qe 5 0]
def c128_4:= rg [Qa 11 5,
Qa 12 0,
Qi 13 12,
Qq 14 11 13]
def c128_5 : ACode := .reg [Qa 17 0,
  Qa 18 5,
  Qz 19 7 17 18 [0,1],
  Qai 20 7 19 [2,0,1],
  Qa 21 1,
  Qa 22 5,
  Qz 23 7 21 22 [4,5],
  Qai 24 7 23 [6,4,5],
  Qbs 25 194 20 24 [3,2,0,1,7,6,4,5],
  Qcc 26 25 [8,3,2,0,1,7,6,4,5]] true
def c128_6:= rg [Qf 4]
def c128_7:= rg [Qa 15 5,
Qh 16 15 1,
Qc 5 16]
def c128_8 : ACode := (.seq (.seq c128_4 (.cond (.var 14) .skip (.exit 0))) (.seq (.block 1 (.seq c128_5 (.cond (.var 26) (.seq c128_6 .ret) .skip))) c128_7))
def c128_9:= rg [Qy 4]
def c128 : ACode := (.seq c128_0 (.seq (.seq c128_1 (.cond (.var 10) (.seq c128_2 .ret) .skip)) (.seq (.seq c128_3 (.block 0 (.loop [0, 1, 5] c128_8))) (.seq c128_9 .ret))))
abbrev F_L_eqTokenS : FuncId := 128
theorem v_L_eqTokenS : VT 2 1 Tryz.f128 128 [0,1,4,5,10,14,26] [none, none] [(.give, 4, none)] c128 := mkV Tryz.func128 rfl rfl (by kernel_rfl) (by kernel_rfl) rfl rfl
def c129_0:= rg [Qf 4]
def c129_1:= rg [Qa 6 0,
Qi 7 6,
Qa 8 1,
Qi 9 8,
Qv 10 7 9]
def c129_2:= rg [Qf 4]
def c129_3:= rg [Qe 5 0]
def c129_4:= rg [Qa 11 5,
Qa 12 0,
Qi 13 12,
Qq 14 11 13]
def c129_5 : ACode := .reg [Qa 17 0,
  Qa 18 5,
  Qz 19 6 17 18 [0,1],
  Qai 20 6 19 [2,0,1],
  Qa 21 1,
  Qa 22 5,
  Qz 23 6 21 22 [4,5],
  Qai 24 6 23 [6,4,5],
  Qbs 25 195 20 24 [3,2,0,1,7,6,4,5],
  Qcc 26 25 [8,3,2,0,1,7,6,4,5]] true
def c129_6:= rg [Qf 4]
def c129_7:= rg [Qa 15 5,
Qh 16 15 1,
Qc 5 16]
def c129_8 : ACode := (.seq (.seq c129_4 (.cond (.var 14) .skip (.exit 0))) (.seq (.block 1 (.seq c129_5 (.cond (.var 26) (.seq c129_6 .ret) .skip))) c129_7))
def c129_9:= rg [Qy 4]
def c129 : ACode := (.seq c129_0 (.seq (.seq c129_1 (.cond (.var 10) (.seq c129_2 .ret) .skip)) (.seq (.seq c129_3 (.block 0 (.loop [0, 1, 5] c129_8))) (.seq c129_9 .ret))))
abbrev F_L_eqLeaseS : FuncId := 129
theorem v_L_eqLeaseS : VT 2 1 Tryz.f129 129 [0,1,4,5,10,14,26] [none, none] [(.give, 4, none)] c129 := mkV Tryz.func129 rfl rfl (by kernel_rfl) (by kernel_rfl) rfl rfl
def c130_0:= rg [Qf 4]
def c130_1:= rg [Qa 6 0,
Qi 7 6,
Qa 8 1,
Qi 9 8,
Qv 10 7 9]
def c130_2:= rg [Qf 4]
def c130_3:= rg [Qe 5 0]
def c130_4:= rg [Qa 11 5,
Qa 12 0,
Qi 13 12,
Qq 14 11 13]
def c130_5 : ACode := .reg [Qa 17 0,
  Qa 18 5,
  Qz 19 2 17 18 [0,1],
  Qai 20 2 19 [2,0,1],
  Qa 21 1,
  Qa 22 5,
  Qz 23 2 21 22 [4,5],
  Qai 24 2 23 [6,4,5],
  Qbs 25 43 20 24 [3,2,0,1,7,6,4,5],
  Qcc 26 25 [8,3,2,0,1,7,6,4,5]] true
def c130_6:= rg [Qf 4]
def c130_7:= rg [Qa 15 5,
Qh 16 15 1,
Qc 5 16]
def c130_8 : ACode := (.seq (.seq c130_4 (.cond (.var 14) .skip (.exit 0))) (.seq (.block 1 (.seq c130_5 (.cond (.var 26) (.seq c130_6 .ret) .skip))) c130_7))
def c130_9:= rg [Qy 4]
def c130 : ACode := (.seq c130_0 (.seq (.seq c130_1 (.cond (.var 10) (.seq c130_2 .ret) .skip)) (.seq (.seq c130_3 (.block 0 (.loop [0, 1, 5] c130_8))) (.seq c130_9 .ret))))
abbrev F_L_eqUserS : FuncId := 130
theorem v_L_eqUserS : VT 2 1 Tryz.f130 130 [0,1,4,5,10,14,26] [none, none] [(.give, 4, none)] c130 := mkV Tryz.func130 rfl rfl (by kernel_rfl) (by kernel_rfl) rfl rfl
def c131_0:= rg [Qf 4]
def c131_1:= rg [Qa 6 0,
Qi 7 6,
Qa 8 1,
Qi 9 8,
Qv 10 7 9]
def c131_2:= rg [Qf 4]
def c131_3:= rg [Qe 5 0]
def c131_4:= rg [Qa 11 5,
Qa 12 0,
Qi 13 12,
Qq 14 11 13]
def c131_5 : ACode := .reg [Qa 17 0,
  Qa 18 5,
  Qz 19 3 17 18 [0,1],
  Qai 20 3 19 [2,0,1],
  Qa 21 1,
  Qa 22 5,
  Qz 23 3 21 22 [4,5],
  Qai 24 3 23 [6,4,5],
  Qbs 25 196 20 24 [3,2,0,1,7,6,4,5],
  Qcc 26 25 [8,3,2,0,1,7,6,4,5]] true
def c131_6:= rg [Qf 4]
def c131_7:= rg [Qa 15 5,
Qh 16 15 1,
Qc 5 16]
def c131_8 : ACode := (.seq (.seq c131_4 (.cond (.var 14) .skip (.exit 0))) (.seq (.block 1 (.seq c131_5 (.cond (.var 26) (.seq c131_6 .ret) .skip))) c131_7))
def c131_9:= rg [Qy 4]
def c131 : ACode := (.seq c131_0 (.seq (.seq c131_1 (.cond (.var 10) (.seq c131_2 .ret) .skip)) (.seq (.seq c131_3 (.block 0 (.loop [0, 1, 5] c131_8))) (.seq c131_9 .ret))))
abbrev F_L_eqJobS : FuncId := 131
theorem v_L_eqJobS : VT 2 1 Tryz.f131 131 [0,1,4,5,10,14,26] [none, none] [(.give, 4, none)] c131 := mkV Tryz.func131 rfl rfl (by kernel_rfl) (by kernel_rfl) rfl rfl
def c132_0:= rg [Qg 2 0,
Qg 3 1,
Qf 4]
def c132_1:= rg [Qb 5 0 2,
Qd 6 1 5,
Qb 7 0 3,
Qd 8 1 7,
Qv 9 6 8]
def c132_2:= rg [Qf 4]
def c132_3:= rg [Qb 10 1 2,
Qd 11 1 10,
Qb 12 1 3,
Qd 13 1 12,
Qci 14 11 13]
def c132_4:= rg [Qf 4]
def c132_5:= rg [Qy 4]
def c132 : ACode := (.seq c132_0 (.seq (.seq c132_1 (.cond (.var 9) (.seq c132_2 .ret) .skip)) (.seq (.seq c132_3 (.cond (.var 14) (.seq c132_4 .ret) .skip)) (.seq c132_5 .ret))))
abbrev F_L_eqOwned : FuncId := 132
theorem v_L_eqOwned : VT 2 1 Tryz.f132 132 [0,1,2,3,4,9,14] [none, none] [(.give, 4, none)] c132 := mkV Tryz.func132 rfl rfl (by kernel_rfl) (by kernel_rfl) rfl rfl
def c133_0:= rg [Qf 4]
def c133_1:= rg [Qa 5 0,
Qa 6 1,
Qr 7 197 5 6,
⟨.loc 8, .bin .int .geq (.loc 7) (.const (.d (.int .i64 0))), none, []⟩,
Qc 4 8]
def c133 : ACode := (.seq c133_0 (.seq c133_1 .ret))
abbrev F_slices_ContainsFunc___impl_Job_impl_Job_ : FuncId := 133
theorem v_slices_ContainsFunc___impl_Job_impl_Job_ : VT 2 1 Tryz.f133 133 [0,1,4] [none, none] [(.give, 4, none)] c133 := mkV Tryz.func133 rfl rfl (by kernel_rfl) (by kernel_rfl) rfl rfl
def c134_0:= rg [Qg 2 0,
Qf 3]
def c134_1:= rg [Qb 4 0 2,
Qd 5 1 4,
⟨.loc 6, .load false 1 (.var 1), none, []⟩,
⟨.loc 7, .bin .str .eql (.loc 5) (.loc 6), none, []⟩,
Qc 3 7]
def c134 : ACode := (.seq c134_0 (.seq c134_1 .ret))
abbrev F_I_hasJob_c1 : FuncId := 134
theorem v_I_hasJob_c1 : VT 2 1 Tryz.f134 134 [0,1,2,3] [none] [(.give, 3, none)] c134 := mkV Tryz.func134 rfl rfl (by kernel_rfl) (by kernel_rfl) rfl rfl
def c135_0:= rg [Qe 4 0]
def c135_1:= rg [Qa 6 0,
⟨.var 7, .len false (.loc 6), none, []⟩,
Qe 8 0]
def c135_2:= rg [Qba 9 8 7]
def c135_3:= rg [Qa 10 8,
Qc 5 10]
def c135_4:= rg [Qa 11 1,
Qa 12 0,
Qa 13 5,
Qm 14 2 12 13,
Qo 15 2 14,
⟨.var 16, .call (.loc 11) [(.loc 15)] [.borrow], none, []⟩]
def c135_5:= rg [Qa 17 5,
Qc 4 17]
def c135_6:= rg [Qbb 18 8 1,
Qc 8 18]
def c135_7 : ACode := (.seq c135_2 (.seq (.cond (.var 9) .skip (.exit 0)) (.seq (.block 1 (.seq c135_3 (.seq c135_4 (.cond (.var 16) (.seq c135_5 .ret) .skip)))) c135_6)))
def c135_8:= rg [Qe 4 (-1)]
def c135 : ACode := (.seq c135_0 (.seq (.seq c135_1 (.block 0 (.loop [0, 1, 7, 8] c135_7))) (.seq c135_8 .ret)))
abbrev F_slices_IndexFunc___impl_Owned_impl_Owned_ : FuncId := 135
theorem v_slices_IndexFunc___impl_Owned_impl_Owned_ : VT 2 1 Tryz.f135 135 [0,1,4,5,7,8,9,16] [none, none] [(.give, 4, none)] c135 := mkV Tryz.func135 rfl rfl (by kernel_rfl) (by kernel_rfl) rfl rfl
def c136_0:= rg [Qe 4 0]
def c136_1:= rg [Qe 5 0]
def c136_2:= rg [Qa 6 5,
Qa 7 0,
Qi 8 7,
Qq 9 6 8]
def c136_3:= rg [Qa 12 0,
Qa 13 5,
Qa 14 1,
Qm 15 7 12 13,
Qt 16 0 15,
Qj 1 16 14]
def c136_4:= rg [Qa 17 1,
Qh 18 17 1,
Qc 1 18]
def c136_5:= rg [Qa 19 0,
Qa 20 5,
Qa 21 1,
Qm 22 7 19 20,
Qt 23 1 22,
Qj 1 23 21]
def c136_6:= rg [Qa 24 1,
Qh 25 24 1,
Qc 1 25]
def c136_7:= rg [Qa 26 0,
Qa 27 5,
Qm 28 7 26 27,
Qt 29 2 28,
Qd 30 1 29,
Qa 31 1,
Qbc 32 20 30 31,
Qc 1 32]
def c136_8:= rg [Qa 33 0,
Qa 34 5,
Qa 35 1,
Qm 36 7 33 34,
Qt 37 3 36,
Qj 1 37 35]
def c136_9:= rg [Qa 38 1,
Qh 39 38 1,
Qc 1 39]
def c136_10:= rg [Qa 40 0,
Qa 41 5,
Qa 42 1,
Qm 43 7 40 41,
Qt 44 4 43,
Qj 1 44 42]
def c136_11:= rg [Qa 45 1,
Qh 46 45 1,
Qc 1 46]
def c136_12:= rg [Qa 47 0,
Qa 48 5,
Qa 49 1,
Qm 50 7 47 48,
Qt 51 5 50,
Qj 1 51 49]
def c136_13:= rg [Qa 52 1,
Qh 53 52 1,
Qc 1 53]
def c136_14:= rg [Qa 54 0,
Qa 55 5,
Qa 56 1,
Qm 57 7 54 55,
Qt 58 6 57,
Qj 1 58 56]
def c136_15:= rg [Qa 59 1,
Qh 60 59 1,
Qc 1 60]
def c136_16:= rg [Qa 10 5,
Qh 11 10 1,
Qc 5 11]
def c136_17 : ACode := (.seq (.seq c136_2 (.cond (.var 9) .skip (.exit 0))) (.seq (.block 1 (.seq c136_3 (.seq c136_4 (.seq c136_5 (.seq c136_6 (.seq c136_7 (.seq c136_8 (.seq c136_9 (.seq c136_10 (.seq c136_11 (.seq c136_12 (.seq c136_13 (.seq c136_14 c136_15))))))))))))) c136_16))
def c136_18:= rg [Qa 61 1,
Qc 4 61]
def c136 : ACode := (.seq c136_0 (.seq (.seq c136_1 (.block 0 (.loop [0, 1, 5] c136_17))) (.seq c136_18 .ret)))
abbrev F_L_markTokenS : FuncId := 136
theorem v_L_markTokenS : VT 2 1 Tryz.f136 136 [0,1,4,5,9] [some .give, none] [(.give, 4, none)] c136 := mkV Tryz.func136 rfl rfl (by kernel_rfl) (by kernel_rfl) rfl rfl
def c137_0:= rg [Qe 4 0]
def c137_1:= rg [Qe 5 0]
def c137_2:= rg [Qa 6 5,
Qa 7 0,
Qi 8 7,
Qq 9 6 8]
def c137_3:= rg [Qa 12 0,
Qa 13 5,
Qa 14 1,
Qm 15 6 12 13,
Qt 16 0 15,
Qj 1 16 14]
def c137_4:= rg [Qa 17 1,
Qh 18 17 1,
Qc 1 18]
def c137_5:= rg [Qa 19 0,
Qa 20 5,
Qa 21 1,
Qm 22 6 19 20,
Qt 23 1 22,
Qj 1 23 21]
def c137_6:= rg [Qa 24 1,
Qh 25 24 1,
Qc 1 25]
def c137_7:= rg [Qa 26 0,
Qa 27 5,
Qa 28 1,
Qp 29 75 28,
Qm 30 6 26 27,
Qt 31 2 30,
Qj 1 31 29]
def c137_8:= rg [Qa 32 1,
Qh 33 32 1,
Qc 1 33]
def c137_9:= rg [Qa 34 0,
Qa 35 5,
Qa 36 1,
Qm 37 6 34 35,
Qt 38 3 37,
Qj 1 38 36]
def c137_10:= rg [Qa 39 1,
Qh 40 39 1,
Qc 1 40]
def c137_11:= rg [Qa 41 0,
Qa 42 5,
Qa 43 1,
Qm 44 6 41 42,
Qt 45 4 44,
Qj 1 45 43]
def c137_12:= rg [Qa 46 1,
Qh 47 46 1,
Qc 1 47]
def c137_13:= rg [Qa 48 0,
Qa 49 5,
Qa 50 1,
Qm 51 6 48 49,
Qt 52 5 51,
Qj 1 52 50]
def c137_14:= rg [Qa 53 1,
Qh 54 53 1,
Qc 1 54]
def c137_15:= rg [Qa 10 5,
Qh 11 10 1,
Qc 5 11]
def c137_16 : ACode := (.seq (.seq c137_2 (.cond (.var 9) .skip (.exit 0))) (.seq (.block 1 (.seq c137_3 (.seq c137_4 (.seq c137_5 (.seq c137_6 (.seq c137_7 (.seq c137_8 (.seq c137_9 (.seq c137_10 (.seq c137_11 (.seq c137_12 (.seq c137_13 c137_14)))))))))))) c137_15))
def c137_17:= rg [Qa 55 1,
Qc 4 55]
def c137 : ACode := (.seq c137_0 (.seq (.seq c137_1 (.block 0 (.loop [0, 1, 5] c137_16))) (.seq c137_17 .ret)))
abbrev F_L_markLeaseS : FuncId := 137
theorem v_L_markLeaseS : VT 2 1 Tryz.f137 137 [0,1,4,5,9] [some .give, none] [(.give, 4, none)] c137 := mkV Tryz.func137 rfl rfl (by kernel_rfl) (by kernel_rfl) rfl rfl
def c138_0:= rg [Qe 4 0]
def c138_1:= rg [Qe 5 0]
def c138_2:= rg [Qa 6 5,
Qa 7 0,
Qi 8 7,
Qq 9 6 8]
def c138_3:= rg [Qa 12 0,
Qa 13 5,
Qa 14 1,
Qp 15 75 14,
Qm 16 2 12 13,
Qt 17 0 16,
Qj 1 17 15]
def c138_4:= rg [Qa 18 1,
Qh 19 18 1,
Qc 1 19]
def c138_5:= rg [Qa 20 0,
Qa 21 5,
Qa 22 1,
Qp 23 75 22,
Qm 24 2 20 21,
Qt 25 1 24,
Qj 1 25 23]
def c138_6:= rg [Qa 26 1,
Qh 27 26 1,
Qc 1 27]
def c138_7:= rg [Qa 10 5,
Qh 11 10 1,
Qc 5 11]
def c138_8 : ACode := (.seq (.seq c138_2 (.cond (.var 9) .skip (.exit 0))) (.seq (.block 1 (.seq c138_3 (.seq c138_4 (.seq c138_5 c138_6)))) c138_7))
def c138_9:= rg [Qa 28 1,
Qc 4 28]
def c138 : ACode := (.seq c138_0 (.seq (.seq c138_1 (.block 0 (.loop [0, 1, 5] c138_8))) (.seq c138_9 .ret)))
abbrev F_L_markUserS : FuncId := 138
theorem v_L_markUserS : VT 2 1 Tryz.f138 138 [0,1,4,5,9] [some .give, none] [(.give, 4, none)] c138 := mkV Tryz.func138 rfl rfl (by kernel_rfl) (by kernel_rfl) rfl rfl
def c139_0:= rg [Qe 4 0]
def c139_1:= rg [Qe 5 0]
def c139_2:= rg [Qa 6 5,
Qa 7 0,
Qi 8 7,
Qq 9 6 8]
def c139_3:= rg [Qa 12 0,
Qa 13 5,
Qa 14 1,
Qp 15 75 14,
Qm 16 3 12 13,
Qt 17 0 16,
Qj 1 17 15]
def c139_4:= rg [Qa 18 1,
Qh 19 18 1,
Qc 1 19]
def c139_5:= rg [Qa 20 0,
Qa 21 5,
Qa 22 1,
Qm 23 3 20 21,
Qt 24 1 23,
Qj 1 24 22]
def c139_6:= rg [Qa 25 1,
Qh 26 25 1,
Qc 1 26]
def c139_7:= rg [Qa 27 0,
Qa 28 5,
Qa 29 1,
Qm 30 3 27 28,
Qt 31 2 30,
Qj 1 31 29]
def c139_8:= rg [Qa 32 1,
Qh 33 32 1,
Qc 1 33]
def c139_9:= rg [Qa 10 5,
Qh 11 10 1,
Qc 5 11]
def c139_10 : ACode := (.seq (.seq c139_2 (.cond (.var 9) .skip (.exit 0))) (.seq (.block 1 (.seq c139_3 (.seq c139_4 (.seq c139_5 (.seq c139_6 (.seq c139_7 c139_8)))))) c139_9))
def c139_11:= rg [Qa 34 1,
Qc 4 34]
def c139 : ACode := (.seq c139_0 (.seq (.seq c139_1 (.block 0 (.loop [0, 1, 5] c139_10))) (.seq c139_11 .ret)))
abbrev F_L_markJobS : FuncId := 139
theorem v_L_markJobS : VT 2 1 Tryz.f139 139 [0,1,4,5,9] [some .give, none] [(.give, 4, none)] c139 := mkV Tryz.func139 rfl rfl (by kernel_rfl) (by kernel_rfl) rfl rfl
def c141_0:= rg [Qg 1 0,
Qbq 2 0 0 0 1 0 0 0 0]
def c141_1:= rg [Qb 3 2 1,
Qd 4 1 3,
Qp 5 198 4,
Qb 6 2 1,
Qj 1 6 5]
def c141_2:= rg [Ql 7 7 1,
Qn 7 2 7]
def c141 : ACode := (.seq c141_0 (.seq c141_1 (.seq c141_2 .ret)))
abbrev F_I_cloneToken : FuncId := 141
theorem v_I_cloneToken : VT 1 1 Tryz.f141 141 [0,1,2] [none] [(.give, 2, some (true, 7))] c141 := mkV Tryz.func141 rfl rfl (by kernel_rfl) (by kernel_rfl) rfl rfl
def c143_0:= rg [Qg 1 0,
Qak 2 1 7]
def c143_1:= rg [⟨.loc 5, .build [.nil 1 7] [], none, []⟩,
Qak 3 1 7,
Qn 1 3 5]
def c143_2:= rg [Qe 4 0]
def c143_3:= rg [Qa 6 4,
Qb 7 0 1,
Qd 8 1 7,
Qi 9 8,
Qq 10 6 9]
def c143_4 : ACode := .reg [Qb 13 0 3,
  Qs 14 1 13 [0],
  Qb 15 0 1,
  Qs 16 1 15 [2],
  Qa 17 4,
  Qz 18 7 16 17 [3,2,4],
  Qai 19 7 18 [5,3,2,4],
  Qag 20 147 19 [6,5,3,2,4],
  ⟨.loc 21, .lit 1 7 1 [.int .i64 0, .int .i64 0, .slc 1 [], .int .i64 0, .int .i64 0, .int .i64 0, .int .i64 0] [(0, (.loc 20))], none, [7, 6, 5, 3, 2, 4]⟩,
  Qcf 22 7 72 14 21 [1,0,8,7,6,5,3,2,4],
  Qbn 23 0 3 [9,1,0,8,7,6,5,3,2,4],
  Qbe 1 23 22 [10,9,1,0,8,7,6,5,3,2,4]] true
def c143_5:= rg [Qa 11 4,
Qh 12 11 1,
Qc 4 12]
def c143_6 : ACode := (.seq (.seq c143_3 (.cond (.var 10) .skip (.exit 0))) (.seq (.block 1 c143_4) c143_5))
def c143_7:= rg [Ql 24 1 3,
Qn 1 2 24]
def c143 : ACode := (.seq c143_0 (.seq c143_1 (.seq (.seq c143_2 (.block 0 (.loop [1, 2, 3, 4] c143_6))) (.seq c143_7 .ret))))
abbrev F_S_l08Copy : FuncId := 143
theorem v_S_l08Copy : VT 1 1 Tryz.f143 143 [0,1,2,3,4,10] [none] [(.give, 2, some (true, 1))] c143 := mkV Tryz.func143 rfl rfl (by kernel_rfl) (by kernel_rfl) rfl rfl
def c144_0:= rg [Qg 1 0,
Qak 2 0 6]
def c144_1:= rg [⟨.loc 5, .build [.nil 0 6] [], none, []⟩,
Qak 3 0 6,
Qn 1 3 5]
def c144_2:= rg [Qe 4 0]
def c144_3:= rg [Qa 6 4,
Qb 7 0 1,
Qd 8 1 7,
Qi 9 8,
Qq 10 6 9]
def c144_4 : ACode := .reg [Qb 13 0 3,
  Qs 14 1 13 [0],
  Qb 15 0 1,
  Qs 16 1 15 [2],
  Qa 17 4,
  Qz 18 6 16 17 [3,2,4],
  Qai 19 6 18 [5,3,2,4],
  ⟨.loc 20, .lit 0 6 1 [.int .i64 0, .int .i64 0, .str [], .int .i64 0, .int .i64 0, .int .i64 0] [(0, (.loc 19))], none, [6, 5, 3, 2, 4]⟩,
  Qcf 21 6 56 14 20 [1,0,7,6,5,3,2,4],
  Qbn 22 0 3 [8,1,0,7,6,5,3,2,4],
  Qbe 1 22 21 [9,8,1,0,7,6,5,3,2,4]] true
def c144_5:= rg [Qa 11 4,
Qh 12 11 1,
Qc 4 12]
def c144_6 : ACode := (.seq (.seq c144_3 (.cond (.var 10) .skip (.exit 0))) (.seq (.block 1 c144_4) c144_5))
def c144_7:= rg [Ql 23 1 3,
Qn 1 2 23]
def c144 : ACode := (.seq c144_0 (.seq c144_1 (.seq (.seq c144_2 (.block 0 (.loop [1, 2, 3, 4] c144_6))) (.seq c144_7 .ret))))
abbrev F_S_l09Copy : FuncId := 144
theorem v_S_l09Copy : VT 1 1 Tryz.f144 144 [0,1,2,3,4,10] [none] [(.give, 2, some (true, 1))] c144 := mkV Tryz.func144 rfl rfl (by kernel_rfl) (by kernel_rfl) rfl rfl
def c145_0:= rg [Qg 1 0,
Qck 2 0 2 0 0]
def c145_1:= rg [Qb 5 1 1,
Qd 6 1 5,
Qb 7 2 1,
Qd 8 1 7,
⟨.loc 9, .build [.nil 0 2, .d (.int .i64 0), .d (.int .i64 0)] [(1, 1, (.loc 6)), (2, 1, (.loc 8))], none, []⟩,
Qck 3 0 2 0 0,
Qn 3 3 9]
def c145_2:= rg [Qe 4 0]
def c145_3:= rg [Qa 10 4,
Qb 11 0 1,
Qd 12 1 11,
Qi 13 12,
Qq 14 10 13]
def c145_4 : ACode := .reg [Qb 17 0 3,
  Qs 18 1 17 [0],
  Qb 19 0 1,
  Qs 20 1 19 [2],
  Qa 21 4,
  Qz 22 2 20 21 [3,2,4],
  Qai 23 2 22 [5,3,2,4],
  ⟨.loc 24, .lit 0 2 1 [.str [], .str []] [(0, (.loc 23))], none, [6, 5, 3, 2, 4]⟩,
  Qcf 25 2 32 18 24 [1,0,7,6,5,3,2,4],
  Qbn 26 0 3 [8,1,0,7,6,5,3,2,4],
  Qbe 1 26 25 [9,8,1,0,7,6,5,3,2,4]] true
def c145_5:= rg [Qa 15 4,
Qh 16 15 1,
Qc 4 16]
def c145_6 : ACode := (.seq (.seq c145_3 (.cond (.var 14) .skip (.exit 0))) (.seq (.block 1 c145_4) c145_5))
def c145_7:= rg [Ql 27 3 3,
Qn 3 2 27]
def c145 : ACode := (.seq c145_0 (.seq c145_1 (.seq (.seq c145_2 (.block 0 (.loop [1, 2, 3, 4] c145_6))) (.seq c145_7 .ret))))
abbrev F_S_l11Copy : FuncId := 145
theorem v_S_l11Copy : VT 1 1 Tryz.f145 145 [0,1,2,3,4,14] [none] [(.give, 2, some (true, 3))] c145 := mkV Tryz.func145 rfl rfl (by kernel_rfl) (by kernel_rfl) rfl rfl
def c146_0:= rg [Qg 1 0,
Qak 2 0 3]
def c146_1:= rg [⟨.loc 5, .build [.nil 0 3] [], none, []⟩,
Qak 3 0 3,
Qn 1 3 5]
def c146_2:= rg [Qe 4 0]
def c146_3:= rg [Qa 6 4,
Qb 7 0 1,
Qd 8 1 7,
Qi 9 8,
Qq 10 6 9]
def c146_4 : ACode := .reg [Qb 13 0 3,
  Qs 14 1 13 [0],
  Qb 15 0 1,
  Qs 16 1 15 [2],
  Qa 17 4,
  Qz 18 3 16 17 [3,2,4],
  Qai 19 3 18 [5,3,2,4],
  ⟨.loc 20, .lit 0 3 1 [.str [], .int .i64 0, .int .i64 0] [(0, (.loc 19))], none, [6, 5, 3, 2, 4]⟩,
  Qcf 21 3 32 14 20 [1,0,7,6,5,3,2,4],
  Qbn 22 0 3 [8,1,0,7,6,5,3,2,4],
  Qbe 1 22 21 [9,8,1,0,7,6,5,3,2,4]] true
def c146_5:= rg [Qa 11 4,
Qh 12 11 1,
Qc 4 12]
def c146_6 : ACode := (.seq (.seq c146_3 (.cond (.var 10) .skip (.exit 0))) (.seq (.block 1 c146_4) c146_5))
def c146_7:= rg [Ql 23 1 3,
Qn 1 2 23]
def c146 : ACode := (.seq c146_0 (.seq c146_1 (.seq (.seq c146_2 (.block 0 (.loop [1, 2, 3, 4] c146_6))) (.seq c146_7 .ret))))
abbrev F_S_l11CopyQueue : FuncId := 146
theorem v_S_l11CopyQueue : VT 1 1 Tryz.f146 146 [0,1,2,3,4,10] [none] [(.give, 2, some (true, 1))] c146 := mkV Tryz.func146 rfl rfl (by kernel_rfl) (by kernel_rfl) rfl rfl
def c147_0:= rg [Qg 1 0,
Qbq 2 0 0 0 1 0 0 0 0]
def c147_1:= rg [Qb 3 2 1,
Qd 4 1 3,
Qp 5 199 4,
Qb 6 2 1,
Qj 1 6 5]
def c147_2:= rg [Ql 7 7 1,
Qn 7 2 7]
def c147 : ACode := (.seq c147_0 (.seq c147_1 (.seq c147_2 .ret)))
abbrev F_S_l08CopyToken : FuncId := 147
theorem v_S_l08CopyToken : VT 1 1 Tryz.f147 147 [0,1,2] [none] [(.give, 2, some (true, 7))] c147 := mkV Tryz.func147 rfl rfl (by kernel_rfl) (by kernel_rfl) rfl rfl
def c148_0:= rg [Qg 1 0,
Qak 2 1 7]
def c148_1:= rg [Qak 3 1 7]
def c148_2:= rg [Qb 6 0 1,
Qce 7 1 6,
Qbw 8 7,
Qe 9 0]
def c148_3:= rg [Qba 10 9 8]
def c148_4:= rg [Qbx 11 7 7 9,
Qo 12 7 11,
Qbq 5 0 0 0 1 0 0 0 0,
Qn 7 5 12]
def c148_5 : ACode := .reg [Qb 13 0 3,
  Qs 14 1 13 [0],
  Ql 15 7 5,
  Qag 16 141 15 [2],
  ⟨.loc 17, .lit 1 7 1 [.int .i64 0, .int .i64 0, .slc 1 [], .int .i64 0, .int .i64 0, .int .i64 0, .int .i64 0] [(0, (.loc 16))], none, [3, 2]⟩,
  Qcf 18 7 72 14 17 [1,0,4,3,2],
  Qbn 19 0 3 [5,1,0,4,3,2],
  Qbe 1 19 18 [6,5,1,0,4,3,2]] true
def c148_6:= rg [Qbb 20 9 1,
Qc 9 20]
def c148_7 : ACode := (.seq c148_3 (.seq (.cond (.var 10) .skip (.exit 0)) (.seq (.block 1 (.seq c148_4 c148_5)) c148_6)))
def c148_8:= rg [Ql 21 1 3,
Qn 1 2 21]
def c148 : ACode := (.seq c148_0 (.seq c148_1 (.seq (.seq c148_2 (.block 0 (.loop [2, 3, 7, 8, 9] c148_7))) (.seq c148_8 .ret))))
abbrev F_I_cloneForest : FuncId := 148
theorem v_I_cloneForest : VT 1 1 Tryz.f148 148 [0,1,2,3,5,7,8,9,10] [none] [(.give, 2, some (true, 1))] c148 := mkV Tryz.func148 rfl rfl (by kernel_rfl) (by kernel_rfl) rfl rfl
def c149_0:= rg [Qg 1 0,
Qak 2 0 6]
def c149_1:= rg [Qb 3 0 1,
Qd 4 1 3,
Qp 5 200 4,
⟨.loc 6, .build [.nil 0 6] [(0, 1, (.loc 5))], none, []⟩,
Qn 1 2 6]
def c149 : ACode := (.seq c149_0 (.seq c149_1 .ret))
abbrev F_I_cloneBook : FuncId := 149
theorem v_I_cloneBook : VT 1 1 Tryz.f149 149 [0,1,2] [none] [(.give, 2, some (true, 1))] c149 := mkV Tryz.func149 rfl rfl (by kernel_rfl) (by kernel_rfl) rfl rfl
def c150_0:= rg [Qg 1 0,
Qck 2 0 2 0 0]
def c150_1:= rg [Qb 3 0 1,
Qd 4 1 3,
Qp 5 201 4,
Qb 6 0 1,
Qj 1 6 5]
def c150_2:= rg [Ql 7 3 1,
Qn 3 2 7]
def c150 : ACode := (.seq c150_0 (.seq c150_1 (.seq c150_2 .ret)))
abbrev F_I_cloneFar : FuncId := 150
theorem v_I_cloneFar : VT 1 1 Tryz.f150 150 [0,1,2] [none] [(.give, 2, some (true, 3))] c150 := mkV Tryz.func150 rfl rfl (by kernel_rfl) (by kernel_rfl) rfl rfl
def c151_0:= rg [Qg 1 0,
Qak 2 0 3]
def c151_1:= rg [Qb 3 0 1,
Qd 4 1 3,
Qp 5 202 4,
⟨.loc 6, .build [.nil 0 3] [(0, 1, (.loc 5))], none, []⟩,
Qn 1 2 6]
def c151 : ACode := (.seq c151_0 (.seq c151_1 .ret))
abbrev F_I_cloneQueue : FuncId := 151
theorem v_I_cloneQueue : VT 1 1 Tryz.f151 151 [0,1,2] [none] [(.give, 2, some (true, 1))] c151 := mkV Tryz.func151 rfl rfl (by kernel_rfl) (by kernel_rfl) rfl rfl
def c153_0:= rg [Qf 4]
def c153_1:= rg [Qa 5 0,
⟨.loc 6, .bin .int .neq (.loc 5) (.const (.d (.int .i64 0))), none, []⟩,
Qk 7 6,
Qac 8 0 7,
Qac 9 1 7,
Qcd 10 8 9 7,
Qab 11 7 10,
Qc 4 11]
def c153 : ACode := (.seq c153_0 (.seq c153_1 .ret))
abbrev F_I_isOver : FuncId := 153
theorem v_I_isOver : VT 2 1 Tryz.f153 153 [0,1,4] [none, none] [(.give, 4, none)] c153 := mkV Tryz.func153 rfl rfl (by kernel_rfl) (by kernel_rfl) rfl rfl
def c154_0:= rg [Qg 2 0,
Qg 3 1,
Qak 4 0 6,
Qf 5]
def c154_1:= rg [Ql 7 1 2,
Qp 8 149 7,
Qak 6 0 6,
Qn 1 6 8]
def c154_2:= rg [Qb 9 0 6,
Qd 10 1 9,
Ql 11 6 3,
⟨.loc 12, .lit 0 6 1 [.int .i64 0, .int .i64 0, .str [], .int .i64 0, .int .i64 0, .int .i64 0] [(0, (.loc 11))], none, []⟩,
⟨.loc 13, .app 6 56 (.loc 10) (.loc 12), none, []⟩,
Qb 14 0 6,
Qj 1 14 13]
def c154_3:= rg [Ql 15 1 6,
Qp 16 123 15,
Qao 17 16]
def c154_4:= rg [Ql 18 1 2,
Qp 19 149 18,
Qn 1 4 19,
Qf 5]
def c154_5:= rg [Ql 20 1 6,
Qn 1 4 20,
Qy 5]
def c154 : ACode := (.seq c154_0 (.seq c154_1 (.seq c154_2 (.seq (.seq c154_3 (.cond (.var 17) (.seq c154_4 .ret) .skip)) (.seq c154_5 .ret)))))
abbrev F_I_addLease : FuncId := 154
theorem v_I_addLease : VT 2 2 Tryz.f154 154 [0,1,2,3,4,5,6,17] [none, none] [(.give, 4, some (true, 1)), (.give, 5, none)] c154 := mkV Tryz.func154 rfl rfl (by kernel_rfl) (by kernel_rfl) rfl rfl
def c155_0:= rg [Qe 4 0]
def c155_1:= rg [Qe 5 0]
def c155_2:= rg [Qa 6 5,
Qa 7 0,
Qi 8 7,
Qq 9 6 8]
def c155_3:= rg [Qa 12 0,
Qa 13 5,
Qm 14 7 12 13,
Qt 15 0 14,
Qd 16 1 15,
Qa 17 1,
Qv 18 16 17]
def c155_4:= rg [Qe 4 (-1)]
def c155_5:= rg [Qa 19 1,
Qh 20 19 1,
Qc 1 20]
def c155_6:= rg [Qa 21 0,
Qa 22 5,
Qm 23 7 21 22,
Qt 24 1 23,
Qd 25 1 24,
Qa 26 1,
Qv 27 25 26]
def c155_7:= rg [Qe 4 (-1)]
def c155_8:= rg [Qa 28 1,
Qh 29 28 1,
Qc 1 29]
def c155_9:= rg [Qa 30 0,
Qa 31 5,
Qm 32 7 30 31,
Qt 33 2 32,
Qd 34 1 33,
Qa 35 1,
Qr 36 21 34 35,
Qc 1 36]
def c155_10:= rg [Qa 37 1,
Qu 38 37 0]
def c155_11:= rg [Qe 4 (-1)]
def c155_12:= rg [Qa 39 0,
Qa 40 5,
Qm 41 7 39 40,
Qt 42 3 41,
Qd 43 1 42,
Qa 44 1,
Qv 45 43 44]
def c155_13:= rg [Qe 4 (-1)]
def c155_14:= rg [Qa 46 1,
Qh 47 46 1,
Qc 1 47]
def c155_15:= rg [Qa 48 0,
Qa 49 5,
Qm 50 7 48 49,
Qt 51 4 50,
Qd 52 1 51,
Qa 53 1,
Qv 54 52 53]
def c155_16:= rg [Qe 4 (-1)]
def c155_17:= rg [Qa 55 1,
Qh 56 55 1,
Qc 1 56]
def c155_18:= rg [Qa 57 0,
Qa 58 5,
Qm 59 7 57 58,
Qt 60 5 59,
Qd 61 1 60,
Qa 62 1,
Qv 63 61 62]
def c155_19:= rg [Qe 4 (-1)]
def c155_20:= rg [Qa 64 1,
Qh 65 64 1,
Qc 1 65]
def c155_21:= rg [Qa 66 0,
Qa 67 5,
Qm 68 7 66 67,
Qt 69 6 68,
Qd 70 1 69,
Qa 71 1,
Qv 72 70 71]
def c155_22:= rg [Qe 4 (-1)]
def c155_23:= rg [Qa 73 1,
Qh 74 73 1,
Qc 1 74]
def c155_24:= rg [Qa 10 5,
Qh 11 10 1,
Qc 5 11]
def c155_25 : ACode := (.seq (.seq c155_2 (.cond (.var 9) .skip (.exit 0))) (.seq (.block 1 (.seq (.seq c155_3 (.cond (.var 18) (.seq c155_4 .ret) .skip)) (.seq c155_5 (.seq (.seq c155_6 (.cond (.var 27) (.seq c155_7 .ret) .skip)) (.seq c155_8 (.seq c155_9 (.seq (.seq c155_10 (.cond (.var 38) (.seq c155_11 .ret) .skip)) (.seq (.seq c155_12 (.cond (.var 45) (.seq c155_13 .ret) .skip)) (.seq c155_14 (.seq (.seq c155_15 (.cond (.var 54) (.seq c155_16 .ret) .skip)) (.seq c155_17 (.seq (.seq c155_18 (.cond (.var 63) (.seq c155_19 .ret) .skip)) (.seq c155_20 (.seq (.seq c155_21 (.cond (.var 72) (.seq c155_22 .ret) .skip)) c155_23)))))))))))))) c155_24))
def c155_26:= rg [Qa 75 1,
Qc 4 75]
def c155 : ACode := (.seq c155_0 (.seq (.seq c155_1 (.block 0 (.loop [0, 1, 5] c155_25))) (.seq c155_26 .ret)))
abbrev F_L_heldTokenS : FuncId := 155
theorem v_L_heldTokenS : VT 2 1 Tryz.f155 155 [0,1,4,5,9,18,27,38,45,54,63,72] [none, none] [(.give, 4, none)] c155 := mkV Tryz.func155 rfl rfl (by kernel_rfl) (by kernel_rfl) rfl rfl
def c156_0:= rg [Qe 4 0]
def c156_1:= rg [Qe 5 0]
def c156_2:= rg [Qa 6 5,
Qa 7 0,
Qi 8 7,
Qq 9 6 8]
def c156_3:= rg [Qa 12 0,
Qa 13 5,
Qm 14 6 12 13,
Qt 15 0 14,
Qd 16 1 15,
Qa 17 1,
Qv 18 16 17]
def c156_4:= rg [Qe 4 (-1)]
def c156_5:= rg [Qa 19 1,
Qh 20 19 1,
Qc 1 20]
def c156_6:= rg [Qa 21 0,
Qa 22 5,
Qm 23 6 21 22,
Qt 24 1 23,
Qd 25 1 24,
Qa 26 1,
Qv 27 25 26]
def c156_7:= rg [Qe 4 (-1)]
def c156_8:= rg [Qa 28 1,
Qh 29 28 1,
Qc 1 29]
def c156_9 : ACode := .reg [Qa 30 0,
  Qa 31 5,
  Qz 32 6 30 31 [0,1],
  Qay 33 2 32 [2,0,1],
  Qs 34 1 33 [3,2,0,1],
  Qa 35 1,
  Qag 36 75 35 [5],
  Qbz 37 34 36 [4,3,2,0,1,6,5]] true
def c156_10:= rg [Qe 4 (-1)]
def c156_11:= rg [Qa 38 1,
Qh 39 38 1,
Qc 1 39]
def c156_12:= rg [Qa 40 0,
Qa 41 5,
Qm 42 6 40 41,
Qt 43 3 42,
Qd 44 1 43,
Qa 45 1,
Qv 46 44 45]
def c156_13:= rg [Qe 4 (-1)]
def c156_14:= rg [Qa 47 1,
Qh 48 47 1,
Qc 1 48]
def c156_15:= rg [Qa 49 0,
Qa 50 5,
Qm 51 6 49 50,
Qt 52 4 51,
Qd 53 1 52,
Qa 54 1,
Qv 55 53 54]
def c156_16:= rg [Qe 4 (-1)]
def c156_17:= rg [Qa 56 1,
Qh 57 56 1,
Qc 1 57]
def c156_18:= rg [Qa 58 0,
Qa 59 5,
Qm 60 6 58 59,
Qt 61 5 60,
Qd 62 1 61,
Qa 63 1,
Qv 64 62 63]
def c156_19:= rg [Qe 4 (-1)]
def c156_20:= rg [Qa 65 1,
Qh 66 65 1,
Qc 1 66]
def c156_21:= rg [Qa 10 5,
Qh 11 10 1,
Qc 5 11]
def c156_22 : ACode := (.seq (.seq c156_2 (.cond (.var 9) .skip (.exit 0))) (.seq (.block 1 (.seq (.seq c156_3 (.cond (.var 18) (.seq c156_4 .ret) .skip)) (.seq c156_5 (.seq (.seq c156_6 (.cond (.var 27) (.seq c156_7 .ret) .skip)) (.seq c156_8 (.seq (.seq c156_9 (.cond (.var 37) (.seq c156_10 .ret) .skip)) (.seq c156_11 (.seq (.seq c156_12 (.cond (.var 46) (.seq c156_13 .ret) .skip)) (.seq c156_14 (.seq (.seq c156_15 (.cond (.var 55) (.seq c156_16 .ret) .skip)) (.seq c156_17 (.seq (.seq c156_18 (.cond (.var 64) (.seq c156_19 .ret) .skip)) c156_20)))))))))))) c156_21))
def c156_23:= rg [Qa 67 1,
Qc 4 67]
def c156 : ACode := (.seq c156_0 (.seq (.seq c156_1 (.block 0 (.loop [0, 1, 5] c156_22))) (.seq c156_23 .ret)))
abbrev F_L_heldLeaseS : FuncId := 156
theorem v_L_heldLeaseS : VT 2 1 Tryz.f156 156 [0,1,4,5,9,18,27,37,46,55,64] [none, none] [(.give, 4, none)] c156 := mkV Tryz.func156 rfl rfl (by kernel_rfl) (by kernel_rfl) rfl rfl
def c157_0:= rg [Qe 4 0]
def c157_1:= rg [Qe 5 0]
def c157_2:= rg [Qa 6 5,
Qa 7 0,
Qi 8 7,
Qq 9 6 8]
def c157_3 : ACode := .reg [Qa 12 0,
  Qa 13 5,
  Qz 14 2 12 13 [0,1],
  Qay 15 0 14 [2,0,1],
  Qs 16 1 15 [3,2,0,1],
  Qa 17 1,
  Qag 18 75 17 [5],
  Qbz 19 16 18 [4,3,2,0,1,6,5]] true
def c157_4:= rg [Qe 4 (-1)]
def c157_5:= rg [Qa 20 1,
Qh 21 20 1,
Qc 1 21]
def c157_6 : ACode := .reg [Qa 22 0,
  Qa 23 5,
  Qz 24 2 22 23 [0,1],
  Qay 25 1 24 [2,0,1],
  Qs 26 1 25 [3,2,0,1],
  Qa 27 1,
  Qag 28 75 27 [5],
  Qbz 29 26 28 [4,3,2,0,1,6,5]] true
def c157_7:= rg [Qe 4 (-1)]
def c157_8:= rg [Qa 30 1,
Qh 31 30 1,
Qc 1 31]
def c157_9:= rg [Qa 10 5,
Qh 11 10 1,
Qc 5 11]
def c157_10 : ACode := (.seq (.seq c157_2 (.cond (.var 9) .skip (.exit 0))) (.seq (.block 1 (.seq (.seq c157_3 (.cond (.var 19) (.seq c157_4 .ret) .skip)) (.seq c157_5 (.seq (.seq c157_6 (.cond (.var 29) (.seq c157_7 .ret) .skip)) c157_8)))) c157_9))
def c157_11:= rg [Qa 32 1,
Qc 4 32]
def c157 : ACode := (.seq c157_0 (.seq (.seq c157_1 (.block 0 (.loop [0, 1, 5] c157_10))) (.seq c157_11 .ret)))
abbrev F_L_heldUserS : FuncId := 157
theorem v_L_heldUserS : VT 2 1 Tryz.f157 157 [0,1,4,5,9,19,29] [none, none] [(.give, 4, none)] c157 := mkV Tryz.func157 rfl rfl (by kernel_rfl) (by kernel_rfl) rfl rfl
def c158_0:= rg [Qe 4 0]
def c158_1:= rg [Qe 5 0]
def c158_2:= rg [Qa 6 5,
Qa 7 0,
Qi 8 7,
Qq 9 6 8]
def c158_3 : ACode := .reg [Qa 12 0,
  Qa 13 5,
  Qz 14 3 12 13 [0,1],
  Qay 15 0 14 [2,0,1],
  Qs 16 1 15 [3,2,0,1],
  Qa 17 1,
  Qag 18 75 17 [5],
  Qbz 19 16 18 [4,3,2,0,1,6,5]] true
def c158_4:= rg [Qe 4 (-1)]
def c158_5:= rg [Qa 20 1,
Qh 21 20 1,
Qc 1 21]
def c158_6:= rg [Qa 22 0,
Qa 23 5,
Qm 24 3 22 23,
Qt 25 1 24,
Qd 26 1 25,
Qa 27 1,
Qv 28 26 27]
def c158_7:= rg [Qe 4 (-1)]
def c158_8:= rg [Qa 29 1,
Qh 30 29 1,
Qc 1 30]
def c158_9:= rg [Qa 31 0,
Qa 32 5,
Qm 33 3 31 32,
Qt 34 2 33,
Qd 35 1 34,
Qa 36 1,
Qv 37 35 36]
def c158_10:= rg [Qe 4 (-1)]
def c158_11:= rg [Qa 38 1,
Qh 39 38 1,
Qc 1 39]
def c158_12:= rg [Qa 10 5,
Qh 11 10 1,
Qc 5 11]
def c158_13 : ACode := (.seq (.seq c158_2 (.cond (.var 9) .skip (.exit 0))) (.seq (.block 1 (.seq (.seq c158_3 (.cond (.var 19) (.seq c158_4 .ret) .skip)) (.seq c158_5 (.seq (.seq c158_6 (.cond (.var 28) (.seq c158_7 .ret) .skip)) (.seq c158_8 (.seq (.seq c158_9 (.cond (.var 37) (.seq c158_10 .ret) .skip)) c158_11)))))) c158_12))
def c158_14:= rg [Qa 40 1,
Qc 4 40]
def c158 : ACode := (.seq c158_0 (.seq (.seq c158_1 (.block 0 (.loop [0, 1, 5] c158_13))) (.seq c158_14 .ret)))
abbrev F_L_heldJobS : FuncId := 158
theorem v_L_heldJobS : VT 2 1 Tryz.f158 158 [0,1,4,5,9,19,28,37] [none, none] [(.give, 4, none)] c158 := mkV Tryz.func158 rfl rfl (by kernel_rfl) (by kernel_rfl) rfl rfl
def c162_0:= rg [Qe 4 0]
def c162_1:= rg [Qa 6 0,
⟨.var 7, .len false (.loc 6), none, []⟩,
Qe 8 0]
def c162_2:= rg [Qba 9 8 7]
def c162_3:= rg [Qa 10 8,
Qc 5 10]
def c162_4:= rg [Qa 11 1,
Qa 12 0,
Qa 13 5,
Qm 14 6 12 13,
Qo 15 6 14,
⟨.var 16, .call (.loc 11) [(.loc 15)] [.borrow], none, []⟩]
def c162_5:= rg [Qa 17 5,
Qc 4 17]
def c162_6:= rg [Qbb 18 8 1,
Qc 8 18]
def c162_7 : ACode := (.seq c162_2 (.seq (.cond (.var 9) .skip (.exit 0)) (.seq (.block 1 (.seq c162_3 (.seq c162_4 (.cond (.var 16) (.seq c162_5 .ret) .skip)))) c162_6)))
def c162_8:= rg [Qe 4 (-1)]
def c162 : ACode := (.seq c162_0 (.seq (.seq c162_1 (.block 0 (.loop [0, 1, 7, 8] c162_7))) (.seq c162_8 .ret)))
abbrev F_slices_IndexFunc___impl_Lease_impl_Lease_ : FuncId := 162
theorem v_slices_IndexFunc___impl_Lease_impl_Lease_ : VT 2 1 Tryz.f162 162 [0,1,4,5,7,8,9,16] [none, none] [(.give, 4, none)] c162 := mkV Tryz.func162 rfl rfl (by kernel_rfl) (by kernel_rfl) rfl rfl
def c163_0:= rg [Qg 2 0,
Qf 3]
def c163_1:= rg [Qb 4 0 2,
Qd 5 1 4,
⟨.loc 6, .load false 1 (.var 1), none, []⟩,
⟨.loc 7, .bin .int .eql (.loc 5) (.loc 6), none, []⟩,
Qc 3 7]
def c163 : ACode := (.seq c163_0 (.seq c163_1 .ret))
abbrev F_I_leaseIndex_c1 : FuncId := 163
theorem v_I_leaseIndex_c1 : VT 2 1 Tryz.f163 163 [0,1,2,3] [none] [(.give, 3, none)] c163 := mkV Tryz.func163 rfl rfl (by kernel_rfl) (by kernel_rfl) rfl rfl
def c169_0:= rg [Qe 4 0]
def c169_1:= rg [Qa 6 0,
⟨.var 7, .len false (.loc 6), none, []⟩,
Qe 8 0]
def c169_2:= rg [Qba 9 8 7]
def c169_3:= rg [Qa 10 8,
Qc 5 10]
def c169_4:= rg [Qa 11 1,
Qa 12 0,
Qa 13 5,
Qm 14 7 12 13,
Qo 15 7 14,
⟨.var 16, .call (.loc 11) [(.loc 15)] [.borrow], none, []⟩]
def c169_5:= rg [Qa 17 5,
Qc 4 17]
def c169_6:= rg [Qbb 18 8 1,
Qc 8 18]
def c169_7 : ACode := (.seq c169_2 (.seq (.cond (.var 9) .skip (.exit 0)) (.seq (.block 1 (.seq c169_3 (.seq c169_4 (.cond (.var 16) (.seq c169_5 .ret) .skip)))) c169_6)))
def c169_8:= rg [Qe 4 (-1)]
def c169 : ACode := (.seq c169_0 (.seq (.seq c169_1 (.block 0 (.loop [0, 1, 7, 8] c169_7))) (.seq c169_8 .ret)))
abbrev F_slices_IndexFunc___impl_Token_impl_Token_ : FuncId := 169
theorem v_slices_IndexFunc___impl_Token_impl_Token_ : VT 2 1 Tryz.f169 169 [0,1,4,5,7,8,9,16] [none, none] [(.give, 4, none)] c169 := mkV Tryz.func169 rfl rfl (by kernel_rfl) (by kernel_rfl) rfl rfl
def c170_0:= rg [Qg 2 0,
Qf 3]
def c170_1:= rg [Qb 4 0 2,
Qd 5 1 4,
⟨.loc 6, .load false 1 (.var 1), none, []⟩,
⟨.loc 7, .bin .int .eql (.loc 5) (.loc 6), none, []⟩,
Qc 3 7]
def c170 : ACode := (.seq c170_0 (.seq c170_1 .ret))
abbrev F_I_tokenIndex_c1 : FuncId := 170
theorem v_I_tokenIndex_c1 : VT 2 1 Tryz.f170 170 [0,1,2,3] [none] [(.give, 3, none)] c170 := mkV Tryz.func170 rfl rfl (by kernel_rfl) (by kernel_rfl) rfl rfl
def c181_0:= rg [Qg 2 0,
Qe 4 0]
def c181_1:= rg [Qb 5 2 2,
Qd 6 1 5,
Qa 7 1,
Qr 8 219 6 7,
Qc 1 8]
def c181_2:= rg [Qa 9 1,
Qu 10 9 0]
def c181_3:= rg [Qe 4 (-1)]
def c181_4:= rg [Qa 11 1,
Qc 4 11]
def c181 : ACode := (.seq c181_0 (.seq c181_1 (.seq (.seq c181_2 (.cond (.var 10) (.seq c181_3 .ret) .skip)) (.seq c181_4 .ret))))
abbrev F_L_szToken : FuncId := 181
end Go.Proofs.YtdckkojgnkoabaaGreatDoor.Ab
