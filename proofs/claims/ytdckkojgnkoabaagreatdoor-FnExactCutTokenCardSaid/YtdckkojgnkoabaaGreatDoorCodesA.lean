/-
  A part of a proof about the given program; what is proved is said where each theorem stands.
-/
import Derived.Lib.LaidTab
import Derived.Lib.ItoaLen
import Derived.Shelf.Strconv.Itoa3
import Derived.KernelRfl
import Derived.Test.YtdckkojgnkoabaaGreatDoorProg
import Derived.Test.YtdckkojgnkoabaaGreatDoorFrameA
import Derived.Test.YtdckkojgnkoabaaGreatDoorFrameB
import Derived.Test.YtdckkojgnkoabaaGreatDoorFrameC
import Derived.Test.YtdckkojgnkoabaaGreatDoorFrameD
import Derived.Test.YtdckkojgnkoabaaGreatDoorFrameE
namespace Go.Proofs.YtdckkojgnkoabaaGreatDoor.Ab
open Go.Proofs
noncomputable abbrev PP : Program := Tryz.prog
def pow10Cells : Obj → Prop
  | .cells cs _ _ => cs = (Lib.pow10Tab.map fun z => Value.int .u64 z).toArray
  | _ => False
class P10 (GG : GV) : Prop where
  h : GG 1 = some pow10Cells
def errCell : Obj → Prop
  | .cells cs _ _ => ∃ ev, cs[0]? = some ev ∧ (ev = .nilIface ∨ ∃ te pe, ev = .iface te pe)
  | _ => False
def intCell : Obj → Prop
  | .cells cs _ _ => ∃ m : Int, cs[0]? = some (.int .i64 m)
  | _ => False
class MaxL (GG : GV) : Prop where
  h : GG 0 = some intCell
abbrev WX (GG : GV) (vl : List Nat) (nt : Nat) (om : List (Option Mode)) (rs : List (Mode × Nat × Option (Bool × Nat))) (c : ACode) (rcs cs : List C) (os : List (Option C)) : Prop :=
  W PP vl (nt, pinOf 0 om) (Valid PP GG) c (entry cs) (Fin (Valid PP GG) rs om rcs os) (fun _ _ => False) (Fin (Valid PP GG) rs om rcs os)
abbrev o1 (d : Dst) (p : AOp) : AOper := ⟨d, p, none, []⟩
@[simp] theorem o1_is (d : Dst) (p : AOp) : o1 d p = ⟨d, p, none, []⟩ := id rfl
abbrev rg (l : List AOper) : ACode := .reg l false
abbrev VT (n m : Nat) (fn : Func) (f : FuncId) (vl : List Nat) (om : List (Option Mode)) (rs : List (Mode × Nat × Option (Bool × Nat))) (c : ACode) : Prop :=
  ∀ {GG : GV} (rcs : List C) {cs : List C} {r : C} {os : List (Option C)}, (cs.length == n && rcs.length == m) = true → retOf rcs = r → WX GG vl fn.ntmps om rs c rcs cs os → Valid PP GG f cs r os
theorem mkV {n m : Nat} {fn : Func} {f : FuncId} {vl : List Nat} {om : List (Option Mode)} {rs : List (Mode × Nat × Option (Bool × Nat))} {c : ACode} (hf : PP.funcs[f]? = some fn) (hb : fn.body.isSome = true) (hname : (fn.name == "runtime.NumGoroutine") = false) (hr : resOk PP fn.results.toList rs = true) (hcomp : comp PP (fn.ntmps, pinOf 0 om) vl (fn.body.getD .skip) = some c.erase)
    (hvl : ((List.range n).all vl.contains) = true) (hn : decide (n ≤ fn.ntmps ∧ om.length ≤ n ∧ m = rs.length) = true) : VT n m fn f vl om rs c :=
  fun {_} rcs {_ _ _} hN hret hW => fn_valid_n n m _ _ _ _ rcs hf hb hname hr hcomp hvl hn hN hret hW
abbrev Qa (n0 : Nat) (n1 : Nat) : AOper := ⟨.loc n0, .mv (.var n1), none, []⟩
abbrev Qb (n0 : Nat) (n1 : Nat) (n2 : Nat) : AOper := ⟨.loc n0, .fld n1 (.var n2), none, []⟩
abbrev Qc (n0 : Nat) (n1 : Nat) : AOper := ⟨.var n0, .mv (.loc n1), none, []⟩
abbrev Qd (n0 : Nat) (n1 : Nat) (n2 : Nat) : AOper := ⟨.loc n0, .load false n1 (.loc n2), none, []⟩
abbrev Qe (n0 : Nat) (n1 : Int) : AOper := ⟨.var n0, .mv (.const (.d (.int .i64 n1))), none, []⟩
abbrev Qf (n0 : Nat) : AOper := ⟨.var n0, .mv (.const (.d (.bool false))), none, []⟩
abbrev Qg (n0 : Nat) (n1 : Nat) (n2 : Nat) : AOper := ⟨.loc n0, .load true n1 (.var n2), none, []⟩
abbrev Qh (n0 : Nat) (n1 : Nat) : AOper := ⟨.var n0, .box (.var n1), none, []⟩
abbrev Qi (n0 : Nat) (n1 : Nat) (n2 : Int) : AOper := ⟨.loc n0, .bin .int .add (.loc n1) (.const (.d (.int .i64 n2))), none, []⟩
abbrev Qj (n0 : Nat) (n1 : Nat) : AOper := ⟨.loc n0, .len false (.loc n1), none, []⟩
abbrev Qk (n0 : Nat) (n1 : Nat) (n2 : Nat) : AOper := ⟨.none, .store n0 (.var n1) (.loc n2), none, []⟩
abbrev Ql (n0 : Nat) (n1 : Nat) (n2 : Nat) : AOper := ⟨.none, .store n0 (.loc n1) (.loc n2), none, []⟩
abbrev Qm (n0 : Nat) (n1 : Nat) (n2 : Nat) (n3 : Nat) : AOper := ⟨.loc n0, .idxA n1 (.loc n2) (.loc n3), none, []⟩
abbrev Qn (n0 : Nat) (n1 : Nat) : AOper := ⟨.loc n0, .split (.loc n1), none, []⟩
abbrev Qo (n0 : Nat) (n1 : Nat) (n2 : Nat) (n3 : Nat) : AOper := ⟨.loc n0, .call (.fn n1) [(.loc n2), (.loc n3)] [.borrow, .borrow], none, []⟩
abbrev Qp (n0 : Nat) (n1 : Nat) (n2 : Nat) : AOper := ⟨.loc n0, .load true n1 (.loc n2), none, []⟩
abbrev Qq (n0 : Nat) (n1 : Nat) (n2 : Nat) : AOper := ⟨.var n0, .bin .int .lss (.loc n1) (.loc n2), none, []⟩
abbrev Qr (n0 : Nat) (n1 : Nat) (n2 : Nat) (n3 : List Nat) : AOper := ⟨.loc n0, .load false n1 (.loc n2), none, n3⟩
abbrev Qs (n0 : Nat) (n1 : Nat) (n2 : Nat) : AOper := ⟨.loc n0, .call (.fn n1) [(.loc n2)] [.borrow], none, []⟩
abbrev Qt (n0 : Nat) (n1 : Nat) (n2 : Nat) : AOper := ⟨.loc n0, .fld n1 (.loc n2), none, []⟩
abbrev Qu (n0 : Nat) (n1 : Nat) (n2 : Int) : AOper := ⟨.var n0, .bin .int .lss (.loc n1) (.const (.d (.int .i64 n2))), none, []⟩
abbrev Qv (n0 : Nat) (n1 : Nat) (n2 : Nat) : AOper := ⟨.var n0, .bin .int .neq (.loc n1) (.loc n2), none, []⟩
abbrev Qw (n0 : Nat) (n1 : Nat) (n2 : Nat) (n3 : Nat) (n4 : List Nat) : AOper := ⟨.loc n0, .idxA n1 (.loc n2) (.loc n3), none, n4⟩
abbrev Qx (n0 : Nat) (n1 : Nat) (n2 : Nat) : AOper := ⟨.var n0, .alloc [.nil n1 n2], none, []⟩
abbrev Qy (n0 : Nat) : AOper := ⟨.var n0, .mv (.const (.d (.bool true))), none, []⟩
abbrev Qz (n0 : Nat) (n1 : Nat) (n2 : Nat) (n3 : Nat) (n4 : List Nat) : AOper := ⟨.loc n0, .load false n1 (.loc n2), some ((.loc n3), true), n4⟩
abbrev Qaa (n0 : Nat) (n1 : Nat) (n2 : Nat) : AOper := ⟨.var n0, .mv (.const (.nil n1 n2)), none, []⟩
abbrev Qab (n0 : Nat) (n1 : Nat) (n2 : Nat) (n3 : Nat) : AOper := ⟨.loc n0, .load false n1 (.loc n2), some ((.loc n3), true), []⟩
abbrev Qac (n0 : Nat) (n1 : Nat) (n2 : Nat) : AOper := ⟨.loc n0, .ext (.loc n1) n2, none, []⟩
abbrev Qad (n0 : Nat) (n1 : Nat) (n2 : Nat) (n3 : Nat) : AOper := ⟨.loc n0, .fld n1 (.var n2), some ((.loc n3), true), []⟩
abbrev Qae (n0 : Nat) (n1 : Nat) (n2 : Nat) : AOper := ⟨.loc n0, .mv (.var n1), some ((.loc n2), true), []⟩
abbrev Qaf (n0 : Nat) (n1 : Nat) (n2 : Nat) : AOper := ⟨.loc n0, .pick (.loc n1) (.loc n2) (.const (.d (.bool false))), none, []⟩
abbrev Qag (n0 : Nat) (n1 : Nat) (n2 : Nat) (n3 : Nat) : AOper := ⟨.loc n0, .fld n1 (.var n2), some ((.loc n3), false), []⟩
abbrev Qah (n0 : Nat) (n1 : Nat) (n2 : Nat) (n3 : List Nat) : AOper := ⟨.loc n0, .fld n1 (.loc n2), none, n3⟩
abbrev Qai (n0 : Nat) (n1 : Nat) (n2 : Nat) (n3 : List Nat) : AOper := ⟨.loc n0, .load true n1 (.loc n2), none, n3⟩
abbrev Qaj (n0 : Nat) (n1 : Nat) (n2 : Nat) : AOper := ⟨.loc n0, .un .not (.loc n1), some ((.loc n2), false), []⟩
abbrev Qak (n0 : Nat) (n1 : Nat) (n2 : Nat) (n3 : List Nat) : AOper := ⟨.loc n0, .call (.fn n1) [(.loc n2)] [.borrow], none, n3⟩
abbrev Qal (n0 : Nat) (n1 : Nat) (n2 : Nat) (n3 : Nat) (n4 : List Nat) : AOper := ⟨.loc n0, .fld n1 (.var n2), some ((.loc n3), true), n4⟩
abbrev Qam (n0 : Nat) (n1 : Nat) : AOper := ⟨.var n0, .un .not (.loc n1), none, []⟩
abbrev Qan (n0 : Nat) (n1 : Nat) (n2 : Nat) : AOper := ⟨.loc n0, .pick (.loc n1) (.const (.d (.bool true))) (.loc n2), none, []⟩
abbrev Qao (n0 : Nat) (n1 : Nat) (n2 : List Nat) : AOper := ⟨.loc n0, .split (.loc n1), none, n2⟩
abbrev Qap (n0 : Nat) (n1 : Nat) (n2 : Nat) : AOper := ⟨.loc n0, .mv (.var n1), some ((.loc n2), false), []⟩
abbrev Qaq (n0 : Nat) (n1 : Nat) (n2 : Nat) (n3 : Nat) : AOper := ⟨.loc n0, .load false n1 (.loc n2), some ((.loc n3), false), []⟩
abbrev Qar (n0 : Nat) (n1 : Nat) (n2 : Nat) : AOper := ⟨.var n0, .pick (.loc n1) (.const (.d (.bool true))) (.loc n2), none, []⟩
abbrev Qas (n0 : Nat) (n1 : Nat) (n2 : Nat) : AOper := ⟨.var n0, .bin .int .lss (.var n1) (.var n2), none, []⟩
abbrev Qat (n0 : Nat) (n1 : Nat) (n2 : Int) : AOper := ⟨.loc n0, .bin .int .add (.var n1) (.const (.d (.int .i64 n2))), none, []⟩
abbrev Qau (n0 : Nat) (n1 : Nat) (n2 : Nat) (n3 : Nat) (n4 : Nat) : AOper := ⟨.loc n0, .app n1 n2 (.loc n3) (.loc n4), none, []⟩
abbrev Qav (n0 : Nat) (n1 : Nat) (n2 : Nat) (n3 : List Nat) : AOper := ⟨.none, .store n0 (.loc n1) (.loc n2), none, n3⟩
abbrev Qaw (n0 : Nat) (n1 : Nat) (n2 : Nat) (n3 : List Nat) : AOper := ⟨.loc n0, .mv (.var n1), some ((.loc n2), true), n3⟩
abbrev Qax (n0 : Nat) (n1 : Nat) : AOper := ⟨.loc n0, .len true (.loc n1), none, []⟩
abbrev Qay (n0 : Nat) (n1 : Int) (n2 : Int) (n3 : Int) (n4 : Nat) (n5 : Nat) (n6 : Nat) (n7 : Nat) (n8 : Nat) (n9 : Nat) (n10 : Int) (n11 : Int) (n12 : Nat) (n13 : Nat) (n14 : Nat) (n15 : Nat) : AOper := ⟨.var n0, .alloc [.d (.int .i64 n1), .d (.int .i64 n2), .d (.int .i64 n3), .nil n4 n5, .nil n6 n7, .nil n8 n9, .d (.int .i64 n10), .d (.int .i64 n11), .nil n12 n13, .nil n14 n15], none, []⟩
abbrev Qaz (n0 : Nat) (n1 : Nat) (n2 : Nat) (n3 : Int) (n4 : Int) : AOper := ⟨.var n0, .alloc [.nil n1 n2, .d (.int .i64 n3), .d (.int .i64 n4)], none, []⟩
abbrev Qba (n0 : Nat) (n1 : Nat) : AOper := ⟨.loc n0, .un .not (.loc n1), none, []⟩
abbrev Qbb (n0 : Nat) (n1 : Nat) (n2 : Nat) (n3 : Nat) (n4 : Nat) (n5 : List Nat) : AOper := ⟨.loc n0, .idxA n1 (.loc n2) (.loc n3), some ((.loc n4), true), n5⟩
abbrev Qbc (n0 : Nat) (n1 : Nat) (n2 : Nat) (n3 : Nat) (n4 : List Nat) : AOper := ⟨.loc n0, .fld n1 (.loc n2), some ((.loc n3), true), n4⟩
abbrev Qbd (n0 : Nat) (n1 : Nat) (n2 : Nat) (n3 : List Nat) : AOper := ⟨.loc n0, .fld n1 (.var n2), none, n3⟩
abbrev Qbe (n0 : Nat) (n1 : Nat) (n2 : Nat) (n3 : Nat) : AOper := ⟨.loc n0, .call (.fn n1) [(.loc n2), (.loc n3)] [.lend, .borrow], none, []⟩
abbrev Qbf (n0 : Nat) (n1 : Nat) : AOper := ⟨.loc n0, .mv (.loc n1), none, []⟩
abbrev Qbg (n0 : Nat) (n1 : Nat) (n2 : Nat) : AOper := ⟨.loc n0, .bin .int .sub (.loc n1) (.loc n2), none, []⟩
abbrev Qbh (n0 : Nat) (n1 : Nat) : AOper := ⟨.var n0, .len false (.var n1), none, []⟩
abbrev Qbi (n0 : Nat) (n1 : Nat) (n2 : Nat) (n3 : Nat) : AOper := ⟨.loc n0, .idxA n1 (.var n2) (.var n3), none, []⟩
abbrev Qbj (n0 : Nat) (n1 : Nat) (n2 : Nat) (n3 : Int) (n4 : Int) (n5 : Nat) : AOper := ⟨.loc n0, .call (.fn n1) [(.loc n2), (.const (.d (.int .i64 n3))), (.const (.d (.int .i64 n4)))] [.borrow, .borrow, .borrow], some ((.loc n5), false), []⟩
abbrev Qbk (n0 : Nat) (n1 : Nat) (n2 : Nat) (n3 : Nat) (n4 : List Nat) : AOper := ⟨.loc n0, .fld n1 (.var n2), some ((.loc n3), false), n4⟩
abbrev Qbl (n0 : Nat) (n1 : Nat) (n2 : Nat) (n3 : Nat) (n4 : List Nat) : AOper := ⟨.loc n0, .load false n1 (.loc n2), some ((.loc n3), false), n4⟩
abbrev Qbm (n0 : Nat) (n1 : Nat) (n2 : Nat) (n3 : List Nat) : AOper := ⟨.loc n0, .mv (.var n1), some ((.loc n2), false), n3⟩
abbrev Qbn (n0 : Nat) (n1 : Nat) (n2 : Int) (n3 : Nat) (n4 : List Nat) : AOper := ⟨.loc n0, .bin .int .sub (.loc n1) (.const (.d (.int .i64 n2))), some ((.loc n3), true), n4⟩
abbrev Qbo (n0 : Nat) (n1 : Nat) (n2 : Nat) (n3 : Int) (n4 : Int) : AOper := ⟨.loc n0, .call (.fn n1) [(.loc n2), (.const (.d (.int .i64 n3))), (.const (.d (.int .i64 n4)))] [.borrow, .borrow, .borrow], none, []⟩
abbrev Qbp (n0 : Nat) (n1 : Nat) (n2 : Nat) (n3 : Nat) : AOper := ⟨.loc n0, .call (.fn n1) [(.loc n2)] [.borrow], some ((.loc n3), false), []⟩
abbrev Qbq (n0 : Nat) (n1 : Nat) (n2 : Nat) (n3 : List Nat) : AOper := ⟨.loc n0, .ext (.loc n1) n2, none, n3⟩
abbrev Qbr (n0 : Nat) (n1 : Nat) (n2 : List Nat) : AOper := ⟨.var n0, .mv (.loc n1), none, n2⟩
abbrev Qbs (n0 : Nat) (n1 : Nat) (n2 : Nat) (n3 : List Nat) : AOper := ⟨.loc n0, .split (.loc n1), some ((.loc n2), false), n3⟩
abbrev Qbt (n0 : Nat) (n1 : Nat) (n2 : Nat) (n3 : Nat) (n4 : List Nat) : AOper := ⟨.loc n0, .pick (.loc n1) (.loc n2) (.const (.d (.bool false))), some ((.loc n3), false), n4⟩
abbrev Qbu (n0 : Nat) (n1 : Nat) (n2 : Nat) (n3 : List Nat) : AOper := ⟨.var n0, .pick (.loc n1) (.const (.d (.bool true))) (.loc n2), none, n3⟩
abbrev Qbv (n0 : Nat) (n1 : Nat) (n2 : Int) : AOper := ⟨.var n0, .bin .int .gtr (.loc n1) (.const (.d (.int .i64 n2))), none, []⟩
abbrev Qbw (n0 : Nat) (n1 : Nat) (n2 : Nat) (n3 : Nat) (n4 : Nat) (n5 : List Nat) : AOper := ⟨.loc n0, .app n1 n2 (.loc n3) (.loc n4), none, n5⟩
abbrev Qbx (n0 : Nat) (n1 : Nat) (n2 : Nat) (n3 : List Nat) : AOper := ⟨.none, .store n0 (.var n1) (.loc n2), none, n3⟩
abbrev Qby (n0 : Nat) (n1 : Nat) : AOper := ⟨.loc n0, .nchk (.loc n1), none, []⟩
abbrev Qbz (n0 : Nat) (n1 : Nat) (n2 : Nat) (n3 : Nat) : AOper := ⟨.loc n0, .load true n1 (.loc n2), some ((.loc n3), false), []⟩
abbrev Qca (n0 : Nat) (n1 : Nat) (n2 : List Nat) : AOper := ⟨.loc n0, .un .not (.loc n1), none, n2⟩
abbrev Qcb (n0 : Nat) (n1 : Nat) (n2 : Nat) : AOper := ⟨.var n0, .load false n1 (.loc n2), none, []⟩
abbrev Qcc (n0 : Nat) (n1 : Nat) (n2 : Nat) (n3 : Nat) (n4 : List Nat) : AOper := ⟨.loc n0, .call (.fn n1) [(.loc n2), (.loc n3)] [.borrow, .borrow], none, n4⟩
abbrev Qcd (n0 : Nat) (n1 : Nat) (n2 : Int) (n3 : Nat) (n4 : List Nat) : AOper := ⟨.loc n0, .bin .int .gtr (.loc n1) (.const (.d (.int .i64 n2))), some ((.loc n3), false), n4⟩
abbrev Qce (n0 : Nat) (n1 : Nat) (n2 : Nat) (n3 : Nat) (n4 : List Nat) : AOper := ⟨.loc n0, .bin .int .geq (.loc n1) (.loc n2), some ((.loc n3), true), n4⟩
abbrev Qcf (n0 : Nat) (n1 : Int) (n2 : Int) (n3 : Nat) (n4 : Nat) (n5 : Int) (n6 : Int) (n7 : Int) (n8 : Int) : AOper := ⟨.var n0, .alloc [.d (.int .i64 n1), .d (.int .i64 n2), .nil n3 n4, .d (.int .i64 n5), .d (.int .i64 n6), .d (.int .i64 n7), .d (.int .i64 n8)], none, []⟩
abbrev Qcg (n0 : Nat) (n1 : Nat) (n2 : List Nat) : AOper := ⟨.loc n0, .nchk (.loc n1), none, n2⟩
abbrev Qch (n0 : Nat) (n1 : Nat) (n2 : Nat) (n3 : Int) (n4 : Int) (n5 : Nat) : AOper := ⟨.loc n0, .call (.fn n1) [(.loc n2), (.const (.d (.int .i64 n3))), (.const (.d (.int .i64 n4)))] [.borrow, .borrow, .borrow], some ((.loc n5), true), []⟩
abbrev Qci (n0 : Nat) (n1 : Nat) (n2 : Nat) (n3 : Nat) (n4 : Nat) : AOper := ⟨.loc n0, .call (.fn n1) [(.loc n2), (.loc n3)] [.borrow, .borrow], some ((.loc n4), false), []⟩
abbrev Qcj (n0 : Nat) (n1 : Nat) (n2 : Nat) (n3 : List Nat) : AOper := ⟨.loc n0, .pick (.loc n1) (.const (.d (.bool true))) (.loc n2), none, n3⟩
abbrev Qck (n0 : Nat) (n1 : Nat) (n2 : Nat) (n3 : List Nat) : AOper := ⟨.var n0, .bin .str .neq (.loc n1) (.loc n2), none, n3⟩
abbrev Qcl (n0 : Nat) (n1 : Nat) (n2 : Int) : AOper := ⟨.var n0, .bin .int .eql (.loc n1) (.const (.d (.int .i64 n2))), none, []⟩
abbrev Qcm (n0 : Nat) (n1 : Nat) (n2 : Int) : AOper := ⟨.loc n0, .bin .int .leq (.loc n1) (.const (.d (.int .i64 n2))), none, []⟩
abbrev Qcn (n0 : Nat) (n1 : Nat) (n2 : List Nat) : AOper := ⟨.var n0, .un .not (.loc n1), none, n2⟩
abbrev Qco (n0 : Nat) (n1 : Nat) (n2 : Nat) : AOper := ⟨.var n0, .bin .str .neq (.loc n1) (.loc n2), none, []⟩
abbrev Qcp (n0 : Nat) (n1 : Int) (n2 : Int) : AOper := ⟨.var n0, .alloc [.d (.str []), .d (.int .i64 n1), .d (.int .i64 n2)], none, []⟩
abbrev Qcq (n0 : Nat) (n1 : Int) (n2 : Int) (n3 : Int) (n4 : Int) (n5 : Int) : AOper := ⟨.var n0, .alloc [.d (.int .i64 n1), .d (.int .i64 n2), .d (.str []), .d (.int .i64 n3), .d (.int .i64 n4), .d (.int .i64 n5)], none, []⟩
abbrev Qcr (n0 : Nat) (n1 : Nat) (n2 : Nat) : AOper := ⟨.loc n0, .clo n1 [(.var n2)], none, []⟩
abbrev Qcs (n0 : Nat) (n1 : Nat) (n2 : Nat) : AOper := ⟨.loc n0, .build [.nil n1 n2] [], none, []⟩
abbrev Qct (n0 : Nat) (n1 : Nat) (n2 : Nat) (n3 : Nat) (n4 : Int) (n5 : Int) (n6 : Nat) (n7 : Nat) : AOper := ⟨.loc n0, .lit n1 n2 n3 [.str [], .int .i64 n4, .int .i64 n5] [(n6, (.loc n7))], none, []⟩
abbrev Qcu (n0 : Nat) (n1 : Nat) (n2 : Nat) (n3 : Nat) (n4 : Nat) (n5 : Nat) : AOper := ⟨.loc n0, .lit n1 n2 n3 [.str []] [(n4, (.loc n5))], none, []⟩
abbrev Qcv (n0 : Nat) (n1 : Nat) (n2 : Nat) : AOper := ⟨.var n0, .bin .int .eql (.loc n1) (.loc n2), none, []⟩
abbrev Qcw (n0 : Nat) (n1 : Nat) (n2 : Nat) : AOper := ⟨.loc n0, .un .not (.loc n1), some ((.loc n2), true), []⟩
abbrev Qcx (n0 : Nat) (n1 : Nat) (n2 : Nat) : AOper := ⟨.loc n0, .bin .int .add (.loc n1) (.loc n2), none, []⟩
abbrev Qcy (n0 : Nat) (n1 : Nat) (n2 : Int) (n3 : Nat) : AOper := ⟨.loc n0, .bin .int .add (.loc n1) (.const (.d (.int .i64 n2))), some ((.loc n3), true), []⟩
abbrev Qcz (n0 : Nat) (n1 : Nat) (n2 : Nat) : AOper := ⟨.loc n0, .load false n1 (.var n2), none, []⟩
abbrev Qda (n0 : Nat) (n1 : Nat) : AOper := ⟨.var n0, .len false (.loc n1), none, []⟩
abbrev Qdb (n0 : Nat) (n1 : Nat) (n2 : Nat) : AOper := ⟨.var n0, .call (.loc n1) [(.loc n2)] [.borrow], none, []⟩
abbrev Qdc (n0 : Nat) (n1 : Nat) (n2 : Nat) : AOper := ⟨.loc n0, .bin .int .eql (.loc n1) (.loc n2), none, []⟩
def c8_0:= rg [Qh 2 0,
Qf 4]
def c8_1:= rg [Qe 5 1048576]
def c8_2:= rg [Qg 16 10 2,
Qa 17 5,
Qo 18 11 16 17,
Qc 5 18]
def c8_3:= rg [Qa 19 5,
Qu 20 19 0]
def c8_4:= rg [Qy 4]
def c8_5:= rg [Qg 22 10 2,
Qs 23 13 22,
Qa 24 1,
Qo 25 32 23 24,
Qbf 21 25,
Qac 26 21 0,
Qac 27 21 1,
Qay 6 0 0 0 1 7 0 6 0 2 0 0 0 3 0 2,
Qk 10 6 26,
Qc 7 27]
def c8_6:= rg [Qg 28 10 2,
Qs 29 13 28,
Qay 8 0 0 0 1 7 0 6 0 2 0 0 0 3 0 2,
Qk 10 8 29]
def c8_7:= rg [Qg 31 10 8,
Qa 32 1,
Qo 33 33 31 32,
Qbf 30 33,
Qac 34 30 0,
Qac 35 30 1,
Qay 9 0 0 0 1 7 0 6 0 2 0 0 0 3 0 2,
Qk 10 9 34,
Qc 10 35]
def c8_8:= rg [Qg 36 10 9,
Qg 37 10 6,
Qo 38 15 36 37,
Qba 39 38,
Qn 40 39,
Qap 41 10 40,
Qap 42 7 40,
Qci 43 24 41 42 40,
Qaj 44 43 40,
Qar 45 40 44]
def c8_9:= rg [Qf 4]
def c8_10 : ACode := .reg [Qg 46 10 8,
  Qg 47 10 2,
  Qak 48 13 47 [1],
  Qcc 49 15 46 48 [0,2,1],
  Qcn 50 49 [3,0,2,1]] true
def c8_11:= rg [Qf 4]
def c8_12:= rg [Qe 11 1]
def c8_13:= rg [Qg 51 10 8,
Qa 52 11,
Qbe 53 19 51 52,
Qc 11 53]
def c8_14:= rg [Qa 54 11,
⟨.loc 55, .bin .int .lss (.loc 54) (.const (.d (.int .i64 0))), none, []⟩,
Qn 56 55,
⟨.loc 57, .load true 10 (.var 9), some ((.loc 56), false), []⟩,
⟨.loc 58, .load true 10 (.var 6), some ((.loc 56), false), []⟩,
Qci 59 15 57 58 56,
Qaj 60 59 56,
Qan 61 56 60,
Qn 62 61,
Qap 63 10 62,
Qap 64 7 62,
Qci 65 24 63 64 62,
Qaj 66 65 62,
Qar 67 62 66]
def c8_15:= rg [Qf 4]
def c8_16:= rg [Qe 12 1]
def c8_17:= rg [Qg 68 10 9,
Qa 69 12,
Qbe 70 19 68 69,
Qc 12 70]
def c8_18:= rg [Qa 71 10,
Qa 72 12,
Qbe 73 25 71 72,
Qc 12 73]
def c8_19:= rg [Qe 13 1]
def c8_20:= rg [Qg 74 10 9,
Qa 75 13,
Qo 76 29 74 75,
Qc 13 76]
def c8_21:= rg [Qa 77 13,
Qu 78 77 0]
def c8_22:= rg [Qf 4]
def c8_23:= rg [Qa 79 10,
Qa 80 13,
Qo 81 26 79 80,
Qc 13 81]
def c8_24:= rg [Qa 82 13,
Qu 83 82 0]
def c8_25:= rg [Qf 4]
def c8_26:= rg [Qa 84 13,
Qa 85 12,
Qv 86 84 85]
def c8_27:= rg [Qf 4]
def c8_28:= rg [Qg 88 10 2,
Qs 89 13 88,
Qa 90 1,
Qo 91 33 89 90,
Qbf 87 91,
Qac 92 87 0,
Qac 93 87 1,
Qay 14 0 0 0 1 7 0 6 0 2 0 0 0 3 0 2,
Qk 10 14 92,
Qc 15 93]
def c8_29:= rg [Qg 94 10 14,
Qg 95 10 6,
Qo 96 15 94 95,
Qba 97 96,
Qn 98 97,
Qap 99 15 98,
Qap 100 7 98,
Qci 101 24 99 100 98,
Qaj 102 101 98,
Qar 103 98 102]
def c8_30:= rg [Qf 4]
def c8_31:= rg [Qe 13 1]
def c8_32:= rg [Qg 104 10 9,
Qa 105 13,
Qo 106 29 104 105,
Qc 13 106]
def c8_33:= rg [Qa 107 13,
Qu 108 107 0]
def c8_34:= rg [Qf 4]
def c8_35:= rg [Qa 109 10,
Qa 110 13,
Qo 111 26 109 110,
Qc 13 111]
def c8_36:= rg [Qa 112 13,
Qu 113 112 0]
def c8_37:= rg [Qf 4]
def c8_38:= rg [Qa 114 13,
Qa 115 12,
Qv 116 114 115]
def c8_39:= rg [Qf 4]
def c8_40:= rg [Qy 4]
def c8 : ACode := (.seq c8_0 (.seq c8_1 (.seq c8_2 (.seq (.seq c8_3 (.cond (.var 20) (.seq c8_4 .ret) .skip)) (.seq c8_5 (.seq c8_6 (.seq c8_7 (.seq (.seq c8_8 (.cond (.var 45) (.seq c8_9 .ret) .skip)) (.seq (.seq c8_10 (.cond (.var 50) (.seq c8_11 .ret) .skip)) (.seq c8_12 (.seq c8_13 (.seq (.seq c8_14 (.cond (.var 67) (.seq c8_15 .ret) .skip)) (.seq c8_16 (.seq c8_17 (.seq c8_18 (.seq c8_19 (.seq c8_20 (.seq (.seq c8_21 (.cond (.var 78) (.seq c8_22 .ret) .skip)) (.seq c8_23 (.seq (.seq c8_24 (.cond (.var 83) (.seq c8_25 .ret) .skip)) (.seq (.seq c8_26 (.cond (.var 86) (.seq c8_27 .ret) .skip)) (.seq c8_28 (.seq (.seq c8_29 (.cond (.var 103) (.seq c8_30 .ret) .skip)) (.seq c8_31 (.seq c8_32 (.seq (.seq c8_33 (.cond (.var 108) (.seq c8_34 .ret) .skip)) (.seq c8_35 (.seq (.seq c8_36 (.cond (.var 113) (.seq c8_37 .ret) .skip)) (.seq (.seq c8_38 (.cond (.var 116) (.seq c8_39 .ret) .skip)) (.seq c8_40 .ret))))))))))))))))))))))))))))))
abbrev F_L_FnExactCutToken : FuncId := 8
theorem v_L_FnExactCutToken : VT 2 1 Tryz.f8 8 [0,1,2,4,5,6,7,8,9,10,11,12,13,14,15,20,45,50,67,78,83,86,103,108,113,116] [none, none] [(.give, 4, none)] c8 := mkV Tryz.func8 rfl rfl (by kernel_rfl) (by kernel_rfl) rfl rfl
def c11_0:= rg [Qh 2 0,
Qe 4 0]
def c11_1:= rg [Qb 5 3 2,
Qp 6 1 5,
Qa 7 1,
Qo 8 44 6 7,
Qc 1 8]
def c11_2:= rg [Qa 9 1,
Qu 10 9 0]
def c11_3:= rg [Qe 4 (-1)]
def c11_4:= rg [Qb 11 4 2,
Qp 12 1 11,
Qa 13 1,
Qo 14 45 12 13,
Qc 1 14]
def c11_5:= rg [Qa 15 1,
Qu 16 15 0]
def c11_6:= rg [Qe 4 (-1)]
def c11_7:= rg [Qb 17 5 2,
Qp 18 3 17,
Qa 19 1,
Qo 20 46 18 19,
Qc 1 20]
def c11_8:= rg [Qa 21 1,
Qu 22 21 0]
def c11_9:= rg [Qe 4 (-1)]
def c11_10:= rg [Qb 23 8 2,
Qp 24 1 23,
Qa 25 1,
Qo 26 47 24 25,
Qc 1 26]
def c11_11:= rg [Qa 27 1,
Qu 28 27 0]
def c11_12:= rg [Qe 4 (-1)]
def c11_13:= rg [Qb 29 9 2,
Qd 30 1 29,
Qa 31 1,
Qo 32 48 30 31,
Qc 1 32]
def c11_14:= rg [Qa 33 1,
Qu 34 33 0]
def c11_15:= rg [Qe 4 (-1)]
def c11_16:= rg [Qa 35 1,
Qc 4 35]
def c11 : ACode := (.seq c11_0 (.seq c11_1 (.seq (.seq c11_2 (.cond (.var 10) (.seq c11_3 .ret) .skip)) (.seq c11_4 (.seq (.seq c11_5 (.cond (.var 16) (.seq c11_6 .ret) .skip)) (.seq c11_7 (.seq (.seq c11_8 (.cond (.var 22) (.seq c11_9 .ret) .skip)) (.seq c11_10 (.seq (.seq c11_11 (.cond (.var 28) (.seq c11_12 .ret) .skip)) (.seq c11_13 (.seq (.seq c11_14 (.cond (.var 34) (.seq c11_15 .ret) .skip)) (.seq c11_16 .ret))))))))))))
abbrev F_L_szWorld : FuncId := 11
theorem v_L_szWorld : VT 2 1 Tryz.f11 11 [0,1,2,4,10,16,22,28,34] [none, none] [(.give, 4, none)] c11 := mkV Tryz.func11 rfl rfl (by kernel_rfl) (by kernel_rfl) rfl rfl
def c12_0:= rg [Qh 1 0,
Qf 2]
def c12_1:= rg [Qb 9 0 1,
Qd 10 1 9,
Qbo 11 49 10 0 1000000000,
Qba 12 11,
Qn 13 12,
Qag 14 1 1 13,
Qaq 15 1 14 13,
Qbj 16 49 15 1 1000000000 13,
Qaj 17 16 13,
Qan 18 13 17,
Qn 19 18,
Qag 20 2 1 19,
Qaq 21 1 20 19,
Qbj 22 49 21 0 1000000000 19,
Qaj 23 22 19,
Qan 24 19 23,
Qn 25 24,
Qag 26 3 1 25,
Qbz 27 1 26 25,
Qbp 28 50 27 25,
Qaj 29 28 25,
Qan 30 25 29,
Qn 31 30,
Qag 32 4 1 31,
Qbz 33 1 32 31,
Qbp 34 51 33 31,
Qaj 35 34 31,
Qan 36 31 35,
Qn 37 36,
Qag 38 5 1 37,
Qbz 39 3 38 37,
Qbp 40 52 39 37,
Qaj 41 40 37,
Qan 42 37 41,
Qn 43 42,
Qag 44 8 1 43,
Qbz 45 1 44 43,
Qbp 46 53 45 43,
Qaj 47 46 43,
Qar 48 43 47]
def c12_2:= rg [Qf 2]
def c12_3:= rg [Qe 3 0]
def c12_4:= rg [Qa 49 3,
Qb 50 3 1,
Qt 51 0 50,
Qd 52 1 51,
Qj 53 52,
Qq 54 49 53]
def c12_5 : ACode := .reg [Qb 57 3 1,
  Qah 58 0 57 [0],
  Qr 59 1 58 [1,0],
  Qa 60 3,
  Qw 61 7 59 60 [2,1,0,3],
  Qah 62 0 61 [4,2,1,0,3],
  Qr 63 1 62 [5,4,2,1,0,3],
  Qb 64 1 1,
  Qr 65 1 64 [7],
  ⟨.var 66, .bin .int .geq (.loc 63) (.loc 65), none, [6, 5, 4, 2, 1, 0, 3, 8, 7]⟩] true
def c12_6:= rg [Qf 2]
def c12_7:= rg [Qa 55 3,
Qi 56 55 1,
Qc 3 56]
def c12_8 : ACode := (.seq (.seq c12_4 (.cond (.var 54) .skip (.exit 0))) (.seq (.block 1 (.seq c12_5 (.cond (.var 66) (.seq c12_6 .ret) .skip))) c12_7))
def c12_9:= rg [Qe 4 0]
def c12_10:= rg [Qa 67 4,
Qb 68 4 1,
Qt 69 0 68,
Qd 70 1 69,
Qj 71 70,
Qq 72 67 71]
def c12_11 : ACode := .reg [Qb 75 4 1,
  Qah 76 0 75 [0],
  Qr 77 1 76 [1,0],
  Qa 78 4,
  Qw 79 6 77 78 [2,1,0,3],
  Qah 80 0 79 [4,2,1,0,3],
  Qr 81 1 80 [5,4,2,1,0,3],
  Qb 82 1 1,
  Qr 83 1 82 [7],
  ⟨.var 84, .bin .int .geq (.loc 81) (.loc 83), none, [6, 5, 4, 2, 1, 0, 3, 8, 7]⟩] true
def c12_12:= rg [Qf 2]
def c12_13:= rg [Qa 73 4,
Qi 74 73 1,
Qc 4 74]
def c12_14 : ACode := (.seq (.seq c12_10 (.cond (.var 72) .skip (.exit 2))) (.seq (.block 3 (.seq c12_11 (.cond (.var 84) (.seq c12_12 .ret) .skip))) c12_13))
def c12_15:= rg [Qb 85 9 1,
Qd 86 1 85,
Qj 87 86,
Qb 88 4 1,
Qt 89 0 88,
Qd 90 1 89,
Qj 91 90,
⟨.var 92, .bin .int .gtr (.loc 87) (.loc 91), none, []⟩]
def c12_16:= rg [Qf 2]
def c12_17:= rg [Qe 5 0]
def c12_18:= rg [Qa 93 5,
Qb 94 9 1,
Qd 95 1 94,
Qj 96 95,
Qq 97 93 96]
def c12_19 : ACode := .reg [Qb 101 4 1,
  Qai 102 1 101 [0],
  Qb 103 9 1,
  Qr 104 1 103 [2],
  Qa 105 5,
  Qw 106 2 104 105 [3,2,4],
  Qah 107 0 106 [5,3,2,4],
  Qr 108 1 107 [6,5,3,2,4],
  Qcc 109 54 102 108 [1,0,7,6,5,3,2,4],
  ⟨.loc 100, .mv (.loc 109), none, [8, 1, 0, 7, 6, 5, 3, 2, 4]⟩,
  Qbq 110 100 0 [9,8,1,0,7,6,5,3,2,4],
  Qbq 111 100 1 [9,8,1,0,7,6,5,3,2,4],
  ⟨.loc 6, .alloc [.d (.int .i64 0), .d (.int .i64 0), .d (.str []), .d (.int .i64 0), .d (.int .i64 0), .d (.int .i64 0)], none, []⟩,
  Qav 6 6 110 [10,9,8,1,0,7,6,5,3,2,4,12],
  Qbr 7 111 [11,13,10,9,8,1,0,7,6,5,3,2,4,12]] true
def c12_20 : ACode := .reg [Qa 112 7,
  Qca 113 112 [0],
  Qao 114 113 [1,0],
  Qbk 115 9 1 114 [2,1,0],
  Qbl 116 1 115 114 [3,2,1,0],
  Qbm 117 5 114 [2,1,0],
  ⟨.loc 118, .idxA 2 (.loc 116) (.loc 117), some ((.loc 114), false), [4, 3, 5, 2, 1, 0]⟩,
  ⟨.loc 119, .fld 1 (.loc 118), some ((.loc 114), false), [6, 4, 3, 5, 2, 1, 0]⟩,
  Qbl 120 1 119 114 [7,6,4,3,5,2,1,0],
  ⟨.loc 121, .call (.fn 55) [(.loc 120)] [.borrow], some ((.loc 114), false), [8, 7, 6, 4, 3, 5, 2, 1, 0]⟩,
  ⟨.loc 122, .un .not (.loc 121), some ((.loc 114), false), [9, 8, 7, 6, 4, 3, 5, 2, 1, 0]⟩,
  Qcj 123 114 122 [10,9,8,7,6,4,3,5,2,1,0],
  Qao 124 123 [11,10,9,8,7,6,4,3,5,2,1,0],
  Qbm 125 5 124 [12,11,10,9,8,7,6,4,3,5,2,1,0],
  Qcd 126 125 0 124 [13,12,11,10,9,8,7,6,4,3,5,2,1,0],
  Qbs 127 126 124 [14,13,12,11,10,9,8,7,6,4,3,5,2,1,0],
  Qal 128 9 1 127 [15,14,13,12,11,10,9,8,7,6,4,3,5,2,1,0],
  Qz 129 1 128 127 [16,15,14,13,12,11,10,9,8,7,6,4,3,5,2,1,0],
  Qaw 130 5 127 [15,14,13,12,11,10,9,8,7,6,4,3,5,2,1,0],
  Qbn 131 130 1 127 [18,15,14,13,12,11,10,9,8,7,6,4,3,5,2,1,0],
  Qbb 132 2 129 131 127 [17,16,19,18,15,14,13,12,11,10,9,8,7,6,4,3,5,2,1,0],
  Qbc 133 0 132 127 [20,17,16,19,18,15,14,13,12,11,10,9,8,7,6,4,3,5,2,1,0],
  Qz 134 1 133 127 [21,20,17,16,19,18,15,14,13,12,11,10,9,8,7,6,4,3,5,2,1,0],
  Qal 135 9 1 127 [15,14,13,12,11,10,9,8,7,6,4,3,5,2,1,0],
  Qz 136 1 135 127 [23,15,14,13,12,11,10,9,8,7,6,4,3,5,2,1,0],
  Qaw 137 5 127 [15,14,13,12,11,10,9,8,7,6,4,3,5,2,1,0],
  Qbb 138 2 136 137 127 [24,23,25,15,14,13,12,11,10,9,8,7,6,4,3,5,2,1,0],
  Qbc 139 0 138 127 [26,24,23,25,15,14,13,12,11,10,9,8,7,6,4,3,5,2,1,0],
  Qz 140 1 139 127 [27,26,24,23,25,15,14,13,12,11,10,9,8,7,6,4,3,5,2,1,0],
  Qce 141 134 140 127 [22,21,20,17,16,19,18,28,27,26,24,23,25,15,14,13,12,11,10,9,8,7,6,4,3,5,2,1,0],
  Qbt 142 127 141 124 [29,22,21,20,17,16,19,18,28,27,26,24,23,25,15,14,13,12,11,10,9,8,7,6,4,3,5,2,1,0],
  Qbu 143 124 142 [30,29,22,21,20,17,16,19,18,28,27,26,24,23,25,15,14,13,12,11,10,9,8,7,6,4,3,5,2,1,0]] true
def c12_21:= rg [Qf 2]
def c12_22:= rg [Qe 8 0]
def c12_23:= rg [Qa 144 8,
Qa 145 5,
Qq 146 144 145]
def c12_24 : ACode := .reg [Qb 149 9 1,
  Qr 150 1 149 [0],
  Qa 151 8,
  Qw 152 2 150 151 [1,0,2],
  Qah 153 1 152 [3,1,0,2],
  Qr 154 1 153 [4,3,1,0,2],
  Qb 155 9 1,
  Qr 156 1 155 [6],
  Qa 157 5,
  Qw 158 2 156 157 [7,6,8],
  Qah 159 1 158 [9,7,6,8],
  Qr 160 1 159 [10,9,7,6,8],
  ⟨.var 161, .bin .str .eql (.loc 154) (.loc 160), none, [5, 4, 3, 1, 0, 2, 11, 10, 9, 7, 6, 8]⟩] true
def c12_25:= rg [Qf 2]
def c12_26:= rg [Qa 147 8,
Qi 148 147 1,
Qc 8 148]
def c12_27 : ACode := (.seq (.seq c12_23 (.cond (.var 146) .skip (.exit 6))) (.seq (.block 7 (.seq c12_24 (.cond (.var 161) (.seq c12_25 .ret) .skip))) c12_26))
def c12_28:= rg [Qa 98 5,
Qi 99 98 1,
Qc 5 99]
def c12_29 : ACode := (.seq (.seq c12_18 (.cond (.var 97) .skip (.exit 4))) (.seq (.block 5 (.seq c12_19 (.seq (.seq c12_20 (.cond (.var 143) (.seq c12_21 .ret) .skip)) (.seq c12_22 (.block 6 (.loop [1, 5, 8] c12_27)))))) c12_28))
def c12_30:= rg [Qy 2]
def c12 : ACode := (.seq c12_0 (.seq (.seq c12_1 (.cond (.var 48) (.seq c12_2 .ret) .skip)) (.seq (.seq c12_3 (.block 0 (.loop [1, 3] c12_8))) (.seq (.seq c12_9 (.block 2 (.loop [1, 4] c12_14))) (.seq (.seq c12_15 (.cond (.var 92) (.seq c12_16 .ret) .skip)) (.seq (.seq c12_17 (.block 4 (.loop [1, 5] c12_29))) (.seq c12_30 .ret)))))))
abbrev F_S_WorldOk : FuncId := 12
theorem v_S_WorldOk : VT 1 1 Tryz.f12 12 [0,1,2,3,4,5,7,8,48,54,66,72,84,92,97,143,146,161] [none] [(.give, 2, none)] c12 := mkV Tryz.func12 rfl rfl (by kernel_rfl) (by kernel_rfl) rfl rfl
def c13_0:= rg [Qh 1 0,
Qay 2 0 0 0 1 7 0 6 0 2 0 0 0 3 0 2]
def c13_1:= rg [Qay 3 0 0 0 1 7 0 6 0 2 0 0 0 3 0 2]
def c13_2:= rg [Qb 4 0 1,
Qd 5 1 4,
Qb 6 0 3,
Ql 1 6 5]
def c13_3:= rg [Qb 7 1 1,
Qd 8 1 7,
Qb 9 1 3,
Ql 1 9 8]
def c13_4:= rg [Qb 10 2 1,
Qd 11 1 10,
Qb 12 2 3,
Ql 1 12 11]
def c13_5:= rg [Qb 13 3 1,
Qp 14 1 13,
Qs 15 56 14,
Qb 16 3 3,
Ql 1 16 15]
def c13_6:= rg [Qb 17 4 1,
Qp 18 1 17,
Qs 19 57 18,
Qb 20 4 3,
Ql 1 20 19]
def c13_7:= rg [Qb 21 5 1,
Qp 22 3 21,
Qs 23 58 22,
Qb 24 5 3,
Ql 3 24 23]
def c13_8:= rg [Qb 25 8 1,
Qp 26 1 25,
Qs 27 59 26,
Qb 28 8 3,
Ql 1 28 27]
def c13_9:= rg [Qb 29 9 1,
Qd 30 1 29,
Qs 31 60 30,
Qb 32 9 3,
Ql 1 32 31]
def c13_10:= rg [Qg 33 10 3,
Qk 10 2 33]
def c13 : ACode := (.seq c13_0 (.seq c13_1 (.seq c13_2 (.seq c13_3 (.seq c13_4 (.seq c13_5 (.seq c13_6 (.seq c13_7 (.seq c13_8 (.seq c13_9 (.seq c13_10 .ret)))))))))))
abbrev F_L_toWorld : FuncId := 13
theorem v_L_toWorld : VT 1 1 Tryz.f13 13 [0,1,2,3] [none] [(.give, 2, some (true, 10))] c13 := mkV Tryz.func13 rfl rfl (by kernel_rfl) (by kernel_rfl) rfl rfl
def c15_0:= rg [Qh 2 0,
Qh 3 1,
Qf 4]
def c15_1:= rg [Qb 5 0 2,
Qd 6 1 5,
Qb 7 0 3,
Qd 8 1 7,
Qv 9 6 8]
def c15_2:= rg [Qf 4]
def c15_3:= rg [Qb 10 1 2,
Qd 11 1 10,
Qb 12 1 3,
Qd 13 1 12,
Qv 14 11 13]
def c15_4:= rg [Qf 4]
def c15_5:= rg [Qb 15 2 2,
Qd 16 1 15,
Qb 17 2 3,
Qd 18 1 17,
Qv 19 16 18]
def c15_6:= rg [Qf 4]
def c15_7:= rg [Qb 20 3 2,
Qp 21 1 20,
Qb 22 3 3,
Qp 23 1 22,
Qo 24 62 21 23,
Qam 25 24]
def c15_8:= rg [Qf 4]
def c15_9:= rg [Qb 26 4 2,
Qp 27 1 26,
Qb 28 4 3,
Qp 29 1 28,
Qo 30 63 27 29,
Qam 31 30]
def c15_10:= rg [Qf 4]
def c15_11:= rg [Qb 32 5 2,
Qp 33 3 32,
Qb 34 5 3,
Qp 35 3 34,
Qo 36 64 33 35,
Qam 37 36]
def c15_12:= rg [Qf 4]
def c15_13:= rg [Qb 38 8 2,
Qp 39 1 38,
Qb 40 8 3,
Qp 41 1 40,
Qo 42 65 39 41,
Qam 43 42]
def c15_14:= rg [Qf 4]
def c15_15:= rg [Qb 44 9 2,
Qd 45 1 44,
Qb 46 9 3,
Qd 47 1 46,
Qo 48 66 45 47,
Qam 49 48]
def c15_16:= rg [Qf 4]
def c15_17:= rg [Qy 4]
def c15 : ACode := (.seq c15_0 (.seq (.seq c15_1 (.cond (.var 9) (.seq c15_2 .ret) .skip)) (.seq (.seq c15_3 (.cond (.var 14) (.seq c15_4 .ret) .skip)) (.seq (.seq c15_5 (.cond (.var 19) (.seq c15_6 .ret) .skip)) (.seq (.seq c15_7 (.cond (.var 25) (.seq c15_8 .ret) .skip)) (.seq (.seq c15_9 (.cond (.var 31) (.seq c15_10 .ret) .skip)) (.seq (.seq c15_11 (.cond (.var 37) (.seq c15_12 .ret) .skip)) (.seq (.seq c15_13 (.cond (.var 43) (.seq c15_14 .ret) .skip)) (.seq (.seq c15_15 (.cond (.var 49) (.seq c15_16 .ret) .skip)) (.seq c15_17 .ret))))))))))
abbrev F_L_eqWorld : FuncId := 15
theorem v_L_eqWorld : VT 2 1 Tryz.f15 15 [0,1,2,3,4,9,14,19,25,31,37,43,49] [none, none] [(.give, 4, none)] c15 := mkV Tryz.func15 rfl rfl (by kernel_rfl) (by kernel_rfl) rfl rfl
def c18_0:= rg [Qf 4]
def c18_1:= rg [Qa 6 0,
Qj 7 6,
Qa 8 1,
Qj 9 8,
Qv 10 7 9]
def c18_2:= rg [Qf 4]
def c18_3:= rg [Qe 5 0]
def c18_4:= rg [Qa 11 5,
Qa 12 0,
Qj 13 12,
Qq 14 11 13]
def c18_5 : ACode := .reg [Qa 17 0,
  Qa 18 5,
  Qw 19 1 17 18 [0,1],
  Qr 20 1 19 [2,0,1],
  Qa 21 1,
  Qa 22 5,
  Qw 23 1 21 22 [4,5],
  Qr 24 1 23 [6,4,5],
  Qck 25 20 24 [3,2,0,1,7,6,4,5]] true
def c18_6:= rg [Qf 4]
def c18_7:= rg [Qa 15 5,
Qi 16 15 1,
Qc 5 16]
def c18_8 : ACode := (.seq (.seq c18_4 (.cond (.var 14) .skip (.exit 0))) (.seq (.block 1 (.seq c18_5 (.cond (.var 25) (.seq c18_6 .ret) .skip))) c18_7))
def c18_9:= rg [Qy 4]
def c18 : ACode := (.seq c18_0 (.seq (.seq c18_1 (.cond (.var 10) (.seq c18_2 .ret) .skip)) (.seq (.seq c18_3 (.block 0 (.loop [0, 1, 5] c18_8))) (.seq c18_9 .ret))))
abbrev F_L_eqStringS : FuncId := 18
theorem v_L_eqStringS : VT 2 1 Tryz.f18 18 [0,1,4,5,10,14,25] [none, none] [(.give, 4, none)] c18 := mkV Tryz.func18 rfl rfl (by kernel_rfl) (by kernel_rfl) rfl rfl
def c19_0:= rg [Qh 2 0,
Qe 4 0]
def c19_1:= rg [Qb 5 3 2,
Qp 6 1 5,
Qa 7 1,
Qbe 8 70 6 7,
Qc 1 8]
def c19_2:= rg [Qb 9 4 2,
Qp 10 1 9,
Qa 11 1,
Qbe 12 71 10 11,
Qc 1 12]
def c19_3:= rg [Qb 13 5 2,
Qp 14 3 13,
Qa 15 1,
Qbe 16 72 14 15,
Qc 1 16]
def c19_4:= rg [Qb 17 8 2,
Qp 18 1 17,
Qa 19 1,
Qbe 20 73 18 19,
Qc 1 20]
def c19_5:= rg [Qb 21 9 2,
Qd 22 1 21,
Qa 23 1,
Qbe 24 74 22 23,
Qc 1 24]
def c19_6:= rg [Qa 25 1,
Qc 4 25]
def c19 : ACode := (.seq c19_0 (.seq c19_1 (.seq c19_2 (.seq c19_3 (.seq c19_4 (.seq c19_5 (.seq c19_6 .ret)))))))
abbrev F_L_markWorld : FuncId := 19
theorem v_L_markWorld : VT 2 1 Tryz.f19 19 [0,1,2,4] [some .give, none] [(.give, 4, none)] c19 := mkV Tryz.func19 rfl rfl (by kernel_rfl) (by kernel_rfl) rfl rfl
def c20_0:= rg [Qe 4 0]
def c20_1:= rg [Qe 5 0]
def c20_2:= rg [Qa 6 5,
Qa 7 0,
Qj 8 7,
Qq 9 6 8]
def c20_3:= rg [Qa 12 0,
Qa 13 5,
Qa 14 1,
Qs 15 75 14,
Qm 16 1 12 13,
Ql 1 16 15]
def c20_4:= rg [Qa 17 1,
Qi 18 17 1,
Qc 1 18]
def c20_5:= rg [Qa 10 5,
Qi 11 10 1,
Qc 5 11]
def c20_6 : ACode := (.seq (.seq c20_2 (.cond (.var 9) .skip (.exit 0))) (.seq (.block 1 (.seq c20_3 c20_4)) c20_5))
def c20_7:= rg [Qa 19 1,
Qc 4 19]
def c20 : ACode := (.seq c20_0 (.seq (.seq c20_1 (.block 0 (.loop [0, 1, 5] c20_6))) (.seq c20_7 .ret)))
abbrev F_L_markStringS : FuncId := 20
theorem v_L_markStringS : VT 2 1 Tryz.f20 20 [0,1,4,5,9] [some .give, none] [(.give, 4, none)] c20 := mkV Tryz.func20 rfl rfl (by kernel_rfl) (by kernel_rfl) rfl rfl
def c21_0:= rg [Qe 4 0]
def c21_1:= rg [Qe 5 0]
def c21_2:= rg [Qa 6 5,
Qa 7 0,
Qj 8 7,
Qq 9 6 8]
def c21_3 : ACode := .reg [Qa 12 0,
  Qa 13 5,
  Qw 14 1 12 13 [0,1],
  Qr 15 1 14 [2,0,1],
  Qa 16 1,
  Qak 17 75 16 [4],
  Qck 18 15 17 [3,2,0,1,5,4]] true
def c21_4:= rg [Qe 4 (-1)]
def c21_5:= rg [Qa 19 1,
Qi 20 19 1,
Qc 1 20]
def c21_6:= rg [Qa 10 5,
Qi 11 10 1,
Qc 5 11]
def c21_7 : ACode := (.seq (.seq c21_2 (.cond (.var 9) .skip (.exit 0))) (.seq (.block 1 (.seq (.seq c21_3 (.cond (.var 18) (.seq c21_4 .ret) .skip)) c21_5)) c21_6))
def c21_8:= rg [Qa 21 1,
Qc 4 21]
def c21 : ACode := (.seq c21_0 (.seq (.seq c21_1 (.block 0 (.loop [0, 1, 5] c21_7))) (.seq c21_8 .ret)))
abbrev F_L_heldStringS : FuncId := 21
theorem v_L_heldStringS : VT 2 1 Tryz.f21 21 [0,1,4,5,9,18] [none, none] [(.give, 4, none)] c21 := mkV Tryz.func21 rfl rfl (by kernel_rfl) (by kernel_rfl) rfl rfl
def c24_0:= rg [Qf 4]
def c24_1:= rg [Qa 6 0,
Qj 7 6,
Qa 8 1,
Qj 9 8,
Qv 10 7 9]
def c24_2:= rg [Qf 4]
def c24_3:= rg [Qe 5 0]
def c24_4:= rg [Qa 11 5,
Qa 12 0,
Qj 13 12,
Qq 14 11 13]
def c24_5 : ACode := .reg [Qa 17 0,
  Qa 18 5,
  Qw 19 1 17 18 [0,1],
  Qr 20 1 19 [2,0,1],
  Qa 21 1,
  Qa 22 5,
  Qw 23 1 21 22 [4,5],
  Qr 24 1 23 [6,4,5],
  ⟨.var 25, .bin .int .neq (.loc 20) (.loc 24), none, [3, 2, 0, 1, 7, 6, 4, 5]⟩] true
def c24_6:= rg [Qf 4]
def c24_7:= rg [Qa 15 5,
Qi 16 15 1,
Qc 5 16]
def c24_8 : ACode := (.seq (.seq c24_4 (.cond (.var 14) .skip (.exit 0))) (.seq (.block 1 (.seq c24_5 (.cond (.var 25) (.seq c24_6 .ret) .skip))) c24_7))
def c24_9:= rg [Qy 4]
def c24 : ACode := (.seq c24_0 (.seq (.seq c24_1 (.cond (.var 10) (.seq c24_2 .ret) .skip)) (.seq (.seq c24_3 (.block 0 (.loop [0, 1, 5] c24_8))) (.seq c24_9 .ret))))
abbrev F_L_eqIntS : FuncId := 24
theorem v_L_eqIntS : VT 2 1 Tryz.f24 24 [0,1,4,5,10,14,25] [none, none] [(.give, 4, none)] c24 := mkV Tryz.func24 rfl rfl (by kernel_rfl) (by kernel_rfl) rfl rfl
def c25_0:= rg [Qe 4 0]
def c25_1:= rg [Qe 5 0]
def c25_2:= rg [Qa 6 5,
Qa 7 0,
Qj 8 7,
Qq 9 6 8]
def c25_3:= rg [Qa 12 0,
Qa 13 5,
Qa 14 1,
Qm 15 1 12 13,
Ql 1 15 14]
def c25_4:= rg [Qa 16 1,
Qi 17 16 1,
Qc 1 17]
def c25_5:= rg [Qa 10 5,
Qi 11 10 1,
Qc 5 11]
def c25_6 : ACode := (.seq (.seq c25_2 (.cond (.var 9) .skip (.exit 0))) (.seq (.block 1 (.seq c25_3 c25_4)) c25_5))
def c25_7:= rg [Qa 18 1,
Qc 4 18]
def c25 : ACode := (.seq c25_0 (.seq (.seq c25_1 (.block 0 (.loop [0, 1, 5] c25_6))) (.seq c25_7 .ret)))
abbrev F_L_markIntS : FuncId := 25
theorem v_L_markIntS : VT 2 1 Tryz.f25 25 [0,1,4,5,9] [some .give, none] [(.give, 4, none)] c25 := mkV Tryz.func25 rfl rfl (by kernel_rfl) (by kernel_rfl) rfl rfl
def c26_0:= rg [Qe 4 0]
def c26_1:= rg [Qe 5 0]
def c26_2:= rg [Qa 6 5,
Qa 7 0,
Qj 8 7,
Qq 9 6 8]
def c26_3:= rg [Qa 12 0,
Qa 13 5,
Qm 14 1 12 13,
Qd 15 1 14,
Qa 16 1,
Qv 17 15 16]
def c26_4:= rg [Qe 4 (-1)]
def c26_5:= rg [Qa 18 1,
Qi 19 18 1,
Qc 1 19]
def c26_6:= rg [Qa 10 5,
Qi 11 10 1,
Qc 5 11]
def c26_7 : ACode := (.seq (.seq c26_2 (.cond (.var 9) .skip (.exit 0))) (.seq (.block 1 (.seq (.seq c26_3 (.cond (.var 17) (.seq c26_4 .ret) .skip)) c26_5)) c26_6))
def c26_8:= rg [Qa 20 1,
Qc 4 20]
def c26 : ACode := (.seq c26_0 (.seq (.seq c26_1 (.block 0 (.loop [0, 1, 5] c26_7))) (.seq c26_8 .ret)))
abbrev F_L_heldIntS : FuncId := 26
theorem v_L_heldIntS : VT 2 1 Tryz.f26 26 [0,1,4,5,9,17] [none, none] [(.give, 4, none)] c26 := mkV Tryz.func26 rfl rfl (by kernel_rfl) (by kernel_rfl) rfl rfl
def c29_0:= rg [Qh 2 0,
Qe 4 0]
def c29_1:= rg [Qb 5 3 2,
Qp 6 1 5,
Qa 7 1,
Qo 8 87 6 7,
Qc 1 8]
def c29_2:= rg [Qa 9 1,
Qu 10 9 0]
def c29_3:= rg [Qe 4 (-1)]
def c29_4:= rg [Qb 11 4 2,
Qp 12 1 11,
Qa 13 1,
Qo 14 88 12 13,
Qc 1 14]
def c29_5:= rg [Qa 15 1,
Qu 16 15 0]
def c29_6:= rg [Qe 4 (-1)]
def c29_7:= rg [Qb 17 5 2,
Qp 18 3 17,
Qa 19 1,
Qo 20 89 18 19,
Qc 1 20]
def c29_8:= rg [Qa 21 1,
Qu 22 21 0]
def c29_9:= rg [Qe 4 (-1)]
def c29_10:= rg [Qb 23 8 2,
Qp 24 1 23,
Qa 25 1,
Qo 26 90 24 25,
Qc 1 26]
def c29_11:= rg [Qa 27 1,
Qu 28 27 0]
def c29_12:= rg [Qe 4 (-1)]
def c29_13:= rg [Qb 29 9 2,
Qd 30 1 29,
Qa 31 1,
Qo 32 91 30 31,
Qc 1 32]
def c29_14:= rg [Qa 33 1,
Qu 34 33 0]
def c29_15:= rg [Qe 4 (-1)]
def c29_16:= rg [Qa 35 1,
Qc 4 35]
def c29 : ACode := (.seq c29_0 (.seq c29_1 (.seq (.seq c29_2 (.cond (.var 10) (.seq c29_3 .ret) .skip)) (.seq c29_4 (.seq (.seq c29_5 (.cond (.var 16) (.seq c29_6 .ret) .skip)) (.seq c29_7 (.seq (.seq c29_8 (.cond (.var 22) (.seq c29_9 .ret) .skip)) (.seq c29_10 (.seq (.seq c29_11 (.cond (.var 28) (.seq c29_12 .ret) .skip)) (.seq c29_13 (.seq (.seq c29_14 (.cond (.var 34) (.seq c29_15 .ret) .skip)) (.seq c29_16 .ret))))))))))))
abbrev F_L_heldWorld : FuncId := 29
theorem v_L_heldWorld : VT 2 1 Tryz.f29 29 [0,1,2,4,10,16,22,28,34] [none, none] [(.give, 4, none)] c29 := mkV Tryz.func29 rfl rfl (by kernel_rfl) (by kernel_rfl) rfl rfl
def c32_0:= rg [Qh 2 0,
Qay 4 0 0 0 1 7 0 6 0 2 0 0 0 3 0 2,
Qaa 5 0 1]
def c32_1:= rg [Qg 11 10 2,
Qs 12 81 11,
Qay 6 0 0 0 1 7 0 6 0 2 0 0 0 3 0 2,
Qk 10 6 12]
def c32_2:= rg [Qg 13 10 2,
Qs 14 12 13,
Qam 15 14]
def c32_3:= rg [Qg 16 10 6,
Qk 10 4 16,
Qaa 5 0 1]
def c32_4:= rg [Qb 18 3 2,
Qp 19 1 18,
Qa 20 1,
Qo 21 97 19 20,
Qbf 17 21,
Qac 22 17 0,
Qac 23 17 1,
Qx 7 1 7,
Qk 1 7 22,
Qc 8 23]
def c32_5:= rg [Qa 24 8,
Qj 25 24,
Qcl 26 25 0]
def c32_6:= rg [Qg 27 10 6,
Qk 10 4 27,
Qaa 5 0 1]
def c32_7:= rg [Qb 29 4 2,
Qp 30 1 29,
Qa 31 8,
Qo 32 98 30 31,
Qbf 28 32,
Qac 33 28 0,
Qac 34 28 1,
Qx 9 0 6,
Qk 1 9 33,
Qc 10 34]
def c32_8:= rg [Qg 35 1 7,
Qb 36 3 6,
Ql 1 36 35]
def c32_9:= rg [Qg 37 1 9,
Qb 38 4 6,
Ql 1 38 37]
def c32_10:= rg [Qg 40 10 6,
Qa 41 10,
⟨.loc 42, .call (.fn 93) [(.loc 40), (.loc 41)] [.give, .borrow], none, []⟩,
Qbf 39 42,
Qac 43 39 0,
Qac 44 39 1,
Qac 45 39 2,
Qk 10 6 43]
def c32_11:= rg [Qg 46 10 6,
Qa 47 8,
Qk 10 4 46,
Qc 5 47]
def c32 : ACode := (.seq c32_0 (.seq c32_1 (.seq (.seq c32_2 (.cond (.var 15) (.seq c32_3 .ret) .skip)) (.seq c32_4 (.seq (.seq c32_5 (.cond (.var 26) (.seq c32_6 .ret) .skip)) (.seq c32_7 (.seq c32_8 (.seq c32_9 (.seq c32_10 (.seq c32_11 .ret))))))))))
abbrev F_S_CutToken : FuncId := 32
theorem v_S_CutToken : VT 2 2 Tryz.f32 32 [0,1,2,4,5,6,7,8,9,10,15,26] [none, none] [(.give, 4, some (true, 10)), (.give, 5, none)] c32 := mkV Tryz.func32 rfl rfl (by kernel_rfl) (by kernel_rfl) rfl rfl
def c33_0:= rg [Qh 2 0,
Qay 4 0 0 0 1 7 0 6 0 2 0 0 0 3 0 2,
Qaa 5 0 1]
def c33_1:= rg [Qg 6 10 2,
Qs 7 61 6,
Qba 8 7,
Qn 9 8,
Qag 10 3 2 9,
Qbz 11 1 10 9,
Qap 12 1 9,
Qci 13 99 11 12 9,
⟨.loc 14, .bin .int .lss (.loc 13) (.const (.d (.int .i64 0))), some ((.loc 9), false), []⟩,
Qar 15 9 14]
def c33_2:= rg [Qg 16 10 2,
Qs 17 85 16,
Qk 10 4 17,
Qaa 5 0 1]
def c33_3:= rg [Qg 18 10 2,
Qa 19 1,
Qo 20 100 18 19,
Qac 21 20 0,
Qac 22 20 1,
Qk 10 4 21,
Qc 5 22]
def c33 : ACode := (.seq c33_0 (.seq (.seq c33_1 (.cond (.var 15) (.seq c33_2 .ret) .skip)) (.seq c33_3 .ret)))
abbrev F_I_CutToken : FuncId := 33
theorem v_I_CutToken : VT 2 2 Tryz.f33 33 [0,1,2,4,5,15] [none, none] [(.give, 4, some (true, 10)), (.give, 5, none)] c33 := mkV Tryz.func33 rfl rfl (by kernel_rfl) (by kernel_rfl) rfl rfl
def c43_0:= rg [Qh 2 0,
Qh 3 1,
Qf 4]
def c43_1:= rg [Qb 5 0 2,
Qd 6 1 5,
Qb 7 0 3,
Qd 8 1 7,
Qco 9 6 8]
def c43_2:= rg [Qf 4]
def c43_3:= rg [Qb 10 1 2,
Qd 11 1 10,
Qb 12 1 3,
Qd 13 1 12,
Qco 14 11 13]
def c43_4:= rg [Qf 4]
def c43_5:= rg [Qy 4]
def c43 : ACode := (.seq c43_0 (.seq (.seq c43_1 (.cond (.var 9) (.seq c43_2 .ret) .skip)) (.seq (.seq c43_3 (.cond (.var 14) (.seq c43_4 .ret) .skip)) (.seq c43_5 .ret))))
abbrev F_L_eqUser : FuncId := 43
theorem v_L_eqUser : VT 2 1 Tryz.f43 43 [0,1,2,3,4,9,14] [none, none] [(.give, 4, none)] c43 := mkV Tryz.func43 rfl rfl (by kernel_rfl) (by kernel_rfl) rfl rfl
def c44_0:= rg [Qh 2 0,
Qe 4 0]
def c44_1:= rg [Qb 5 0 2,
Qd 6 1 5,
Qa 7 1,
Qo 8 109 6 7,
Qc 1 8]
def c44_2:= rg [Qa 9 1,
Qu 10 9 0]
def c44_3:= rg [Qe 4 (-1)]
def c44_4:= rg [Qa 11 1,
Qc 4 11]
def c44 : ACode := (.seq c44_0 (.seq c44_1 (.seq (.seq c44_2 (.cond (.var 10) (.seq c44_3 .ret) .skip)) (.seq c44_4 .ret))))
abbrev F_L_szForest : FuncId := 44
theorem v_L_szForest : VT 2 1 Tryz.f44 44 [0,1,2,4,10] [none, none] [(.give, 4, none)] c44 := mkV Tryz.func44 rfl rfl (by kernel_rfl) (by kernel_rfl) rfl rfl
def c45_0:= rg [Qh 2 0,
Qe 4 0]
def c45_1:= rg [Qb 5 0 2,
Qd 6 1 5,
Qa 7 1,
Qo 8 110 6 7,
Qc 1 8]
def c45_2:= rg [Qa 9 1,
Qu 10 9 0]
def c45_3:= rg [Qe 4 (-1)]
def c45_4:= rg [Qa 11 1,
Qc 4 11]
def c45 : ACode := (.seq c45_0 (.seq c45_1 (.seq (.seq c45_2 (.cond (.var 10) (.seq c45_3 .ret) .skip)) (.seq c45_4 .ret))))
abbrev F_L_szBook : FuncId := 45
theorem v_L_szBook : VT 2 1 Tryz.f45 45 [0,1,2,4,10] [none, none] [(.give, 4, none)] c45 := mkV Tryz.func45 rfl rfl (by kernel_rfl) (by kernel_rfl) rfl rfl
def c46_0:= rg [Qh 2 0,
Qe 4 0]
def c46_1:= rg [Qb 5 0 2,
Qd 6 1 5,
Qa 7 1,
Qo 8 111 6 7,
Qc 1 8]
def c46_2:= rg [Qa 9 1,
Qu 10 9 0]
def c46_3:= rg [Qe 4 (-1)]
def c46_4:= rg [Qa 11 1,
Qc 4 11]
def c46 : ACode := (.seq c46_0 (.seq c46_1 (.seq (.seq c46_2 (.cond (.var 10) (.seq c46_3 .ret) .skip)) (.seq c46_4 .ret))))
abbrev F_L_szFar : FuncId := 46
theorem v_L_szFar : VT 2 1 Tryz.f46 46 [0,1,2,4,10] [none, none] [(.give, 4, none)] c46 := mkV Tryz.func46 rfl rfl (by kernel_rfl) (by kernel_rfl) rfl rfl
def c47_0:= rg [Qh 2 0,
Qe 4 0]
def c47_1:= rg [Qb 5 0 2,
Qd 6 1 5,
Qa 7 1,
Qo 8 112 6 7,
Qc 1 8]
def c47_2:= rg [Qa 9 1,
Qu 10 9 0]
def c47_3:= rg [Qe 4 (-1)]
def c47_4:= rg [Qa 11 1,
Qc 4 11]
def c47 : ACode := (.seq c47_0 (.seq c47_1 (.seq (.seq c47_2 (.cond (.var 10) (.seq c47_3 .ret) .skip)) (.seq c47_4 .ret))))
abbrev F_L_szQueue : FuncId := 47
theorem v_L_szQueue : VT 2 1 Tryz.f47 47 [0,1,2,4,10] [none, none] [(.give, 4, none)] c47 := mkV Tryz.func47 rfl rfl (by kernel_rfl) (by kernel_rfl) rfl rfl
def c48_0:= rg [Qe 4 0]
def c48_1:= rg [Qa 6 1,
Qa 7 0,
Qj 8 7,
Qbg 9 6 8,
Qc 1 9]
def c48_2:= rg [Qa 10 1,
Qu 11 10 0]
def c48_3:= rg [Qe 4 (-1)]
def c48_4:= rg [Qe 5 0]
def c48_5:= rg [Qa 12 5,
Qa 13 0,
Qj 14 13,
Qq 15 12 14]
def c48_6:= rg [Qa 18 0,
Qa 19 5,
Qm 20 2 18 19,
Qp 21 2 20,
Qa 22 1,
Qo 23 113 21 22,
Qc 1 23]
def c48_7:= rg [Qa 24 1,
Qu 25 24 0]
def c48_8:= rg [Qe 4 (-1)]
def c48_9:= rg [Qa 16 5,
Qi 17 16 1,
Qc 5 17]
def c48_10 : ACode := (.seq (.seq c48_5 (.cond (.var 15) .skip (.exit 0))) (.seq (.block 1 (.seq c48_6 (.seq c48_7 (.cond (.var 25) (.seq c48_8 .ret) .skip)))) c48_9))
def c48_11:= rg [Qa 26 1,
Qc 4 26]
def c48 : ACode := (.seq c48_0 (.seq c48_1 (.seq (.seq c48_2 (.cond (.var 11) (.seq c48_3 .ret) .skip)) (.seq (.seq c48_4 (.block 0 (.loop [0, 1, 5] c48_10))) (.seq c48_11 .ret)))))
abbrev F_L_szOwnedS : FuncId := 48
theorem v_L_szOwnedS : VT 2 1 Tryz.f48 48 [0,1,4,5,11,15,25] [none, none] [(.give, 4, none)] c48 := mkV Tryz.func48 rfl rfl (by kernel_rfl) (by kernel_rfl) rfl rfl
def c49_0:= rg [Qf 6]
def c49_1:= rg [Qa 7 1,
Qa 8 0,
⟨.loc 9, .bin .int .leq (.loc 7) (.loc 8), none, []⟩,
Qn 10 9,
Qae 11 0 10,
Qae 12 2 10,
⟨.loc 13, .bin .int .leq (.loc 11) (.loc 12), some ((.loc 10), true), []⟩,
Qaf 14 10 13,
Qc 6 14]
def c49 : ACode := (.seq c49_0 (.seq c49_1 .ret))
abbrev F_S_l01In : FuncId := 49
theorem v_S_l01In : VT 3 1 Tryz.f49 49 [0,1,2,6] [none, none, none] [(.give, 6, none)] c49 := mkV Tryz.func49 rfl rfl (by kernel_rfl) (by kernel_rfl) rfl rfl
def c50_0:= rg [Qh 1 0,
Qf 2]
def c50_1:= rg [Qb 5 0 1,
Qd 6 1 5,
Qj 7 6,
Qbv 8 7 120]
def c50_2:= rg [Qf 2]
def c50_3:= rg [Qe 3 0]
def c50_4:= rg [Qa 9 3,
Qb 10 0 1,
Qd 11 1 10,
Qj 12 11,
Qq 13 9 12]
def c50_5:= rg [Qb 16 0 1,
Qd 17 1 16,
Qa 18 3,
Qm 19 7 17 18,
Qp 20 7 19,
Qcf 4 0 0 0 1 0 0 0 0,
Qk 7 4 20]
def c50_6 : ACode := .reg [Qg 21 7 4,
  Qak 22 114 21 [0],
  Qca 23 22 [1,0],
  Qao 24 23 [2,1,0],
  Qbm 25 3 24 [3,2,1,0],
  Qcd 26 25 0 24 [4,3,2,1,0],
  Qbs 27 26 24 [5,4,3,2,1,0],
  Qal 28 0 1 27 [6,5,4,3,2,1,0],
  Qz 29 1 28 27 [7,6,5,4,3,2,1,0],
  Qaw 30 3 27 [6,5,4,3,2,1,0],
  Qbn 31 30 1 27 [9,6,5,4,3,2,1,0],
  Qbb 32 7 29 31 27 [8,7,10,9,6,5,4,3,2,1,0],
  Qbc 33 0 32 27 [11,8,7,10,9,6,5,4,3,2,1,0],
  Qz 34 1 33 27 [12,11,8,7,10,9,6,5,4,3,2,1,0],
  Qal 35 0 4 27 [6,5,4,3,2,1,0],
  Qz 36 1 35 27 [14,6,5,4,3,2,1,0],
  Qce 37 34 36 27 [13,12,11,8,7,10,9,15,14,6,5,4,3,2,1,0],
  Qbt 38 27 37 24 [16,13,12,11,8,7,10,9,15,14,6,5,4,3,2,1,0],
  Qcj 39 24 38 [17,16,13,12,11,8,7,10,9,15,14,6,5,4,3,2,1,0],
  Qao 40 39 [18,17,16,13,12,11,8,7,10,9,15,14,6,5,4,3,2,1,0],
  Qbk 41 1 4 40 [19,18,17,16,13,12,11,8,7,10,9,15,14,6,5,4,3,2,1,0],
  Qbl 42 1 41 40 [20,19,18,17,16,13,12,11,8,7,10,9,15,14,6,5,4,3,2,1,0],
  ⟨.loc 43, .bin .int .neq (.loc 42) (.const (.d (.int .i64 0))), some ((.loc 40), false), [21, 20, 19, 18, 17, 16, 13, 12, 11, 8, 7, 10, 9, 15, 14, 6, 5, 4, 3, 2, 1, 0]⟩,
  Qbs 44 43 40 [22,21,20,19,18,17,16,13,12,11,8,7,10,9,15,14,6,5,4,3,2,1,0],
  ⟨.loc 45, .load true 1 (.var 1), some ((.loc 44), true), [23, 22, 21, 20, 19, 18, 17, 16, 13, 12, 11, 8, 7, 10, 9, 15, 14, 6, 5, 4, 3, 2, 1, 0]⟩,
  Qal 46 1 4 44 [23,22,21,20,19,18,17,16,13,12,11,8,7,10,9,15,14,6,5,4,3,2,1,0],
  Qz 47 1 46 44 [25,23,22,21,20,19,18,17,16,13,12,11,8,7,10,9,15,14,6,5,4,3,2,1,0],
  ⟨.loc 48, .call (.fn 115) [(.loc 45), (.loc 47)] [.borrow, .borrow], some ((.loc 44), true), [24, 26, 25, 23, 22, 21, 20, 19, 18, 17, 16, 13, 12, 11, 8, 7, 10, 9, 15, 14, 6, 5, 4, 3, 2, 1, 0]⟩,
  ⟨.loc 49, .bin .int .lss (.loc 48) (.const (.d (.int .i64 0))), some ((.loc 44), true), [27, 24, 26, 25, 23, 22, 21, 20, 19, 18, 17, 16, 13, 12, 11, 8, 7, 10, 9, 15, 14, 6, 5, 4, 3, 2, 1, 0]⟩,
  Qbt 50 44 49 40 [28,27,24,26,25,23,22,21,20,19,18,17,16,13,12,11,8,7,10,9,15,14,6,5,4,3,2,1,0],
  Qbu 51 40 50 [29,28,27,24,26,25,23,22,21,20,19,18,17,16,13,12,11,8,7,10,9,15,14,6,5,4,3,2,1,0]] true
def c50_7:= rg [Qf 2]
def c50_8:= rg [Qa 14 3,
Qi 15 14 1,
Qc 3 15]
def c50_9 : ACode := (.seq (.seq c50_4 (.cond (.var 13) .skip (.exit 0))) (.seq (.block 1 (.seq c50_5 (.seq c50_6 (.cond (.var 51) (.seq c50_7 .ret) .skip)))) c50_8))
def c50_10:= rg [Qy 2]
def c50 : ACode := (.seq c50_0 (.seq (.seq c50_1 (.cond (.var 8) (.seq c50_2 .ret) .skip)) (.seq (.seq c50_3 (.block 0 (.loop [1, 3] c50_9))) (.seq c50_10 .ret))))
abbrev F_S_ForestOk : FuncId := 50
theorem v_S_ForestOk : VT 1 1 Tryz.f50 50 [0,1,2,3,4,8,13,51] [none] [(.give, 2, none)] c50 := mkV Tryz.func50 rfl rfl (by kernel_rfl) (by kernel_rfl) rfl rfl
def c51_0:= rg [Qh 1 0,
Qf 2]
def c51_1:= rg [Qb 4 0 1,
Qd 5 1 4,
Qj 6 5,
Qbv 7 6 150]
def c51_2:= rg [Qf 2]
def c51_3:= rg [Qe 3 0]
def c51_4:= rg [Qa 8 3,
Qb 9 0 1,
Qd 10 1 9,
Qj 11 10,
Qq 12 8 11]
def c51_5 : ACode := .reg [Qb 15 0 1,
  Qr 16 1 15 [0],
  Qa 17 3,
  Qw 18 6 16 17 [1,0,2],
  Qai 19 6 18 [3,1,0,2],
  Qak 20 116 19 [4,3,1,0,2],
  Qca 21 20 [5,4,3,1,0,2],
  Qao 22 21 [6,5,4,3,1,0,2],
  Qbm 23 3 22 [7,6,5,4,3,1,0,2],
  Qcd 24 23 0 22 [8,7,6,5,4,3,1,0,2],
  Qbs 25 24 22 [9,8,7,6,5,4,3,1,0,2],
  Qal 26 0 1 25 [10,9,8,7,6,5,4,3,1,0,2],
  Qz 27 1 26 25 [11,10,9,8,7,6,5,4,3,1,0,2],
  Qaw 28 3 25 [10,9,8,7,6,5,4,3,1,0,2],
  Qbn 29 28 1 25 [13,10,9,8,7,6,5,4,3,1,0,2],
  Qbb 30 6 27 29 25 [12,11,14,13,10,9,8,7,6,5,4,3,1,0,2],
  Qbc 31 0 30 25 [15,12,11,14,13,10,9,8,7,6,5,4,3,1,0,2],
  Qz 32 1 31 25 [16,15,12,11,14,13,10,9,8,7,6,5,4,3,1,0,2],
  Qal 33 0 1 25 [10,9,8,7,6,5,4,3,1,0,2],
  Qz 34 1 33 25 [18,10,9,8,7,6,5,4,3,1,0,2],
  Qaw 35 3 25 [10,9,8,7,6,5,4,3,1,0,2],
  Qbb 36 6 34 35 25 [19,18,20,10,9,8,7,6,5,4,3,1,0,2],
  Qbc 37 0 36 25 [21,19,18,20,10,9,8,7,6,5,4,3,1,0,2],
  Qz 38 1 37 25 [22,21,19,18,20,10,9,8,7,6,5,4,3,1,0,2],
  Qce 39 32 38 25 [17,16,15,12,11,14,13,23,22,21,19,18,20,10,9,8,7,6,5,4,3,1,0,2],
  Qbt 40 25 39 22 [24,17,16,15,12,11,14,13,23,22,21,19,18,20,10,9,8,7,6,5,4,3,1,0,2],
  Qbu 41 22 40 [25,24,17,16,15,12,11,14,13,23,22,21,19,18,20,10,9,8,7,6,5,4,3,1,0,2]] true
def c51_6:= rg [Qf 2]
def c51_7:= rg [Qa 13 3,
Qi 14 13 1,
Qc 3 14]
def c51_8 : ACode := (.seq (.seq c51_4 (.cond (.var 12) .skip (.exit 0))) (.seq (.block 1 (.seq c51_5 (.cond (.var 41) (.seq c51_6 .ret) .skip))) c51_7))
def c51_9:= rg [Qy 2]
def c51 : ACode := (.seq c51_0 (.seq (.seq c51_1 (.cond (.var 7) (.seq c51_2 .ret) .skip)) (.seq (.seq c51_3 (.block 0 (.loop [1, 3] c51_8))) (.seq c51_9 .ret))))
abbrev F_S_BookOk : FuncId := 51
theorem v_S_BookOk : VT 1 1 Tryz.f51 51 [0,1,2,3,7,12,41] [none] [(.give, 2, none)] c51 := mkV Tryz.func51 rfl rfl (by kernel_rfl) (by kernel_rfl) rfl rfl
def c52_0:= rg [Qh 1 0,
Qf 2]
def c52_1:= rg [Qb 4 0 1,
Qd 5 1 4,
Qj 6 5,
⟨.loc 7, .bin .int .gtr (.loc 6) (.const (.d (.int .i64 120))), none, []⟩,
Qn 8 7,
Qag 9 1 1 8,
Qaq 10 1 9 8,
Qbj 11 49 10 0 1000 8,
Qaj 12 11 8,
Qan 13 8 12,
Qn 14 13,
Qag 15 2 1 14,
Qaq 16 1 15 14,
Qbj 17 49 16 0 1000000000 14,
Qaj 18 17 14,
Qar 19 14 18]
def c52_2:= rg [Qf 2]
def c52_3:= rg [Qe 3 0]
def c52_4:= rg [Qa 20 3,
Qb 21 0 1,
Qd 22 1 21,
Qj 23 22,
Qq 24 20 23]
def c52_5 : ACode := .reg [Qb 27 0 1,
  Qr 28 1 27 [0],
  Qa 29 3,
  Qw 30 2 28 29 [1,0,2],
  Qah 31 0 30 [3,1,0,2],
  Qr 32 1 31 [4,3,1,0,2],
  Qak 33 55 32 [5,4,3,1,0,2],
  Qca 34 33 [6,5,4,3,1,0,2],
  Qao 35 34 [7,6,5,4,3,1,0,2],
  Qbm 36 3 35 [8,7,6,5,4,3,1,0,2],
  Qcd 37 36 0 35 [9,8,7,6,5,4,3,1,0,2],
  Qbs 38 37 35 [10,9,8,7,6,5,4,3,1,0,2],
  Qal 39 0 1 38 [11,10,9,8,7,6,5,4,3,1,0,2],
  Qz 40 1 39 38 [12,11,10,9,8,7,6,5,4,3,1,0,2],
  Qaw 41 3 38 [11,10,9,8,7,6,5,4,3,1,0,2],
  Qbn 42 41 1 38 [14,11,10,9,8,7,6,5,4,3,1,0,2],
  Qbb 43 2 40 42 38 [13,12,15,14,11,10,9,8,7,6,5,4,3,1,0,2],
  Qbc 44 0 43 38 [16,13,12,15,14,11,10,9,8,7,6,5,4,3,1,0,2],
  Qz 45 1 44 38 [17,16,13,12,15,14,11,10,9,8,7,6,5,4,3,1,0,2],
  Qal 46 0 1 38 [11,10,9,8,7,6,5,4,3,1,0,2],
  Qz 47 1 46 38 [19,11,10,9,8,7,6,5,4,3,1,0,2],
  Qaw 48 3 38 [11,10,9,8,7,6,5,4,3,1,0,2],
  Qbb 49 2 47 48 38 [20,19,21,11,10,9,8,7,6,5,4,3,1,0,2],
  Qbc 50 0 49 38 [22,20,19,21,11,10,9,8,7,6,5,4,3,1,0,2],
  Qz 51 1 50 38 [23,22,20,19,21,11,10,9,8,7,6,5,4,3,1,0,2],
  ⟨.loc 52, .bin .str .geq (.loc 45) (.loc 51), some ((.loc 38), true), [18, 17, 16, 13, 12, 15, 14, 24, 23, 22, 20, 19, 21, 11, 10, 9, 8, 7, 6, 5, 4, 3, 1, 0, 2]⟩,
  Qbt 53 38 52 35 [25,18,17,16,13,12,15,14,24,23,22,20,19,21,11,10,9,8,7,6,5,4,3,1,0,2],
  Qbu 54 35 53 [26,25,18,17,16,13,12,15,14,24,23,22,20,19,21,11,10,9,8,7,6,5,4,3,1,0,2]] true
def c52_6:= rg [Qf 2]
def c52_7:= rg [Qa 25 3,
Qi 26 25 1,
Qc 3 26]
def c52_8 : ACode := (.seq (.seq c52_4 (.cond (.var 24) .skip (.exit 0))) (.seq (.block 1 (.seq c52_5 (.cond (.var 54) (.seq c52_6 .ret) .skip))) c52_7))
def c52_9:= rg [Qy 2]
def c52 : ACode := (.seq c52_0 (.seq (.seq c52_1 (.cond (.var 19) (.seq c52_2 .ret) .skip)) (.seq (.seq c52_3 (.block 0 (.loop [1, 3] c52_8))) (.seq c52_9 .ret))))
abbrev F_S_FarOk : FuncId := 52
theorem v_S_FarOk : VT 1 1 Tryz.f52 52 [0,1,2,3,19,24,54] [none] [(.give, 2, none)] c52 := mkV Tryz.func52 rfl rfl (by kernel_rfl) (by kernel_rfl) rfl rfl
def c53_0:= rg [Qh 1 0,
Qf 2]
def c53_1:= rg [Qb 6 0 1,
Qd 7 1 6,
Qj 8 7,
Qbv 9 8 120]
def c53_2:= rg [Qf 2]
def c53_3:= rg [Qe 3 0]
def c53_4:= rg [Qa 10 3,
Qb 11 0 1,
Qd 12 1 11,
Qj 13 12,
Qq 14 10 13]
def c53_5:= rg [Qb 17 0 1,
Qd 18 1 17,
Qa 19 3,
Qm 20 3 18 19,
Qp 21 3 20,
Qcp 4 0 0,
Qk 3 4 21]
def c53_6:= rg [Qb 22 0 4,
Qd 23 1 22,
Qs 24 55 23,
Qba 25 24,
Qn 26 25,
Qag 27 1 4 26,
Qaq 28 1 27 26,
Qbj 29 49 28 0 2000000000 26,
Qaj 30 29 26,
Qan 31 26 30,
Qn 32 31,
Qag 33 2 4 32,
Qaq 34 1 33 32,
Qbj 35 49 34 0 5 32,
Qaj 36 35 32,
Qar 37 32 36]
def c53_7:= rg [Qf 2]
def c53_8:= rg [Qe 5 0]
def c53_9:= rg [Qa 38 5,
Qa 39 3,
Qq 40 38 39]
def c53_10 : ACode := .reg [Qb 43 0 1,
  Qr 44 1 43 [0],
  Qa 45 5,
  Qw 46 3 44 45 [1,0,2],
  Qah 47 0 46 [3,1,0,2],
  Qr 48 1 47 [4,3,1,0,2],
  Qb 49 0 4,
  Qr 50 1 49 [6],
  ⟨.var 51, .bin .str .eql (.loc 48) (.loc 50), none, [5, 4, 3, 1, 0, 2, 7, 6]⟩] true
def c53_11:= rg [Qf 2]
def c53_12:= rg [Qa 41 5,
Qi 42 41 1,
Qc 5 42]
def c53_13 : ACode := (.seq (.seq c53_9 (.cond (.var 40) .skip (.exit 2))) (.seq (.block 3 (.seq c53_10 (.cond (.var 51) (.seq c53_11 .ret) .skip))) c53_12))
def c53_14:= rg [Qa 15 3,
Qi 16 15 1,
Qc 3 16]
def c53_15 : ACode := (.seq (.seq c53_4 (.cond (.var 14) .skip (.exit 0))) (.seq (.block 1 (.seq c53_5 (.seq (.seq c53_6 (.cond (.var 37) (.seq c53_7 .ret) .skip)) (.seq c53_8 (.block 2 (.loop [1, 3, 4, 5] c53_13)))))) c53_14))
def c53_16:= rg [Qy 2]
def c53 : ACode := (.seq c53_0 (.seq (.seq c53_1 (.cond (.var 9) (.seq c53_2 .ret) .skip)) (.seq (.seq c53_3 (.block 0 (.loop [1, 3] c53_15))) (.seq c53_16 .ret))))
abbrev F_S_QueueOk : FuncId := 53
theorem v_S_QueueOk : VT 1 1 Tryz.f53 53 [0,1,2,3,4,5,9,14,37,40,51] [none] [(.give, 2, none)] c53 := mkV Tryz.func53 rfl rfl (by kernel_rfl) (by kernel_rfl) rfl rfl
def c54_0:= rg [Qh 2 0,
Qcq 4 0 0 0 0 0,
Qf 5]
def c54_1:= rg [Qg 7 1 2,
Qs 8 51 7,
Qam 9 8]
def c54_2:= rg [⟨.loc 10, .build [.d (.int .i64 0), .d (.int .i64 0), .d (.str []), .d (.int .i64 0), .d (.int .i64 0), .d (.int .i64 0)] [], none, []⟩,
Qk 6 4 10,
Qf 5]
def c54_3:= rg [Qe 6 0]
def c54_4:= rg [Qa 11 6,
Qb 12 0 2,
Qd 13 1 12,
Qj 14 13,
Qq 15 11 14]
def c54_5:= rg [Qb 18 0 2,
Qd 19 1 18,
Qa 20 6,
Qm 21 6 19 20,
Qt 22 0 21,
Qd 23 1 22,
Qa 24 1,
Qcv 25 23 24]
def c54_6:= rg [Qb 26 0 2,
Qd 27 1 26,
Qa 28 6,
Qm 29 6 27 28,
Qp 30 6 29,
Qk 6 4 30,
Qy 5]
def c54_7:= rg [Qa 16 6,
Qi 17 16 1,
Qc 6 17]
def c54_8 : ACode := (.seq (.seq c54_4 (.cond (.var 15) .skip (.exit 0))) (.seq (.block 1 (.seq c54_5 (.cond (.var 25) (.seq c54_6 .ret) .skip))) c54_7))
def c54_9:= rg [⟨.loc 31, .build [.d (.int .i64 0), .d (.int .i64 0), .d (.str []), .d (.int .i64 0), .d (.int .i64 0), .d (.int .i64 0)] [], none, []⟩,
Qk 6 4 31,
Qf 5]
def c54 : ACode := (.seq c54_0 (.seq (.seq c54_1 (.cond (.var 9) (.seq c54_2 .ret) .skip)) (.seq (.seq c54_3 (.block 0 (.loop [1, 2, 4, 6] c54_8))) (.seq c54_9 .ret))))
abbrev F_S_FindLease : FuncId := 54
theorem v_S_FindLease : VT 2 2 Tryz.f54 54 [0,1,2,4,5,6,9,15,25] [none, none] [(.give, 4, some (true, 6)), (.give, 5, none)] c54 := mkV Tryz.func54 rfl rfl (by kernel_rfl) (by kernel_rfl) rfl rfl
def c55_0:= rg [Qf 2]
def c55_1:= rg [Qe 3 0]
def c55_2:= rg [Qa 5 3,
Qa 6 0,
Qax 7 6,
Qq 8 5 7]
def c55_3:= rg [Qa 11 0,
Qa 12 3,
⟨.loc 13, .idxS (.loc 11) (.loc 12), none, []⟩,
Qc 4 13]
def c55_4:= rg [Qa 14 4,
⟨.loc 15, .bin .int .geq (.loc 14) (.const (.d (.int .u8 97))), none, []⟩,
Qn 16 15,
Qae 17 4 16,
⟨.loc 18, .bin .int .leq (.loc 17) (.const (.d (.int .u8 122))), some ((.loc 16), true), []⟩,
Qaf 19 16 18,
Qba 20 19,
Qn 21 20,
Qae 22 4 21,
⟨.loc 23, .bin .int .geq (.loc 22) (.const (.d (.int .u8 48))), some ((.loc 21), true), []⟩,
⟨.loc 24, .split (.loc 23), some ((.loc 21), true), []⟩,
Qae 25 4 24,
⟨.loc 26, .bin .int .leq (.loc 25) (.const (.d (.int .u8 57))), some ((.loc 24), true), []⟩,
⟨.loc 27, .pick (.loc 24) (.loc 26) (.const (.d (.bool false))), some ((.loc 21), true), []⟩,
Qcw 28 27 21,
⟨.var 29, .pick (.loc 21) (.loc 28) (.const (.d (.bool false))), none, []⟩]
def c55_5:= rg [Qf 2]
def c55_6:= rg [Qa 9 3,
Qi 10 9 1,
Qc 3 10]
def c55_7 : ACode := (.seq (.seq c55_2 (.cond (.var 8) .skip (.exit 0))) (.seq (.block 1 (.seq c55_3 (.seq c55_4 (.cond (.var 29) (.seq c55_5 .ret) .skip)))) c55_6))
def c55_8:= rg [Qa 30 0,
Qax 31 30,
Qbo 32 49 31 1 12,
Qc 2 32]
def c55 : ACode := (.seq c55_0 (.seq (.seq c55_1 (.block 0 (.loop [0, 3] c55_7))) (.seq c55_8 .ret)))
abbrev F_S_l01Name : FuncId := 55
theorem v_S_l01Name : VT 1 1 Tryz.f55 55 [0,2,3,4,8,29] [none] [(.give, 2, none)] c55 := mkV Tryz.func55 rfl rfl (by kernel_rfl) (by kernel_rfl) rfl rfl
def c56_0:= rg [Qh 1 0,
Qx 2 1 7]
def c56_1:= rg [Qx 3 1 7]
def c56_2:= rg [Qb 4 0 1,
Qd 5 1 4,
Qs 6 117 5,
Qb 7 0 3,
Ql 1 7 6]
def c56_3:= rg [Qg 8 1 3,
Qk 1 2 8]
def c56 : ACode := (.seq c56_0 (.seq c56_1 (.seq c56_2 (.seq c56_3 .ret))))
abbrev F_L_toForest : FuncId := 56
theorem v_L_toForest : VT 1 1 Tryz.f56 56 [0,1,2,3] [none] [(.give, 2, some (true, 1))] c56 := mkV Tryz.func56 rfl rfl (by kernel_rfl) (by kernel_rfl) rfl rfl
def c57_0:= rg [Qh 1 0,
Qx 2 0 6]
def c57_1:= rg [Qx 3 0 6]
def c57_2:= rg [Qb 4 0 1,
Qd 5 1 4,
Qs 6 118 5,
Qb 7 0 3,
Ql 1 7 6]
def c57_3:= rg [Qg 8 1 3,
Qk 1 2 8]
def c57 : ACode := (.seq c57_0 (.seq c57_1 (.seq c57_2 (.seq c57_3 .ret))))
abbrev F_L_toBook : FuncId := 57
theorem v_L_toBook : VT 1 1 Tryz.f57 57 [0,1,2,3] [none] [(.give, 2, some (true, 1))] c57 := mkV Tryz.func57 rfl rfl (by kernel_rfl) (by kernel_rfl) rfl rfl
def c58_0:= rg [Qh 1 0,
Qaz 2 0 2 0 0]
def c58_1:= rg [Qaz 3 0 2 0 0]
def c58_2:= rg [Qb 4 0 1,
Qd 5 1 4,
Qs 6 119 5,
Qb 7 0 3,
Ql 1 7 6]
def c58_3:= rg [Qb 8 1 1,
Qd 9 1 8,
Qb 10 1 3,
Ql 1 10 9]
def c58_4:= rg [Qb 11 2 1,
Qd 12 1 11,
Qb 13 2 3,
Ql 1 13 12]
def c58_5:= rg [Qg 14 3 3,
Qk 3 2 14]
def c58 : ACode := (.seq c58_0 (.seq c58_1 (.seq c58_2 (.seq c58_3 (.seq c58_4 (.seq c58_5 .ret))))))
abbrev F_L_toFar : FuncId := 58
theorem v_L_toFar : VT 1 1 Tryz.f58 58 [0,1,2,3] [none] [(.give, 2, some (true, 3))] c58 := mkV Tryz.func58 rfl rfl (by kernel_rfl) (by kernel_rfl) rfl rfl
def c59_0:= rg [Qh 1 0,
Qx 2 0 3]
def c59_1:= rg [Qx 3 0 3]
def c59_2:= rg [Qb 4 0 1,
Qd 5 1 4,
Qs 6 120 5,
Qb 7 0 3,
Ql 1 7 6]
def c59_3:= rg [Qg 8 1 3,
Qk 1 2 8]
def c59 : ACode := (.seq c59_0 (.seq c59_1 (.seq c59_2 (.seq c59_3 .ret))))
abbrev F_L_toQueue : FuncId := 59
theorem v_L_toQueue : VT 1 1 Tryz.f59 59 [0,1,2,3] [none] [(.give, 2, some (true, 1))] c59 := mkV Tryz.func59 rfl rfl (by kernel_rfl) (by kernel_rfl) rfl rfl
def c60_0:= rg [Qaa 2 0 2]
def c60_1:= rg [Qa 5 0,
Qj 6 5,
⟨.loc 7, .mkslice 0 2 24 [.int .i64 0, .str []] (.loc 6) (.loc 6), none, []⟩,
Qc 3 7]
def c60_2:= rg [Qe 4 0]
def c60_3:= rg [Qa 8 4,
Qa 9 0,
Qj 10 9,
Qq 11 8 10]
def c60_4:= rg [Qa 14 3,
Qa 15 4,
Qa 16 0,
Qa 17 4,
Qm 18 2 16 17,
Qp 19 2 18,
Qs 20 121 19,
Qm 21 2 14 15,
Ql 2 21 20]
def c60_5:= rg [Qa 12 4,
Qi 13 12 1,
Qc 4 13]
def c60_6 : ACode := (.seq (.seq c60_3 (.cond (.var 11) .skip (.exit 0))) (.seq (.block 1 c60_4) c60_5))
def c60_7:= rg [Qa 22 3,
Qc 2 22]
def c60 : ACode := (.seq c60_0 (.seq c60_1 (.seq (.seq c60_2 (.block 0 (.loop [0, 3, 4] c60_6))) (.seq c60_7 .ret))))
abbrev F_L_toOwnedS : FuncId := 60
theorem v_L_toOwnedS : VT 1 1 Tryz.f60 60 [0,2,3,4,11] [none] [(.give, 2, none)] c60 := mkV Tryz.func60 rfl rfl (by kernel_rfl) (by kernel_rfl) rfl rfl
def c61_0:= rg [Qh 1 0,
Qf 2]
def c61_1:= rg [Qb 7 0 1,
Qd 8 1 7,
Qbo 9 103 8 0 1000000000,
Qba 10 9,
Qn 11 10,
Qag 12 1 1 11,
Qaq 13 1 12 11,
Qbj 14 103 13 1 1000000000 11,
Qaj 15 14 11,
Qan 16 11 15,
Qn 17 16,
Qag 18 2 1 17,
Qaq 19 1 18 17,
Qbj 20 103 19 0 1000000000 17,
Qaj 21 20 17,
Qan 22 17 21,
Qn 23 22,
Qag 24 3 1 23,
Qbz 25 1 24 23,
Qbp 26 122 25 23,
Qaj 27 26 23,
Qan 28 23 27,
Qn 29 28,
Qag 30 4 1 29,
Qbz 31 1 30 29,
Qbp 32 123 31 29,
Qaj 33 32 29,
Qan 34 29 33,
Qn 35 34,
Qag 36 5 1 35,
Qbz 37 3 36 35,
Qbp 38 124 37 35,
Qaj 39 38 35,
Qan 40 35 39,
Qn 41 40,
Qag 42 8 1 41,
Qbz 43 1 42 41,
Qbp 44 125 43 41,
Qaj 45 44 41,
Qar 46 41 45]
def c61_2:= rg [Qf 2]
def c61_3:= rg [Qb 47 3 1,
Qt 48 0 47,
Qd 49 1 48,
Qj 50 49,
Qc 3 50]
def c61_4 : ACode := .reg [Qa 51 3,
  ⟨.loc 52, .bin .int .gtr (.loc 51) (.const (.d (.int .i64 0))), none, [0]⟩,
  Qao 53 52 [1,0],
  Qal 54 3 1 53 [2,1,0],
  Qbc 55 0 54 53 [3,2,1,0],
  Qz 56 1 55 53 [4,3,2,1,0],
  Qaw 57 3 53 [2,1,0],
  Qbn 58 57 1 53 [6,2,1,0],
  Qbb 59 7 56 58 53 [5,4,3,7,6,2,1,0],
  Qbc 60 0 59 53 [8,5,4,3,7,6,2,1,0],
  Qz 61 1 60 53 [9,8,5,4,3,7,6,2,1,0],
  Qal 62 1 1 53 [2,1,0],
  Qz 63 1 62 53 [11,2,1,0],
  Qce 64 61 63 53 [10,9,8,5,4,3,7,6,12,11,2,1,0],
  ⟨.var 65, .pick (.loc 53) (.loc 64) (.const (.d (.bool false))), none, [13, 10, 9, 8, 5, 4, 3, 7, 6, 12, 11, 2, 1, 0]⟩] true
def c61_5:= rg [Qf 2]
def c61_6:= rg [Qb 66 4 1,
Qt 67 0 66,
Qd 68 1 67,
Qj 69 68,
Qc 4 69]
def c61_7 : ACode := .reg [Qa 70 4,
  ⟨.loc 71, .bin .int .gtr (.loc 70) (.const (.d (.int .i64 0))), none, [0]⟩,
  Qao 72 71 [1,0],
  Qal 73 4 1 72 [2,1,0],
  Qbc 74 0 73 72 [3,2,1,0],
  Qz 75 1 74 72 [4,3,2,1,0],
  Qaw 76 4 72 [2,1,0],
  Qbn 77 76 1 72 [6,2,1,0],
  Qbb 78 6 75 77 72 [5,4,3,7,6,2,1,0],
  Qbc 79 0 78 72 [8,5,4,3,7,6,2,1,0],
  Qz 80 1 79 72 [9,8,5,4,3,7,6,2,1,0],
  Qal 81 1 1 72 [2,1,0],
  Qz 82 1 81 72 [11,2,1,0],
  Qce 83 80 82 72 [10,9,8,5,4,3,7,6,12,11,2,1,0],
  ⟨.var 84, .pick (.loc 72) (.loc 83) (.const (.d (.bool false))), none, [13, 10, 9, 8, 5, 4, 3, 7, 6, 12, 11, 2, 1, 0]⟩] true
def c61_8:= rg [Qf 2]
def c61_9:= rg [Qb 85 9 1,
Qcb 86 1 85,
Qbh 87 86,
Qe 88 0]
def c61_10:= rg [Qas 89 88 87]
def c61_11:= rg [Qa 90 88,
Qbi 91 2 86 88,
Qp 92 2 91,
⟨.var 6, .alloc [.d (.int .i64 0), .d (.str [])], none, []⟩,
Qc 5 90,
Qk 2 6 92]
def c61_12 : ACode := .reg [Qa 93 5,
  ⟨.loc 94, .bin .int .gtr (.loc 93) (.const (.d (.int .i64 0))), none, [0]⟩,
  Qao 95 94 [1,0],
  Qal 96 9 1 95 [2,1,0],
  Qz 97 1 96 95 [3,2,1,0],
  Qaw 98 5 95 [2,1,0],
  Qbn 99 98 1 95 [5,2,1,0],
  Qbb 100 2 97 99 95 [4,3,6,5,2,1,0],
  Qbc 101 0 100 95 [7,4,3,6,5,2,1,0],
  Qz 102 1 101 95 [8,7,4,3,6,5,2,1,0],
  Qal 103 0 6 95 [2,1,0],
  Qz 104 1 103 95 [10,2,1,0],
  Qce 105 102 104 95 [9,8,7,4,3,6,5,11,10,2,1,0],
  ⟨.loc 106, .pick (.loc 95) (.loc 105) (.const (.d (.bool false))), none, [12, 9, 8, 7, 4, 3, 6, 5, 11, 10, 2, 1, 0]⟩,
  Qao 107 106 [13,12,9,8,7,4,3,6,5,11,10,2,1,0],
  Qbk 108 4 1 107 [14,13,12,9,8,7,4,3,6,5,11,10,2,1,0],
  ⟨.loc 109, .load true 1 (.loc 108), some ((.loc 107), false), [15, 14, 13, 12, 9, 8, 7, 4, 3, 6, 5, 11, 10, 2, 1, 0]⟩,
  Qbk 110 0 6 107 [14,13,12,9,8,7,4,3,6,5,11,10,2,1,0],
  Qbl 111 1 110 107 [17,14,13,12,9,8,7,4,3,6,5,11,10,2,1,0],
  ⟨.loc 112, .call (.fn 94) [(.loc 109), (.loc 111)] [.borrow, .borrow], some ((.loc 107), false), [16, 15, 18, 17, 14, 13, 12, 9, 8, 7, 4, 3, 6, 5, 11, 10, 2, 1, 0]⟩,
  ⟨.loc 113, .bin .int .lss (.loc 112) (.const (.d (.int .i64 0))), some ((.loc 107), false), [19, 16, 15, 18, 17, 14, 13, 12, 9, 8, 7, 4, 3, 6, 5, 11, 10, 2, 1, 0]⟩,
  Qcj 114 107 113 [20,19,16,15,18,17,14,13,12,9,8,7,4,3,6,5,11,10,2,1,0],
  Qao 115 114 [21,20,19,16,15,18,17,14,13,12,9,8,7,4,3,6,5,11,10,2,1,0],
  Qbk 116 1 6 115 [22,21,20,19,16,15,18,17,14,13,12,9,8,7,4,3,6,5,11,10,2,1,0],
  Qbl 117 1 116 115 [23,22,21,20,19,16,15,18,17,14,13,12,9,8,7,4,3,6,5,11,10,2,1,0],
  ⟨.loc 118, .call (.fn 126) [(.loc 117)] [.borrow], some ((.loc 115), false), [24, 23, 22, 21, 20, 19, 16, 15, 18, 17, 14, 13, 12, 9, 8, 7, 4, 3, 6, 5, 11, 10, 2, 1, 0]⟩,
  ⟨.loc 119, .un .not (.loc 118), some ((.loc 115), false), [25, 24, 23, 22, 21, 20, 19, 16, 15, 18, 17, 14, 13, 12, 9, 8, 7, 4, 3, 6, 5, 11, 10, 2, 1, 0]⟩,
  Qcj 120 115 119 [26,25,24,23,22,21,20,19,16,15,18,17,14,13,12,9,8,7,4,3,6,5,11,10,2,1,0],
  Qao 121 120 [27,26,25,24,23,22,21,20,19,16,15,18,17,14,13,12,9,8,7,4,3,6,5,11,10,2,1,0],
  Qbk 122 9 1 121 [28,27,26,25,24,23,22,21,20,19,16,15,18,17,14,13,12,9,8,7,4,3,6,5,11,10,2,1,0],
  Qbl 123 1 122 121 [29,28,27,26,25,24,23,22,21,20,19,16,15,18,17,14,13,12,9,8,7,4,3,6,5,11,10,2,1,0],
  Qbm 124 5 121 [28,27,26,25,24,23,22,21,20,19,16,15,18,17,14,13,12,9,8,7,4,3,6,5,11,10,2,1,0],
  ⟨.loc 125, .sliceA 2 (.loc 123) none (some (.loc 124)), some ((.loc 121), false), [30, 29, 31, 28, 27, 26, 25, 24, 23, 22, 21, 20, 19, 16, 15, 18, 17, 14, 13, 12, 9, 8, 7, 4, 3, 6, 5, 11, 10, 2, 1, 0]⟩,
  ⟨.loc 126, .clo 127 [(.var 6)], some ((.loc 121), false), [28, 27, 26, 25, 24, 23, 22, 21, 20, 19, 16, 15, 18, 17, 14, 13, 12, 9, 8, 7, 4, 3, 6, 5, 11, 10, 2, 1, 0]⟩,
  ⟨.loc 127, .call (.fn 68) [(.loc 125), (.loc 126)] [.borrow, .borrow], some ((.loc 121), false), [32, 30, 29, 31, 33, 28, 27, 26, 25, 24, 23, 22, 21, 20, 19, 16, 15, 18, 17, 14, 13, 12, 9, 8, 7, 4, 3, 6, 5, 11, 10, 2, 1, 0]⟩,
  Qbu 128 121 127 [34,32,30,29,31,33,28,27,26,25,24,23,22,21,20,19,16,15,18,17,14,13,12,9,8,7,4,3,6,5,11,10,2,1,0]] true
def c61_13:= rg [Qf 2]
def c61_14:= rg [Qat 129 88 1,
Qc 88 129]
def c61_15 : ACode := (.seq c61_10 (.seq (.cond (.var 89) .skip (.exit 0)) (.seq (.block 1 (.seq c61_11 (.seq c61_12 (.cond (.var 128) (.seq c61_13 .ret) .skip)))) c61_14)))
def c61_16:= rg [Qy 2]
def c61 : ACode := (.seq c61_0 (.seq (.seq c61_1 (.cond (.var 46) (.seq c61_2 .ret) .skip)) (.seq (.seq c61_3 (.seq c61_4 (.cond (.var 65) (.seq c61_5 .ret) .skip))) (.seq (.seq c61_6 (.seq c61_7 (.cond (.var 84) (.seq c61_8 .ret) .skip))) (.seq (.seq c61_9 (.block 0 (.loop [1, 86, 87, 88] c61_15))) (.seq c61_16 .ret))))))
abbrev F_I_isWorld : FuncId := 61
theorem v_I_isWorld : VT 1 1 Tryz.f61 61 [0,1,2,3,4,5,6,46,65,84,86,87,88,89,128] [none] [(.give, 2, none)] c61 := mkV Tryz.func61 rfl rfl (by kernel_rfl) (by kernel_rfl) rfl rfl
def c62_0:= rg [Qh 2 0,
Qh 3 1,
Qf 4]
def c62_1:= rg [Qb 5 0 2,
Qd 6 1 5,
Qb 7 0 3,
Qd 8 1 7,
Qo 9 128 6 8,
Qam 10 9]
def c62_2:= rg [Qf 4]
def c62_3:= rg [Qy 4]
def c62 : ACode := (.seq c62_0 (.seq (.seq c62_1 (.cond (.var 10) (.seq c62_2 .ret) .skip)) (.seq c62_3 .ret)))
abbrev F_L_eqForest : FuncId := 62
theorem v_L_eqForest : VT 2 1 Tryz.f62 62 [0,1,2,3,4,10] [none, none] [(.give, 4, none)] c62 := mkV Tryz.func62 rfl rfl (by kernel_rfl) (by kernel_rfl) rfl rfl
def c63_0:= rg [Qh 2 0,
Qh 3 1,
Qf 4]
def c63_1:= rg [Qb 5 0 2,
Qd 6 1 5,
Qb 7 0 3,
Qd 8 1 7,
Qo 9 129 6 8,
Qam 10 9]
def c63_2:= rg [Qf 4]
def c63_3:= rg [Qy 4]
def c63 : ACode := (.seq c63_0 (.seq (.seq c63_1 (.cond (.var 10) (.seq c63_2 .ret) .skip)) (.seq c63_3 .ret)))
abbrev F_L_eqBook : FuncId := 63
theorem v_L_eqBook : VT 2 1 Tryz.f63 63 [0,1,2,3,4,10] [none, none] [(.give, 4, none)] c63 := mkV Tryz.func63 rfl rfl (by kernel_rfl) (by kernel_rfl) rfl rfl
def c64_0:= rg [Qh 2 0,
Qh 3 1,
Qf 4]
def c64_1:= rg [Qb 5 0 2,
Qd 6 1 5,
Qb 7 0 3,
Qd 8 1 7,
Qo 9 130 6 8,
Qam 10 9]
def c64_2:= rg [Qf 4]
def c64_3:= rg [Qb 11 1 2,
Qd 12 1 11,
Qb 13 1 3,
Qd 14 1 13,
Qv 15 12 14]
def c64_4:= rg [Qf 4]
def c64_5:= rg [Qb 16 2 2,
Qd 17 1 16,
Qb 18 2 3,
Qd 19 1 18,
Qv 20 17 19]
def c64_6:= rg [Qf 4]
def c64_7:= rg [Qy 4]
def c64 : ACode := (.seq c64_0 (.seq (.seq c64_1 (.cond (.var 10) (.seq c64_2 .ret) .skip)) (.seq (.seq c64_3 (.cond (.var 15) (.seq c64_4 .ret) .skip)) (.seq (.seq c64_5 (.cond (.var 20) (.seq c64_6 .ret) .skip)) (.seq c64_7 .ret)))))
abbrev F_L_eqFar : FuncId := 64
theorem v_L_eqFar : VT 2 1 Tryz.f64 64 [0,1,2,3,4,10,15,20] [none, none] [(.give, 4, none)] c64 := mkV Tryz.func64 rfl rfl (by kernel_rfl) (by kernel_rfl) rfl rfl
def c65_0:= rg [Qh 2 0,
Qh 3 1,
Qf 4]
def c65_1:= rg [Qb 5 0 2,
Qd 6 1 5,
Qb 7 0 3,
Qd 8 1 7,
Qo 9 131 6 8,
Qam 10 9]
def c65_2:= rg [Qf 4]
def c65_3:= rg [Qy 4]
def c65 : ACode := (.seq c65_0 (.seq (.seq c65_1 (.cond (.var 10) (.seq c65_2 .ret) .skip)) (.seq c65_3 .ret)))
abbrev F_L_eqQueue : FuncId := 65
theorem v_L_eqQueue : VT 2 1 Tryz.f65 65 [0,1,2,3,4,10] [none, none] [(.give, 4, none)] c65 := mkV Tryz.func65 rfl rfl (by kernel_rfl) (by kernel_rfl) rfl rfl
def c66_0:= rg [Qf 4]
def c66_1:= rg [Qa 6 0,
Qj 7 6,
Qa 8 1,
Qj 9 8,
Qv 10 7 9]
def c66_2:= rg [Qf 4]
def c66_3:= rg [Qe 5 0]
def c66_4:= rg [Qa 11 5,
Qa 12 0,
Qj 13 12,
Qq 14 11 13]
def c66_5 : ACode := .reg [Qa 17 0,
  Qa 18 5,
  Qw 19 2 17 18 [0,1],
  Qai 20 2 19 [2,0,1],
  Qa 21 1,
  Qa 22 5,
  Qw 23 2 21 22 [4,5],
  Qai 24 2 23 [6,4,5],
  Qcc 25 132 20 24 [3,2,0,1,7,6,4,5],
  Qcn 26 25 [8,3,2,0,1,7,6,4,5]] true
def c66_6:= rg [Qf 4]
def c66_7:= rg [Qa 15 5,
Qi 16 15 1,
Qc 5 16]
def c66_8 : ACode := (.seq (.seq c66_4 (.cond (.var 14) .skip (.exit 0))) (.seq (.block 1 (.seq c66_5 (.cond (.var 26) (.seq c66_6 .ret) .skip))) c66_7))
def c66_9:= rg [Qy 4]
def c66 : ACode := (.seq c66_0 (.seq (.seq c66_1 (.cond (.var 10) (.seq c66_2 .ret) .skip)) (.seq (.seq c66_3 (.block 0 (.loop [0, 1, 5] c66_8))) (.seq c66_9 .ret))))
abbrev F_L_eqOwnedS : FuncId := 66
theorem v_L_eqOwnedS : VT 2 1 Tryz.f66 66 [0,1,4,5,10,14,26] [none, none] [(.give, 4, none)] c66 := mkV Tryz.func66 rfl rfl (by kernel_rfl) (by kernel_rfl) rfl rfl
def c67_0:= rg [Qh 2 0,
Qh 3 1,
Qf 4]
def c67_1:= rg [Qb 5 0 2,
Qd 6 1 5,
Qcr 7 134 3,
Qo 8 133 6 7,
Qc 4 8]
def c67 : ACode := (.seq c67_0 (.seq c67_1 .ret))
abbrev F_I_hasJob : FuncId := 67
theorem v_I_hasJob : VT 2 1 Tryz.f67 67 [0,1,2,3,4] [none, none] [(.give, 4, none)] c67 := mkV Tryz.func67 rfl rfl (by kernel_rfl) (by kernel_rfl) rfl rfl
def c68_0:= rg [Qf 4]
def c68_1:= rg [Qa 5 0,
Qa 6 1,
Qo 7 135 5 6,
⟨.loc 8, .bin .int .geq (.loc 7) (.const (.d (.int .i64 0))), none, []⟩,
Qc 4 8]
def c68 : ACode := (.seq c68_0 (.seq c68_1 .ret))
abbrev F_slices_ContainsFunc___impl_Owned_impl_Owned_ : FuncId := 68
theorem v_slices_ContainsFunc___impl_Owned_impl_Owned_ : VT 2 1 Tryz.f68 68 [0,1,4] [none, none] [(.give, 4, none)] c68 := mkV Tryz.func68 rfl rfl (by kernel_rfl) (by kernel_rfl) rfl rfl
def c70_0:= rg [Qh 2 0,
Qe 4 0]
def c70_1:= rg [Qb 5 0 2,
Qd 6 1 5,
Qa 7 1,
Qbe 8 136 6 7,
Qc 1 8]
def c70_2:= rg [Qa 9 1,
Qc 4 9]
def c70 : ACode := (.seq c70_0 (.seq c70_1 (.seq c70_2 .ret)))
abbrev F_L_markForest : FuncId := 70
theorem v_L_markForest : VT 2 1 Tryz.f70 70 [0,1,2,4] [some .give, none] [(.give, 4, none)] c70 := mkV Tryz.func70 rfl rfl (by kernel_rfl) (by kernel_rfl) rfl rfl
def c71_0:= rg [Qh 2 0,
Qe 4 0]
def c71_1:= rg [Qb 5 0 2,
Qd 6 1 5,
Qa 7 1,
Qbe 8 137 6 7,
Qc 1 8]
def c71_2:= rg [Qa 9 1,
Qc 4 9]
def c71 : ACode := (.seq c71_0 (.seq c71_1 (.seq c71_2 .ret)))
abbrev F_L_markBook : FuncId := 71
theorem v_L_markBook : VT 2 1 Tryz.f71 71 [0,1,2,4] [some .give, none] [(.give, 4, none)] c71 := mkV Tryz.func71 rfl rfl (by kernel_rfl) (by kernel_rfl) rfl rfl
def c72_0:= rg [Qh 2 0,
Qe 4 0]
def c72_1:= rg [Qb 5 0 2,
Qd 6 1 5,
Qa 7 1,
Qbe 8 138 6 7,
Qc 1 8]
def c72_2:= rg [Qa 9 1,
Qc 4 9]
def c72 : ACode := (.seq c72_0 (.seq c72_1 (.seq c72_2 .ret)))
abbrev F_L_markFar : FuncId := 72
theorem v_L_markFar : VT 2 1 Tryz.f72 72 [0,1,2,4] [some .give, none] [(.give, 4, none)] c72 := mkV Tryz.func72 rfl rfl (by kernel_rfl) (by kernel_rfl) rfl rfl
def c73_0:= rg [Qh 2 0,
Qe 4 0]
def c73_1:= rg [Qb 5 0 2,
Qd 6 1 5,
Qa 7 1,
Qbe 8 139 6 7,
Qc 1 8]
def c73_2:= rg [Qa 9 1,
Qc 4 9]
def c73 : ACode := (.seq c73_0 (.seq c73_1 (.seq c73_2 .ret)))
abbrev F_L_markQueue : FuncId := 73
theorem v_L_markQueue : VT 2 1 Tryz.f73 73 [0,1,2,4] [some .give, none] [(.give, 4, none)] c73 := mkV Tryz.func73 rfl rfl (by kernel_rfl) (by kernel_rfl) rfl rfl
def c74_0:= rg [Qe 4 0]
def c74_1:= rg [Qe 5 0]
def c74_2:= rg [Qa 6 5,
Qa 7 0,
Qj 8 7,
Qq 9 6 8]
def c74_3:= rg [Qa 12 0,
Qa 13 5,
Qa 14 1,
Qm 15 2 12 13,
Qt 16 0 15,
Ql 1 16 14]
def c74_4:= rg [Qa 17 1,
Qi 18 17 1,
Qc 1 18]
def c74_5:= rg [Qa 19 0,
Qa 20 5,
Qa 21 1,
Qs 22 75 21,
Qm 23 2 19 20,
Qt 24 1 23,
Ql 1 24 22]
def c74_6:= rg [Qa 25 1,
Qi 26 25 1,
Qc 1 26]
def c74_7:= rg [Qa 10 5,
Qi 11 10 1,
Qc 5 11]
def c74_8 : ACode := (.seq (.seq c74_2 (.cond (.var 9) .skip (.exit 0))) (.seq (.block 1 (.seq c74_3 (.seq c74_4 (.seq c74_5 c74_6)))) c74_7))
def c74_9:= rg [Qa 27 1,
Qc 4 27]
def c74 : ACode := (.seq c74_0 (.seq (.seq c74_1 (.block 0 (.loop [0, 1, 5] c74_8))) (.seq c74_9 .ret)))
abbrev F_L_markOwnedS : FuncId := 74
theorem v_L_markOwnedS : VT 2 1 Tryz.f74 74 [0,1,4,5,9] [some .give, none] [(.give, 4, none)] c74 := mkV Tryz.func74 rfl rfl (by kernel_rfl) (by kernel_rfl) rfl rfl
def c75_0:= rg [⟨.var 2, .mv (.const (.d (.str []))), none, []⟩]
def c75_1:= rg [Qa 4 0,
⟨.var 5, .bin .int .leq (.loc 4) (.const (.d (.int .i64 0))), none, []⟩]
def c75_2:= rg [⟨.var 2, .mv (.const (.d (.str [109, 48]))), none, []⟩]
def c75_3:= rg [⟨.var 3, .mv (.const (.d (.str []))), none, []⟩]
def c75_4:= rg [Qa 6 0,
Qbv 7 6 0]
def c75_5:= rg [Qa 8 0,
⟨.loc 9, .bin .int .rem (.loc 8) (.const (.d (.int .i64 10))), none, []⟩,
⟨.loc 10, .bin .int .add (.const (.d (.int .i64 48))) (.loc 9), none, []⟩,
⟨.loc 11, .conv .u8 (.loc 10), none, []⟩,
⟨.loc 12, .lit 0 1 1 [.int .u8 0] [(0, (.loc 11))], none, []⟩,
⟨.loc 13, .b2s (.loc 12), none, []⟩,
Qa 14 3,
⟨.loc 15, .bin .str .add (.loc 13) (.loc 14), none, []⟩,
Qc 3 15]
def c75_6:= rg [Qa 16 0,
⟨.loc 17, .bin .int .quo (.loc 16) (.const (.d (.int .i64 10))), none, []⟩,
Qc 0 17]
def c75_7 : ACode := (.seq (.seq c75_4 (.cond (.var 7) .skip (.exit 0))) (.block 1 (.seq c75_5 c75_6)))
def c75_8:= rg [Qa 18 3,
⟨.loc 19, .bin .str .add (.const (.d (.str [109]))) (.loc 18), none, []⟩,
Qc 2 19]
def c75 : ACode := (.seq c75_0 (.seq (.seq c75_1 (.cond (.var 5) (.seq c75_2 .ret) .skip)) (.seq c75_3 (.seq (.block 0 (.loop [0, 3] c75_7)) (.seq c75_8 .ret)))))
abbrev F_L_markText : FuncId := 75
theorem v_L_markText : VT 1 1 Tryz.f75 75 [0,2,3,5,7] [none] [(.give, 2, none)] c75 := mkV Tryz.func75 rfl rfl (by kernel_rfl) (by kernel_rfl) rfl rfl
def c76_0:= rg [Qh 2 0,
Qaa 4 0 1]
def c76_1:= rg [⟨.loc 7, .lit 0 1 0 [.int .i64 0] [], none, []⟩,
Qc 5 7]
def c76_2:= rg [Qg 8 1 2,
Qs 9 50 8,
Qba 10 9,
Qn 11 10,
⟨.loc 12, .load true 1 (.var 2), some ((.loc 11), false), []⟩,
Qap 13 1 11,
Qci 14 115 12 13 11,
⟨.loc 15, .bin .int .lss (.loc 14) (.const (.d (.int .i64 0))), some ((.loc 11), false), []⟩,
Qar 16 11 15]
def c76_3:= rg [Qaa 4 0 1]
def c76_4:= rg [Qe 6 0]
def c76_5:= rg [Qa 17 6,
Qb 18 0 2,
Qd 19 1 18,
Qj 20 19,
Qq 21 17 20]
def c76_6 : ACode := .reg [Qg 24 1 2,
  Qb 25 0 2,
  Qr 26 1 25 [1],
  Qa 27 6,
  Qw 28 7 26 27 [2,1,3],
  Qah 29 0 28 [4,2,1,3],
  Qr 30 1 29 [5,4,2,1,3],
  Qa 31 1,
  ⟨.var 32, .call (.fn 140) [(.loc 24), (.loc 30), (.loc 31)] [.borrow, .borrow, .borrow], none, [0, 6, 5, 4, 2, 1, 3, 7]⟩] true
def c76_7:= rg [Qa 33 5,
Qb 34 0 2,
Qd 35 1 34,
Qa 36 6,
Qm 37 7 35 36,
Qt 38 0 37,
Qd 39 1 38,
⟨.loc 40, .lit 0 1 1 [.int .i64 0] [(0, (.loc 39))], none, []⟩,
Qau 41 1 8 33 40,
Qc 5 41]
def c76_8:= rg [Qa 22 6,
Qi 23 22 1,
Qc 6 23]
def c76_9 : ACode := (.seq (.seq c76_5 (.cond (.var 21) .skip (.exit 0))) (.seq (.block 1 (.seq c76_6 (.cond (.var 32) c76_7 .skip))) c76_8))
def c76_10:= rg [Qa 42 5,
Qc 4 42]
def c76 : ACode := (.seq c76_0 (.seq c76_1 (.seq (.seq c76_2 (.cond (.var 16) (.seq c76_3 .ret) .skip)) (.seq (.seq c76_4 (.block 0 (.loop [1, 2, 5, 6] c76_9))) (.seq c76_10 .ret)))))
abbrev F_S_Below : FuncId := 76
theorem v_S_Below : VT 2 1 Tryz.f76 76 [0,1,2,4,5,6,16,21,32] [none, none] [(.give, 4, none)] c76 := mkV Tryz.func76 rfl rfl (by kernel_rfl) (by kernel_rfl) rfl rfl
def c77_0:= rg [Qf 4]
def c77_1:= rg [Qe 5 0]
def c77_2:= rg [Qa 6 5,
Qa 7 0,
Qj 8 7,
Qq 9 6 8]
def c77_3:= rg [Qa 12 0,
Qa 13 5,
Qm 14 1 12 13,
Qd 15 1 14,
Qa 16 1,
Qcv 17 15 16]
def c77_4:= rg [Qy 4]
def c77_5:= rg [Qa 10 5,
Qi 11 10 1,
Qc 5 11]
def c77_6 : ACode := (.seq (.seq c77_2 (.cond (.var 9) .skip (.exit 0))) (.seq (.block 1 (.seq c77_3 (.cond (.var 17) (.seq c77_4 .ret) .skip))) c77_5))
def c77_7:= rg [Qf 4]
def c77 : ACode := (.seq c77_0 (.seq (.seq c77_1 (.block 0 (.loop [0, 1, 5] c77_6))) (.seq c77_7 .ret)))
abbrev F_S_l01Has : FuncId := 77
theorem v_S_l01Has : VT 2 1 Tryz.f77 77 [0,1,4,5,9,17] [none, none] [(.give, 4, none)] c77 := mkV Tryz.func77 rfl rfl (by kernel_rfl) (by kernel_rfl) rfl rfl
def c78_0:= rg [Qh 2 0,
Qx 4 1 7,
Qaa 5 0 1]
def c78_1:= rg [Qx 6 1 7]
def c78_2:= rg [Qaa 7 0 1]
def c78_3:= rg [Qb 10 0 2,
Qcb 11 1 10,
Qbh 12 11,
Qe 13 0]
def c78_4:= rg [Qas 14 13 12]
def c78_5:= rg [Qbi 15 7 11 13,
Qp 16 7 15,
Qcf 9 0 0 0 1 0 0 0 0,
Qk 7 9 16]
def c78_6:= rg [Qa 17 1,
Qg 18 7 9,
⟨.loc 19, .call (.loc 17) [(.loc 18)] [.borrow], none, []⟩,
Qn 20 19,
Qap 21 7 20,
Qag 22 1 9 20,
Qaq 23 1 22 20,
Qci 24 80 21 23 20,
Qar 25 20 24]
def c78_7:= rg [Qa 26 7,
Qb 27 0 9,
Qd 28 1 27,
⟨.loc 29, .lit 0 1 1 [.int .i64 0] [(0, (.loc 28))], none, []⟩,
Qau 30 1 8 26 29,
Qc 7 30]
def c78_8 : ACode := .reg [Qb 31 0 6,
  Qr 32 1 31 [0],
  Qg 33 7 9,
  Qak 34 141 33 [2],
  ⟨.loc 35, .lit 1 7 1 [.int .i64 0, .int .i64 0, .slc 1 [], .int .i64 0, .int .i64 0, .int .i64 0, .int .i64 0] [(0, (.loc 34))], none, [3, 2]⟩,
  Qbw 36 7 72 32 35 [1,0,4,3,2],
  Qbd 37 0 6 [5,1,0,4,3,2],
  Qav 1 37 36 [6,5,1,0,4,3,2]] true
def c78_9:= rg [Qat 38 13 1,
Qc 13 38]
def c78_10 : ACode := (.seq c78_4 (.seq (.cond (.var 14) .skip (.exit 0)) (.seq (.block 1 (.seq c78_5 (.seq c78_6 (.cond (.var 25) c78_7 c78_8)))) c78_9)))
def c78_11:= rg [Qg 39 1 6,
Qa 40 7,
Qk 1 4 39,
Qc 5 40]
def c78 : ACode := (.seq c78_0 (.seq c78_1 (.seq c78_2 (.seq (.seq c78_3 (.block 0 (.loop [1, 4, 6, 7, 11, 12, 13] c78_10))) (.seq c78_11 .ret)))))
abbrev F_I_without : FuncId := 78
theorem v_I_without : VT 2 2 Tryz.f78 78 [0,1,2,4,5,6,7,9,11,12,13,14,25] [none, none] [(.give, 4, some (true, 1)), (.give, 5, none)] c78 := mkV Tryz.func78 rfl rfl (by kernel_rfl) (by kernel_rfl) rfl rfl
def c80_0:= rg [Qf 4]
def c80_1:= rg [Qa 5 0,
Qa 6 1,
Qo 7 142 5 6,
⟨.loc 8, .bin .int .geq (.loc 7) (.const (.d (.int .i64 0))), none, []⟩,
Qc 4 8]
def c80 : ACode := (.seq c80_0 (.seq c80_1 .ret))
abbrev F_slices_Contains___int_int_ : FuncId := 80
theorem v_slices_Contains___int_int_ : VT 2 1 Tryz.f80 80 [0,1,4] [none, none] [(.give, 4, none)] c80 := mkV Tryz.func80 rfl rfl (by kernel_rfl) (by kernel_rfl) rfl rfl
def c81_0:= rg [Qh 1 0,
Qay 2 0 0 0 1 7 0 6 0 2 0 0 0 3 0 2]
def c81_1:= rg [Qg 5 10 1,
Qay 3 0 0 0 1 7 0 6 0 2 0 0 0 3 0 2,
Qk 10 3 5]
def c81_2:= rg [Qb 6 3 1,
Qp 7 1 6,
Qs 8 143 7,
Qb 9 3 3,
Ql 1 9 8]
def c81_3:= rg [Qb 10 4 1,
Qp 11 1 10,
Qs 12 144 11,
Qb 13 4 3,
Ql 1 13 12]
def c81_4:= rg [Qb 14 5 1,
Qp 15 3 14,
Qs 16 145 15,
Qb 17 5 3,
Ql 3 17 16]
def c81_5:= rg [Qb 18 8 1,
Qp 19 1 18,
Qs 20 146 19,
Qb 21 8 3,
Ql 1 21 20]
def c81_6:= rg [Qb 22 9 3,
⟨.none, .store 1 (.loc 22) (.const (.nil 0 2)), none, []⟩]
def c81_7:= rg [Qe 4 0]
def c81_8:= rg [Qa 23 4,
Qb 24 9 1,
Qd 25 1 24,
Qj 26 25,
Qq 27 23 26]
def c81_9 : ACode := .reg [Qb 30 9 3,
  Qr 31 1 30 [0],
  Qb 32 9 1,
  Qr 33 1 32 [2],
  Qa 34 4,
  Qw 35 2 33 34 [3,2,4],
  Qai 36 2 35 [5,3,2,4],
  ⟨.loc 37, .lit 0 2 1 [.int .i64 0, .str []] [(0, (.loc 36))], none, [6, 5, 3, 2, 4]⟩,
  Qbw 38 2 24 31 37 [1,0,7,6,5,3,2,4],
  Qbd 39 9 3 [8,1,0,7,6,5,3,2,4],
  Qav 1 39 38 [9,8,1,0,7,6,5,3,2,4]] true
def c81_10:= rg [Qa 28 4,
Qi 29 28 1,
Qc 4 29]
def c81_11 : ACode := (.seq (.seq c81_8 (.cond (.var 27) .skip (.exit 0))) (.seq (.block 1 c81_9) c81_10))
def c81_12:= rg [Qg 40 10 3,
Qk 10 2 40]
def c81 : ACode := (.seq c81_0 (.seq c81_1 (.seq c81_2 (.seq c81_3 (.seq c81_4 (.seq c81_5 (.seq c81_6 (.seq (.seq c81_7 (.block 0 (.loop [1, 2, 3, 4] c81_11))) (.seq c81_12 .ret)))))))))
abbrev F_S_l16Copy : FuncId := 81
theorem v_S_l16Copy : VT 1 1 Tryz.f81 81 [0,1,2,3,4,27] [none] [(.give, 2, some (true, 10))] c81 := mkV Tryz.func81 rfl rfl (by kernel_rfl) (by kernel_rfl) rfl rfl
def c85_0:= rg [Qh 1 0,
Qay 2 0 0 0 1 7 0 6 0 2 0 0 0 3 0 2]
def c85_1 : ACode := .reg [Qb 3 3 1,
  Qai 4 1 3 [0],
  Qak 5 148 4 [1,0],
  Qb 6 4 1,
  Qai 7 1 6 [3],
  Qak 8 149 7 [4,3,2,1,0],
  Qb 9 5 1,
  Qai 10 3 9 [6],
  Qak 11 150 10 [7,6,5,4,3,2,1,0],
  Qb 12 8 1,
  Qai 13 1 12 [9],
  Qak 14 151 13 [10,9,8,7,6,5,4,3,2,1,0],
  Qbd 15 3 1 [2,1,0,4,3,7,6,10,9],
  Qav 1 15 5 [12,11,8,5,2,1,0,4,3,7,6,10,9],
  Qbd 16 4 1 [13,12,11,8,5,2,1,0,4,3,7,6,10,9],
  Qav 1 16 8 [14,13,12,11,8,5,2,1,0,4,3,7,6,10,9],
  Qbd 17 5 1 [15,14,13,12,11,8,5,2,1,0,4,3,7,6,10,9],
  Qav 3 17 11 [16,15,14,13,12,11,8,5,2,1,0,4,3,7,6,10,9],
  Qbd 18 8 1 [17,16,15,14,13,12,11,8,5,2,1,0,4,3,7,6,10,9],
  Qav 1 18 14 [18,17,16,15,14,13,12,11,8,5,2,1,0,4,3,7,6,10,9]] true
def c85_2:= rg [Qb 19 9 1,
Qd 20 1 19,
Qs 21 152 20,
Qb 22 9 1,
Ql 1 22 21]
def c85_3:= rg [Qg 23 10 1,
Qk 10 2 23]
def c85 : ACode := (.seq c85_0 (.seq c85_1 (.seq c85_2 (.seq c85_3 .ret))))
abbrev F_I_cloneWorld : FuncId := 85
theorem v_I_cloneWorld : VT 1 1 Tryz.f85 85 [0,1,2] [none] [(.give, 2, some (true, 10))] c85 := mkV Tryz.func85 rfl rfl (by kernel_rfl) (by kernel_rfl) rfl rfl
def c87_0:= rg [Qh 2 0,
Qe 4 0]
def c87_1:= rg [Qb 5 0 2,
Qd 6 1 5,
Qa 7 1,
Qo 8 155 6 7,
Qc 1 8]
def c87_2:= rg [Qa 9 1,
Qu 10 9 0]
def c87_3:= rg [Qe 4 (-1)]
def c87_4:= rg [Qa 11 1,
Qc 4 11]
def c87 : ACode := (.seq c87_0 (.seq c87_1 (.seq (.seq c87_2 (.cond (.var 10) (.seq c87_3 .ret) .skip)) (.seq c87_4 .ret))))
abbrev F_L_heldForest : FuncId := 87
theorem v_L_heldForest : VT 2 1 Tryz.f87 87 [0,1,2,4,10] [none, none] [(.give, 4, none)] c87 := mkV Tryz.func87 rfl rfl (by kernel_rfl) (by kernel_rfl) rfl rfl
def c88_0:= rg [Qh 2 0,
Qe 4 0]
def c88_1:= rg [Qb 5 0 2,
Qd 6 1 5,
Qa 7 1,
Qo 8 156 6 7,
Qc 1 8]
def c88_2:= rg [Qa 9 1,
Qu 10 9 0]
def c88_3:= rg [Qe 4 (-1)]
def c88_4:= rg [Qa 11 1,
Qc 4 11]
def c88 : ACode := (.seq c88_0 (.seq c88_1 (.seq (.seq c88_2 (.cond (.var 10) (.seq c88_3 .ret) .skip)) (.seq c88_4 .ret))))
abbrev F_L_heldBook : FuncId := 88
theorem v_L_heldBook : VT 2 1 Tryz.f88 88 [0,1,2,4,10] [none, none] [(.give, 4, none)] c88 := mkV Tryz.func88 rfl rfl (by kernel_rfl) (by kernel_rfl) rfl rfl
def c89_0:= rg [Qh 2 0,
Qe 4 0]
def c89_1:= rg [Qb 5 0 2,
Qd 6 1 5,
Qa 7 1,
Qo 8 157 6 7,
Qc 1 8]
def c89_2:= rg [Qa 9 1,
Qu 10 9 0]
def c89_3:= rg [Qe 4 (-1)]
def c89_4:= rg [Qa 11 1,
Qc 4 11]
def c89 : ACode := (.seq c89_0 (.seq c89_1 (.seq (.seq c89_2 (.cond (.var 10) (.seq c89_3 .ret) .skip)) (.seq c89_4 .ret))))
abbrev F_L_heldFar : FuncId := 89
theorem v_L_heldFar : VT 2 1 Tryz.f89 89 [0,1,2,4,10] [none, none] [(.give, 4, none)] c89 := mkV Tryz.func89 rfl rfl (by kernel_rfl) (by kernel_rfl) rfl rfl
def c90_0:= rg [Qh 2 0,
Qe 4 0]
def c90_1:= rg [Qb 5 0 2,
Qd 6 1 5,
Qa 7 1,
Qo 8 158 6 7,
Qc 1 8]
def c90_2:= rg [Qa 9 1,
Qu 10 9 0]
def c90_3:= rg [Qe 4 (-1)]
def c90_4:= rg [Qa 11 1,
Qc 4 11]
def c90 : ACode := (.seq c90_0 (.seq c90_1 (.seq (.seq c90_2 (.cond (.var 10) (.seq c90_3 .ret) .skip)) (.seq c90_4 .ret))))
abbrev F_L_heldQueue : FuncId := 90
theorem v_L_heldQueue : VT 2 1 Tryz.f90 90 [0,1,2,4,10] [none, none] [(.give, 4, none)] c90 := mkV Tryz.func90 rfl rfl (by kernel_rfl) (by kernel_rfl) rfl rfl
def c91_0:= rg [Qe 4 0]
def c91_1:= rg [Qe 5 0]
def c91_2:= rg [Qa 6 5,
Qa 7 0,
Qj 8 7,
Qq 9 6 8]
def c91_3:= rg [Qa 12 0,
Qa 13 5,
Qm 14 2 12 13,
Qt 15 0 14,
Qd 16 1 15,
Qa 17 1,
Qv 18 16 17]
def c91_4:= rg [Qe 4 (-1)]
def c91_5:= rg [Qa 19 1,
Qi 20 19 1,
Qc 1 20]
def c91_6 : ACode := .reg [Qa 21 0,
  Qa 22 5,
  Qw 23 2 21 22 [0,1],
  Qah 24 1 23 [2,0,1],
  Qr 25 1 24 [3,2,0,1],
  Qa 26 1,
  Qak 27 75 26 [5],
  Qck 28 25 27 [4,3,2,0,1,6,5]] true
def c91_7:= rg [Qe 4 (-1)]
def c91_8:= rg [Qa 29 1,
Qi 30 29 1,
Qc 1 30]
def c91_9:= rg [Qa 10 5,
Qi 11 10 1,
Qc 5 11]
def c91_10 : ACode := (.seq (.seq c91_2 (.cond (.var 9) .skip (.exit 0))) (.seq (.block 1 (.seq (.seq c91_3 (.cond (.var 18) (.seq c91_4 .ret) .skip)) (.seq c91_5 (.seq (.seq c91_6 (.cond (.var 28) (.seq c91_7 .ret) .skip)) c91_8)))) c91_9))
def c91_11:= rg [Qa 31 1,
Qc 4 31]
def c91 : ACode := (.seq c91_0 (.seq (.seq c91_1 (.block 0 (.loop [0, 1, 5] c91_10))) (.seq c91_11 .ret)))
abbrev F_L_heldOwnedS : FuncId := 91
theorem v_L_heldOwnedS : VT 2 1 Tryz.f91 91 [0,1,4,5,9,18,28] [none, none] [(.give, 4, none)] c91 := mkV Tryz.func91 rfl rfl (by kernel_rfl) (by kernel_rfl) rfl rfl
def c93_0:= rg [Qh 2 0,
Qay 4 0 0 0 1 7 0 6 0 2 0 0 0 3 0 2,
Qaa 5 0 1,
Qaa 6 0 1]
def c93_1:= rg [Qe 7 0]
def c93_2:= rg [Qa 16 7,
Qa 17 1,
Qj 18 17,
Qq 19 16 18]
def c93_3:= rg [⟨.loc 22, .lit 0 2 0 [.int .i64 0, .str []] [], none, []⟩,
Qc 8 22]
def c93_4:= rg [Qe 9 0]
def c93_5:= rg [Qa 23 9,
Qb 24 9 2,
Qd 25 1 24,
Qj 26 25,
Qq 27 23 26]
def c93_6 : ACode := .reg [Qb 30 9 2,
  Qr 31 1 30 [0],
  Qa 32 9,
  Qw 33 2 31 32 [1,0,2],
  Qah 34 0 33 [3,1,0,2],
  Qr 35 1 34 [4,3,1,0,2],
  Qa 36 1,
  Qa 37 7,
  Qw 38 6 36 37 [6,7],
  Qah 39 0 38 [8,6,7],
  Qr 40 1 39 [9,8,6,7],
  ⟨.var 41, .bin .int .neq (.loc 35) (.loc 40), none, [5, 4, 3, 1, 0, 2, 10, 9, 8, 6, 7]⟩] true
def c93_7:= rg [Qa 42 8,
Qb 43 9 2,
Qd 44 1 43,
Qa 45 9,
Qm 46 2 44 45,
Qp 47 2 46,
⟨.loc 48, .lit 0 2 1 [.int .i64 0, .str []] [(0, (.loc 47))], none, []⟩,
Qau 49 2 24 42 48,
Qc 8 49]
def c93_8 : ACode := .reg [Qb 51 8 2,
  Qai 52 1 51 [0],
  Qb 53 9 2,
  Qr 54 1 53 [2],
  Qa 55 9,
  Qw 56 2 54 55 [3,2,4],
  Qah 57 1 56 [5,3,2,4],
  Qr 58 1 57 [6,5,3,2,4],
  Qb 59 0 2,
  Qr 60 1 59 [8],
  ⟨.loc 61, .call (.fn 159) [(.loc 52), (.loc 58), (.loc 60)] [.borrow, .borrow, .borrow], none, [1, 0, 7, 6, 5, 3, 2, 4, 9, 8]⟩,
  ⟨.loc 50, .mv (.loc 61), none, [10, 1, 0, 7, 6, 5, 3, 2, 4, 9, 8]⟩,
  Qbq 62 50 0 [11,10,1,0,7,6,5,3,2,4,9,8],
  Qbq 63 50 1 [11,10,1,0,7,6,5,3,2,4,9,8],
  Qx 10 0 3,
  Qbx 1 10 62 [12,11,10,1,0,7,6,5,3,2,4,9,8,14],
  Qbr 11 63 [13,15,12,11,10,1,0,7,6,5,3,2,4,9,8,14]] true
def c93_9:= rg [Qg 64 1 10,
Qb 65 8 2,
Ql 1 65 64]
def c93_10:= rg [Qa 66 11,
Qam 67 66]
def c93_11:= rg [Qg 68 10 2,
⟨.loc 69, .call (.fn 160) [(.loc 68), (.const (.d (.int .i64 1)))] [.give, .borrow], none, []⟩,
Qk 10 2 69]
def c93_12:= rg [Qa 28 9,
Qi 29 28 1,
Qc 9 29]
def c93_13 : ACode := (.seq (.seq c93_5 (.cond (.var 27) .skip (.exit 2))) (.seq (.block 3 (.seq (.seq c93_6 (.cond (.var 41) (.seq c93_7 (.exit 3)) .skip)) (.seq c93_8 (.seq c93_9 (.seq c93_10 (.cond (.var 67) c93_11 .skip)))))) c93_12))
def c93_14:= rg [Qa 70 8,
Qb 71 9 2,
Ql 1 71 70]
def c93_15:= rg [Qa 20 7,
Qi 21 20 1,
Qc 7 21]
def c93_16 : ACode := (.seq (.seq c93_2 (.cond (.var 19) .skip (.exit 0))) (.seq (.block 1 (.seq c93_3 (.seq (.seq c93_4 (.block 2 (.loop [1, 2, 4, 7, 8, 9] c93_13))) c93_14))) c93_15))
def c93_17:= rg [Qb 73 8 2,
Qp 74 1 73,
Qb 75 5 2,
Qp 76 3 75,
Qb 77 0 2,
Qd 78 1 77,
⟨.loc 79, .call (.fn 161) [(.loc 74), (.loc 76), (.loc 78)] [.borrow, .borrow, .borrow], none, []⟩,
Qbf 72 79,
Qac 80 72 0,
Qac 81 72 1,
Qac 82 72 2,
Qac 83 72 3,
Qx 12 0 3,
Qaz 13 0 2 0 0,
Qk 1 12 80,
Qk 3 13 81,
Qc 14 82,
Qc 15 83]
def c93_18:= rg [Qg 84 1 12,
Qb 85 8 2,
Ql 1 85 84]
def c93_19:= rg [Qg 86 3 13,
Qb 87 5 2,
Ql 3 87 86]
def c93_20:= rg [Qg 88 10 2,
Qa 89 15,
Qj 90 89,
⟨.loc 91, .call (.fn 160) [(.loc 88), (.loc 90)] [.give, .borrow], none, []⟩,
Qa 92 14,
Qa 93 15,
Qk 10 4 91,
Qc 5 92,
Qc 6 93]
def c93 : ACode := (.seq c93_0 (.seq (.seq c93_1 (.block 0 (.loop [1, 2, 4, 7] c93_16))) (.seq c93_17 (.seq c93_18 (.seq c93_19 (.seq c93_20 .ret))))))
abbrev F_S_l16LetGo : FuncId := 93
theorem v_S_l16LetGo : VT 2 3 Tryz.f93 93 [0,1,2,4,5,6,7,8,9,10,11,12,13,14,15,19,27,41,67] [none, none] [(.give, 4, some (true, 10)), (.give, 5, none), (.give, 6, none)] c93 := mkV Tryz.func93 rfl rfl (by kernel_rfl) (by kernel_rfl) rfl rfl
def c94_0:= rg [Qh 2 0,
Qh 3 1,
Qe 4 0]
def c94_1:= rg [Qb 5 0 2,
Qd 6 1 5,
Qcr 7 163 3,
Qo 8 162 6 7,
Qc 4 8]
def c94 : ACode := (.seq c94_0 (.seq c94_1 .ret))
abbrev F_I_leaseIndex : FuncId := 94
theorem v_I_leaseIndex : VT 2 1 Tryz.f94 94 [0,1,2,3,4] [none, none] [(.give, 4, none)] c94 := mkV Tryz.func94 rfl rfl (by kernel_rfl) (by kernel_rfl) rfl rfl
def c96_0:= rg [Qaa 4 0 1,
Qaa 5 0 1]
def c96_1:= rg [⟨.var 15, .mv (.var 1), none, []⟩,
Qbh 16 15,
Qe 17 0]
def c96_2:= rg [Qas 18 17 16]
def c96_3:= rg [Qbi 19 6 15 17,
Qp 20 6 19,
Qcq 7 0 0 0 0 0,
Qk 6 7 20]
def c96_4:= rg [Qa 21 0,
Qby 22 21,
Qt 23 9 22,
Qd 24 1 23,
Qcr 25 164 7,
Qo 26 135 24 25,
Qc 8 26]
def c96_5:= rg [Qa 27 8,
Qu 28 27 0]
def c96_6 : ACode := .reg [Qa 30 0,
  Qcg 31 30 [0],
  Qah 32 8 31 [1,0],
  Qai 33 1 32 [2,1,0],
  Qa 34 0,
  Qcg 35 34 [4],
  Qah 36 9 35 [5,4],
  Qr 37 1 36 [6,5,4],
  Qa 38 8,
  Qw 39 2 37 38 [7,6,5,4,8],
  Qah 40 1 39 [9,7,6,5,4,8],
  Qr 41 1 40 [10,9,7,6,5,4,8],
  Qa 42 0,
  Qcg 43 42 [12],
  Qah 44 0 43 [13,12],
  Qr 45 1 44 [14,13,12],
  ⟨.loc 46, .call (.fn 165) [(.loc 33), (.loc 41), (.loc 45)] [.borrow, .borrow, .borrow], none, [3, 2, 1, 0, 11, 10, 9, 7, 6, 5, 4, 8, 15, 14, 13, 12]⟩,
  ⟨.loc 29, .mv (.loc 46), none, [16, 3, 2, 1, 0, 11, 10, 9, 7, 6, 5, 4, 8, 15, 14, 13, 12]⟩,
  Qbq 47 29 0 [17,16,3,2,1,0,11,10,9,7,6,5,4,8,15,14,13,12],
  Qbq 48 29 1 [17,16,3,2,1,0,11,10,9,7,6,5,4,8,15,14,13,12],
  Qx 9 0 3,
  Qbx 1 9 47 [18,17,16,3,2,1,0,11,10,9,7,6,5,4,8,15,14,13,12,20],
  Qbr 10 48 [19,21,18,17,16,3,2,1,0,11,10,9,7,6,5,4,8,15,14,13,12,20]] true
def c96_7:= rg [Qa 49 0,
Qg 50 1 9,
Qby 51 49,
Qt 52 8 51,
Ql 1 52 50]
def c96_8:= rg [Qa 53 10,
Qam 54 53]
def c96_9:= rg [Qa 55 0,
Qa 56 0,
Qby 57 56,
Qt 58 2 57,
Qd 59 1 58,
Qi 60 59 1,
⟨.loc 61, .mm false (.loc 60) (.const (.d (.int .i64 1000000000))), none, []⟩,
Qby 62 55,
Qt 63 2 62,
Ql 1 63 61]
def c96_10:= rg [Qa 64 0,
Qa 65 0,
Qby 66 65,
Qt 67 9 66,
Qd 68 1 67,
Qa 69 8,
Qa 70 8,
Qi 71 70 1,
⟨.loc 72, .call (.fn 166) [(.loc 68), (.loc 69), (.loc 71)] [.give, .borrow, .borrow], none, []⟩,
Qby 73 64,
Qt 74 9 73,
Ql 1 74 72]
def c96_11:= rg [Qat 75 17 1,
Qc 17 75]
def c96_12 : ACode := (.seq c96_2 (.seq (.cond (.var 18) .skip (.exit 0)) (.seq (.block 1 (.seq c96_3 (.seq c96_4 (.seq (.seq c96_5 (.cond (.var 28) (.exit 1) .skip)) (.seq c96_6 (.seq c96_7 (.seq (.seq c96_8 (.cond (.var 54) c96_9 .skip)) c96_10))))))) c96_11)))
def c96_13 : ACode := .reg [Qa 77 0,
  Qcg 78 77 [0],
  Qah 79 8 78 [1,0],
  Qai 80 1 79 [2,1,0],
  Qa 81 0,
  Qcg 82 81 [4],
  Qah 83 5 82 [5,4],
  Qai 84 3 83 [6,5,4],
  Qa 85 0,
  Qcg 86 85 [8],
  Qah 87 0 86 [9,8],
  Qr 88 1 87 [10,9,8],
  ⟨.loc 89, .call (.fn 167) [(.loc 80), (.loc 84), (.loc 88)] [.borrow, .borrow, .borrow], none, [3, 2, 1, 0, 7, 6, 5, 4, 11, 10, 9, 8]⟩,
  ⟨.loc 76, .mv (.loc 89), none, [12, 3, 2, 1, 0, 7, 6, 5, 4, 11, 10, 9, 8]⟩,
  Qbq 90 76 0 [13,12,3,2,1,0,7,6,5,4,11,10,9,8],
  Qbq 91 76 1 [13,12,3,2,1,0,7,6,5,4,11,10,9,8],
  Qbq 92 76 2 [13,12,3,2,1,0,7,6,5,4,11,10,9,8],
  Qbq 93 76 3 [13,12,3,2,1,0,7,6,5,4,11,10,9,8],
  Qx 11 0 3,
  Qaz 12 0 2 0 0,
  Qbx 1 11 90 [14,13,12,3,2,1,0,7,6,5,4,11,10,9,8,18,19],
  Qbx 3 12 91 [15,20,14,13,12,3,2,1,0,7,6,5,4,11,10,9,8,18,19],
  Qbr 13 92 [16,21,15,20,14,13,12,3,2,1,0,7,6,5,4,11,10,9,8,18,19],
  Qbr 14 93 [17,22,16,21,15,20,14,13,12,3,2,1,0,7,6,5,4,11,10,9,8,18,19]] true
def c96_14 : ACode := .reg [Qa 94 0,
  Qa 95 0,
  Qg 96 1 11,
  Qg 97 3 12,
  Qcg 98 94 [0,2],
  Qah 99 8 98 [4,0,2],
  Qav 1 99 96 [5,4,0,2],
  Qcg 100 95 [1,3,6,5,4,0,2],
  Qah 101 5 100 [7,1,3,6,5,4,0,2],
  Qav 3 101 97 [8,7,1,3,6,5,4,0,2]] true
def c96_15:= rg [Qa 102 0,
Qa 103 0,
Qby 104 103,
Qt 105 2 104,
Qd 106 1 105,
Qa 107 14,
Qj 108 107,
Qcx 109 106 108,
⟨.loc 110, .mm false (.loc 109) (.const (.d (.int .i64 1000000000))), none, []⟩,
Qby 111 102,
Qt 112 2 111,
Ql 1 112 110]
def c96_16:= rg [Qa 113 13,
Qa 114 14,
Qc 4 113,
Qc 5 114]
def c96 : ACode := (.seq c96_0 (.seq (.seq c96_1 (.block 0 (.loop [0, 15, 16, 17] c96_12))) (.seq c96_13 (.seq c96_14 (.seq c96_15 (.seq c96_16 .ret))))))
abbrev F_I_World_release : FuncId := 96
theorem v_I_World_release : VT 2 2 Tryz.f96 96 [0,1,4,5,7,8,9,10,11,12,13,14,15,16,17,18,28,54] [some (.box 10), none] [(.give, 4, none), (.give, 5, none)] c96 := mkV Tryz.func96 rfl rfl (by kernel_rfl) (by kernel_rfl) rfl rfl
def c97_0:= rg [Qh 2 0,
Qx 4 1 7,
Qaa 5 0 1]
def c97_1:= rg [Qg 7 1 2,
Qa 8 1,
Qo 9 76 7 8,
Qc 6 9]
def c97_2:= rg [Qa 10 6,
Qj 11 10,
Qcl 12 11 0]
def c97_3:= rg [Qg 13 1 2,
Qs 14 143 13,
Qk 1 4 14,
Qaa 5 0 1]
def c97_4:= rg [Qg 15 1 2,
Qa 16 6,
Qo 17 168 15 16,
Qa 18 6,
Qk 1 4 17,
Qc 5 18]
def c97 : ACode := (.seq c97_0 (.seq c97_1 (.seq (.seq c97_2 (.cond (.var 12) (.seq c97_3 .ret) .skip)) (.seq c97_4 .ret))))
abbrev F_S_RevokeToken : FuncId := 97
theorem v_S_RevokeToken : VT 2 2 Tryz.f97 97 [0,1,2,4,5,6,12] [none, none] [(.give, 4, some (true, 1)), (.give, 5, none)] c97 := mkV Tryz.func97 rfl rfl (by kernel_rfl) (by kernel_rfl) rfl rfl
def c98_0:= rg [Qh 2 0,
Qx 4 0 6,
Qaa 5 0 6]
def c98_1:= rg [Qg 9 1 2,
Qs 10 51 9,
Qba 11 10,
Qn 12 11,
Qap 13 1 12,
⟨.loc 14, .len false (.loc 13), some ((.loc 12), false), []⟩,
⟨.loc 15, .bin .int .gtr (.loc 14) (.const (.d (.int .i64 200))), some ((.loc 12), false), []⟩,
Qar 16 12 15]
def c98_2:= rg [Qg 17 1 2,
Qs 18 144 17,
Qk 1 4 18,
Qaa 5 0 6]
def c98_3:= rg [Qcs 19 0 6,
Qx 6 0 6,
Qk 1 6 19]
def c98_4:= rg [⟨.loc 20, .lit 0 6 0 [.int .i64 0, .int .i64 0, .str [], .int .i64 0, .int .i64 0, .int .i64 0] [], none, []⟩,
Qc 7 20]
def c98_5:= rg [Qe 8 0]
def c98_6:= rg [Qa 21 8,
Qb 22 0 2,
Qd 23 1 22,
Qj 24 23,
Qq 25 21 24]
def c98_7:= rg [Qa 28 1,
Qb 29 0 2,
Qd 30 1 29,
Qa 31 8,
Qm 32 6 30 31,
Qt 33 1 32,
Qd 34 1 33,
⟨.var 35, .call (.fn 77) [(.loc 28), (.loc 34)] [.borrow, .borrow], none, []⟩]
def c98_8:= rg [Qa 36 7,
Qb 37 0 2,
Qd 38 1 37,
Qa 39 8,
Qm 40 6 38 39,
Qp 41 6 40,
⟨.loc 42, .lit 0 6 1 [.int .i64 0, .int .i64 0, .str [], .int .i64 0, .int .i64 0, .int .i64 0] [(0, (.loc 41))], none, []⟩,
Qau 43 6 56 36 42,
Qc 7 43]
def c98_9 : ACode := .reg [Qb 44 0 6,
  Qr 45 1 44 [0],
  Qb 46 0 2,
  Qr 47 1 46 [2],
  Qa 48 8,
  Qw 49 6 47 48 [3,2,4],
  Qai 50 6 49 [5,3,2,4],
  ⟨.loc 51, .lit 0 6 1 [.int .i64 0, .int .i64 0, .str [], .int .i64 0, .int .i64 0, .int .i64 0] [(0, (.loc 50))], none, [6, 5, 3, 2, 4]⟩,
  Qbw 52 6 56 45 51 [1,0,7,6,5,3,2,4],
  Qbd 53 0 6 [8,1,0,7,6,5,3,2,4],
  Qav 1 53 52 [9,8,1,0,7,6,5,3,2,4]] true
def c98_10:= rg [Qa 26 8,
Qi 27 26 1,
Qc 8 27]
def c98_11 : ACode := (.seq (.seq c98_6 (.cond (.var 25) .skip (.exit 0))) (.seq (.block 1 (.seq c98_7 (.cond (.var 35) c98_8 c98_9))) c98_10))
def c98_12:= rg [Qg 54 1 6,
Qa 55 7,
Qk 1 4 54,
Qc 5 55]
def c98 : ACode := (.seq c98_0 (.seq (.seq c98_1 (.cond (.var 16) (.seq c98_2 .ret) .skip)) (.seq c98_3 (.seq c98_4 (.seq (.seq c98_5 (.block 0 (.loop [1, 2, 4, 6, 7, 8] c98_11))) (.seq c98_12 .ret))))))
abbrev F_S_DropOf : FuncId := 98
theorem v_S_DropOf : VT 2 2 Tryz.f98 98 [0,1,2,4,5,6,7,8,16,25,35] [none, none] [(.give, 4, some (true, 1)), (.give, 5, none)] c98 := mkV Tryz.func98 rfl rfl (by kernel_rfl) (by kernel_rfl) rfl rfl
def c99_0:= rg [Qh 2 0,
Qh 3 1,
Qe 4 0]
def c99_1:= rg [Qb 5 0 2,
Qd 6 1 5,
Qcr 7 170 3,
Qo 8 169 6 7,
Qc 4 8]
def c99 : ACode := (.seq c99_0 (.seq c99_1 .ret))
abbrev F_I_tokenIndex : FuncId := 99
theorem v_I_tokenIndex : VT 2 1 Tryz.f99 99 [0,1,2,3,4] [none, none] [(.give, 4, none)] c99 := mkV Tryz.func99 rfl rfl (by kernel_rfl) (by kernel_rfl) rfl rfl
def c100_0:= rg [Qh 2 0,
Qh 3 1,
Qay 4 0 0 0 1 7 0 6 0 2 0 0 0 3 0 2,
Qaa 5 0 1]
def c100_1:= rg [Qg 9 10 2,
Qs 10 85 9,
Qay 6 0 0 0 1 7 0 6 0 2 0 0 0 3 0 2,
Qk 10 6 10]
def c100_2:= rg [Qb 12 3 2,
Qp 13 1 12,
Qcr 14 171 3,
Qo 15 78 13 14,
Qbf 11 15,
Qac 16 11 0,
Qac 17 11 1,
Qx 7 1 7,
Qk 1 7 16,
Qc 8 17]
def c100_3:= rg [Qg 18 1 7,
Qb 19 3 6,
Ql 1 19 18]
def c100_4:= rg [Qa 20 8,
⟨.loc 21, .call (.fn 172) [(.var 6), (.loc 20)] [.box 10, .borrow], none, []⟩,
⟨.loc 22, .call (.fn 96) [(.var 6), (.loc 21)] [.box 10, .borrow], none, []⟩]
def c100_5:= rg [Qg 23 10 6,
Qa 24 8,
Qk 10 4 23,
Qc 5 24]
def c100 : ACode := (.seq c100_0 (.seq c100_1 (.seq c100_2 (.seq c100_3 (.seq c100_4 (.seq c100_5 .ret))))))
abbrev F_I_cutToken : FuncId := 100
theorem v_I_cutToken : VT 2 2 Tryz.f100 100 [0,1,2,3,4,5,6,7,8] [none, none] [(.give, 4, some (true, 10)), (.give, 5, none)] c100 := mkV Tryz.func100 rfl rfl (by kernel_rfl) (by kernel_rfl) rfl rfl
def c103_0:= rg [Qf 6]
def c103_1:= rg [Qa 7 0,
Qa 8 1,
⟨.loc 9, .bin .int .geq (.loc 7) (.loc 8), none, []⟩,
Qn 10 9,
Qae 11 0 10,
Qae 12 2 10,
⟨.loc 13, .bin .int .leq (.loc 11) (.loc 12), some ((.loc 10), true), []⟩,
Qaf 14 10 13,
Qc 6 14]
def c103 : ACode := (.seq c103_0 (.seq c103_1 .ret))
abbrev F_I_within : FuncId := 103
theorem v_I_within : VT 3 1 Tryz.f103 103 [0,1,2,6] [none, none, none] [(.give, 6, none)] c103 := mkV Tryz.func103 rfl rfl (by kernel_rfl) (by kernel_rfl) rfl rfl
def c109_0:= rg [Qe 4 0]
def c109_1:= rg [Qa 6 1,
Qa 7 0,
Qj 8 7,
Qbg 9 6 8,
Qc 1 9]
def c109_2:= rg [Qa 10 1,
Qu 11 10 0]
def c109_3:= rg [Qe 4 (-1)]
def c109_4:= rg [Qe 5 0]
def c109_5:= rg [Qa 12 5,
Qa 13 0,
Qj 14 13,
Qq 15 12 14]
def c109_6:= rg [Qa 18 0,
Qa 19 5,
Qm 20 7 18 19,
Qp 21 7 20,
Qa 22 1,
Qo 23 181 21 22,
Qc 1 23]
def c109_7:= rg [Qa 24 1,
Qu 25 24 0]
def c109_8:= rg [Qe 4 (-1)]
def c109_9:= rg [Qa 16 5,
Qi 17 16 1,
Qc 5 17]
def c109_10 : ACode := (.seq (.seq c109_5 (.cond (.var 15) .skip (.exit 0))) (.seq (.block 1 (.seq c109_6 (.seq c109_7 (.cond (.var 25) (.seq c109_8 .ret) .skip)))) c109_9))
def c109_11:= rg [Qa 26 1,
Qc 4 26]
def c109 : ACode := (.seq c109_0 (.seq c109_1 (.seq (.seq c109_2 (.cond (.var 11) (.seq c109_3 .ret) .skip)) (.seq (.seq c109_4 (.block 0 (.loop [0, 1, 5] c109_10))) (.seq c109_11 .ret)))))
abbrev F_L_szTokenS : FuncId := 109
theorem v_L_szTokenS : VT 2 1 Tryz.f109 109 [0,1,4,5,11,15,25] [none, none] [(.give, 4, none)] c109 := mkV Tryz.func109 rfl rfl (by kernel_rfl) (by kernel_rfl) rfl rfl
def c110_0:= rg [Qe 4 0]
def c110_1:= rg [Qa 6 1,
Qa 7 0,
Qj 8 7,
Qbg 9 6 8,
Qc 1 9]
def c110_2:= rg [Qa 10 1,
Qu 11 10 0]
def c110_3:= rg [Qe 4 (-1)]
def c110_4:= rg [Qe 5 0]
def c110_5:= rg [Qa 12 5,
Qa 13 0,
Qj 14 13,
Qq 15 12 14]
def c110_6:= rg [Qa 18 0,
Qa 19 5,
Qm 20 6 18 19,
Qp 21 6 20,
Qa 22 1,
Qo 23 182 21 22,
Qc 1 23]
def c110_7:= rg [Qa 24 1,
Qu 25 24 0]
def c110_8:= rg [Qe 4 (-1)]
def c110_9:= rg [Qa 16 5,
Qi 17 16 1,
Qc 5 17]
def c110_10 : ACode := (.seq (.seq c110_5 (.cond (.var 15) .skip (.exit 0))) (.seq (.block 1 (.seq c110_6 (.seq c110_7 (.cond (.var 25) (.seq c110_8 .ret) .skip)))) c110_9))
def c110_11:= rg [Qa 26 1,
Qc 4 26]
def c110 : ACode := (.seq c110_0 (.seq c110_1 (.seq (.seq c110_2 (.cond (.var 11) (.seq c110_3 .ret) .skip)) (.seq (.seq c110_4 (.block 0 (.loop [0, 1, 5] c110_10))) (.seq c110_11 .ret)))))
abbrev F_L_szLeaseS : FuncId := 110
theorem v_L_szLeaseS : VT 2 1 Tryz.f110 110 [0,1,4,5,11,15,25] [none, none] [(.give, 4, none)] c110 := mkV Tryz.func110 rfl rfl (by kernel_rfl) (by kernel_rfl) rfl rfl
def c111_0:= rg [Qe 4 0]
def c111_1:= rg [Qa 6 1,
Qa 7 0,
Qj 8 7,
Qbg 9 6 8,
Qc 1 9]
def c111_2:= rg [Qa 10 1,
Qu 11 10 0]
def c111_3:= rg [Qe 4 (-1)]
def c111_4:= rg [Qe 5 0]
def c111_5:= rg [Qa 12 5,
Qa 13 0,
Qj 14 13,
Qq 15 12 14]
def c111_6:= rg [Qa 18 0,
Qa 19 5,
Qm 20 2 18 19,
Qp 21 2 20,
Qa 22 1,
Qo 23 183 21 22,
Qc 1 23]
def c111_7:= rg [Qa 24 1,
Qu 25 24 0]
def c111_8:= rg [Qe 4 (-1)]
def c111_9:= rg [Qa 16 5,
Qi 17 16 1,
Qc 5 17]
def c111_10 : ACode := (.seq (.seq c111_5 (.cond (.var 15) .skip (.exit 0))) (.seq (.block 1 (.seq c111_6 (.seq c111_7 (.cond (.var 25) (.seq c111_8 .ret) .skip)))) c111_9))
def c111_11:= rg [Qa 26 1,
Qc 4 26]
def c111 : ACode := (.seq c111_0 (.seq c111_1 (.seq (.seq c111_2 (.cond (.var 11) (.seq c111_3 .ret) .skip)) (.seq (.seq c111_4 (.block 0 (.loop [0, 1, 5] c111_10))) (.seq c111_11 .ret)))))
abbrev F_L_szUserS : FuncId := 111
theorem v_L_szUserS : VT 2 1 Tryz.f111 111 [0,1,4,5,11,15,25] [none, none] [(.give, 4, none)] c111 := mkV Tryz.func111 rfl rfl (by kernel_rfl) (by kernel_rfl) rfl rfl
def c112_0:= rg [Qe 4 0]
def c112_1:= rg [Qa 6 1,
Qa 7 0,
Qj 8 7,
Qbg 9 6 8,
Qc 1 9]
def c112_2:= rg [Qa 10 1,
Qu 11 10 0]
def c112_3:= rg [Qe 4 (-1)]
def c112_4:= rg [Qe 5 0]
def c112_5:= rg [Qa 12 5,
Qa 13 0,
Qj 14 13,
Qq 15 12 14]
def c112_6:= rg [Qa 18 0,
Qa 19 5,
Qm 20 3 18 19,
Qp 21 3 20,
Qa 22 1,
Qo 23 184 21 22,
Qc 1 23]
def c112_7:= rg [Qa 24 1,
Qu 25 24 0]
def c112_8:= rg [Qe 4 (-1)]
def c112_9:= rg [Qa 16 5,
Qi 17 16 1,
Qc 5 17]
def c112_10 : ACode := (.seq (.seq c112_5 (.cond (.var 15) .skip (.exit 0))) (.seq (.block 1 (.seq c112_6 (.seq c112_7 (.cond (.var 25) (.seq c112_8 .ret) .skip)))) c112_9))
def c112_11:= rg [Qa 26 1,
Qc 4 26]
def c112 : ACode := (.seq c112_0 (.seq c112_1 (.seq (.seq c112_2 (.cond (.var 11) (.seq c112_3 .ret) .skip)) (.seq (.seq c112_4 (.block 0 (.loop [0, 1, 5] c112_10))) (.seq c112_11 .ret)))))
abbrev F_L_szJobS : FuncId := 112
theorem v_L_szJobS : VT 2 1 Tryz.f112 112 [0,1,4,5,11,15,25] [none, none] [(.give, 4, none)] c112 := mkV Tryz.func112 rfl rfl (by kernel_rfl) (by kernel_rfl) rfl rfl
def c113_0:= rg [Qh 2 0,
Qe 4 0]
def c113_1:= rg [Qa 5 1,
Qb 6 1 2,
Qd 7 1 6,
Qax 8 7,
Qbg 9 5 8,
Qc 1 9]
def c113_2:= rg [Qa 10 1,
Qu 11 10 0]
def c113_3:= rg [Qe 4 (-1)]
def c113_4:= rg [Qa 12 1,
Qc 4 12]
def c113 : ACode := (.seq c113_0 (.seq c113_1 (.seq (.seq c113_2 (.cond (.var 11) (.seq c113_3 .ret) .skip)) (.seq c113_4 .ret))))
abbrev F_L_szOwned : FuncId := 113
theorem v_L_szOwned : VT 2 1 Tryz.f113 113 [0,1,2,4,11] [none, none] [(.give, 4, none)] c113 := mkV Tryz.func113 rfl rfl (by kernel_rfl) (by kernel_rfl) rfl rfl
def c114_0:= rg [Qh 1 0,
Qf 2]
def c114_1:= rg [Qb 3 0 1,
Qd 4 1 3,
Qbo 5 49 4 1 1000000000,
Qba 6 5,
Qn 7 6,
Qag 8 1 1 7,
Qaq 9 1 8 7,
⟨.loc 10, .bin .int .lss (.loc 9) (.const (.d (.int .i64 0))), some ((.loc 7), false), []⟩,
Qan 11 7 10,
Qn 12 11,
Qag 13 1 1 12,
Qaq 14 1 13 12,
Qag 15 0 1 12,
Qaq 16 1 15 12,
⟨.loc 17, .bin .int .geq (.loc 14) (.loc 16), some ((.loc 12), false), []⟩,
Qan 18 12 17,
Qn 19 18,
Qag 20 2 1 19,
Qaq 21 1 20 19,
Qbp 22 185 21 19,
Qaj 23 22 19,
Qan 24 19 23,
Qn 25 24,
Qag 26 3 1 25,
Qaq 27 1 26 25,
Qbj 28 49 27 0 1000000000 25,
Qaj 29 28 25,
Qan 30 25 29,
Qn 31 30,
Qag 32 6 1 31,
Qaq 33 1 32 31,
Qbj 34 49 33 0 1000 31,
Qaj 35 34 31,
Qar 36 31 35]
def c114_2:= rg [Qf 2]
def c114_3:= rg [Qb 37 4 1,
Qd 38 1 37,
⟨.loc 39, .bin .int .neq (.loc 38) (.const (.d (.int .i64 0))), none, []⟩,
Qn 40 39,
Qad 41 4 1 40,
Qab 42 1 41 40,
Qad 43 3 1 40,
Qab 44 1 43 40,
Qcy 45 44 1 40,
⟨.loc 46, .call (.fn 49) [(.loc 42), (.loc 45), (.const (.d (.int .i64 1000000000)))] [.borrow, .borrow, .borrow], some ((.loc 40), true), []⟩,
Qcw 47 46 40,
⟨.var 48, .pick (.loc 40) (.loc 47) (.const (.d (.bool false))), none, []⟩]
def c114_4:= rg [Qf 2]
def c114_5:= rg [Qb 49 5 1,
Qd 50 1 49,
Qcl 51 50 0]
def c114_6:= rg [Qy 2]
def c114_7:= rg [Qb 52 5 1,
Qd 53 1 52,
Qb 54 3 1,
Qd 55 1 54,
Qi 56 55 1,
⟨.loc 57, .call (.fn 49) [(.loc 53), (.loc 56), (.const (.d (.int .i64 1000000000)))] [.borrow, .borrow, .borrow], none, []⟩,
Qn 58 57,
Qad 59 4 1 58,
Qab 60 1 59 58,
⟨.loc 61, .bin .int .neq (.loc 60) (.const (.d (.int .i64 0))), some ((.loc 58), true), []⟩,
Qaf 62 58 61,
Qn 63 62,
Qad 64 4 1 63,
Qab 65 1 64 63,
Qad 66 5 1 63,
Qab 67 1 66 63,
⟨.loc 68, .bin .int .leq (.loc 65) (.loc 67), some ((.loc 63), true), []⟩,
Qaf 69 63 68,
Qc 2 69]
def c114 : ACode := (.seq c114_0 (.seq (.seq c114_1 (.cond (.var 36) (.seq c114_2 .ret) .skip)) (.seq (.seq c114_3 (.cond (.var 48) (.seq c114_4 .ret) .skip)) (.seq (.seq c114_5 (.cond (.var 51) (.seq c114_6 .ret) .skip)) (.seq c114_7 .ret)))))
abbrev F_S_l08Token : FuncId := 114
theorem v_S_l08Token : VT 1 1 Tryz.f114 114 [0,1,2,36,48,51] [none] [(.give, 2, none)] c114 := mkV Tryz.func114 rfl rfl (by kernel_rfl) (by kernel_rfl) rfl rfl
def c115_0:= rg [Qh 2 0,
Qe 4 0]
def c115_1:= rg [Qe 5 0]
def c115_2:= rg [Qa 6 5,
Qb 7 0 2,
Qd 8 1 7,
Qj 9 8,
Qq 10 6 9]
def c115_3:= rg [Qb 13 0 2,
Qd 14 1 13,
Qa 15 5,
Qm 16 7 14 15,
Qt 17 0 16,
Qd 18 1 17,
Qa 19 1,
Qcv 20 18 19]
def c115_4:= rg [Qa 21 5,
Qc 4 21]
def c115_5:= rg [Qa 11 5,
Qi 12 11 1,
Qc 5 12]
def c115_6 : ACode := (.seq (.seq c115_2 (.cond (.var 10) .skip (.exit 0))) (.seq (.block 1 (.seq c115_3 (.cond (.var 20) (.seq c115_4 .ret) .skip))) c115_5))
def c115_7:= rg [Qe 4 (-1)]
def c115 : ACode := (.seq c115_0 (.seq (.seq c115_1 (.block 0 (.loop [1, 2, 5] c115_6))) (.seq c115_7 .ret)))
abbrev F_S_l08At : FuncId := 115
theorem v_S_l08At : VT 2 1 Tryz.f115 115 [0,1,2,4,5,10,20] [none, none] [(.give, 4, none)] c115 := mkV Tryz.func115 rfl rfl (by kernel_rfl) (by kernel_rfl) rfl rfl
def c116_0:= rg [Qh 1 0,
Qf 2]
def c116_1:= rg [Qb 3 0 1,
Qd 4 1 3,
Qbo 5 49 4 1 1000000000,
Qn 6 5,
Qad 7 1 1 6,
Qab 8 1 7 6,
Qch 9 49 8 0 1000000000 6,
Qaf 10 6 9,
Qn 11 10,
Qad 12 2 1 11,
Qab 13 1 12 11,
⟨.loc 14, .call (.fn 186) [(.loc 13)] [.borrow], some ((.loc 11), true), []⟩,
Qaf 15 11 14,
Qn 16 15,
Qad 17 3 1 16,
Qab 18 1 17 16,
Qch 19 49 18 0 1000000000 16,
Qaf 20 16 19,
Qn 21 20,
Qad 22 5 1 21,
Qab 23 1 22 21,
Qad 24 3 1 21,
Qab 25 1 24 21,
Qcy 26 25 1 21,
⟨.loc 27, .call (.fn 49) [(.loc 23), (.loc 26), (.const (.d (.int .i64 1000000000)))] [.borrow, .borrow, .borrow], some ((.loc 21), true), []⟩,
Qaf 28 21 27,
Qn 29 28,
Qad 30 4 1 29,
Qab 31 1 30 29,
Qad 32 3 1 29,
Qab 33 1 32 29,
Qcy 34 33 1 29,
Qad 35 5 1 29,
Qab 36 1 35 29,
⟨.loc 37, .call (.fn 49) [(.loc 31), (.loc 34), (.loc 36)] [.borrow, .borrow, .borrow], some ((.loc 29), true), []⟩,
Qaf 38 29 37,
Qc 2 38]
def c116 : ACode := (.seq c116_0 (.seq c116_1 .ret))
abbrev F_S_l09Lease : FuncId := 116
theorem v_S_l09Lease : VT 1 1 Tryz.f116 116 [0,1,2] [none] [(.give, 2, none)] c116 := mkV Tryz.func116 rfl rfl (by kernel_rfl) (by kernel_rfl) rfl rfl
def c117_0:= rg [Qaa 2 1 7]
def c117_1:= rg [Qa 5 0,
Qj 6 5,
⟨.loc 7, .mkslice 1 7 72 [.int .i64 0, .int .i64 0, .slc 1 [], .int .i64 0, .int .i64 0, .int .i64 0, .int .i64 0] (.loc 6) (.loc 6), none, []⟩,
Qc 3 7]
def c117_2:= rg [Qe 4 0]
def c117_3:= rg [Qa 8 4,
Qa 9 0,
Qj 10 9,
Qq 11 8 10]
def c117_4:= rg [Qa 14 3,
Qa 15 4,
Qa 16 0,
Qa 17 4,
Qm 18 7 16 17,
Qp 19 7 18,
Qs 20 187 19,
Qm 21 7 14 15,
Ql 7 21 20]
def c117_5:= rg [Qa 12 4,
Qi 13 12 1,
Qc 4 13]
def c117_6 : ACode := (.seq (.seq c117_3 (.cond (.var 11) .skip (.exit 0))) (.seq (.block 1 c117_4) c117_5))
def c117_7:= rg [Qa 22 3,
Qc 2 22]
def c117 : ACode := (.seq c117_0 (.seq c117_1 (.seq (.seq c117_2 (.block 0 (.loop [0, 3, 4] c117_6))) (.seq c117_7 .ret))))
abbrev F_L_toTokenS : FuncId := 117
theorem v_L_toTokenS : VT 1 1 Tryz.f117 117 [0,2,3,4,11] [none] [(.give, 2, none)] c117 := mkV Tryz.func117 rfl rfl (by kernel_rfl) (by kernel_rfl) rfl rfl
def c118_0:= rg [Qaa 2 0 6]
def c118_1:= rg [Qa 5 0,
Qj 6 5,
⟨.loc 7, .mkslice 0 6 56 [.int .i64 0, .int .i64 0, .str [], .int .i64 0, .int .i64 0, .int .i64 0] (.loc 6) (.loc 6), none, []⟩,
Qc 3 7]
def c118_2:= rg [Qe 4 0]
def c118_3:= rg [Qa 8 4,
Qa 9 0,
Qj 10 9,
Qq 11 8 10]
def c118_4:= rg [Qa 14 3,
Qa 15 4,
Qa 16 0,
Qa 17 4,
Qm 18 6 16 17,
Qp 19 6 18,
Qs 20 188 19,
Qm 21 6 14 15,
Ql 6 21 20]
def c118_5:= rg [Qa 12 4,
Qi 13 12 1,
Qc 4 13]
def c118_6 : ACode := (.seq (.seq c118_3 (.cond (.var 11) .skip (.exit 0))) (.seq (.block 1 c118_4) c118_5))
def c118_7:= rg [Qa 22 3,
Qc 2 22]
def c118 : ACode := (.seq c118_0 (.seq c118_1 (.seq (.seq c118_2 (.block 0 (.loop [0, 3, 4] c118_6))) (.seq c118_7 .ret))))
abbrev F_L_toLeaseS : FuncId := 118
theorem v_L_toLeaseS : VT 1 1 Tryz.f118 118 [0,2,3,4,11] [none] [(.give, 2, none)] c118 := mkV Tryz.func118 rfl rfl (by kernel_rfl) (by kernel_rfl) rfl rfl
def c119_0:= rg [Qaa 2 0 2]
def c119_1:= rg [Qa 5 0,
Qj 6 5,
⟨.loc 7, .mkslice 0 2 32 [.str [], .str []] (.loc 6) (.loc 6), none, []⟩,
Qc 3 7]
def c119_2:= rg [Qe 4 0]
def c119_3:= rg [Qa 8 4,
Qa 9 0,
Qj 10 9,
Qq 11 8 10]
def c119_4:= rg [Qa 14 3,
Qa 15 4,
Qa 16 0,
Qa 17 4,
Qm 18 2 16 17,
Qp 19 2 18,
Qs 20 189 19,
Qm 21 2 14 15,
Ql 2 21 20]
def c119_5:= rg [Qa 12 4,
Qi 13 12 1,
Qc 4 13]
def c119_6 : ACode := (.seq (.seq c119_3 (.cond (.var 11) .skip (.exit 0))) (.seq (.block 1 c119_4) c119_5))
def c119_7:= rg [Qa 22 3,
Qc 2 22]
def c119 : ACode := (.seq c119_0 (.seq c119_1 (.seq (.seq c119_2 (.block 0 (.loop [0, 3, 4] c119_6))) (.seq c119_7 .ret))))
abbrev F_L_toUserS : FuncId := 119
theorem v_L_toUserS : VT 1 1 Tryz.f119 119 [0,2,3,4,11] [none] [(.give, 2, none)] c119 := mkV Tryz.func119 rfl rfl (by kernel_rfl) (by kernel_rfl) rfl rfl
def c120_0:= rg [Qaa 2 0 3]
def c120_1:= rg [Qa 5 0,
Qj 6 5,
⟨.loc 7, .mkslice 0 3 32 [.str [], .int .i64 0, .int .i64 0] (.loc 6) (.loc 6), none, []⟩,
Qc 3 7]
def c120_2:= rg [Qe 4 0]
def c120_3:= rg [Qa 8 4,
Qa 9 0,
Qj 10 9,
Qq 11 8 10]
def c120_4:= rg [Qa 14 3,
Qa 15 4,
Qa 16 0,
Qa 17 4,
Qm 18 3 16 17,
Qp 19 3 18,
Qs 20 190 19,
Qm 21 3 14 15,
Ql 3 21 20]
def c120_5:= rg [Qa 12 4,
Qi 13 12 1,
Qc 4 13]
def c120_6 : ACode := (.seq (.seq c120_3 (.cond (.var 11) .skip (.exit 0))) (.seq (.block 1 c120_4) c120_5))
def c120_7:= rg [Qa 22 3,
Qc 2 22]
def c120 : ACode := (.seq c120_0 (.seq c120_1 (.seq (.seq c120_2 (.block 0 (.loop [0, 3, 4] c120_6))) (.seq c120_7 .ret))))
abbrev F_L_toJobS : FuncId := 120
theorem v_L_toJobS : VT 1 1 Tryz.f120 120 [0,2,3,4,11] [none] [(.give, 2, none)] c120 := mkV Tryz.func120 rfl rfl (by kernel_rfl) (by kernel_rfl) rfl rfl
def c121_0:= rg [Qh 1 0,
⟨.var 2, .alloc [.d (.int .i64 0), .d (.str [])], none, []⟩]
def c121_1:= rg [⟨.var 3, .alloc [.d (.int .i64 0), .d (.str [])], none, []⟩]
def c121_2:= rg [Qb 4 0 1,
Qd 5 1 4,
Qb 6 0 3,
Ql 1 6 5]
def c121_3:= rg [Qb 7 1 1,
Qd 8 1 7,
Qb 9 1 3,
Ql 1 9 8]
def c121_4:= rg [Qg 10 2 3,
Qk 2 2 10]
def c121 : ACode := (.seq c121_0 (.seq c121_1 (.seq c121_2 (.seq c121_3 (.seq c121_4 .ret)))))
abbrev F_L_toOwned : FuncId := 121
theorem v_L_toOwned : VT 1 1 Tryz.f121 121 [0,1,2,3] [none] [(.give, 2, some (true, 2))] c121 := mkV Tryz.func121 rfl rfl (by kernel_rfl) (by kernel_rfl) rfl rfl
def c122_0:= rg [Qh 1 0,
Qf 2]
def c122_1:= rg [Qb 5 0 1,
Qcb 6 1 5,
Qbh 7 6,
Qe 8 0]
def c122_2:= rg [Qas 9 8 7]
def c122_3:= rg [Qa 10 8,
Qbi 11 7 6 8,
Qp 12 7 11,
Qcf 4 0 0 0 1 0 0 0 0,
Qc 3 10,
Qk 7 4 12]
def c122_4 : ACode := .reg [Qg 13 7 4,
  Qak 14 191 13 [0],
  Qca 15 14 [1,0],
  Qao 16 15 [2,1,0],
  Qbm 17 3 16 [3,2,1,0],
  Qcd 18 17 0 16 [4,3,2,1,0],
  Qbs 19 18 16 [5,4,3,2,1,0],
  Qal 20 0 1 19 [6,5,4,3,2,1,0],
  Qz 21 1 20 19 [7,6,5,4,3,2,1,0],
  Qaw 22 3 19 [6,5,4,3,2,1,0],
  Qbn 23 22 1 19 [9,6,5,4,3,2,1,0],
  Qbb 24 7 21 23 19 [8,7,10,9,6,5,4,3,2,1,0],
  Qbc 25 0 24 19 [11,8,7,10,9,6,5,4,3,2,1,0],
  Qz 26 1 25 19 [12,11,8,7,10,9,6,5,4,3,2,1,0],
  Qal 27 0 4 19 [6,5,4,3,2,1,0],
  Qz 28 1 27 19 [14,6,5,4,3,2,1,0],
  Qce 29 26 28 19 [13,12,11,8,7,10,9,15,14,6,5,4,3,2,1,0],
  Qbt 30 19 29 16 [16,13,12,11,8,7,10,9,15,14,6,5,4,3,2,1,0],
  Qcj 31 16 30 [17,16,13,12,11,8,7,10,9,15,14,6,5,4,3,2,1,0],
  Qao 32 31 [18,17,16,13,12,11,8,7,10,9,15,14,6,5,4,3,2,1,0],
  Qbk 33 1 4 32 [19,18,17,16,13,12,11,8,7,10,9,15,14,6,5,4,3,2,1,0],
  Qbl 34 1 33 32 [20,19,18,17,16,13,12,11,8,7,10,9,15,14,6,5,4,3,2,1,0],
  ⟨.loc 35, .bin .int .neq (.loc 34) (.const (.d (.int .i64 0))), some ((.loc 32), false), [21, 20, 19, 18, 17, 16, 13, 12, 11, 8, 7, 10, 9, 15, 14, 6, 5, 4, 3, 2, 1, 0]⟩,
  Qbs 36 35 32 [22,21,20,19,18,17,16,13,12,11,8,7,10,9,15,14,6,5,4,3,2,1,0],
  ⟨.loc 37, .load true 1 (.var 1), some ((.loc 36), true), [23, 22, 21, 20, 19, 18, 17, 16, 13, 12, 11, 8, 7, 10, 9, 15, 14, 6, 5, 4, 3, 2, 1, 0]⟩,
  Qal 38 1 4 36 [23,22,21,20,19,18,17,16,13,12,11,8,7,10,9,15,14,6,5,4,3,2,1,0],
  Qz 39 1 38 36 [25,23,22,21,20,19,18,17,16,13,12,11,8,7,10,9,15,14,6,5,4,3,2,1,0],
  ⟨.loc 40, .call (.fn 99) [(.loc 37), (.loc 39)] [.borrow, .borrow], some ((.loc 36), true), [24, 26, 25, 23, 22, 21, 20, 19, 18, 17, 16, 13, 12, 11, 8, 7, 10, 9, 15, 14, 6, 5, 4, 3, 2, 1, 0]⟩,
  ⟨.loc 41, .bin .int .lss (.loc 40) (.const (.d (.int .i64 0))), some ((.loc 36), true), [27, 24, 26, 25, 23, 22, 21, 20, 19, 18, 17, 16, 13, 12, 11, 8, 7, 10, 9, 15, 14, 6, 5, 4, 3, 2, 1, 0]⟩,
  Qbt 42 36 41 32 [28,27,24,26,25,23,22,21,20,19,18,17,16,13,12,11,8,7,10,9,15,14,6,5,4,3,2,1,0],
  Qbu 43 32 42 [29,28,27,24,26,25,23,22,21,20,19,18,17,16,13,12,11,8,7,10,9,15,14,6,5,4,3,2,1,0]] true
def c122_5:= rg [Qf 2]
def c122_6:= rg [Qat 44 8 1,
Qc 8 44]
def c122_7 : ACode := (.seq c122_2 (.seq (.cond (.var 9) .skip (.exit 0)) (.seq (.block 1 (.seq c122_3 (.seq c122_4 (.cond (.var 43) (.seq c122_5 .ret) .skip)))) c122_6)))
def c122_8:= rg [Qb 45 0 1,
Qd 46 1 45,
Qj 47 46,
Qcm 48 47 120,
Qc 2 48]
def c122 : ACode := (.seq c122_0 (.seq (.seq c122_1 (.block 0 (.loop [1, 6, 7, 8] c122_7))) (.seq c122_8 .ret)))
abbrev F_I_isForest : FuncId := 122
theorem v_I_isForest : VT 1 1 Tryz.f122 122 [0,1,2,3,4,6,7,8,9,43] [none] [(.give, 2, none)] c122 := mkV Tryz.func122 rfl rfl (by kernel_rfl) (by kernel_rfl) rfl rfl
def c123_0:= rg [Qh 1 0,
Qf 2]
def c123_1:= rg [Qb 5 0 1,
Qcb 6 1 5,
Qbh 7 6,
Qe 8 0]
def c123_2:= rg [Qas 9 8 7]
def c123_3:= rg [Qa 10 8,
Qbi 11 6 6 8,
Qp 12 6 11,
Qcq 4 0 0 0 0 0,
Qc 3 10,
Qk 6 4 12]
def c123_4 : ACode := .reg [Qg 13 6 4,
  Qak 14 192 13 [0],
  Qca 15 14 [1,0],
  Qao 16 15 [2,1,0],
  Qbm 17 3 16 [3,2,1,0],
  Qcd 18 17 0 16 [4,3,2,1,0],
  Qbs 19 18 16 [5,4,3,2,1,0],
  Qal 20 0 1 19 [6,5,4,3,2,1,0],
  Qz 21 1 20 19 [7,6,5,4,3,2,1,0],
  Qaw 22 3 19 [6,5,4,3,2,1,0],
  Qbn 23 22 1 19 [9,6,5,4,3,2,1,0],
  Qbb 24 6 21 23 19 [8,7,10,9,6,5,4,3,2,1,0],
  Qbc 25 0 24 19 [11,8,7,10,9,6,5,4,3,2,1,0],
  Qz 26 1 25 19 [12,11,8,7,10,9,6,5,4,3,2,1,0],
  Qal 27 0 4 19 [6,5,4,3,2,1,0],
  Qz 28 1 27 19 [14,6,5,4,3,2,1,0],
  Qce 29 26 28 19 [13,12,11,8,7,10,9,15,14,6,5,4,3,2,1,0],
  Qbt 30 19 29 16 [16,13,12,11,8,7,10,9,15,14,6,5,4,3,2,1,0],
  Qbu 31 16 30 [17,16,13,12,11,8,7,10,9,15,14,6,5,4,3,2,1,0]] true
def c123_5:= rg [Qf 2]
def c123_6:= rg [Qat 32 8 1,
Qc 8 32]
def c123_7 : ACode := (.seq c123_2 (.seq (.cond (.var 9) .skip (.exit 0)) (.seq (.block 1 (.seq c123_3 (.seq c123_4 (.cond (.var 31) (.seq c123_5 .ret) .skip)))) c123_6)))
def c123_8:= rg [Qb 33 0 1,
Qd 34 1 33,
Qj 35 34,
Qcm 36 35 150,
Qc 2 36]
def c123 : ACode := (.seq c123_0 (.seq (.seq c123_1 (.block 0 (.loop [1, 6, 7, 8] c123_7))) (.seq c123_8 .ret)))
abbrev F_I_isBook : FuncId := 123
theorem v_I_isBook : VT 1 1 Tryz.f123 123 [0,1,2,3,4,6,7,8,9,31] [none] [(.give, 2, none)] c123 := mkV Tryz.func123 rfl rfl (by kernel_rfl) (by kernel_rfl) rfl rfl
def c124_0:= rg [Qh 1 0,
Qf 2]
def c124_1:= rg [Qb 5 0 1,
Qcb 6 1 5,
Qbh 7 6,
Qe 8 0]
def c124_2:= rg [Qas 9 8 7]
def c124_3:= rg [Qa 10 8,
Qbi 11 2 6 8,
Qp 12 2 11,
⟨.var 4, .alloc [.d (.str []), .d (.str [])], none, []⟩,
Qc 3 10,
Qk 2 4 12]
def c124_4 : ACode := .reg [Qb 13 0 4,
  Qr 14 1 13 [0],
  Qak 15 126 14 [1,0],
  Qca 16 15 [2,1,0],
  Qao 17 16 [3,2,1,0],
  Qbm 18 3 17 [4,3,2,1,0],
  Qcd 19 18 0 17 [5,4,3,2,1,0],
  Qbs 20 19 17 [6,5,4,3,2,1,0],
  Qal 21 0 1 20 [7,6,5,4,3,2,1,0],
  Qz 22 1 21 20 [8,7,6,5,4,3,2,1,0],
  Qaw 23 3 20 [7,6,5,4,3,2,1,0],
  Qbn 24 23 1 20 [10,7,6,5,4,3,2,1,0],
  Qbb 25 2 22 24 20 [9,8,11,10,7,6,5,4,3,2,1,0],
  Qbc 26 0 25 20 [12,9,8,11,10,7,6,5,4,3,2,1,0],
  Qz 27 1 26 20 [13,12,9,8,11,10,7,6,5,4,3,2,1,0],
  Qal 28 0 4 20 [7,6,5,4,3,2,1,0],
  Qz 29 1 28 20 [15,7,6,5,4,3,2,1,0],
  ⟨.loc 30, .bin .str .geq (.loc 27) (.loc 29), some ((.loc 20), true), [14, 13, 12, 9, 8, 11, 10, 16, 15, 7, 6, 5, 4, 3, 2, 1, 0]⟩,
  Qbt 31 20 30 17 [17,14,13,12,9,8,11,10,16,15,7,6,5,4,3,2,1,0],
  Qbu 32 17 31 [18,17,14,13,12,9,8,11,10,16,15,7,6,5,4,3,2,1,0]] true
def c124_5:= rg [Qf 2]
def c124_6:= rg [Qat 33 8 1,
Qc 8 33]
def c124_7 : ACode := (.seq c124_2 (.seq (.cond (.var 9) .skip (.exit 0)) (.seq (.block 1 (.seq c124_3 (.seq c124_4 (.cond (.var 32) (.seq c124_5 .ret) .skip)))) c124_6)))
def c124_8:= rg [Qb 34 0 1,
Qd 35 1 34,
Qj 36 35,
Qcm 37 36 120,
Qn 38 37,
Qad 39 1 1 38,
Qab 40 1 39 38,
Qch 41 103 40 0 1000 38,
Qaf 42 38 41,
Qn 43 42,
Qad 44 2 1 43,
Qab 45 1 44 43,
Qch 46 103 45 0 1000000000 43,
Qaf 47 43 46,
Qc 2 47]
def c124 : ACode := (.seq c124_0 (.seq (.seq c124_1 (.block 0 (.loop [1, 6, 7, 8] c124_7))) (.seq c124_8 .ret)))
abbrev F_I_isFar : FuncId := 124
theorem v_I_isFar : VT 1 1 Tryz.f124 124 [0,1,2,3,4,6,7,8,9,32] [none] [(.give, 2, none)] c124 := mkV Tryz.func124 rfl rfl (by kernel_rfl) (by kernel_rfl) rfl rfl
def c125_0:= rg [Qh 1 0,
Qf 2]
def c125_1:= rg [Qb 5 0 1,
Qcb 6 1 5,
Qbh 7 6,
Qe 8 0]
def c125_2:= rg [Qas 9 8 7]
def c125_3:= rg [Qa 10 8,
Qbi 11 3 6 8,
Qp 12 3 11,
Qcp 4 0 0,
Qc 3 10,
Qk 3 4 12]
def c125_4 : ACode := .reg [Qb 13 0 4,
  Qr 14 1 13 [0],
  Qak 15 126 14 [1,0],
  Qca 16 15 [2,1,0],
  Qao 17 16 [3,2,1,0],
  Qbk 18 1 4 17 [4,3,2,1,0],
  Qbl 19 1 18 17 [5,4,3,2,1,0],
  ⟨.loc 20, .call (.fn 103) [(.loc 19), (.const (.d (.int .i64 0))), (.const (.d (.int .i64 2000000000)))] [.borrow, .borrow, .borrow], some ((.loc 17), false), [6, 5, 4, 3, 2, 1, 0]⟩,
  ⟨.loc 21, .un .not (.loc 20), some ((.loc 17), false), [7, 6, 5, 4, 3, 2, 1, 0]⟩,
  Qcj 22 17 21 [8,7,6,5,4,3,2,1,0],
  Qao 23 22 [9,8,7,6,5,4,3,2,1,0],
  Qbk 24 2 4 23 [10,9,8,7,6,5,4,3,2,1,0],
  Qbl 25 1 24 23 [11,10,9,8,7,6,5,4,3,2,1,0],
  ⟨.loc 26, .call (.fn 103) [(.loc 25), (.const (.d (.int .i64 0))), (.const (.d (.int .i64 5)))] [.borrow, .borrow, .borrow], some ((.loc 23), false), [12, 11, 10, 9, 8, 7, 6, 5, 4, 3, 2, 1, 0]⟩,
  ⟨.loc 27, .un .not (.loc 26), some ((.loc 23), false), [13, 12, 11, 10, 9, 8, 7, 6, 5, 4, 3, 2, 1, 0]⟩,
  Qcj 28 23 27 [14,13,12,11,10,9,8,7,6,5,4,3,2,1,0],
  Qao 29 28 [15,14,13,12,11,10,9,8,7,6,5,4,3,2,1,0],
  Qbk 30 0 1 29 [16,15,14,13,12,11,10,9,8,7,6,5,4,3,2,1,0],
  Qbl 31 1 30 29 [17,16,15,14,13,12,11,10,9,8,7,6,5,4,3,2,1,0],
  Qbm 32 3 29 [16,15,14,13,12,11,10,9,8,7,6,5,4,3,2,1,0],
  ⟨.loc 33, .sliceA 3 (.loc 31) none (some (.loc 32)), some ((.loc 29), false), [18, 17, 19, 16, 15, 14, 13, 12, 11, 10, 9, 8, 7, 6, 5, 4, 3, 2, 1, 0]⟩,
  ⟨.loc 34, .build [.nil 0 3] [(0, 1, (.loc 33))], some ((.loc 29), false), [20, 18, 17, 19, 16, 15, 14, 13, 12, 11, 10, 9, 8, 7, 6, 5, 4, 3, 2, 1, 0]⟩,
  Qbk 35 0 4 29 [16,15,14,13,12,11,10,9,8,7,6,5,4,3,2,1,0],
  Qbl 36 1 35 29 [22,16,15,14,13,12,11,10,9,8,7,6,5,4,3,2,1,0],
  ⟨.loc 37, .call (.fn 67) [(.loc 34), (.loc 36)] [.borrow, .borrow], some ((.loc 29), false), [21, 20, 18, 17, 19, 23, 22, 16, 15, 14, 13, 12, 11, 10, 9, 8, 7, 6, 5, 4, 3, 2, 1, 0]⟩,
  Qbu 38 29 37 [24,21,20,18,17,19,23,22,16,15,14,13,12,11,10,9,8,7,6,5,4,3,2,1,0]] true
def c125_5:= rg [Qf 2]
def c125_6:= rg [Qat 39 8 1,
Qc 8 39]
def c125_7 : ACode := (.seq c125_2 (.seq (.cond (.var 9) .skip (.exit 0)) (.seq (.block 1 (.seq c125_3 (.seq c125_4 (.cond (.var 38) (.seq c125_5 .ret) .skip)))) c125_6)))
def c125_8:= rg [Qb 40 0 1,
Qd 41 1 40,
Qj 42 41,
Qcm 43 42 120,
Qc 2 43]
def c125 : ACode := (.seq c125_0 (.seq (.seq c125_1 (.block 0 (.loop [1, 6, 7, 8] c125_7))) (.seq c125_8 .ret)))
abbrev F_I_isQueue : FuncId := 125
theorem v_I_isQueue : VT 1 1 Tryz.f125 125 [0,1,2,3,4,6,7,8,9,38] [none] [(.give, 2, none)] c125 := mkV Tryz.func125 rfl rfl (by kernel_rfl) (by kernel_rfl) rfl rfl
def c126_0:= rg [Qf 2]
def c126_1:= rg [Qa 3 0,
Qax 4 3,
Qbo 5 103 4 1 12,
Qn 6 5,
Qae 7 0 6,
⟨.loc 8, .call (.fn 193) [(.loc 7), (.const (.d (.str [97, 98, 99, 100, 101, 102, 103, 104, 105, 106, 107, 108, 109, 110, 111, 112, 113, 114, 115, 116, 117, 118, 119, 120, 121, 122, 48, 49, 50, 51, 52, 53, 54, 55, 56, 57])))] [.borrow, .borrow], some ((.loc 6), true), []⟩,
Qaf 9 6 8,
Qc 2 9]
def c126 : ACode := (.seq c126_0 (.seq c126_1 .ret))
abbrev F_I_isName : FuncId := 126
theorem v_I_isName : VT 1 1 Tryz.f126 126 [0,2] [none] [(.give, 2, none)] c126 := mkV Tryz.func126 rfl rfl (by kernel_rfl) (by kernel_rfl) rfl rfl
def c127_0:= rg [Qh 2 0,
Qf 3]
def c127_1:= rg [Qb 4 1 2,
Qd 5 1 4,
Qb 6 1 1,
Qd 7 1 6,
⟨.loc 8, .bin .str .eql (.loc 5) (.loc 7), none, []⟩,
Qc 3 8]
def c127 : ACode := (.seq c127_0 (.seq c127_1 .ret))
abbrev F_I_isWorld_c1 : FuncId := 127
theorem v_I_isWorld_c1 : VT 2 1 Tryz.f127 127 [0,1,2,3] [none] [(.give, 3, none)] c127 := mkV Tryz.func127 rfl rfl (by kernel_rfl) (by kernel_rfl) rfl rfl
def c128_0:= rg [Qf 4]
def c128_1:= rg [Qa 6 0,
Qj 7 6,
Qa 8 1,
Qj 9 8,
Qv 10 7 9]
def c128_2:= rg [Qf 4]
def c128_3:= rg [Qe 5 0]
def c128_4:= rg [Qa 11 5,
Qa 12 0,
Qj 13 12,
Qq 14 11 13]
def c128_5 : ACode := .reg [Qa 17 0,
  Qa 18 5,
  Qw 19 7 17 18 [0,1],
  Qai 20 7 19 [2,0,1],
  Qa 21 1,
  Qa 22 5,
  Qw 23 7 21 22 [4,5],
  Qai 24 7 23 [6,4,5],
  Qcc 25 194 20 24 [3,2,0,1,7,6,4,5],
  Qcn 26 25 [8,3,2,0,1,7,6,4,5]] true
def c128_6:= rg [Qf 4]
def c128_7:= rg [Qa 15 5,
Qi 16 15 1,
Qc 5 16]
def c128_8 : ACode := (.seq (.seq c128_4 (.cond (.var 14) .skip (.exit 0))) (.seq (.block 1 (.seq c128_5 (.cond (.var 26) (.seq c128_6 .ret) .skip))) c128_7))
def c128_9:= rg [Qy 4]
def c128 : ACode := (.seq c128_0 (.seq (.seq c128_1 (.cond (.var 10) (.seq c128_2 .ret) .skip)) (.seq (.seq c128_3 (.block 0 (.loop [0, 1, 5] c128_8))) (.seq c128_9 .ret))))
abbrev F_L_eqTokenS : FuncId := 128
theorem v_L_eqTokenS : VT 2 1 Tryz.f128 128 [0,1,4,5,10,14,26] [none, none] [(.give, 4, none)] c128 := mkV Tryz.func128 rfl rfl (by kernel_rfl) (by kernel_rfl) rfl rfl
def c129_0:= rg [Qf 4]
def c129_1:= rg [Qa 6 0,
Qj 7 6,
Qa 8 1,
Qj 9 8,
Qv 10 7 9]
def c129_2:= rg [Qf 4]
def c129_3:= rg [Qe 5 0]
def c129_4:= rg [Qa 11 5,
Qa 12 0,
Qj 13 12,
Qq 14 11 13]
def c129_5 : ACode := .reg [Qa 17 0,
  Qa 18 5,
  Qw 19 6 17 18 [0,1],
  Qai 20 6 19 [2,0,1],
  Qa 21 1,
  Qa 22 5,
  Qw 23 6 21 22 [4,5],
  Qai 24 6 23 [6,4,5],
  Qcc 25 195 20 24 [3,2,0,1,7,6,4,5],
  Qcn 26 25 [8,3,2,0,1,7,6,4,5]] true
def c129_6:= rg [Qf 4]
def c129_7:= rg [Qa 15 5,
Qi 16 15 1,
Qc 5 16]
def c129_8 : ACode := (.seq (.seq c129_4 (.cond (.var 14) .skip (.exit 0))) (.seq (.block 1 (.seq c129_5 (.cond (.var 26) (.seq c129_6 .ret) .skip))) c129_7))
def c129_9:= rg [Qy 4]
def c129 : ACode := (.seq c129_0 (.seq (.seq c129_1 (.cond (.var 10) (.seq c129_2 .ret) .skip)) (.seq (.seq c129_3 (.block 0 (.loop [0, 1, 5] c129_8))) (.seq c129_9 .ret))))
abbrev F_L_eqLeaseS : FuncId := 129
theorem v_L_eqLeaseS : VT 2 1 Tryz.f129 129 [0,1,4,5,10,14,26] [none, none] [(.give, 4, none)] c129 := mkV Tryz.func129 rfl rfl (by kernel_rfl) (by kernel_rfl) rfl rfl
def c130_0:= rg [Qf 4]
def c130_1:= rg [Qa 6 0,
Qj 7 6,
Qa 8 1,
Qj 9 8,
Qv 10 7 9]
def c130_2:= rg [Qf 4]
def c130_3:= rg [Qe 5 0]
def c130_4:= rg [Qa 11 5,
Qa 12 0,
Qj 13 12,
Qq 14 11 13]
def c130_5 : ACode := .reg [Qa 17 0,
  Qa 18 5,
  Qw 19 2 17 18 [0,1],
  Qai 20 2 19 [2,0,1],
  Qa 21 1,
  Qa 22 5,
  Qw 23 2 21 22 [4,5],
  Qai 24 2 23 [6,4,5],
  Qcc 25 43 20 24 [3,2,0,1,7,6,4,5],
  Qcn 26 25 [8,3,2,0,1,7,6,4,5]] true
def c130_6:= rg [Qf 4]
def c130_7:= rg [Qa 15 5,
Qi 16 15 1,
Qc 5 16]
def c130_8 : ACode := (.seq (.seq c130_4 (.cond (.var 14) .skip (.exit 0))) (.seq (.block 1 (.seq c130_5 (.cond (.var 26) (.seq c130_6 .ret) .skip))) c130_7))
def c130_9:= rg [Qy 4]
def c130 : ACode := (.seq c130_0 (.seq (.seq c130_1 (.cond (.var 10) (.seq c130_2 .ret) .skip)) (.seq (.seq c130_3 (.block 0 (.loop [0, 1, 5] c130_8))) (.seq c130_9 .ret))))
abbrev F_L_eqUserS : FuncId := 130
theorem v_L_eqUserS : VT 2 1 Tryz.f130 130 [0,1,4,5,10,14,26] [none, none] [(.give, 4, none)] c130 := mkV Tryz.func130 rfl rfl (by kernel_rfl) (by kernel_rfl) rfl rfl
def c131_0:= rg [Qf 4]
def c131_1:= rg [Qa 6 0,
Qj 7 6,
Qa 8 1,
Qj 9 8,
Qv 10 7 9]
def c131_2:= rg [Qf 4]
def c131_3:= rg [Qe 5 0]
def c131_4:= rg [Qa 11 5,
Qa 12 0,
Qj 13 12,
Qq 14 11 13]
def c131_5 : ACode := .reg [Qa 17 0,
  Qa 18 5,
  Qw 19 3 17 18 [0,1],
  Qai 20 3 19 [2,0,1],
  Qa 21 1,
  Qa 22 5,
  Qw 23 3 21 22 [4,5],
  Qai 24 3 23 [6,4,5],
  Qcc 25 196 20 24 [3,2,0,1,7,6,4,5],
  Qcn 26 25 [8,3,2,0,1,7,6,4,5]] true
def c131_6:= rg [Qf 4]
def c131_7:= rg [Qa 15 5,
Qi 16 15 1,
Qc 5 16]
def c131_8 : ACode := (.seq (.seq c131_4 (.cond (.var 14) .skip (.exit 0))) (.seq (.block 1 (.seq c131_5 (.cond (.var 26) (.seq c131_6 .ret) .skip))) c131_7))
def c131_9:= rg [Qy 4]
def c131 : ACode := (.seq c131_0 (.seq (.seq c131_1 (.cond (.var 10) (.seq c131_2 .ret) .skip)) (.seq (.seq c131_3 (.block 0 (.loop [0, 1, 5] c131_8))) (.seq c131_9 .ret))))
abbrev F_L_eqJobS : FuncId := 131
theorem v_L_eqJobS : VT 2 1 Tryz.f131 131 [0,1,4,5,10,14,26] [none, none] [(.give, 4, none)] c131 := mkV Tryz.func131 rfl rfl (by kernel_rfl) (by kernel_rfl) rfl rfl
def c132_0:= rg [Qh 2 0,
Qh 3 1,
Qf 4]
def c132_1:= rg [Qb 5 0 2,
Qd 6 1 5,
Qb 7 0 3,
Qd 8 1 7,
Qv 9 6 8]
def c132_2:= rg [Qf 4]
def c132_3:= rg [Qb 10 1 2,
Qd 11 1 10,
Qb 12 1 3,
Qd 13 1 12,
Qco 14 11 13]
def c132_4:= rg [Qf 4]
def c132_5:= rg [Qy 4]
def c132 : ACode := (.seq c132_0 (.seq (.seq c132_1 (.cond (.var 9) (.seq c132_2 .ret) .skip)) (.seq (.seq c132_3 (.cond (.var 14) (.seq c132_4 .ret) .skip)) (.seq c132_5 .ret))))
abbrev F_L_eqOwned : FuncId := 132
theorem v_L_eqOwned : VT 2 1 Tryz.f132 132 [0,1,2,3,4,9,14] [none, none] [(.give, 4, none)] c132 := mkV Tryz.func132 rfl rfl (by kernel_rfl) (by kernel_rfl) rfl rfl
def c133_0:= rg [Qf 4]
def c133_1:= rg [Qa 5 0,
Qa 6 1,
Qo 7 197 5 6,
⟨.loc 8, .bin .int .geq (.loc 7) (.const (.d (.int .i64 0))), none, []⟩,
Qc 4 8]
def c133 : ACode := (.seq c133_0 (.seq c133_1 .ret))
abbrev F_slices_ContainsFunc___impl_Job_impl_Job_ : FuncId := 133
theorem v_slices_ContainsFunc___impl_Job_impl_Job_ : VT 2 1 Tryz.f133 133 [0,1,4] [none, none] [(.give, 4, none)] c133 := mkV Tryz.func133 rfl rfl (by kernel_rfl) (by kernel_rfl) rfl rfl
def c134_0:= rg [Qh 2 0,
Qf 3]
def c134_1:= rg [Qb 4 0 2,
Qd 5 1 4,
Qcz 6 1 1,
⟨.loc 7, .bin .str .eql (.loc 5) (.loc 6), none, []⟩,
Qc 3 7]
def c134 : ACode := (.seq c134_0 (.seq c134_1 .ret))
abbrev F_I_hasJob_c1 : FuncId := 134
theorem v_I_hasJob_c1 : VT 2 1 Tryz.f134 134 [0,1,2,3] [none] [(.give, 3, none)] c134 := mkV Tryz.func134 rfl rfl (by kernel_rfl) (by kernel_rfl) rfl rfl
def c135_0:= rg [Qe 4 0]
def c135_1:= rg [Qa 6 0,
Qda 7 6,
Qe 8 0]
def c135_2:= rg [Qas 9 8 7]
def c135_3:= rg [Qa 10 8,
Qc 5 10]
def c135_4:= rg [Qa 11 1,
Qa 12 0,
Qa 13 5,
Qm 14 2 12 13,
Qp 15 2 14,
Qdb 16 11 15]
def c135_5:= rg [Qa 17 5,
Qc 4 17]
def c135_6:= rg [Qat 18 8 1,
Qc 8 18]
def c135_7 : ACode := (.seq c135_2 (.seq (.cond (.var 9) .skip (.exit 0)) (.seq (.block 1 (.seq c135_3 (.seq c135_4 (.cond (.var 16) (.seq c135_5 .ret) .skip)))) c135_6)))
def c135_8:= rg [Qe 4 (-1)]
def c135 : ACode := (.seq c135_0 (.seq (.seq c135_1 (.block 0 (.loop [0, 1, 7, 8] c135_7))) (.seq c135_8 .ret)))
abbrev F_slices_IndexFunc___impl_Owned_impl_Owned_ : FuncId := 135
theorem v_slices_IndexFunc___impl_Owned_impl_Owned_ : VT 2 1 Tryz.f135 135 [0,1,4,5,7,8,9,16] [none, none] [(.give, 4, none)] c135 := mkV Tryz.func135 rfl rfl (by kernel_rfl) (by kernel_rfl) rfl rfl
def c136_0:= rg [Qe 4 0]
def c136_1:= rg [Qe 5 0]
def c136_2:= rg [Qa 6 5,
Qa 7 0,
Qj 8 7,
Qq 9 6 8]
def c136_3:= rg [Qa 12 0,
Qa 13 5,
Qa 14 1,
Qm 15 7 12 13,
Qt 16 0 15,
Ql 1 16 14]
def c136_4:= rg [Qa 17 1,
Qi 18 17 1,
Qc 1 18]
def c136_5:= rg [Qa 19 0,
Qa 20 5,
Qa 21 1,
Qm 22 7 19 20,
Qt 23 1 22,
Ql 1 23 21]
def c136_6:= rg [Qa 24 1,
Qi 25 24 1,
Qc 1 25]
def c136_7:= rg [Qa 26 0,
Qa 27 5,
Qm 28 7 26 27,
Qt 29 2 28,
Qd 30 1 29,
Qa 31 1,
Qbe 32 20 30 31,
Qc 1 32]
def c136_8:= rg [Qa 33 0,
Qa 34 5,
Qa 35 1,
Qm 36 7 33 34,
Qt 37 3 36,
Ql 1 37 35]
def c136_9:= rg [Qa 38 1,
Qi 39 38 1,
Qc 1 39]
def c136_10:= rg [Qa 40 0,
Qa 41 5,
Qa 42 1,
Qm 43 7 40 41,
Qt 44 4 43,
Ql 1 44 42]
def c136_11:= rg [Qa 45 1,
Qi 46 45 1,
Qc 1 46]
def c136_12:= rg [Qa 47 0,
Qa 48 5,
Qa 49 1,
Qm 50 7 47 48,
Qt 51 5 50,
Ql 1 51 49]
def c136_13:= rg [Qa 52 1,
Qi 53 52 1,
Qc 1 53]
def c136_14:= rg [Qa 54 0,
Qa 55 5,
Qa 56 1,
Qm 57 7 54 55,
Qt 58 6 57,
Ql 1 58 56]
def c136_15:= rg [Qa 59 1,
Qi 60 59 1,
Qc 1 60]
def c136_16:= rg [Qa 10 5,
Qi 11 10 1,
Qc 5 11]
def c136_17 : ACode := (.seq (.seq c136_2 (.cond (.var 9) .skip (.exit 0))) (.seq (.block 1 (.seq c136_3 (.seq c136_4 (.seq c136_5 (.seq c136_6 (.seq c136_7 (.seq c136_8 (.seq c136_9 (.seq c136_10 (.seq c136_11 (.seq c136_12 (.seq c136_13 (.seq c136_14 c136_15))))))))))))) c136_16))
def c136_18:= rg [Qa 61 1,
Qc 4 61]
def c136 : ACode := (.seq c136_0 (.seq (.seq c136_1 (.block 0 (.loop [0, 1, 5] c136_17))) (.seq c136_18 .ret)))
abbrev F_L_markTokenS : FuncId := 136
theorem v_L_markTokenS : VT 2 1 Tryz.f136 136 [0,1,4,5,9] [some .give, none] [(.give, 4, none)] c136 := mkV Tryz.func136 rfl rfl (by kernel_rfl) (by kernel_rfl) rfl rfl
def c137_0:= rg [Qe 4 0]
def c137_1:= rg [Qe 5 0]
def c137_2:= rg [Qa 6 5,
Qa 7 0,
Qj 8 7,
Qq 9 6 8]
def c137_3:= rg [Qa 12 0,
Qa 13 5,
Qa 14 1,
Qm 15 6 12 13,
Qt 16 0 15,
Ql 1 16 14]
def c137_4:= rg [Qa 17 1,
Qi 18 17 1,
Qc 1 18]
def c137_5:= rg [Qa 19 0,
Qa 20 5,
Qa 21 1,
Qm 22 6 19 20,
Qt 23 1 22,
Ql 1 23 21]
def c137_6:= rg [Qa 24 1,
Qi 25 24 1,
Qc 1 25]
def c137_7:= rg [Qa 26 0,
Qa 27 5,
Qa 28 1,
Qs 29 75 28,
Qm 30 6 26 27,
Qt 31 2 30,
Ql 1 31 29]
def c137_8:= rg [Qa 32 1,
Qi 33 32 1,
Qc 1 33]
def c137_9:= rg [Qa 34 0,
Qa 35 5,
Qa 36 1,
Qm 37 6 34 35,
Qt 38 3 37,
Ql 1 38 36]
def c137_10:= rg [Qa 39 1,
Qi 40 39 1,
Qc 1 40]
def c137_11:= rg [Qa 41 0,
Qa 42 5,
Qa 43 1,
Qm 44 6 41 42,
Qt 45 4 44,
Ql 1 45 43]
def c137_12:= rg [Qa 46 1,
Qi 47 46 1,
Qc 1 47]
def c137_13:= rg [Qa 48 0,
Qa 49 5,
Qa 50 1,
Qm 51 6 48 49,
Qt 52 5 51,
Ql 1 52 50]
def c137_14:= rg [Qa 53 1,
Qi 54 53 1,
Qc 1 54]
def c137_15:= rg [Qa 10 5,
Qi 11 10 1,
Qc 5 11]
def c137_16 : ACode := (.seq (.seq c137_2 (.cond (.var 9) .skip (.exit 0))) (.seq (.block 1 (.seq c137_3 (.seq c137_4 (.seq c137_5 (.seq c137_6 (.seq c137_7 (.seq c137_8 (.seq c137_9 (.seq c137_10 (.seq c137_11 (.seq c137_12 (.seq c137_13 c137_14)))))))))))) c137_15))
def c137_17:= rg [Qa 55 1,
Qc 4 55]
def c137 : ACode := (.seq c137_0 (.seq (.seq c137_1 (.block 0 (.loop [0, 1, 5] c137_16))) (.seq c137_17 .ret)))
abbrev F_L_markLeaseS : FuncId := 137
theorem v_L_markLeaseS : VT 2 1 Tryz.f137 137 [0,1,4,5,9] [some .give, none] [(.give, 4, none)] c137 := mkV Tryz.func137 rfl rfl (by kernel_rfl) (by kernel_rfl) rfl rfl
def c138_0:= rg [Qe 4 0]
def c138_1:= rg [Qe 5 0]
def c138_2:= rg [Qa 6 5,
Qa 7 0,
Qj 8 7,
Qq 9 6 8]
def c138_3:= rg [Qa 12 0,
Qa 13 5,
Qa 14 1,
Qs 15 75 14,
Qm 16 2 12 13,
Qt 17 0 16,
Ql 1 17 15]
def c138_4:= rg [Qa 18 1,
Qi 19 18 1,
Qc 1 19]
def c138_5:= rg [Qa 20 0,
Qa 21 5,
Qa 22 1,
Qs 23 75 22,
Qm 24 2 20 21,
Qt 25 1 24,
Ql 1 25 23]
def c138_6:= rg [Qa 26 1,
Qi 27 26 1,
Qc 1 27]
def c138_7:= rg [Qa 10 5,
Qi 11 10 1,
Qc 5 11]
def c138_8 : ACode := (.seq (.seq c138_2 (.cond (.var 9) .skip (.exit 0))) (.seq (.block 1 (.seq c138_3 (.seq c138_4 (.seq c138_5 c138_6)))) c138_7))
def c138_9:= rg [Qa 28 1,
Qc 4 28]
def c138 : ACode := (.seq c138_0 (.seq (.seq c138_1 (.block 0 (.loop [0, 1, 5] c138_8))) (.seq c138_9 .ret)))
abbrev F_L_markUserS : FuncId := 138
theorem v_L_markUserS : VT 2 1 Tryz.f138 138 [0,1,4,5,9] [some .give, none] [(.give, 4, none)] c138 := mkV Tryz.func138 rfl rfl (by kernel_rfl) (by kernel_rfl) rfl rfl
def c139_0:= rg [Qe 4 0]
def c139_1:= rg [Qe 5 0]
def c139_2:= rg [Qa 6 5,
Qa 7 0,
Qj 8 7,
Qq 9 6 8]
def c139_3:= rg [Qa 12 0,
Qa 13 5,
Qa 14 1,
Qs 15 75 14,
Qm 16 3 12 13,
Qt 17 0 16,
Ql 1 17 15]
def c139_4:= rg [Qa 18 1,
Qi 19 18 1,
Qc 1 19]
def c139_5:= rg [Qa 20 0,
Qa 21 5,
Qa 22 1,
Qm 23 3 20 21,
Qt 24 1 23,
Ql 1 24 22]
def c139_6:= rg [Qa 25 1,
Qi 26 25 1,
Qc 1 26]
def c139_7:= rg [Qa 27 0,
Qa 28 5,
Qa 29 1,
Qm 30 3 27 28,
Qt 31 2 30,
Ql 1 31 29]
def c139_8:= rg [Qa 32 1,
Qi 33 32 1,
Qc 1 33]
def c139_9:= rg [Qa 10 5,
Qi 11 10 1,
Qc 5 11]
def c139_10 : ACode := (.seq (.seq c139_2 (.cond (.var 9) .skip (.exit 0))) (.seq (.block 1 (.seq c139_3 (.seq c139_4 (.seq c139_5 (.seq c139_6 (.seq c139_7 c139_8)))))) c139_9))
def c139_11:= rg [Qa 34 1,
Qc 4 34]
def c139 : ACode := (.seq c139_0 (.seq (.seq c139_1 (.block 0 (.loop [0, 1, 5] c139_10))) (.seq c139_11 .ret)))
abbrev F_L_markJobS : FuncId := 139
theorem v_L_markJobS : VT 2 1 Tryz.f139 139 [0,1,4,5,9] [some .give, none] [(.give, 4, none)] c139 := mkV Tryz.func139 rfl rfl (by kernel_rfl) (by kernel_rfl) rfl rfl
def c140_0:= rg [Qh 3 0,
Qf 6]
def c140_1:= rg [Qa 7 1,
⟨.var 8, .bin .int .neq (.loc 7) (.const (.d (.int .i64 0))), none, []⟩]
def c140_2:= rg [Qa 9 1,
Qa 10 2,
Qcv 11 9 10]
def c140_3:= rg [Qy 6]
def c140_4 : ACode := .reg [Qb 12 0 3,
  Qr 13 1 12 [0],
  Qg 14 1 3,
  Qa 15 1,
  Qcc 16 115 14 15 [2,3],
  Qw 17 7 13 16 [1,0,4,2,3],
  Qah 18 1 17 [5,1,0,4,2,3],
  Qr 19 1 18 [6,5,1,0,4,2,3],
  Qbr 1 19 [7,6,5,1,0,4,2,3]] true
def c140_5 : ACode := (.seq (.seq c140_1 (.cond (.var 8) .skip (.exit 0))) (.block 1 (.seq (.seq c140_2 (.cond (.var 11) (.seq c140_3 .ret) .skip)) c140_4)))
def c140_6:= rg [Qf 6]
def c140 : ACode := (.seq c140_0 (.seq (.block 0 (.loop [1, 2, 3] c140_5)) (.seq c140_6 .ret)))
abbrev F_S_l08Under : FuncId := 140
theorem v_S_l08Under : VT 3 1 Tryz.f140 140 [0,1,2,3,6,8,11] [none, none, none] [(.give, 6, none)] c140 := mkV Tryz.func140 rfl rfl (by kernel_rfl) (by kernel_rfl) rfl rfl
def c141_0:= rg [Qh 1 0,
Qcf 2 0 0 0 1 0 0 0 0]
def c141_1:= rg [Qb 3 2 1,
Qd 4 1 3,
Qs 5 198 4,
Qb 6 2 1,
Ql 1 6 5]
def c141_2:= rg [Qg 7 7 1,
Qk 7 2 7]
def c141 : ACode := (.seq c141_0 (.seq c141_1 (.seq c141_2 .ret)))
abbrev F_I_cloneToken : FuncId := 141
theorem v_I_cloneToken : VT 1 1 Tryz.f141 141 [0,1,2] [none] [(.give, 2, some (true, 7))] c141 := mkV Tryz.func141 rfl rfl (by kernel_rfl) (by kernel_rfl) rfl rfl
def c142_0:= rg [Qe 4 0]
def c142_1:= rg [Qa 6 0,
Qda 7 6,
Qe 8 0]
def c142_2:= rg [Qas 9 8 7]
def c142_3:= rg [Qa 10 8,
Qc 5 10]
def c142_4:= rg [Qa 11 1,
Qa 12 0,
Qa 13 5,
Qm 14 1 12 13,
Qd 15 1 14,
Qcv 16 11 15]
def c142_5:= rg [Qa 17 5,
Qc 4 17]
def c142_6:= rg [Qat 18 8 1,
Qc 8 18]
def c142_7 : ACode := (.seq c142_2 (.seq (.cond (.var 9) .skip (.exit 0)) (.seq (.block 1 (.seq c142_3 (.seq c142_4 (.cond (.var 16) (.seq c142_5 .ret) .skip)))) c142_6)))
def c142_8:= rg [Qe 4 (-1)]
def c142 : ACode := (.seq c142_0 (.seq (.seq c142_1 (.block 0 (.loop [0, 1, 7, 8] c142_7))) (.seq c142_8 .ret)))
abbrev F_slices_Index___int_int_ : FuncId := 142
theorem v_slices_Index___int_int_ : VT 2 1 Tryz.f142 142 [0,1,4,5,7,8,9,16] [none, none] [(.give, 4, none)] c142 := mkV Tryz.func142 rfl rfl (by kernel_rfl) (by kernel_rfl) rfl rfl
def c143_0:= rg [Qh 1 0,
Qx 2 1 7]
def c143_1:= rg [Qcs 5 1 7,
Qx 3 1 7,
Qk 1 3 5]
def c143_2:= rg [Qe 4 0]
def c143_3:= rg [Qa 6 4,
Qb 7 0 1,
Qd 8 1 7,
Qj 9 8,
Qq 10 6 9]
def c143_4 : ACode := .reg [Qb 13 0 3,
  Qr 14 1 13 [0],
  Qb 15 0 1,
  Qr 16 1 15 [2],
  Qa 17 4,
  Qw 18 7 16 17 [3,2,4],
  Qai 19 7 18 [5,3,2,4],
  Qak 20 147 19 [6,5,3,2,4],
  ⟨.loc 21, .lit 1 7 1 [.int .i64 0, .int .i64 0, .slc 1 [], .int .i64 0, .int .i64 0, .int .i64 0, .int .i64 0] [(0, (.loc 20))], none, [7, 6, 5, 3, 2, 4]⟩,
  Qbw 22 7 72 14 21 [1,0,8,7,6,5,3,2,4],
  Qbd 23 0 3 [9,1,0,8,7,6,5,3,2,4],
  Qav 1 23 22 [10,9,1,0,8,7,6,5,3,2,4]] true
def c143_5:= rg [Qa 11 4,
Qi 12 11 1,
Qc 4 12]
def c143_6 : ACode := (.seq (.seq c143_3 (.cond (.var 10) .skip (.exit 0))) (.seq (.block 1 c143_4) c143_5))
def c143_7:= rg [Qg 24 1 3,
Qk 1 2 24]
def c143 : ACode := (.seq c143_0 (.seq c143_1 (.seq (.seq c143_2 (.block 0 (.loop [1, 2, 3, 4] c143_6))) (.seq c143_7 .ret))))
abbrev F_S_l08Copy : FuncId := 143
theorem v_S_l08Copy : VT 1 1 Tryz.f143 143 [0,1,2,3,4,10] [none] [(.give, 2, some (true, 1))] c143 := mkV Tryz.func143 rfl rfl (by kernel_rfl) (by kernel_rfl) rfl rfl
def c144_0:= rg [Qh 1 0,
Qx 2 0 6]
def c144_1:= rg [Qcs 5 0 6,
Qx 3 0 6,
Qk 1 3 5]
def c144_2:= rg [Qe 4 0]
def c144_3:= rg [Qa 6 4,
Qb 7 0 1,
Qd 8 1 7,
Qj 9 8,
Qq 10 6 9]
def c144_4 : ACode := .reg [Qb 13 0 3,
  Qr 14 1 13 [0],
  Qb 15 0 1,
  Qr 16 1 15 [2],
  Qa 17 4,
  Qw 18 6 16 17 [3,2,4],
  Qai 19 6 18 [5,3,2,4],
  ⟨.loc 20, .lit 0 6 1 [.int .i64 0, .int .i64 0, .str [], .int .i64 0, .int .i64 0, .int .i64 0] [(0, (.loc 19))], none, [6, 5, 3, 2, 4]⟩,
  Qbw 21 6 56 14 20 [1,0,7,6,5,3,2,4],
  Qbd 22 0 3 [8,1,0,7,6,5,3,2,4],
  Qav 1 22 21 [9,8,1,0,7,6,5,3,2,4]] true
def c144_5:= rg [Qa 11 4,
Qi 12 11 1,
Qc 4 12]
def c144_6 : ACode := (.seq (.seq c144_3 (.cond (.var 10) .skip (.exit 0))) (.seq (.block 1 c144_4) c144_5))
def c144_7:= rg [Qg 23 1 3,
Qk 1 2 23]
def c144 : ACode := (.seq c144_0 (.seq c144_1 (.seq (.seq c144_2 (.block 0 (.loop [1, 2, 3, 4] c144_6))) (.seq c144_7 .ret))))
abbrev F_S_l09Copy : FuncId := 144
theorem v_S_l09Copy : VT 1 1 Tryz.f144 144 [0,1,2,3,4,10] [none] [(.give, 2, some (true, 1))] c144 := mkV Tryz.func144 rfl rfl (by kernel_rfl) (by kernel_rfl) rfl rfl
def c145_0:= rg [Qh 1 0,
Qaz 2 0 2 0 0]
def c145_1:= rg [Qb 5 1 1,
Qd 6 1 5,
Qb 7 2 1,
Qd 8 1 7,
⟨.loc 9, .build [.nil 0 2, .d (.int .i64 0), .d (.int .i64 0)] [(1, 1, (.loc 6)), (2, 1, (.loc 8))], none, []⟩,
Qaz 3 0 2 0 0,
Qk 3 3 9]
def c145_2:= rg [Qe 4 0]
def c145_3:= rg [Qa 10 4,
Qb 11 0 1,
Qd 12 1 11,
Qj 13 12,
Qq 14 10 13]
def c145_4 : ACode := .reg [Qb 17 0 3,
  Qr 18 1 17 [0],
  Qb 19 0 1,
  Qr 20 1 19 [2],
  Qa 21 4,
  Qw 22 2 20 21 [3,2,4],
  Qai 23 2 22 [5,3,2,4],
  ⟨.loc 24, .lit 0 2 1 [.str [], .str []] [(0, (.loc 23))], none, [6, 5, 3, 2, 4]⟩,
  Qbw 25 2 32 18 24 [1,0,7,6,5,3,2,4],
  Qbd 26 0 3 [8,1,0,7,6,5,3,2,4],
  Qav 1 26 25 [9,8,1,0,7,6,5,3,2,4]] true
def c145_5:= rg [Qa 15 4,
Qi 16 15 1,
Qc 4 16]
def c145_6 : ACode := (.seq (.seq c145_3 (.cond (.var 14) .skip (.exit 0))) (.seq (.block 1 c145_4) c145_5))
def c145_7:= rg [Qg 27 3 3,
Qk 3 2 27]
def c145 : ACode := (.seq c145_0 (.seq c145_1 (.seq (.seq c145_2 (.block 0 (.loop [1, 2, 3, 4] c145_6))) (.seq c145_7 .ret))))
abbrev F_S_l11Copy : FuncId := 145
theorem v_S_l11Copy : VT 1 1 Tryz.f145 145 [0,1,2,3,4,14] [none] [(.give, 2, some (true, 3))] c145 := mkV Tryz.func145 rfl rfl (by kernel_rfl) (by kernel_rfl) rfl rfl
def c146_0:= rg [Qh 1 0,
Qx 2 0 3]
def c146_1:= rg [Qcs 5 0 3,
Qx 3 0 3,
Qk 1 3 5]
def c146_2:= rg [Qe 4 0]
def c146_3:= rg [Qa 6 4,
Qb 7 0 1,
Qd 8 1 7,
Qj 9 8,
Qq 10 6 9]
def c146_4 : ACode := .reg [Qb 13 0 3,
  Qr 14 1 13 [0],
  Qb 15 0 1,
  Qr 16 1 15 [2],
  Qa 17 4,
  Qw 18 3 16 17 [3,2,4],
  Qai 19 3 18 [5,3,2,4],
  ⟨.loc 20, .lit 0 3 1 [.str [], .int .i64 0, .int .i64 0] [(0, (.loc 19))], none, [6, 5, 3, 2, 4]⟩,
  Qbw 21 3 32 14 20 [1,0,7,6,5,3,2,4],
  Qbd 22 0 3 [8,1,0,7,6,5,3,2,4],
  Qav 1 22 21 [9,8,1,0,7,6,5,3,2,4]] true
def c146_5:= rg [Qa 11 4,
Qi 12 11 1,
Qc 4 12]
def c146_6 : ACode := (.seq (.seq c146_3 (.cond (.var 10) .skip (.exit 0))) (.seq (.block 1 c146_4) c146_5))
def c146_7:= rg [Qg 23 1 3,
Qk 1 2 23]
def c146 : ACode := (.seq c146_0 (.seq c146_1 (.seq (.seq c146_2 (.block 0 (.loop [1, 2, 3, 4] c146_6))) (.seq c146_7 .ret))))
abbrev F_S_l11CopyQueue : FuncId := 146
theorem v_S_l11CopyQueue : VT 1 1 Tryz.f146 146 [0,1,2,3,4,10] [none] [(.give, 2, some (true, 1))] c146 := mkV Tryz.func146 rfl rfl (by kernel_rfl) (by kernel_rfl) rfl rfl
def c147_0:= rg [Qh 1 0,
Qcf 2 0 0 0 1 0 0 0 0]
def c147_1:= rg [Qb 3 2 1,
Qd 4 1 3,
Qs 5 199 4,
Qb 6 2 1,
Ql 1 6 5]
def c147_2:= rg [Qg 7 7 1,
Qk 7 2 7]
def c147 : ACode := (.seq c147_0 (.seq c147_1 (.seq c147_2 .ret)))
abbrev F_S_l08CopyToken : FuncId := 147
theorem v_S_l08CopyToken : VT 1 1 Tryz.f147 147 [0,1,2] [none] [(.give, 2, some (true, 7))] c147 := mkV Tryz.func147 rfl rfl (by kernel_rfl) (by kernel_rfl) rfl rfl
def c148_0:= rg [Qh 1 0,
Qx 2 1 7]
def c148_1:= rg [Qx 3 1 7]
def c148_2:= rg [Qb 6 0 1,
Qcb 7 1 6,
Qbh 8 7,
Qe 9 0]
def c148_3:= rg [Qas 10 9 8]
def c148_4:= rg [Qbi 11 7 7 9,
Qp 12 7 11,
Qcf 5 0 0 0 1 0 0 0 0,
Qk 7 5 12]
def c148_5 : ACode := .reg [Qb 13 0 3,
  Qr 14 1 13 [0],
  Qg 15 7 5,
  Qak 16 141 15 [2],
  ⟨.loc 17, .lit 1 7 1 [.int .i64 0, .int .i64 0, .slc 1 [], .int .i64 0, .int .i64 0, .int .i64 0, .int .i64 0] [(0, (.loc 16))], none, [3, 2]⟩,
  Qbw 18 7 72 14 17 [1,0,4,3,2],
  Qbd 19 0 3 [5,1,0,4,3,2],
  Qav 1 19 18 [6,5,1,0,4,3,2]] true
def c148_6:= rg [Qat 20 9 1,
Qc 9 20]
def c148_7 : ACode := (.seq c148_3 (.seq (.cond (.var 10) .skip (.exit 0)) (.seq (.block 1 (.seq c148_4 c148_5)) c148_6)))
def c148_8:= rg [Qg 21 1 3,
Qk 1 2 21]
def c148 : ACode := (.seq c148_0 (.seq c148_1 (.seq (.seq c148_2 (.block 0 (.loop [2, 3, 7, 8, 9] c148_7))) (.seq c148_8 .ret))))
abbrev F_I_cloneForest : FuncId := 148
theorem v_I_cloneForest : VT 1 1 Tryz.f148 148 [0,1,2,3,5,7,8,9,10] [none] [(.give, 2, some (true, 1))] c148 := mkV Tryz.func148 rfl rfl (by kernel_rfl) (by kernel_rfl) rfl rfl
def c149_0:= rg [Qh 1 0,
Qx 2 0 6]
def c149_1:= rg [Qb 3 0 1,
Qd 4 1 3,
Qs 5 200 4,
⟨.loc 6, .build [.nil 0 6] [(0, 1, (.loc 5))], none, []⟩,
Qk 1 2 6]
def c149 : ACode := (.seq c149_0 (.seq c149_1 .ret))
abbrev F_I_cloneBook : FuncId := 149
theorem v_I_cloneBook : VT 1 1 Tryz.f149 149 [0,1,2] [none] [(.give, 2, some (true, 1))] c149 := mkV Tryz.func149 rfl rfl (by kernel_rfl) (by kernel_rfl) rfl rfl
def c150_0:= rg [Qh 1 0,
Qaz 2 0 2 0 0]
def c150_1:= rg [Qb 3 0 1,
Qd 4 1 3,
Qs 5 201 4,
Qb 6 0 1,
Ql 1 6 5]
def c150_2:= rg [Qg 7 3 1,
Qk 3 2 7]
def c150 : ACode := (.seq c150_0 (.seq c150_1 (.seq c150_2 .ret)))
abbrev F_I_cloneFar : FuncId := 150
theorem v_I_cloneFar : VT 1 1 Tryz.f150 150 [0,1,2] [none] [(.give, 2, some (true, 3))] c150 := mkV Tryz.func150 rfl rfl (by kernel_rfl) (by kernel_rfl) rfl rfl
def c151_0:= rg [Qh 1 0,
Qx 2 0 3]
def c151_1:= rg [Qb 3 0 1,
Qd 4 1 3,
Qs 5 202 4,
⟨.loc 6, .build [.nil 0 3] [(0, 1, (.loc 5))], none, []⟩,
Qk 1 2 6]
def c151 : ACode := (.seq c151_0 (.seq c151_1 .ret))
abbrev F_I_cloneQueue : FuncId := 151
theorem v_I_cloneQueue : VT 1 1 Tryz.f151 151 [0,1,2] [none] [(.give, 2, some (true, 1))] c151 := mkV Tryz.func151 rfl rfl (by kernel_rfl) (by kernel_rfl) rfl rfl
def c155_0:= rg [Qe 4 0]
def c155_1:= rg [Qe 5 0]
def c155_2:= rg [Qa 6 5,
Qa 7 0,
Qj 8 7,
Qq 9 6 8]
def c155_3:= rg [Qa 12 0,
Qa 13 5,
Qm 14 7 12 13,
Qt 15 0 14,
Qd 16 1 15,
Qa 17 1,
Qv 18 16 17]
def c155_4:= rg [Qe 4 (-1)]
def c155_5:= rg [Qa 19 1,
Qi 20 19 1,
Qc 1 20]
def c155_6:= rg [Qa 21 0,
Qa 22 5,
Qm 23 7 21 22,
Qt 24 1 23,
Qd 25 1 24,
Qa 26 1,
Qv 27 25 26]
def c155_7:= rg [Qe 4 (-1)]
def c155_8:= rg [Qa 28 1,
Qi 29 28 1,
Qc 1 29]
def c155_9:= rg [Qa 30 0,
Qa 31 5,
Qm 32 7 30 31,
Qt 33 2 32,
Qd 34 1 33,
Qa 35 1,
Qo 36 21 34 35,
Qc 1 36]
def c155_10:= rg [Qa 37 1,
Qu 38 37 0]
def c155_11:= rg [Qe 4 (-1)]
def c155_12:= rg [Qa 39 0,
Qa 40 5,
Qm 41 7 39 40,
Qt 42 3 41,
Qd 43 1 42,
Qa 44 1,
Qv 45 43 44]
def c155_13:= rg [Qe 4 (-1)]
def c155_14:= rg [Qa 46 1,
Qi 47 46 1,
Qc 1 47]
end Go.Proofs.YtdckkojgnkoabaaGreatDoor.Ab
