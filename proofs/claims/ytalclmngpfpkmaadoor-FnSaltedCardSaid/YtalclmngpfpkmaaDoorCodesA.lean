/-
  A part of a proof about the given program; what is proved is said where each theorem stands.
-/
import Derived.Lib.LaidTab
import Derived.Lib.ItoaLen
import Derived.Shelf.Strconv.Itoa3
import Derived.KernelRfl
import Derived.Test.YtalclmngpfpkmaaDoorProg
import Derived.Test.YtalclmngpfpkmaaDoorFrameA
import Derived.Test.YtalclmngpfpkmaaDoorFrameB
import Derived.Test.YtalclmngpfpkmaaDoorFrameC
import Derived.Test.YtalclmngpfpkmaaDoorFrameD
import Derived.Test.YtalclmngpfpkmaaDoorFrameE
namespace Go.Proofs.YtalclmngpfpkmaaDoor.Ab
open Go.Proofs
noncomputable abbrev PP : Program := Tryd.prog
/-- The table of powers of ten that the library's number texts lean on. -/
def pow10Cells : Obj → Prop
  | .cells cs _ _ => cs = (Lib.pow10Tab.map fun z => Value.int .u64 z).toArray
  | _ => False
class P10 (GG : GV) : Prop where
  h : GG 0 = some pow10Cells
/-- An error variable: nil or an error. -/
def errCell : Obj → Prop
  | .cells cs _ _ => ∃ ev, cs[0]? = some ev ∧ (ev = .nilIface ∨ ∃ te pe, ev = .iface te pe)
  | _ => False
/-- A number variable. -/
def intCell : Obj → Prop
  | .cells cs _ _ => ∃ m : Int, cs[0]? = some (.int .i64 m)
  | _ => False
class MaxL (GG : GV) : Prop where
  h : GG 3 = some intCell
/-- What is asked of the code of a function. -/
abbrev WX (GG : GV) (vl : List Nat) (nt : Nat) (om : List (Option Mode)) (rs : List (Mode × Nat × Option (Bool × Nat))) (c : ACode) (rcs cs : List C) (os : List (Option C)) : Prop :=
  W PP vl (nt, pinOf 0 om) (Valid PP GG) c (entry cs) (Fin (Valid PP GG) rs om rcs os) (fun _ _ => False) (Fin (Valid PP GG) rs om rcs os)
/-- An operation without a guard. -/
abbrev o1 (d : Dst) (p : AOp) : AOper := ⟨d, p, none, []⟩
@[simp] theorem o1_is (d : Dst) (p : AOp) : o1 d p = ⟨d, p, none, []⟩ := id rfl
abbrev rg (l : List AOper) : ACode := .reg l false
abbrev VT (n m : Nat) (fn : Func) (f : FuncId) (vl : List Nat) (om : List (Option Mode)) (rs : List (Mode × Nat × Option (Bool × Nat))) (c : ACode) : Prop :=
  ∀ {GG : GV} (rcs : List C) {cs : List C} {r : C} {os : List (Option C)}, (cs.length == n && rcs.length == m) = true → retOf rcs = r → WX GG vl fn.ntmps om rs c rcs cs os → Valid PP GG f cs r os
theorem mkV {n m : Nat} {fn : Func} {f : FuncId} {vl : List Nat} {om : List (Option Mode)} {rs : List (Mode × Nat × Option (Bool × Nat))} {c : ACode} (hf : PP.funcs[f]? = some fn) (hb : fn.body.isSome = true) (hname : (fn.name == "runtime.NumGoroutine") = false) (hr : resOk PP fn.results.toList rs = true) (hcomp : comp PP (fn.ntmps, pinOf 0 om) vl (fn.body.getD .skip) = some c.erase)
    (hvl : ((List.range n).all vl.contains) = true) (hn : decide (n ≤ fn.ntmps ∧ om.length ≤ n ∧ m = rs.length) = true) : VT n m fn f vl om rs c :=
  fun {_} rcs {_ _ _} hN hret hW => fn_valid_n n m _ _ _ _ rcs hf hb hname hr hcomp hvl hn hN hret hW
abbrev Qa (n0 : Nat) (n1 : Nat) : AOper := ⟨.loc n0, .mv (.var n1), none, []⟩
abbrev Qb (n0 : Nat) (n1 : Nat) : AOper := ⟨.var n0, .mv (.loc n1), none, []⟩
abbrev Qc (n0 : Nat) (n1 : Nat) (n2 : Nat) : AOper := ⟨.loc n0, .fld n1 (.var n2), none, []⟩
abbrev Qd (n0 : Nat) (n1 : Nat) (n2 : Nat) : AOper := ⟨.loc n0, .load false n1 (.loc n2), none, []⟩
abbrev Qe (n0 : Nat) (n1 : Int) : AOper := ⟨.var n0, .mv (.const (.d (.int .i64 n1))), none, []⟩
abbrev Qf (n0 : Nat) : AOper := ⟨.var n0, .mv (.const (.d (.bool false))), none, []⟩
abbrev Qg (n0 : Nat) (n1 : Nat) : AOper := ⟨.loc n0, .split (.loc n1), none, []⟩
abbrev Qh (n0 : Nat) (n1 : Nat) (n2 : Nat) (n3 : List Nat) : AOper := ⟨.loc n0, .load false n1 (.loc n2), none, n3⟩
abbrev Qi (n0 : Nat) (n1 : Nat) (n2 : Int) : AOper := ⟨.loc n0, .bin .int .add (.loc n1) (.const (.d (.int .i64 n2))), none, []⟩
abbrev Qj (n0 : Nat) (n1 : Nat) (n2 : Nat) : AOper := ⟨.loc n0, .call (.fn n1) [(.loc n2)] [.borrow], none, []⟩
abbrev Qk (n0 : Nat) (n1 : Nat) (n2 : Nat) : AOper := ⟨.loc n0, .load true n1 (.var n2), none, []⟩
abbrev Ql (n0 : Nat) (n1 : Nat) : AOper := ⟨.loc n0, .len false (.loc n1), none, []⟩
abbrev Qm (n0 : Nat) (n1 : Nat) (n2 : Nat) : AOper := ⟨.loc n0, .mv (.var n1), some ((.loc n2), true), []⟩
abbrev Qn (n0 : Nat) (n1 : Nat) (n2 : Nat) : AOper := ⟨.none, .store n0 (.var n1) (.loc n2), none, []⟩
abbrev Qo (n0 : Nat) (n1 : Nat) (n2 : Nat) : AOper := ⟨.loc n0, .pick (.loc n1) (.loc n2) (.const (.d (.bool false))), none, []⟩
abbrev Qp (n0 : Nat) (n1 : Nat) (n2 : Nat) : AOper := ⟨.var n0, .bin .int .lss (.loc n1) (.loc n2), none, []⟩
abbrev Qq (n0 : Nat) (n1 : Nat) (n2 : Nat) (n3 : List Nat) : AOper := ⟨.loc n0, .fld n1 (.loc n2), none, n3⟩
abbrev Qr (n0 : Nat) (n1 : Nat) (n2 : Nat) (n3 : Nat) : AOper := ⟨.loc n0, .idxA n1 (.loc n2) (.loc n3), none, []⟩
abbrev Qs (n0 : Nat) (n1 : Nat) (n2 : Nat) : AOper := ⟨.loc n0, .mv (.var n1), some ((.loc n2), false), []⟩
abbrev Qt (n0 : Nat) (n1 : Nat) (n2 : Nat) (n3 : Int) (n4 : Nat) : AOper := ⟨.loc n0, .call (.fn n1) [(.loc n2), (.const (.d (.int .i64 n3)))] [.box n4, .borrow], none, []⟩
abbrev Qu (n0 : Nat) (n1 : Nat) (n2 : Nat) : AOper := ⟨.none, .store n0 (.loc n1) (.loc n2), none, []⟩
abbrev Qv (n0 : Nat) (n1 : Nat) (n2 : Nat) : AOper := ⟨.loc n0, .bin .int .add (.loc n1) (.loc n2), none, []⟩
abbrev Qw (n0 : Nat) (n1 : Int) (n2 : Int) (n3 : Nat) (n4 : Nat) : AOper := ⟨.var n0, .alloc [.d (.int .i64 n1), .d (.int .i64 n2), .nil n3 n4], none, []⟩
abbrev Qx (n0 : Nat) (n1 : Nat) : AOper := ⟨.var n0, .box (.var n1), none, []⟩
abbrev Qy (n0 : Nat) (n1 : Nat) : AOper := ⟨.loc n0, .len true (.loc n1), none, []⟩
abbrev Qz (n0 : Nat) (n1 : Nat) (n2 : Int) : AOper := ⟨.loc n0, .bin .int .eql (.var n1) (.const (.d (.int .i64 n2))), none, []⟩
abbrev Qaa (n0 : Nat) (n1 : Nat) (n2 : Nat) : AOper := ⟨.var n0, .pick (.loc n1) (.const (.d (.bool true))) (.loc n2), none, []⟩
abbrev Qab (n0 : Nat) (n1 : Nat) (n2 : Nat) (n3 : Nat) (n4 : List Nat) : AOper := ⟨.loc n0, .idxA n1 (.loc n2) (.loc n3), none, n4⟩
abbrev Qac (n0 : Nat) (n1 : Nat) (n2 : Nat) (n3 : Nat) : AOper := ⟨.loc n0, .load false n1 (.loc n2), some ((.loc n3), false), []⟩
abbrev Qad (n0 : Nat) : AOper := ⟨.var n0, .mv (.const (.d (.str []))), none, []⟩
abbrev Qae (n0 : Nat) (n1 : Nat) (n2 : Nat) : AOper := ⟨.var n0, .mv (.const (.nil n1 n2)), none, []⟩
abbrev Qaf (n0 : Nat) (n1 : Nat) (n2 : Nat) (n3 : Nat) (n4 : Nat) : AOper := ⟨.loc n0, .call (.fn n1) [(.loc n2), (.loc n3)] [.box n4, .give], none, []⟩
abbrev Qag (n0 : Nat) (n1 : Nat) (n2 : Nat) (n3 : Nat) : AOper := ⟨.loc n0, .load false n1 (.loc n2), some ((.loc n3), true), []⟩
abbrev Qah (n0 : Nat) (n1 : Nat) (n2 : Nat) (n3 : Nat) : AOper := ⟨.loc n0, .fld n1 (.var n2), some ((.loc n3), false), []⟩
abbrev Qai (n0 : Nat) (n1 : Nat) (n2 : Nat) : AOper := ⟨.loc n0, .fld n1 (.loc n2), none, []⟩
abbrev Qaj (n0 : Nat) (n1 : Nat) (n2 : Nat) (n3 : Nat) (n4 : Nat) : AOper := ⟨.loc n0, .call (.fn n1) [(.loc n2), (.loc n3)] [.box n4, .borrow], none, []⟩
abbrev Qak (n0 : Nat) (n1 : Nat) : AOper := ⟨.loc n0, .un .not (.loc n1), none, []⟩
abbrev Qal (n0 : Nat) (n1 : Nat) (n2 : Nat) (n3 : Int) (n4 : Nat) : AOper := ⟨.var n0, .call (.fn n1) [(.loc n2), (.const (.d (.int .i64 n3)))] [.box n4, .borrow], none, []⟩
abbrev Qam (n0 : Nat) (n1 : Nat) (n2 : Nat) (n3 : Int) (n4 : Int) : AOper := ⟨.loc n0, .call (.fn n1) [(.loc n2), (.const (.d (.int .i64 n3))), (.const (.d (.int .i64 n4)))] [.borrow, .borrow, .borrow], none, []⟩
abbrev Qan (n0 : Nat) (n1 : Nat) (n2 : Nat) (n3 : Nat) : AOper := ⟨.loc n0, .call (.fn n1) [(.loc n2)] [.box n3], none, []⟩
abbrev Qao (n0 : Nat) (n1 : Nat) (n2 : Nat) (n3 : Nat) : AOper := ⟨.loc n0, .fld n1 (.var n2), some ((.loc n3), true), []⟩
abbrev Qap (n0 : Nat) (n1 : Int) (n2 : Nat) : AOper := ⟨.loc n0, .bin .int .mul (.const (.d (.int .i64 n1))) (.loc n2), none, []⟩
abbrev Qaq (n0 : Nat) : AOper := ⟨.var n0, .mv (.const (.d (.bool true))), none, []⟩
abbrev Qar (n0 : Nat) (n1 : Nat) (n2 : Nat) : AOper := ⟨.loc n0, .un .not (.loc n1), some ((.loc n2), false), []⟩
abbrev Qas (n0 : Nat) (n1 : Nat) : AOper := ⟨.var n0, .un .not (.loc n1), none, []⟩
abbrev Qat (n0 : Nat) (n1 : Nat) (n2 : Nat) (n3 : Nat) (n4 : Nat) : AOper := ⟨.loc n0, .app n1 n2 (.loc n3) (.loc n4), none, []⟩
abbrev Qau (n0 : Nat) (n1 : Nat) (n2 : Nat) (n3 : List Nat) : AOper := ⟨.loc n0, .call (.fn n1) [(.loc n2)] [.borrow], none, n3⟩
abbrev Qav (n0 : Nat) (n1 : Nat) (n2 : Nat) (n3 : List Nat) : AOper := ⟨.loc n0, .mv (.var n1), some ((.loc n2), false), n3⟩
abbrev Qaw (n0 : Nat) (n1 : Nat) (n2 : Nat) : AOper := ⟨.loc n0, .pick (.loc n1) (.const (.d (.bool true))) (.loc n2), none, []⟩
abbrev Qax (n0 : Nat) (n1 : Int) (n2 : Nat) : AOper := ⟨.loc n0, .bin .int .add (.const (.d (.int .i64 n1))) (.loc n2), none, []⟩
abbrev Qay (n0 : Nat) (n1 : Nat) (n2 : Nat) (n3 : Nat) (n4 : List Nat) : AOper := ⟨.loc n0, .load false n1 (.loc n2), some ((.loc n3), true), n4⟩
abbrev Qaz (n0 : Nat) (n1 : Nat) (n2 : Nat) (n3 : Nat) (n4 : List Nat) : AOper := ⟨.loc n0, .load false n1 (.loc n2), some ((.loc n3), false), n4⟩
abbrev Qba (n0 : Nat) (n1 : Nat) (n2 : Nat) : AOper := ⟨.var n0, .bin .int .lss (.var n1) (.var n2), none, []⟩
abbrev Qbb (n0 : Nat) (n1 : Nat) (n2 : Int) : AOper := ⟨.loc n0, .bin .int .add (.var n1) (.const (.d (.int .i64 n2))), none, []⟩
abbrev Qbc (n0 : Nat) (n1 : Nat) (n2 : Nat) (n3 : List Nat) : AOper := ⟨.none, .store n0 (.loc n1) (.loc n2), none, n3⟩
abbrev Qbd (n0 : Nat) (n1 : Nat) (n2 : List Nat) : AOper := ⟨.loc n0, .bin .str .add (.loc n1) (.const (.d (.str [10]))), none, n2⟩
abbrev Qbe (n0 : Nat) (n1 : Nat) (n2 : Nat) (n3 : List Nat) : AOper := ⟨.loc n0, .bin .str .add (.loc n1) (.loc n2), none, n3⟩
abbrev Qbf (n0 : Nat) (n1 : Nat) (n2 : List Nat) : AOper := ⟨.loc n0, .nchk (.loc n1), none, n2⟩
abbrev Qbg (n0 : Nat) (n1 : Nat) (n2 : Int) : AOper := ⟨.var n0, .bin .int .lss (.loc n1) (.const (.d (.int .i64 n2))), none, []⟩
abbrev Qbh (n0 : Nat) (n1 : Int) (n2 : Int) (n3 : Int) (n4 : Int) (n5 : Int) : AOper := ⟨.var n0, .alloc [.d (.int .i64 n1), .d (.int .i64 n2), .d (.int .i64 n3), .d (.str []), .d (.str []), .d (.int .i64 n4), .d (.int .i64 n5)], none, []⟩
abbrev Qbi (n0 : Nat) (n1 : Nat) (n2 : Nat) (n3 : Nat) (n4 : Int) (n5 : Nat) (n6 : Nat) : AOper := ⟨.loc n0, .lit n1 n2 n3 [.int .u8 n4] [(n5, (.loc n6))], none, []⟩
abbrev Qbj (n0 : Nat) (n1 : Nat) (n2 : Int) : AOper := ⟨.loc n0, .bin .int .mul (.loc n1) (.const (.d (.int .i64 n2))), none, []⟩
abbrev Qbk (n0 : Nat) (n1 : Nat) (n2 : Nat) : AOper := ⟨.var n0, .pick (.loc n1) (.loc n2) (.const (.d (.bool false))), none, []⟩
abbrev Qbl (n0 : Nat) (n1 : Nat) : AOper := ⟨.loc n0, .conv .i64 (.loc n1), none, []⟩
abbrev Qbm (n0 : Nat) (n1 : Nat) (n2 : Int) : AOper := ⟨.loc n0, .bin .int .rem (.loc n1) (.const (.d (.int .i64 n2))), none, []⟩
def c3_0:= rg [Qf 2]
def c3_1:= rg [Qa 13 0,
⟨.var 14, .call (.fn 5) [(.loc 13)] [.borrow], none, []⟩]
def c3_2:= rg [Qaq 2]
def c3_3:= rg [Qa 16 0,
Qj 17 6 16,
⟨.loc 15, .mv (.loc 17), none, []⟩,
⟨.loc 18, .ext (.loc 15) 0, none, []⟩,
⟨.loc 19, .ext (.loc 15) 1, none, []⟩,
Qw 3 0 0 0 7,
Qn 3 3 18,
Qb 4 19]
def c3_4:= rg [Qk 20 3 3,
Qj 21 7 20,
Qak 22 21,
Qg 23 22,
Qs 24 4 23,
⟨.loc 25, .len true (.loc 24), some ((.loc 23), false), []⟩,
⟨.loc 26, .bin .int .geq (.loc 25) (.const (.d (.int .i64 2000))), some ((.loc 23), false), []⟩,
Qaa 27 23 26]
def c3_5:= rg [Qaq 2]
def c3_6:= rg [Qk 28 3 3,
Qa 29 4,
⟨.loc 30, .call (.fn 8) [(.loc 28), (.loc 29)] [.borrow, .borrow], none, []⟩,
Qb 5 30]
def c3_7 : ACode := .reg [Qa 31 5,
  Qk 32 3 3,
  Qa 33 4,
  ⟨.loc 34, .call (.fn 9) [(.loc 32), (.loc 33)] [.borrow, .borrow], none, [1, 2]⟩,
  ⟨.loc 35, .bin .str .neq (.loc 31) (.loc 34), none, [0, 3, 1, 2]⟩,
  ⟨.loc 36, .split (.loc 35), none, [4, 0, 3, 1, 2]⟩,
  Qav 37 5 36 [5,4,0,3,1,2],
  ⟨.loc 38, .bin .str .eql (.loc 37) (.const (.d (.str []))), some ((.loc 36), false), [6, 5, 4, 0, 3, 1, 2]⟩,
  ⟨.loc 39, .pick (.loc 36) (.const (.d (.bool true))) (.loc 38), none, [7, 6, 5, 4, 0, 3, 1, 2]⟩,
  ⟨.loc 40, .split (.loc 39), none, [8, 7, 6, 5, 4, 0, 3, 1, 2]⟩,
  Qav 41 5 40 [9,8,7,6,5,4,0,3,1,2],
  ⟨.loc 42, .load true 3 (.var 3), some ((.loc 40), false), [9, 8, 7, 6, 5, 4, 0, 3, 1, 2]⟩,
  Qav 43 4 40 [9,8,7,6,5,4,0,3,1,2],
  ⟨.loc 44, .bin .str .add (.loc 43) (.const (.d (.str [120]))), some ((.loc 40), false), [12, 9, 8, 7, 6, 5, 4, 0, 3, 1, 2]⟩,
  ⟨.loc 45, .call (.fn 8) [(.loc 42), (.loc 44)] [.borrow, .borrow], some ((.loc 40), false), [11, 13, 12, 9, 8, 7, 6, 5, 4, 0, 3, 1, 2]⟩,
  ⟨.loc 46, .bin .str .eql (.loc 41) (.loc 45), some ((.loc 40), false), [10, 14, 11, 13, 12, 9, 8, 7, 6, 5, 4, 0, 3, 1, 2]⟩,
  ⟨.loc 47, .split (.loc 46), some ((.loc 40), false), [15, 10, 14, 11, 13, 12, 9, 8, 7, 6, 5, 4, 0, 3, 1, 2]⟩,
  ⟨.loc 48, .load true 3 (.var 3), some ((.loc 47), true), [16, 15, 10, 14, 11, 13, 12, 9, 8, 7, 6, 5, 4, 0, 3, 1, 2]⟩,
  ⟨.loc 49, .mv (.var 4), some ((.loc 47), true), [16, 15, 10, 14, 11, 13, 12, 9, 8, 7, 6, 5, 4, 0, 3, 1, 2]⟩,
  ⟨.loc 50, .call (.fn 9) [(.loc 48), (.loc 49)] [.borrow, .borrow], some ((.loc 47), true), [17, 18, 16, 15, 10, 14, 11, 13, 12, 9, 8, 7, 6, 5, 4, 0, 3, 1, 2]⟩,
  ⟨.loc 51, .load true 3 (.var 3), some ((.loc 47), true), [16, 15, 10, 14, 11, 13, 12, 9, 8, 7, 6, 5, 4, 0, 3, 1, 2]⟩,
  ⟨.loc 52, .mv (.var 4), some ((.loc 47), true), [16, 15, 10, 14, 11, 13, 12, 9, 8, 7, 6, 5, 4, 0, 3, 1, 2]⟩,
  ⟨.loc 53, .bin .str .add (.loc 52) (.const (.d (.str [120]))), some ((.loc 47), true), [21, 16, 15, 10, 14, 11, 13, 12, 9, 8, 7, 6, 5, 4, 0, 3, 1, 2]⟩,
  ⟨.loc 54, .call (.fn 9) [(.loc 51), (.loc 53)] [.borrow, .borrow], some ((.loc 47), true), [20, 22, 21, 19, 17, 18, 16, 15, 10, 14, 11, 13, 12, 9, 8, 7, 6, 5, 4, 0, 3, 1, 2]⟩,
  ⟨.loc 55, .bin .str .neq (.loc 50) (.loc 54), some ((.loc 47), true), [23, 20, 22, 21, 19, 17, 18, 16, 15, 10, 14, 11, 13, 12, 9, 8, 7, 6, 5, 4, 0, 3, 1, 2]⟩,
  ⟨.loc 56, .pick (.loc 47) (.loc 55) (.const (.d (.bool false))), some ((.loc 40), false), [24, 23, 20, 22, 21, 19, 17, 18, 16, 15, 10, 14, 11, 13, 12, 9, 8, 7, 6, 5, 4, 0, 3, 1, 2]⟩,
  ⟨.var 57, .pick (.loc 40) (.const (.d (.bool true))) (.loc 56), none, [25, 24, 23, 20, 22, 21, 19, 17, 18, 16, 15, 10, 14, 11, 13, 12, 9, 8, 7, 6, 5, 4, 0, 3, 1, 2]⟩] true
def c3_8:= rg [Qf 2]
def c3_9:= rg [Qe 6 0]
def c3_10:= rg [Qe 7 0]
def c3_11:= rg [Qa 58 7,
Qbg 59 58 9]
def c3_12:= rg [Qk 62 3 3,
Qa 63 7,
⟨.loc 64, .call (.fn 10) [(.loc 62), (.loc 63)] [.borrow, .borrow], none, []⟩,
Qb 8 64]
def c3_13:= rg [Qe 9 0]
def c3_14:= rg [Qa 65 9,
Qa 66 8,
Ql 67 66,
Qp 68 65 67]
def c3_15 : ACode := .reg [Qa 71 8,
  Qa 72 9,
  Qab 73 1 71 72 [0,1],
  Qh 74 1 73 [2,0,1],
  Qc 75 2 3,
  Qh 76 1 75 [4],
  ⟨.loc 77, .idxA 7 (.loc 76) (.const (.d (.int .i64 0))), none, [5, 4]⟩,
  Qq 78 0 77 [6,5,4],
  Qh 79 1 78 [7,6,5,4],
  ⟨.loc 80, .bin .int .sub (.loc 74) (.loc 79), none, [3, 2, 0, 1, 8, 7, 6, 5, 4]⟩,
  ⟨.var 10, .mv (.loc 80), none, [9, 3, 2, 0, 1, 8, 7, 6, 5, 4]⟩] true
def c3_16:= rg [Qa 81 10,
⟨.loc 82, .bin .int .lss (.loc 81) (.const (.d (.int .i64 0))), none, []⟩,
Qg 83 82,
Qs 84 10 83,
Qah 85 2 3 83,
Qac 86 1 85 83,
⟨.loc 87, .len false (.loc 86), some ((.loc 83), false), []⟩,
⟨.loc 88, .bin .int .geq (.loc 84) (.loc 87), some ((.loc 83), false), []⟩,
Qaw 89 83 88,
Qg 90 89,
Qah 91 2 3 90,
Qac 92 1 91 90,
Qs 93 10 90,
⟨.loc 94, .idxA 7 (.loc 92) (.loc 93), some ((.loc 90), false), []⟩,
⟨.loc 95, .fld 2 (.loc 94), some ((.loc 90), false), []⟩,
Qac 96 1 95 90,
Qs 97 7 90,
⟨.loc 98, .bin .int .neq (.loc 96) (.loc 97), some ((.loc 90), false), []⟩,
Qaa 99 90 98]
def c3_17:= rg [Qf 2]
def c3_18:= rg [Qa 69 9,
Qi 70 69 1,
Qb 9 70]
def c3_19 : ACode := (.seq (.seq c3_14 (.cond (.var 68) .skip (.exit 2))) (.seq (.block 3 (.seq c3_15 (.seq c3_16 (.cond (.var 99) (.seq c3_17 .ret) .skip)))) c3_18))
def c3_20:= rg [Qa 100 6,
Qa 101 8,
Ql 102 101,
Qv 103 100 102,
Qb 6 103]
def c3_21:= rg [Qa 60 7,
Qi 61 60 1,
Qb 7 61]
def c3_22 : ACode := (.seq (.seq c3_11 (.cond (.var 59) .skip (.exit 0))) (.seq (.block 1 (.seq c3_12 (.seq (.seq c3_13 (.block 2 (.loop [3, 6, 7, 8, 9] c3_19))) c3_20))) c3_21))
def c3_23:= rg [Qe 11 0]
def c3_24:= rg [Qe 12 0]
def c3_25:= rg [Qa 104 12,
Qc 105 2 3,
Qd 106 1 105,
Ql 107 106,
Qp 108 104 107]
def c3_26:= rg [Qc 111 2 3,
Qd 112 1 111,
Qa 113 12,
Qr 114 7 112 113,
Qai 115 2 114,
Qd 116 1 115,
Qbg 117 116 9]
def c3_27:= rg [Qa 118 11,
Qi 119 118 1,
Qb 11 119]
def c3_28:= rg [Qa 109 12,
Qi 110 109 1,
Qb 12 110]
def c3_29 : ACode := (.seq (.seq c3_25 (.cond (.var 108) .skip (.exit 4))) (.seq (.block 5 (.seq c3_26 (.cond (.var 117) c3_27 .skip))) c3_28))
def c3_30:= rg [Qa 120 6,
Qa 121 11,
⟨.loc 122, .bin .int .eql (.loc 120) (.loc 121), none, []⟩,
Qb 2 122]
def c3 : ACode := (.seq c3_0 (.seq (.seq c3_1 (.cond (.var 14) (.seq c3_2 .ret) .skip)) (.seq c3_3 (.seq (.seq c3_4 (.cond (.var 27) (.seq c3_5 .ret) .skip)) (.seq c3_6 (.seq (.seq c3_7 (.cond (.var 57) (.seq c3_8 .ret) .skip)) (.seq c3_9 (.seq (.seq c3_10 (.block 0 (.loop [3, 6, 7] c3_22))) (.seq c3_23 (.seq (.seq c3_24 (.block 4 (.loop [3, 6, 11, 12] c3_29))) (.seq c3_30 .ret)))))))))))
abbrev F_L_FnSalted : FuncId := 3
theorem v_L_FnSalted : VT 1 1 Tryd.f3 3 [0,2,3,4,5,6,7,8,9,10,11,12,14,27,57,59,68,99,108,117] [none] [(.give, 2, none)] c3 := mkV Tryd.func3 rfl rfl (by kernel_rfl) (by kernel_rfl) rfl rfl
def c5_0:= rg [Qf 2]
def c5_1:= rg [Qa 3 0,
Ql 4 3,
⟨.loc 5, .bin .int .gtr (.loc 4) (.const (.d (.int .i64 1048576))), none, []⟩,
Qb 2 5]
def c5 : ACode := (.seq c5_0 (.seq c5_1 .ret))
abbrev F_L_big : FuncId := 5
theorem v_L_big : VT 1 1 Tryd.f5 5 [0,2] [none] [(.give, 2, none)] c5 := mkV Tryd.func5 rfl rfl (by kernel_rfl) (by kernel_rfl) rfl rfl
def c6_0:= rg [Qw 2 0 0 0 7,
Qad 3]
def c6_1:= rg [Qa 8 0,
Qj 9 21 8,
⟨.loc 7, .mv (.loc 9), none, []⟩,
⟨.loc 10, .ext (.loc 7) 0, none, []⟩,
⟨.loc 11, .ext (.loc 7) 1, none, []⟩,
Qw 5 0 0 0 7,
Qb 4 10,
Qn 3 5 11]
def c6_2:= rg [Qa 12 4,
Qa 13 4,
Qa 14 0,
⟨.loc 15, .call (.fn 24) [(.loc 14), (.const (.d (.int .i64 30)))] [.borrow, .borrow], none, []⟩,
Qaj 16 23 13 15 3,
Qaj 17 22 12 16 3,
⟨.loc 18, .b2s (.loc 17), none, []⟩,
Qb 6 18]
def c6_3:= rg [Qa 19 4,
Qal 20 25 19 30 3]
def c6_4:= rg [Qa 21 4,
Qa 22 4,
Qt 23 23 22 2 3,
Qax 24 2000 23,
Qaj 25 22 21 24 3,
⟨.loc 26, .b2s (.loc 25), none, []⟩,
Qb 6 26]
def c6_5:= rg [Qk 27 3 5,
Qa 28 6,
Qn 3 2 27,
Qb 3 28]
def c6 : ACode := (.seq c6_0 (.seq c6_1 (.seq c6_2 (.seq (.seq c6_3 (.cond (.var 20) c6_4 .skip)) (.seq c6_5 .ret)))))
abbrev F_S_DrawSalted : FuncId := 6
theorem v_S_DrawSalted : VT 1 2 Tryd.f6 6 [0,2,3,4,5,6,20] [none] [(.give, 2, some (true, 3)), (.give, 3, none)] c6 := mkV Tryd.func6 rfl rfl (by kernel_rfl) (by kernel_rfl) rfl rfl
def c7_0:= rg [Qx 1 0,
Qf 2]
def c7_1:= rg [Qc 5 0 1,
Qd 6 1 5,
⟨.loc 7, .bin .int .lss (.loc 6) (.const (.d (.int .i64 0))), none, []⟩,
Qg 8 7,
Qah 9 1 1 8,
Qac 10 1 9 8,
⟨.loc 11, .call (.fn 26) [(.loc 10)] [.borrow], some ((.loc 8), false), []⟩,
Qar 12 11 8,
Qaw 13 8 12,
Qg 14 13,
Qah 15 2 1 14,
Qac 16 1 15 14,
⟨.loc 17, .len false (.loc 16), some ((.loc 14), false), []⟩,
⟨.loc 18, .bin .int .gtr (.loc 17) (.const (.d (.int .i64 120))), some ((.loc 14), false), []⟩,
Qaa 19 14 18]
def c7_2:= rg [Qf 2]
def c7_3:= rg [Qe 3 0]
def c7_4:= rg [Qa 20 3,
Qc 21 2 1,
Qd 22 1 21,
Ql 23 22,
Qp 24 20 23]
def c7_5:= rg [Qc 27 2 1,
Qd 28 1 27,
Qa 29 3,
Qr 30 7 28 29,
⟨.loc 31, .load true 7 (.loc 30), none, []⟩,
Qbh 4 0 0 0 0 0,
Qn 7 4 31]
def c7_6:= rg [Qc 32 0 4,
Qd 33 1 32,
Qam 34 27 33 1 1000000000,
Qak 35 34,
Qg 36 35,
Qah 37 1 4 36,
Qac 38 1 37 36,
⟨.loc 39, .call (.fn 27) [(.loc 38), (.const (.d (.int .i64 0))), (.const (.d (.int .i64 1000000000)))] [.borrow, .borrow, .borrow], some ((.loc 36), false), []⟩,
Qar 40 39 36,
Qaw 41 36 40,
Qg 42 41,
Qah 43 2 4 42,
Qac 44 1 43 42,
⟨.loc 45, .call (.fn 27) [(.loc 44), (.const (.d (.int .i64 0))), (.const (.d (.int .i64 1000000000)))] [.borrow, .borrow, .borrow], some ((.loc 42), false), []⟩,
Qar 46 45 42,
Qaw 47 42 46,
Qg 48 47,
Qah 49 3 4 48,
Qac 50 1 49 48,
⟨.loc 51, .call (.fn 28) [(.loc 50)] [.borrow], some ((.loc 48), false), []⟩,
Qar 52 51 48,
Qaw 53 48 52,
Qg 54 53,
Qah 55 4 4 54,
Qac 56 1 55 54,
⟨.loc 57, .call (.fn 29) [(.loc 56)] [.borrow], some ((.loc 54), false), []⟩,
Qar 58 57 54,
Qaw 59 54 58,
Qg 60 59,
Qah 61 5 4 60,
Qac 62 1 61 60,
⟨.loc 63, .call (.fn 27) [(.loc 62), (.const (.d (.int .i64 0))), (.const (.d (.int .i64 99)))] [.borrow, .borrow, .borrow], some ((.loc 60), false), []⟩,
Qar 64 63 60,
Qaa 65 60 64]
def c7_7:= rg [Qf 2]
def c7_8 : ACode := .reg [Qa 66 3,
  ⟨.loc 67, .bin .int .gtr (.loc 66) (.const (.d (.int .i64 0))), none, [0]⟩,
  ⟨.loc 68, .split (.loc 67), none, [1, 0]⟩,
  ⟨.loc 69, .fld 0 (.var 4), some ((.loc 68), true), [2, 1, 0]⟩,
  Qay 70 1 69 68 [3,2,1,0],
  ⟨.loc 71, .fld 2 (.var 1), some ((.loc 68), true), [2, 1, 0]⟩,
  Qay 72 1 71 68 [5,2,1,0],
  ⟨.loc 73, .mv (.var 3), some ((.loc 68), true), [2, 1, 0]⟩,
  ⟨.loc 74, .bin .int .sub (.loc 73) (.const (.d (.int .i64 1))), some ((.loc 68), true), [7, 2, 1, 0]⟩,
  ⟨.loc 75, .idxA 7 (.loc 72) (.loc 74), some ((.loc 68), true), [6, 5, 8, 7, 2, 1, 0]⟩,
  ⟨.loc 76, .fld 0 (.loc 75), some ((.loc 68), true), [9, 6, 5, 8, 7, 2, 1, 0]⟩,
  Qay 77 1 76 68 [10,9,6,5,8,7,2,1,0],
  ⟨.loc 78, .bin .int .add (.loc 77) (.const (.d (.int .i64 1))), some ((.loc 68), true), [11, 10, 9, 6, 5, 8, 7, 2, 1, 0]⟩,
  ⟨.loc 79, .bin .int .neq (.loc 70) (.loc 78), some ((.loc 68), true), [4, 3, 12, 11, 10, 9, 6, 5, 8, 7, 2, 1, 0]⟩,
  ⟨.loc 80, .split (.loc 79), some ((.loc 68), true), [13, 4, 3, 12, 11, 10, 9, 6, 5, 8, 7, 2, 1, 0]⟩,
  ⟨.loc 81, .fld 1 (.var 4), some ((.loc 80), false), [14, 13, 4, 3, 12, 11, 10, 9, 6, 5, 8, 7, 2, 1, 0]⟩,
  Qaz 82 1 81 80 [15,14,13,4,3,12,11,10,9,6,5,8,7,2,1,0],
  ⟨.loc 83, .fld 2 (.var 1), some ((.loc 80), false), [14, 13, 4, 3, 12, 11, 10, 9, 6, 5, 8, 7, 2, 1, 0]⟩,
  Qaz 84 1 83 80 [17,14,13,4,3,12,11,10,9,6,5,8,7,2,1,0],
  Qav 85 3 80 [14,13,4,3,12,11,10,9,6,5,8,7,2,1,0],
  ⟨.loc 86, .bin .int .sub (.loc 85) (.const (.d (.int .i64 1))), some ((.loc 80), false), [19, 14, 13, 4, 3, 12, 11, 10, 9, 6, 5, 8, 7, 2, 1, 0]⟩,
  ⟨.loc 87, .idxA 7 (.loc 84) (.loc 86), some ((.loc 80), false), [18, 17, 20, 19, 14, 13, 4, 3, 12, 11, 10, 9, 6, 5, 8, 7, 2, 1, 0]⟩,
  ⟨.loc 88, .fld 1 (.loc 87), some ((.loc 80), false), [21, 18, 17, 20, 19, 14, 13, 4, 3, 12, 11, 10, 9, 6, 5, 8, 7, 2, 1, 0]⟩,
  Qaz 89 1 88 80 [22,21,18,17,20,19,14,13,4,3,12,11,10,9,6,5,8,7,2,1,0],
  ⟨.loc 90, .bin .int .lss (.loc 82) (.loc 89), some ((.loc 80), false), [16, 15, 23, 22, 21, 18, 17, 20, 19, 14, 13, 4, 3, 12, 11, 10, 9, 6, 5, 8, 7, 2, 1, 0]⟩,
  ⟨.loc 91, .pick (.loc 80) (.const (.d (.bool true))) (.loc 90), some ((.loc 68), true), [24, 16, 15, 23, 22, 21, 18, 17, 20, 19, 14, 13, 4, 3, 12, 11, 10, 9, 6, 5, 8, 7, 2, 1, 0]⟩,
  ⟨.var 92, .pick (.loc 68) (.loc 91) (.const (.d (.bool false))), none, [25, 24, 16, 15, 23, 22, 21, 18, 17, 20, 19, 14, 13, 4, 3, 12, 11, 10, 9, 6, 5, 8, 7, 2, 1, 0]⟩] true
def c7_9:= rg [Qf 2]
def c7_10:= rg [Qa 25 3,
Qi 26 25 1,
Qb 3 26]
def c7_11 : ACode := (.seq (.seq c7_4 (.cond (.var 24) .skip (.exit 0))) (.seq (.block 1 (.seq c7_5 (.seq (.seq c7_6 (.cond (.var 65) (.seq c7_7 .ret) .skip)) (.seq c7_8 (.cond (.var 92) (.seq c7_9 .ret) .skip))))) c7_10))
def c7_12:= rg [Qaq 2]
def c7 : ACode := (.seq c7_0 (.seq (.seq c7_1 (.cond (.var 19) (.seq c7_2 .ret) .skip)) (.seq (.seq c7_3 (.block 0 (.loop [1, 3] c7_11))) (.seq c7_12 .ret))))
abbrev F_S_ChainOk : FuncId := 7
theorem v_S_ChainOk : VT 1 1 Tryd.f7 7 [0,1,2,3,4,19,24,65,92] [none] [(.give, 2, none)] c7 := mkV Tryd.func7 rfl rfl (by kernel_rfl) (by kernel_rfl) rfl rfl
def c8_0:= rg [Qx 2 0,
Qad 4]
def c8_1:= rg [Qk 5 3 2,
Qj 6 30 5,
Qak 7 6,
Qg 8 7,
Qs 9 1 8,
⟨.loc 10, .len true (.loc 9), some ((.loc 8), false), []⟩,
⟨.loc 11, .bin .int .gtr (.loc 10) (.const (.d (.int .i64 2000))), some ((.loc 8), false), []⟩,
Qaa 12 8 11]
def c8_2:= rg [Qad 4]
def c8_3:= rg [Qc 13 1 2,
Qd 14 1 13,
Qj 15 33 14,
Qa 16 1,
⟨.loc 17, .appS (.loc 15) (.loc 16), none, []⟩,
Qj 18 32 17,
Qj 19 31 18,
⟨.loc 20, .bin .str .add (.const (.d (.str [104]))) (.loc 19), none, []⟩,
Qb 4 20]
def c8 : ACode := (.seq c8_0 (.seq (.seq c8_1 (.cond (.var 12) (.seq c8_2 .ret) .skip)) (.seq c8_3 .ret)))
abbrev F_I_Salted : FuncId := 8
theorem v_I_Salted : VT 2 1 Tryd.f8 8 [0,1,2,4,12] [none, none] [(.give, 4, none)] c8 := mkV Tryd.func8 rfl rfl (by kernel_rfl) (by kernel_rfl) rfl rfl
def c9_0:= rg [Qx 2 0,
Qad 4]
def c9_1:= rg [Qk 5 3 2,
Qj 6 7 5,
Qak 7 6,
Qg 8 7,
Qs 9 1 8,
⟨.loc 10, .len true (.loc 9), some ((.loc 8), false), []⟩,
⟨.loc 11, .bin .int .gtr (.loc 10) (.const (.d (.int .i64 2000))), some ((.loc 8), false), []⟩,
Qaa 12 8 11]
def c9_2:= rg [Qad 4]
def c9_3:= rg [Qc 13 1 2,
Qd 14 1 13,
Qj 15 37 14,
Qa 16 1,
⟨.loc 17, .s2b (.loc 16), none, []⟩,
⟨.loc 18, .call (.fn 36) [(.loc 15), (.loc 17)] [.borrow, .borrow], none, []⟩,
Qj 19 35 18,
Qj 20 34 19,
⟨.loc 21, .bin .str .add (.const (.d (.str [104]))) (.loc 20), none, []⟩,
Qb 4 21]
def c9 : ACode := (.seq c9_0 (.seq (.seq c9_1 (.cond (.var 12) (.seq c9_2 .ret) .skip)) (.seq c9_3 .ret)))
abbrev F_S_Salted : FuncId := 9
theorem v_S_Salted : VT 2 1 Tryd.f9 9 [0,1,2,4,12] [none, none] [(.give, 4, none)] c9 := mkV Tryd.func9 rfl rfl (by kernel_rfl) (by kernel_rfl) rfl rfl
def c10_0:= rg [Qx 2 0,
Qae 4 0 1]
def c10_1:= rg [Qk 8 3 2,
Qj 9 30 8,
Qas 10 9]
def c10_2:= rg [Qae 4 0 1]
def c10_3:= rg [Qae 5 0 1]
def c10_4:= rg [Qc 11 2 2,
⟨.var 12, .load false 1 (.loc 11), none, []⟩,
⟨.var 13, .len false (.var 12), none, []⟩,
Qe 14 0]
def c10_5:= rg [Qba 15 14 13]
def c10_6:= rg [⟨.loc 16, .idxA 7 (.var 12) (.var 14), none, []⟩,
⟨.loc 17, .load true 7 (.loc 16), none, []⟩,
Qbh 7 0 0 0 0 0,
Qn 7 7 17]
def c10_7:= rg [Qc 18 2 7,
Qd 19 1 18,
Qa 20 1,
⟨.var 21, .bin .int .eql (.loc 19) (.loc 20), none, []⟩]
def c10_8:= rg [Qa 22 5,
Qc 23 0 7,
Qd 24 1 23,
⟨.loc 25, .lit 0 1 1 [.int .i64 0] [(0, (.loc 24))], none, []⟩,
Qat 26 1 8 22 25,
Qb 5 26]
def c10_9:= rg [Qbb 27 14 1,
Qb 14 27]
def c10_10 : ACode := (.seq c10_5 (.seq (.cond (.var 15) .skip (.exit 0)) (.seq (.block 1 (.seq c10_6 (.seq c10_7 (.cond (.var 21) c10_8 .skip)))) c10_9)))
def c10_11:= rg [Qa 28 5,
Qb 4 28]
def c10 : ACode := (.seq c10_0 (.seq (.seq c10_1 (.cond (.var 10) (.seq c10_2 .ret) .skip)) (.seq c10_3 (.seq (.seq c10_4 (.block 0 (.loop [1, 5, 12, 13, 14] c10_10))) (.seq c10_11 .ret)))))
abbrev F_I_NotesOf : FuncId := 10
theorem v_I_NotesOf : VT 2 1 Tryd.f10 10 [0,1,2,4,5,7,10,12,13,14,15,21] [none, none] [(.give, 4, none)] c10 := mkV Tryd.func10 rfl rfl (by kernel_rfl) (by kernel_rfl) rfl rfl
def c14_0:= rg [Qx 2 0,
Qx 3 1,
Qw 4 0 0 0 7,
Qf 5]
def c14_1:= rg [Qk 8 3 2,
Qj 9 39 8,
Qw 6 0 0 0 7,
Qn 3 6 9]
def c14_2:= rg [Qk 10 3 2,
Qj 11 7 10,
Qas 12 11]
def c14_3:= rg [Qk 13 3 6,
Qn 3 4 13,
Qf 5]
def c14_4:= rg [Qc 14 0 3,
⟨.none, .store 1 (.loc 14) (.const (.d (.int .i64 1))), none, []⟩]
def c14_5:= rg [Qc 15 2 2,
Qd 16 1 15,
Ql 17 16,
Qb 7 17]
def c14_6:= rg [Qa 18 7,
⟨.var 19, .bin .int .gtr (.loc 18) (.const (.d (.int .i64 0))), none, []⟩]
def c14_7:= rg [Qc 20 2 2,
Qd 21 1 20,
Qa 22 7,
⟨.loc 23, .bin .int .sub (.loc 22) (.const (.d (.int .i64 1))), none, []⟩,
Qr 24 7 21 23,
Qai 25 0 24,
Qd 26 1 25,
Qi 27 26 1,
Qc 28 0 3,
Qu 1 28 27]
def c14_8 : ACode := .reg [Qk 29 3 2,
  Qau 30 40 29 [0],
  Qk 31 7 3,
  ⟨.loc 32, .call (.fn 19) [(.loc 30), (.loc 31)] [.borrow, .borrow], none, [2, 1, 0]⟩,
  ⟨.loc 33, .fld 6 (.var 3), none, [3, 2, 1, 0]⟩,
  Qbc 1 33 32 [4,3,2,1,0]] true
def c14_9:= rg [Qc 34 2 6,
Qd 35 1 34,
Qk 36 7 3,
⟨.loc 37, .lit 0 7 1 [.int .i64 0, .int .i64 0, .int .i64 0, .str [], .str [], .int .i64 0, .int .i64 0] [(0, (.loc 36))], none, []⟩,
Qat 38 7 72 35 37,
Qc 39 2 6,
Qu 1 39 38]
def c14_10:= rg [Qc 40 2 6,
Qd 41 1 40,
Ql 42 41,
⟨.var 43, .bin .int .gtr (.loc 42) (.const (.d (.int .i64 120))), none, []⟩]
def c14_11:= rg [Qc 44 2 6,
Qd 45 1 44,
⟨.loc 46, .idxA 7 (.loc 45) (.const (.d (.int .i64 0))), none, []⟩,
Qai 47 6 46,
Qd 48 1 47,
Qc 49 0 6,
Qu 1 49 48]
def c14_12:= rg [Qc 50 2 6,
Qd 51 1 50,
⟨.loc 52, .sliceA 7 (.loc 51) (some (.const (.d (.int .i64 1)))) none, none, []⟩,
Qc 53 2 6,
Qu 1 53 52]
def c14_13:= rg [Qk 54 3 6,
Qj 55 7 54,
Qas 56 55]
def c14_14:= rg [Qk 57 3 2,
Qj 58 39 57,
Qn 3 4 58,
Qf 5]
def c14_15:= rg [Qk 59 3 6,
Qn 3 4 59,
Qaq 5]
def c14 : ACode := (.seq c14_0 (.seq c14_1 (.seq (.seq c14_2 (.cond (.var 12) (.seq c14_3 .ret) .skip)) (.seq c14_4 (.seq (.seq c14_5 (.seq c14_6 (.cond (.var 19) c14_7 .skip))) (.seq c14_8 (.seq c14_9 (.seq (.seq c14_10 (.cond (.var 43) (.seq c14_11 c14_12) .skip)) (.seq (.seq c14_13 (.cond (.var 56) (.seq c14_14 .ret) .skip)) (.seq c14_15 .ret))))))))))
abbrev F_S_AddNote : FuncId := 14
theorem v_S_AddNote : VT 2 2 Tryd.f14 14 [0,1,2,3,4,5,6,7,12,19,43,56] [none, none] [(.give, 4, some (true, 3)), (.give, 5, none)] c14 := mkV Tryd.func14 rfl rfl (by kernel_rfl) (by kernel_rfl) rfl rfl
def c19_0:= rg [Qx 3 1,
Qe 4 0]
def c19_1 : ACode := .reg [Qa 6 0,
  Qau 7 34 6 [0],
  Qbd 8 7 [1,0],
  Qc 9 0 3,
  Qh 10 1 9 [3],
  Qau 11 34 10 [4,3,1,0],
  Qbe 12 8 11 [2,5,4,3,1,0],
  Qbd 13 12 [6,2,5,4,3,1,0],
  Qc 14 1 3,
  Qh 15 1 14 [8],
  Qau 16 34 15 [9,8,5,4,3,1,0],
  Qbe 17 13 16 [7,6,2,10,9,8,5,4,3,1,0],
  Qbd 18 17 [11,7,6,2,10,9,8,5,4,3,1,0],
  Qc 19 2 3,
  Qh 20 1 19 [13],
  Qau 21 34 20 [14,13,10,9,8,5,4,3,1,0],
  Qbe 22 18 21 [12,11,7,6,2,15,14,13,10,9,8,5,4,3,1,0],
  Qbd 23 22 [16,12,11,7,6,2,15,14,13,10,9,8,5,4,3,1,0],
  Qc 24 3 3,
  Qh 25 1 24 [18],
  Qbe 26 23 25 [17,16,12,11,7,6,2,15,14,13,10,9,8,5,4,3,1,0,19,18],
  Qbd 27 26 [20,17,16,12,11,7,6,2,15,14,13,10,9,8,5,4,3,1,0,19,18],
  Qc 28 4 3,
  Qh 29 1 28 [22],
  Qbe 30 27 29 [21,20,17,16,12,11,7,6,2,15,14,13,10,9,8,5,4,3,1,0,19,18,23,22],
  Qbd 31 30 [24,21,20,17,16,12,11,7,6,2,15,14,13,10,9,8,5,4,3,1,0,19,18,23,22],
  Qc 32 5 3,
  Qh 33 1 32 [26],
  Qau 34 34 33 [27,26,15,14,13,10,9,8,5,4,3,1,0],
  Qbe 35 31 34 [25,24,21,20,17,16,12,11,7,6,2,19,18,23,22,28,27,26,15,14,13,10,9,8,5,4,3,1,0],
  ⟨.var 5, .mv (.loc 35), none, [29, 25, 24, 21, 20, 17, 16, 12, 11, 7, 6, 2, 19, 18, 23, 22, 28, 27, 26, 15, 14, 13, 10, 9, 8, 5, 4, 3, 1, 0]⟩] true
def c19_2:= rg [Qa 36 5,
⟨.loc 37, .s2b (.loc 36), none, []⟩,
Qj 38 35 37,
Qb 4 38]
def c19 : ACode := (.seq c19_0 (.seq c19_1 (.seq c19_2 .ret)))
abbrev F_S_SumOf : FuncId := 19
theorem v_S_SumOf : VT 2 1 Tryd.f19 19 [0,1,3,4,5] [none, none] [(.give, 4, none)] c19 := mkV Tryd.func19 rfl rfl (by kernel_rfl) (by kernel_rfl) rfl rfl
def c21_0:= rg [⟨.var 2, .mv (.const (.undef)), none, []⟩,
Qw 3 0 0 0 7]
def c21_1:= rg [Qa 6 0,
Qj 7 45 6,
Qb 4 7]
def c21_2:= rg [Qa 8 4,
Qa 9 0,
⟨.loc 10, .call (.fn 24) [(.loc 9), (.const (.d (.int .i64 20)))] [.borrow, .borrow], none, []⟩,
Qaj 11 23 8 10 3,
Qb 5 11]
def c21_3:= rg [Qa 12 4,
Qal 13 25 12 30 3]
def c21_4:= rg [Qa 14 4,
Qt 15 23 14 4 3,
Qax 16 119 15,
Qb 5 16]
def c21_5:= rg [Qa 17 4,
Qa 18 4,
Qa 19 5,
Qaj 20 46 18 19 3,
Qb 2 17,
Qn 3 3 20]
def c21 : ACode := (.seq c21_0 (.seq c21_1 (.seq c21_2 (.seq (.seq c21_3 (.cond (.var 13) c21_4 .skip)) (.seq c21_5 .ret)))))
abbrev F_S_l15DrawOne : FuncId := 21
theorem v_S_l15DrawOne : VT 1 2 Tryd.f21 21 [0,2,3,4,5,13] [none] [(.box 3, 2, none), (.give, 3, some (true, 3))] c21 := mkV Tryd.func21 rfl rfl (by kernel_rfl) (by kernel_rfl) rfl rfl
def c22_0:= rg [Qae 4 0 1]
def c22_1:= rg [⟨.loc 7, .lit 0 1 0 [.int .u8 0] [], none, []⟩,
Qb 5 7]
def c22_2:= rg [Qe 6 0]
def c22_3:= rg [Qa 8 6,
Qa 9 1,
Qp 10 8 9]
def c22_4:= rg [Qa 13 5,
Qa 14 0,
Qa 15 0,
Qt 16 23 15 256 3,
Qa 17 0,
Qt 18 23 17 256 3,
⟨.loc 19, .lit 0 1 6 [.int .i64 0] [(0, (.const (.d (.int .i64 0)))), (1, (.const (.d (.int .i64 1)))), (2, (.const (.d (.int .i64 255)))), (3, (.const (.d (.int .i64 128)))), (4, (.loc 16)), (5, (.loc 18))], none, []⟩,
Qaf 20 47 14 19 3,
⟨.loc 21, .conv .u8 (.loc 20), none, []⟩,
Qbi 22 0 1 1 0 0 21,
Qat 23 1 1 13 22,
Qb 5 23]
def c22_5:= rg [Qa 11 6,
Qi 12 11 1,
Qb 6 12]
def c22_6 : ACode := (.seq (.seq c22_3 (.cond (.var 10) .skip (.exit 0))) (.seq (.block 1 c22_4) c22_5))
def c22_7:= rg [Qa 24 5,
Qb 4 24]
def c22 : ACode := (.seq c22_0 (.seq c22_1 (.seq (.seq c22_2 (.block 0 (.loop [0, 1, 5, 6] c22_6))) (.seq c22_7 .ret))))
abbrev F_S_l01DrawBytes : FuncId := 22
theorem v_S_l01DrawBytes : VT 2 1 Tryd.f22 22 [0,1,4,5,6,10] [some (.box 3), none] [(.give, 4, none)] c22 := mkV Tryd.func22 rfl rfl (by kernel_rfl) (by kernel_rfl) rfl rfl
def c23_0:= rg [Qe 4 0]
def c23_1:= rg [Qa 8 1,
⟨.var 9, .bin .int .leq (.loc 8) (.const (.d (.int .i64 0))), none, []⟩]
def c23_2:= rg [Qe 4 0]
def c23_3:= rg [Qa 10 1,
⟨.var 11, .bin .int .leq (.loc 10) (.const (.d (.int .i64 256))), none, []⟩]
def c23_4:= rg [Qa 12 0,
Qan 13 48 12 3,
Qa 14 1,
⟨.loc 15, .bin .int .rem (.loc 13) (.loc 14), none, []⟩,
Qb 4 15]
def c23_5:= rg [Qa 16 0,
Qan 17 48 16 3,
Qb 5 17]
def c23_6:= rg [Qa 18 0,
Qan 19 48 18 3,
Qb 6 19]
def c23_7:= rg [Qa 20 0,
Qan 21 48 20 3,
Qb 7 21]
def c23_8:= rg [Qa 22 5,
Qbj 23 22 65536,
Qa 24 6,
Qbj 25 24 256,
Qv 26 23 25,
Qa 27 7,
Qv 28 26 27,
Qa 29 1,
⟨.loc 30, .bin .int .rem (.loc 28) (.loc 29), none, []⟩,
Qb 4 30]
def c23 : ACode := (.seq c23_0 (.seq (.seq c23_1 (.cond (.var 9) (.seq c23_2 .ret) .skip)) (.seq (.seq c23_3 (.cond (.var 11) (.seq c23_4 .ret) .skip)) (.seq c23_5 (.seq c23_6 (.seq c23_7 (.seq c23_8 .ret)))))))
abbrev F_S_l01Below : FuncId := 23
theorem v_S_l01Below : VT 2 1 Tryd.f23 23 [0,1,4,5,6,7,9,11] [some (.box 3), none] [(.give, 4, none)] c23 := mkV Tryd.func23 rfl rfl (by kernel_rfl) (by kernel_rfl) rfl rfl
def c24_0:= rg [Qe 4 0]
def c24_1:= rg [Qa 6 0,
Ql 7 6,
⟨.loc 8, .bin .int .quo (.loc 7) (.const (.d (.int .i64 16))), none, []⟩,
Qax 9 2 8,
Qb 5 9]
def c24_2:= rg [Qa 10 5,
Qa 11 1,
⟨.var 12, .bin .int .gtr (.loc 10) (.loc 11), none, []⟩]
def c24_3:= rg [Qa 13 1,
Qb 4 13]
def c24_4:= rg [Qa 14 5,
Qb 4 14]
def c24 : ACode := (.seq c24_0 (.seq c24_1 (.seq (.seq c24_2 (.cond (.var 12) (.seq c24_3 .ret) .skip)) (.seq c24_4 .ret))))
abbrev F_S_l01Size : FuncId := 24
theorem v_S_l01Size : VT 2 1 Tryd.f24 24 [0,1,4,5,12] [none, none] [(.give, 4, none)] c24 := mkV Tryd.func24 rfl rfl (by kernel_rfl) (by kernel_rfl) rfl rfl
def c25_0:= rg [Qf 4]
def c25_1:= rg [Qa 5 0,
Qa 6 1,
Qaj 7 23 5 6 3,
⟨.loc 8, .bin .int .eql (.loc 7) (.const (.d (.int .i64 0))), none, []⟩,
Qb 4 8]
def c25 : ACode := (.seq c25_0 (.seq c25_1 .ret))
abbrev F_S_l01Once : FuncId := 25
theorem v_S_l01Once : VT 2 1 Tryd.f25 25 [0,1,4] [some (.box 3), none] [(.give, 4, none)] c25 := mkV Tryd.func25 rfl rfl (by kernel_rfl) (by kernel_rfl) rfl rfl
def c26_0:= rg [Qf 2]
def c26_1:= rg [Qa 3 0,
Qam 4 27 3 0 1099511627776,
Qb 2 4]
def c26 : ACode := (.seq c26_0 (.seq c26_1 .ret))
abbrev F_S_l04Key : FuncId := 26
theorem v_S_l04Key : VT 1 1 Tryd.f26 26 [0,2] [none] [(.give, 2, none)] c26 := mkV Tryd.func26 rfl rfl (by kernel_rfl) (by kernel_rfl) rfl rfl
def c27_0:= rg [Qf 6]
def c27_1:= rg [Qa 7 1,
Qa 8 0,
⟨.loc 9, .bin .int .leq (.loc 7) (.loc 8), none, []⟩,
Qg 10 9,
Qm 11 0 10,
Qm 12 2 10,
⟨.loc 13, .bin .int .leq (.loc 11) (.loc 12), some ((.loc 10), true), []⟩,
Qo 14 10 13,
Qb 6 14]
def c27 : ACode := (.seq c27_0 (.seq c27_1 .ret))
abbrev F_S_l01In : FuncId := 27
theorem v_S_l01In : VT 3 1 Tryd.f27 27 [0,1,2,6] [none, none, none] [(.give, 6, none)] c27 := mkV Tryd.func27 rfl rfl (by kernel_rfl) (by kernel_rfl) rfl rfl
def c28_0:= rg [Qf 2]
def c28_1:= rg [Qe 3 0]
def c28_2:= rg [Qa 5 3,
Qa 6 0,
Qy 7 6,
Qp 8 5 7]
def c28_3:= rg [Qa 11 0,
Qa 12 3,
⟨.loc 13, .idxS (.loc 11) (.loc 12), none, []⟩,
Qb 4 13]
def c28_4:= rg [Qa 14 4,
⟨.loc 15, .bin .int .geq (.loc 14) (.const (.d (.int .u8 97))), none, []⟩,
Qg 16 15,
Qm 17 4 16,
⟨.loc 18, .bin .int .leq (.loc 17) (.const (.d (.int .u8 122))), some ((.loc 16), true), []⟩,
Qo 19 16 18,
Qak 20 19,
Qg 21 20,
Qm 22 4 21,
⟨.loc 23, .bin .int .geq (.loc 22) (.const (.d (.int .u8 48))), some ((.loc 21), true), []⟩,
⟨.loc 24, .split (.loc 23), some ((.loc 21), true), []⟩,
Qm 25 4 24,
⟨.loc 26, .bin .int .leq (.loc 25) (.const (.d (.int .u8 57))), some ((.loc 24), true), []⟩,
⟨.loc 27, .pick (.loc 24) (.loc 26) (.const (.d (.bool false))), some ((.loc 21), true), []⟩,
⟨.loc 28, .un .not (.loc 27), some ((.loc 21), true), []⟩,
Qbk 29 21 28]
def c28_5:= rg [Qf 2]
def c28_6:= rg [Qa 9 3,
Qi 10 9 1,
Qb 3 10]
def c28_7 : ACode := (.seq (.seq c28_2 (.cond (.var 8) .skip (.exit 0))) (.seq (.block 1 (.seq c28_3 (.seq c28_4 (.cond (.var 29) (.seq c28_5 .ret) .skip)))) c28_6))
def c28_8:= rg [Qa 30 0,
Qy 31 30,
Qam 32 27 31 1 12,
Qb 2 32]
def c28 : ACode := (.seq c28_0 (.seq (.seq c28_1 (.block 0 (.loop [0, 3] c28_7))) (.seq c28_8 .ret)))
abbrev F_S_l01Name : FuncId := 28
theorem v_S_l01Name : VT 1 1 Tryd.f28 28 [0,2,3,4,8,29] [none] [(.give, 2, none)] c28 := mkV Tryd.func28 rfl rfl (by kernel_rfl) (by kernel_rfl) rfl rfl
def c29_0:= rg [Qf 2]
def c29_1:= rg [Qa 4 0,
Qj 5 49 4,
Qas 6 5]
def c29_2:= rg [Qf 2]
def c29_3:= rg [Qe 3 0]
def c29_4:= rg [Qa 7 3,
Qa 8 0,
Qy 9 8,
Qp 10 7 9]
def c29_5:= rg [Qa 13 0,
Qa 14 3,
⟨.loc 15, .idxS (.loc 13) (.loc 14), none, []⟩,
⟨.loc 16, .bin .int .eql (.loc 15) (.const (.d (.int .u8 43))), none, []⟩,
Qg 17 16,
Qs 18 0 17,
Qs 19 3 17,
⟨.loc 20, .idxS (.loc 18) (.loc 19), some ((.loc 17), false), []⟩,
⟨.loc 21, .bin .int .eql (.loc 20) (.const (.d (.int .u8 42))), some ((.loc 17), false), []⟩,
Qaa 22 17 21]
def c29_6:= rg [Qf 2]
def c29_7:= rg [Qa 11 3,
Qi 12 11 1,
Qb 3 12]
def c29_8 : ACode := (.seq (.seq c29_4 (.cond (.var 10) .skip (.exit 0))) (.seq (.block 1 (.seq c29_5 (.cond (.var 22) (.seq c29_6 .ret) .skip))) c29_7))
def c29_9:= rg [Qaq 2]
def c29 : ACode := (.seq c29_0 (.seq (.seq c29_1 (.cond (.var 6) (.seq c29_2 .ret) .skip)) (.seq (.seq c29_3 (.block 0 (.loop [0, 3] c29_8))) (.seq c29_9 .ret))))
abbrev F_S_PathOk : FuncId := 29
theorem v_S_PathOk : VT 1 1 Tryd.f29 29 [0,2,3,6,10,22] [none] [(.give, 2, none)] c29 := mkV Tryd.func29 rfl rfl (by kernel_rfl) (by kernel_rfl) rfl rfl
def c30_0:= rg [Qx 1 0,
Qf 2]
def c30_1:= rg [Qc 5 2 1,
⟨.var 6, .load false 1 (.loc 5), none, []⟩,
⟨.var 7, .len false (.var 6), none, []⟩,
Qe 8 0]
def c30_2:= rg [Qba 9 8 7]
def c30_3:= rg [Qa 10 8,
⟨.loc 11, .idxA 7 (.var 6) (.var 8), none, []⟩,
⟨.loc 12, .load true 7 (.loc 11), none, []⟩,
Qbh 4 0 0 0 0 0,
Qb 3 10,
Qn 7 4 12]
def c30_4 : ACode := .reg [Qk 13 7 4,
  Qau 14 50 13 [0],
  ⟨.loc 15, .un .not (.loc 14), none, [1, 0]⟩,
  ⟨.loc 16, .split (.loc 15), none, [2, 1, 0]⟩,
  Qav 17 3 16 [3,2,1,0],
  ⟨.loc 18, .bin .int .gtr (.loc 17) (.const (.d (.int .i64 0))), some ((.loc 16), false), [4, 3, 2, 1, 0]⟩,
  ⟨.loc 19, .split (.loc 18), some ((.loc 16), false), [5, 4, 3, 2, 1, 0]⟩,
  ⟨.loc 20, .fld 2 (.var 1), some ((.loc 19), true), [6, 5, 4, 3, 2, 1, 0]⟩,
  Qay 21 1 20 19 [7,6,5,4,3,2,1,0],
  ⟨.loc 22, .mv (.var 3), some ((.loc 19), true), [6, 5, 4, 3, 2, 1, 0]⟩,
  ⟨.loc 23, .bin .int .sub (.loc 22) (.const (.d (.int .i64 1))), some ((.loc 19), true), [9, 6, 5, 4, 3, 2, 1, 0]⟩,
  ⟨.loc 24, .idxA 7 (.loc 21) (.loc 23), some ((.loc 19), true), [8, 7, 10, 9, 6, 5, 4, 3, 2, 1, 0]⟩,
  ⟨.loc 25, .fld 0 (.loc 24), some ((.loc 19), true), [11, 8, 7, 10, 9, 6, 5, 4, 3, 2, 1, 0]⟩,
  Qay 26 1 25 19 [12,11,8,7,10,9,6,5,4,3,2,1,0],
  ⟨.loc 27, .bin .int .add (.loc 26) (.const (.d (.int .i64 1))), some ((.loc 19), true), [13, 12, 11, 8, 7, 10, 9, 6, 5, 4, 3, 2, 1, 0]⟩,
  ⟨.loc 28, .fld 0 (.var 4), some ((.loc 19), true), [6, 5, 4, 3, 2, 1, 0]⟩,
  Qay 29 1 28 19 [15,6,5,4,3,2,1,0],
  ⟨.loc 30, .bin .int .neq (.loc 27) (.loc 29), some ((.loc 19), true), [14, 13, 12, 11, 8, 7, 10, 9, 16, 15, 6, 5, 4, 3, 2, 1, 0]⟩,
  ⟨.loc 31, .split (.loc 30), some ((.loc 19), true), [17, 14, 13, 12, 11, 8, 7, 10, 9, 16, 15, 6, 5, 4, 3, 2, 1, 0]⟩,
  ⟨.loc 32, .fld 2 (.var 1), some ((.loc 31), false), [18, 17, 14, 13, 12, 11, 8, 7, 10, 9, 16, 15, 6, 5, 4, 3, 2, 1, 0]⟩,
  Qaz 33 1 32 31 [19,18,17,14,13,12,11,8,7,10,9,16,15,6,5,4,3,2,1,0],
  Qav 34 3 31 [18,17,14,13,12,11,8,7,10,9,16,15,6,5,4,3,2,1,0],
  ⟨.loc 35, .bin .int .sub (.loc 34) (.const (.d (.int .i64 1))), some ((.loc 31), false), [21, 18, 17, 14, 13, 12, 11, 8, 7, 10, 9, 16, 15, 6, 5, 4, 3, 2, 1, 0]⟩,
  ⟨.loc 36, .idxA 7 (.loc 33) (.loc 35), some ((.loc 31), false), [20, 19, 22, 21, 18, 17, 14, 13, 12, 11, 8, 7, 10, 9, 16, 15, 6, 5, 4, 3, 2, 1, 0]⟩,
  ⟨.loc 37, .fld 1 (.loc 36), some ((.loc 31), false), [23, 20, 19, 22, 21, 18, 17, 14, 13, 12, 11, 8, 7, 10, 9, 16, 15, 6, 5, 4, 3, 2, 1, 0]⟩,
  Qaz 38 1 37 31 [24,23,20,19,22,21,18,17,14,13,12,11,8,7,10,9,16,15,6,5,4,3,2,1,0],
  ⟨.loc 39, .fld 1 (.var 4), some ((.loc 31), false), [18, 17, 14, 13, 12, 11, 8, 7, 10, 9, 16, 15, 6, 5, 4, 3, 2, 1, 0]⟩,
  Qaz 40 1 39 31 [26,18,17,14,13,12,11,8,7,10,9,16,15,6,5,4,3,2,1,0],
  ⟨.loc 41, .bin .int .gtr (.loc 38) (.loc 40), some ((.loc 31), false), [25, 24, 23, 20, 19, 22, 21, 27, 26, 18, 17, 14, 13, 12, 11, 8, 7, 10, 9, 16, 15, 6, 5, 4, 3, 2, 1, 0]⟩,
  ⟨.loc 42, .pick (.loc 31) (.const (.d (.bool true))) (.loc 41), some ((.loc 19), true), [28, 25, 24, 23, 20, 19, 22, 21, 27, 26, 18, 17, 14, 13, 12, 11, 8, 7, 10, 9, 16, 15, 6, 5, 4, 3, 2, 1, 0]⟩,
  ⟨.loc 43, .pick (.loc 19) (.loc 42) (.const (.d (.bool false))), some ((.loc 16), false), [29, 28, 25, 24, 23, 20, 19, 22, 21, 27, 26, 18, 17, 14, 13, 12, 11, 8, 7, 10, 9, 16, 15, 6, 5, 4, 3, 2, 1, 0]⟩,
  ⟨.var 44, .pick (.loc 16) (.const (.d (.bool true))) (.loc 43), none, [30, 29, 28, 25, 24, 23, 20, 19, 22, 21, 27, 26, 18, 17, 14, 13, 12, 11, 8, 7, 10, 9, 16, 15, 6, 5, 4, 3, 2, 1, 0]⟩] true
def c30_5:= rg [Qf 2]
def c30_6:= rg [Qbb 45 8 1,
Qb 8 45]
def c30_7 : ACode := (.seq c30_2 (.seq (.cond (.var 9) .skip (.exit 0)) (.seq (.block 1 (.seq c30_3 (.seq c30_4 (.cond (.var 44) (.seq c30_5 .ret) .skip)))) c30_6)))
def c30_8:= rg [Qc 46 0 1,
Qd 47 1 46,
⟨.loc 48, .bin .int .geq (.loc 47) (.const (.d (.int .i64 0))), none, []⟩,
Qg 49 48,
Qao 50 1 1 49,
Qag 51 1 50 49,
⟨.loc 52, .call (.fn 51) [(.loc 51)] [.borrow], some ((.loc 49), true), []⟩,
Qo 53 49 52,
Qg 54 53,
Qao 55 2 1 54,
Qag 56 1 55 54,
⟨.loc 57, .len false (.loc 56), some ((.loc 54), true), []⟩,
⟨.loc 58, .bin .int .leq (.loc 57) (.const (.d (.int .i64 120))), some ((.loc 54), true), []⟩,
Qo 59 54 58,
Qb 2 59]
def c30 : ACode := (.seq c30_0 (.seq (.seq c30_1 (.block 0 (.loop [1, 6, 7, 8] c30_7))) (.seq c30_8 .ret)))
abbrev F_I_isChain : FuncId := 30
theorem v_I_isChain : VT 1 1 Tryd.f30 30 [0,1,2,3,4,6,7,8,9,44] [none] [(.give, 2, none)] c30 := mkV Tryd.func30 rfl rfl (by kernel_rfl) (by kernel_rfl) rfl rfl
def c32_0:= rg [Qe 2 0]
def c32_1:= rg [Qe 3 7,
Qe 4 11]
def c32_2:= rg [⟨.var 7, .mv (.var 0), none, []⟩,
⟨.var 8, .len false (.var 7), none, []⟩,
Qe 9 0]
def c32_3:= rg [Qba 10 9 8]
def c32_4:= rg [⟨.loc 11, .idxA 1 (.var 7) (.var 9), none, []⟩,
Qd 12 1 11,
Qb 6 12]
def c32_5:= rg [Qa 13 3,
Qap 14 131 13,
Qa 15 6,
Qbl 16 15,
Qv 17 14 16,
Qi 18 17 1,
Qbm 19 18 2147483647,
Qb 3 19]
def c32_6:= rg [Qa 20 4,
Qap 21 137 20,
Qa 22 6,
Qbl 23 22,
Qv 24 21 23,
Qi 25 24 3,
Qbm 26 25 2147483629,
Qb 4 26]
def c32_7:= rg [Qbb 27 9 1,
Qb 9 27]
def c32_8 : ACode := (.seq c32_3 (.seq (.cond (.var 10) .skip (.exit 0)) (.seq (.block 1 (.seq c32_4 (.seq c32_5 c32_6))) c32_7)))
def c32_9:= rg [Qa 28 3,
Qap 29 2147483648 28,
Qa 30 4,
Qv 31 29 30,
Qb 2 31]
def c32 : ACode := (.seq c32_0 (.seq c32_1 (.seq (.seq c32_2 (.block 0 (.loop [3, 4, 7, 8, 9] c32_8))) (.seq c32_9 .ret))))
abbrev F_I_digest : FuncId := 32
theorem v_I_digest : VT 1 1 Tryd.f32 32 [0,2,3,4,6,7,8,9,10] [none] [(.give, 2, none)] c32 := mkV Tryd.func32 rfl rfl (by kernel_rfl) (by kernel_rfl) rfl rfl
def c33_0:= rg [Qae 2 0 1]
def c33_1:= rg [⟨.loc 5, .mkslice 0 1 1 [.int .u8 0] (.const (.d (.int .i64 8))) (.const (.d (.int .i64 8))), none, []⟩,
Qb 3 5]
def c33_2:= rg [Qa 6 3,
⟨.var 7, .len false (.loc 6), none, []⟩,
Qe 8 0]
def c33_3:= rg [Qba 9 8 7]
def c33_4:= rg [Qa 10 8,
Qb 4 10]
def c33_5:= rg [Qa 11 3,
Qa 12 4,
Qa 13 0,
Qa 14 4,
Qap 15 8 14,
⟨.loc 16, .bin .int .shr (.loc 13) (.loc 15), none, []⟩,
⟨.loc 17, .conv .u8 (.loc 16), none, []⟩,
Qr 18 1 11 12,
Qu 1 18 17]
def c33_6:= rg [Qbb 19 8 1,
Qb 8 19]
def c33_7 : ACode := (.seq c33_3 (.seq (.cond (.var 9) .skip (.exit 0)) (.seq (.block 1 (.seq c33_4 c33_5)) c33_6)))
def c33_8:= rg [Qa 20 3,
Qb 2 20]
def c33 : ACode := (.seq c33_0 (.seq c33_1 (.seq (.seq c33_2 (.block 0 (.loop [0, 3, 7, 8] c33_7))) (.seq c33_8 .ret))))
abbrev F_I_putWide : FuncId := 33
theorem v_I_putWide : VT 1 1 Tryd.f33 33 [0,2,3,4,7,8,9] [none] [(.give, 2, none)] c33 := mkV Tryd.func33 rfl rfl (by kernel_rfl) (by kernel_rfl) rfl rfl
def c34_0:= rg [Qad 2]
def c34_1:= rg [Qa 6 0,
⟨.var 7, .bin .int .eql (.loc 6) (.const (.d (.int .i64 0))), none, []⟩]
def c34_2:= rg [⟨.var 2, .mv (.const (.d (.str [48]))), none, []⟩]
def c34_3:= rg [Qad 3]
def c34_4:= rg [Qa 8 0,
⟨.loc 9, .bin .int .lss (.loc 8) (.const (.d (.int .i64 0))), none, []⟩,
Qb 4 9]
def c34_5:= rg [Qa 10 0,
⟨.var 11, .bin .int .neq (.loc 10) (.const (.d (.int .i64 0))), none, []⟩]
def c34_6:= rg [Qa 12 0,
Qbm 13 12 10,
Qb 5 13]
def c34_7:= rg [Qa 14 5,
Qbg 15 14 0]
def c34_8:= rg [Qa 16 5,
⟨.loc 17, .un .neg (.loc 16), none, []⟩,
Qb 5 17]
def c34_9:= rg [Qa 18 5,
Qax 19 48 18,
⟨.loc 20, .conv .u8 (.loc 19), none, []⟩,
Qbi 21 0 1 1 0 0 20,
⟨.loc 22, .b2s (.loc 21), none, []⟩,
Qa 23 3,
⟨.loc 24, .bin .str .add (.loc 22) (.loc 23), none, []⟩,
Qb 3 24]
def c34_10:= rg [Qa 25 0,
⟨.loc 26, .bin .int .quo (.loc 25) (.const (.d (.int .i64 10))), none, []⟩,
Qb 0 26]
def c34_11 : ACode := (.seq (.seq c34_5 (.cond (.var 11) .skip (.exit 0))) (.block 1 (.seq c34_6 (.seq (.seq c34_7 (.cond (.var 15) c34_8 .skip)) (.seq c34_9 c34_10)))))
def c34_12:= rg [⟨.var 27, .mv (.var 4), none, []⟩]
def c34_13:= rg [Qa 28 3,
⟨.loc 29, .bin .str .add (.const (.d (.str [45]))) (.loc 28), none, []⟩,
Qb 2 29]
def c34_14:= rg [Qa 30 3,
Qb 2 30]
def c34 : ACode := (.seq c34_0 (.seq (.seq c34_1 (.cond (.var 7) (.seq c34_2 .ret) .skip)) (.seq c34_3 (.seq c34_4 (.seq (.block 0 (.loop [0, 3, 4] c34_11)) (.seq (.seq c34_12 (.cond (.var 27) (.seq c34_13 .ret) .skip)) (.seq c34_14 .ret)))))))
abbrev F_S_l01Num : FuncId := 34
theorem v_S_l01Num : VT 1 1 Tryd.f34 34 [0,2,3,4,5,7,11,15,27] [none] [(.give, 2, none)] c34 := mkV Tryd.func34 rfl rfl (by kernel_rfl) (by kernel_rfl) rfl rfl
def c35_0:= rg [Qe 2 0]
def c35_1:= rg [Qe 3 7]
def c35_2:= rg [Qe 4 11]
def c35_3:= rg [Qe 5 0]
def c35_4:= rg [Qa 6 5,
Qa 7 0,
Ql 8 7,
Qp 9 6 8]
def c35_5:= rg [Qa 12 3,
Qap 13 131 12,
Qa 14 0,
Qa 15 5,
Qr 16 1 14 15,
Qd 17 1 16,
Qbl 18 17,
Qv 19 13 18,
Qi 20 19 1,
Qbm 21 20 2147483647,
Qb 3 21]
def c35_6:= rg [Qa 22 4,
Qap 23 137 22,
Qa 24 0,
Qa 25 5,
Qr 26 1 24 25,
Qd 27 1 26,
Qbl 28 27,
Qv 29 23 28,
Qi 30 29 3,
Qbm 31 30 2147483629,
Qb 4 31]
def c35_7:= rg [Qa 10 5,
Qi 11 10 1,
Qb 5 11]
def c35_8 : ACode := (.seq (.seq c35_4 (.cond (.var 9) .skip (.exit 0))) (.seq (.block 1 (.seq c35_5 c35_6)) c35_7))
def c35_9:= rg [Qa 32 3,
Qap 33 2147483648 32,
Qa 34 4,
Qv 35 33 34,
Qb 2 35]
def c35 : ACode := (.seq c35_0 (.seq c35_1 (.seq c35_2 (.seq (.seq c35_3 (.block 0 (.loop [0, 3, 4, 5] c35_8))) (.seq c35_9 .ret)))))
abbrev F_S_Digest : FuncId := 35
theorem v_S_Digest : VT 1 1 Tryd.f35 35 [0,2,3,4,5,9] [none] [(.give, 2, none)] c35 := mkV Tryd.func35 rfl rfl (by kernel_rfl) (by kernel_rfl) rfl rfl
def c36_0:= rg [Qae 4 0 1]
def c36_1:= rg [Qa 7 0,
Qj 8 53 7,
Qb 5 8]
def c36_2:= rg [Qe 6 0]
def c36_3:= rg [Qa 9 6,
Qa 10 1,
Ql 11 10,
Qp 12 9 11]
def c36_4:= rg [Qa 15 5,
Qa 16 1,
Qa 17 6,
Qr 18 1 16 17,
Qd 19 1 18,
Qbi 20 0 1 1 0 0 19,
Qat 21 1 1 15 20,
Qb 5 21]
def c36_5:= rg [Qa 13 6,
Qi 14 13 1,
Qb 6 14]
def c36_6 : ACode := (.seq (.seq c36_3 (.cond (.var 12) .skip (.exit 0))) (.seq (.block 1 c36_4) c36_5))
def c36_7:= rg [Qa 22 5,
Qb 4 22]
def c36 : ACode := (.seq c36_0 (.seq c36_1 (.seq (.seq c36_2 (.block 0 (.loop [1, 5, 6] c36_6))) (.seq c36_7 .ret))))
abbrev F_S_l01Join : FuncId := 36
theorem v_S_l01Join : VT 2 1 Tryd.f36 36 [0,1,4,5,6,12] [none, none] [(.give, 4, none)] c36 := mkV Tryd.func36 rfl rfl (by kernel_rfl) (by kernel_rfl) rfl rfl
def c37_0:= rg [Qae 2 0 1]
def c37_1:= rg [⟨.loc 5, .lit 0 1 0 [.int .u8 0] [], none, []⟩,
Qb 3 5]
def c37_2:= rg [Qa 6 0,
Qj 7 26 6,
Qas 8 7]
def c37_3:= rg [Qae 2 0 1]
def c37_4:= rg [Qe 4 0]
def c37_5:= rg [Qa 9 4,
Qbg 10 9 8]
def c37_6:= rg [Qa 13 3,
Qa 14 0,
Qa 15 4,
Qap 16 8 15,
⟨.loc 17, .conv .u64 (.loc 16), none, []⟩,
⟨.loc 18, .bin .int .shr (.loc 14) (.loc 17), none, []⟩,
⟨.loc 19, .bin .int .and (.loc 18) (.const (.d (.int .i64 255))), none, []⟩,
⟨.loc 20, .conv .u8 (.loc 19), none, []⟩,
Qbi 21 0 1 1 0 0 20,
Qat 22 1 1 13 21,
Qb 3 22]
def c37_7:= rg [Qa 11 4,
Qi 12 11 1,
Qb 4 12]
def c37_8 : ACode := (.seq (.seq c37_5 (.cond (.var 10) .skip (.exit 0))) (.seq (.block 1 c37_6) c37_7))
def c37_9:= rg [Qa 23 3,
Qb 2 23]
def c37 : ACode := (.seq c37_0 (.seq c37_1 (.seq (.seq c37_2 (.cond (.var 8) (.seq c37_3 .ret) .skip)) (.seq (.seq c37_4 (.block 0 (.loop [0, 3, 4] c37_8))) (.seq c37_9 .ret)))))
abbrev F_S_PutWide : FuncId := 37
theorem v_S_PutWide : VT 1 1 Tryd.f37 37 [0,2,3,4,8,10] [none] [(.give, 2, none)] c37 := mkV Tryd.func37 rfl rfl (by kernel_rfl) (by kernel_rfl) rfl rfl
def c38_0:= rg [Qbh 4 0 0 0 0 0]
def c38_1:= rg [Qa 6 1,
Qa 7 0,
Qt 8 23 7 9 3,
Qa 9 0,
⟨.loc 10, .lit 0 1 4 [.str []] [(0, (.const (.d (.str [114, 101, 97, 100])))), (1, (.const (.d (.str [119, 114, 105, 116, 101])))), (2, (.const (.d (.str [108, 111, 103, 105, 110])))), (3, (.const (.d (.str [120, 49]))))], none, []⟩,
Qaf 11 54 9 10 3,
Qa 12 0,
⟨.loc 13, .lit 0 1 3 [.str []] [(0, (.const (.d (.str [97])))), (1, (.const (.d (.str [107, 118, 47, 98])))), (2, (.const (.d (.str [100, 98, 47, 120, 45, 49]))))], none, []⟩,
Qaf 14 54 12 13 3,
Qa 15 0,
Qt 16 23 15 8 3,
⟨.loc 17, .build [.d (.int .i64 0), .d (.int .i64 0), .d (.int .i64 0), .d (.str []), .d (.str []), .d (.int .i64 0), .d (.int .i64 0)] [(1, 1, (.loc 6)), (2, 1, (.loc 8)), (3, 1, (.loc 11)), (4, 1, (.loc 14)), (5, 1, (.loc 16))], none, []⟩,
Qbh 5 0 0 0 0 0,
Qn 7 5 17]
def c38_2:= rg [Qa 18 0,
Qal 19 25 18 25 3]
def c38_3:= rg [Qa 20 0,
Qal 21 23 20 5 3]
def c38_4:= rg [Qz 23 21 0,
Qb 22 23]
def c38_5:= rg [Qa 24 0,
⟨.loc 25, .lit 0 1 4 [.int .i64 0] [(0, (.const (.d (.int .i64 (-1))))), (1, (.const (.d (.int .i64 1000000000)))), (2, (.const (.d (.int .i64 1000000001)))), (3, (.const (.d (.int .i64 0))))], none, []⟩,
Qaf 26 47 24 25 3,
Qc 27 1 5,
Qu 1 27 26]
def c38_6:= rg [Qz 29 21 1,
Qb 28 29]
def c38_7:= rg [Qa 30 0,
⟨.loc 31, .lit 0 1 3 [.int .i64 0] [(0, (.const (.d (.int .i64 (-1))))), (1, (.const (.d (.int .i64 1000000000)))), (2, (.const (.d (.int .i64 1000000001))))], none, []⟩,
Qaf 32 47 30 31 3,
Qc 33 2 5,
Qu 1 33 32]
def c38_8:= rg [Qz 35 21 2,
Qb 34 35]
def c38_9:= rg [Qa 36 0,
⟨.loc 37, .lit 0 1 3 [.str []] [(0, (.const (.d (.str [])))), (1, (.const (.d (.str [82, 101, 97, 100])))), (2, (.const (.d (.str [97, 98, 99, 100, 101, 102, 103, 104, 105, 106, 107, 108, 109]))))], none, []⟩,
Qaf 38 54 36 37 3,
Qc 39 3 5,
Qu 1 39 38]
def c38_10:= rg [Qz 41 21 3,
Qb 40 41]
def c38_11:= rg [Qa 42 0,
Qan 43 55 42 3,
Qc 44 4 5,
Qu 1 44 43]
def c38_12:= rg [Qz 46 21 4,
Qb 45 46]
def c38_13:= rg [Qa 47 0,
⟨.loc 48, .lit 0 1 3 [.int .i64 0] [(0, (.const (.d (.int .i64 (-1))))), (1, (.const (.d (.int .i64 99)))), (2, (.const (.d (.int .i64 100))))], none, []⟩,
Qaf 49 47 47 48 3,
Qc 50 5 5,
Qu 1 50 49]
def c38_14:= rg [Qk 51 7 5,
Qn 7 4 51]
def c38 : ACode := (.seq c38_0 (.seq c38_1 (.seq (.seq c38_2 (.cond (.var 19) (.seq c38_3 (.block 0 (.seq c38_4 (.cond (.var 22) c38_5 (.seq c38_6 (.cond (.var 28) c38_7 (.seq c38_8 (.cond (.var 34) c38_9 (.seq c38_10 (.cond (.var 40) c38_11 (.seq c38_12 (.cond (.var 45) c38_13 .skip)))))))))))) .skip)) (.seq c38_14 .ret))))
abbrev F_S_l15DrawNote : FuncId := 38
theorem v_S_l15DrawNote : VT 2 1 Tryd.f38 38 [0,1,4,5,19,21,22,28,34,40,45] [some (.box 3), none] [(.give, 4, some (true, 7))] c38 := mkV Tryd.func38 rfl rfl (by kernel_rfl) (by kernel_rfl) rfl rfl
def c39_0:= rg [Qx 1 0,
Qw 2 0 0 0 7]
def c39_1:= rg [Qc 5 0 1,
Qd 6 1 5,
Qc 7 1 1,
Qd 8 1 7,
⟨.loc 9, .build [.d (.int .i64 0), .d (.int .i64 0), .nil 0 7] [(0, 1, (.loc 6)), (1, 1, (.loc 8))], none, []⟩,
Qw 3 0 0 0 7,
Qn 3 3 9]
def c39_2:= rg [Qe 4 0]
def c39_3:= rg [Qa 10 4,
Qc 11 2 1,
Qd 12 1 11,
Ql 13 12,
Qp 14 10 13]
def c39_4 : ACode := .reg [Qc 17 2 3,
  Qh 18 1 17 [0],
  Qc 19 2 1,
  Qh 20 1 19 [2],
  Qa 21 4,
  Qab 22 7 20 21 [3,2,4],
  ⟨.loc 23, .load true 7 (.loc 22), none, [5, 3, 2, 4]⟩,
  ⟨.loc 24, .lit 0 7 1 [.int .i64 0, .int .i64 0, .int .i64 0, .str [], .str [], .int .i64 0, .int .i64 0] [(0, (.loc 23))], none, [6, 5, 3, 2, 4]⟩,
  ⟨.loc 25, .app 7 72 (.loc 18) (.loc 24), none, [1, 0, 7, 6, 5, 3, 2, 4]⟩,
  ⟨.loc 26, .fld 2 (.var 3), none, [8, 1, 0, 7, 6, 5, 3, 2, 4]⟩,
  Qbc 1 26 25 [9,8,1,0,7,6,5,3,2,4]] true
def c39_5:= rg [Qa 15 4,
Qi 16 15 1,
Qb 4 16]
def c39_6 : ACode := (.seq (.seq c39_3 (.cond (.var 14) .skip (.exit 0))) (.seq (.block 1 c39_4) c39_5))
def c39_7:= rg [Qk 27 3 3,
Qn 3 2 27]
def c39 : ACode := (.seq c39_0 (.seq c39_1 (.seq (.seq c39_2 (.block 0 (.loop [1, 2, 3, 4] c39_6))) (.seq c39_7 .ret))))
abbrev F_S_l15Copy : FuncId := 39
theorem v_S_l15Copy : VT 1 1 Tryd.f39 39 [0,1,2,3,4,14] [none] [(.give, 2, some (true, 3))] c39 := mkV Tryd.func39 rfl rfl (by kernel_rfl) (by kernel_rfl) rfl rfl
def c40_0:= rg [Qx 1 0,
Qe 2 0]
def c40_1:= rg [Qk 3 3 1,
Qj 4 7 3,
Qas 5 4]
def c40_2:= rg [Qe 2 (-1)]
def c40_3:= rg [Qc 6 2 1,
Qd 7 1 6,
Ql 8 7,
⟨.var 9, .bin .int .eql (.loc 8) (.const (.d (.int .i64 0))), none, []⟩]
def c40_4:= rg [Qc 10 0 1,
Qd 11 1 10,
Qb 2 11]
def c40_5:= rg [Qc 12 2 1,
Qd 13 1 12,
Qc 14 2 1,
Qd 15 1 14,
Ql 16 15,
⟨.loc 17, .bin .int .sub (.loc 16) (.const (.d (.int .i64 1))), none, []⟩,
Qr 18 7 13 17,
Qai 19 6 18,
Qd 20 1 19,
Qb 2 20]
def c40 : ACode := (.seq c40_0 (.seq (.seq c40_1 (.cond (.var 5) (.seq c40_2 .ret) .skip)) (.seq (.seq c40_3 (.cond (.var 9) (.seq c40_4 .ret) .skip)) (.seq c40_5 .ret))))
abbrev F_S_HeadOf : FuncId := 40
theorem v_S_HeadOf : VT 1 1 Tryd.f40 40 [0,1,2,5,9] [none] [(.give, 2, none)] c40 := mkV Tryd.func40 rfl rfl (by kernel_rfl) (by kernel_rfl) rfl rfl
def c45_0:= rg [⟨.var 2, .mv (.const (.undef)), none, []⟩]
def c45_1:= rg [Qa 5 0,
Ql 6 5,
Qax 7 705705 6,
Qb 3 7]
def c45_2:= rg [Qe 4 0]
def c45_3:= rg [Qa 8 4,
Qa 9 0,
Ql 10 9,
⟨.loc 11, .bin .int .lss (.loc 8) (.loc 10), none, []⟩,
Qg 12 11,
Qm 13 4 12,
⟨.loc 14, .bin .int .lss (.loc 13) (.const (.d (.int .i64 4000))), some ((.loc 12), true), []⟩,
Qbk 15 12 14]
def c45_4:= rg [Qa 18 3,
Qbj 19 18 149,
Qa 20 0,
Qa 21 4,
Qr 22 1 20 21,
Qd 23 1 22,
Qbl 24 23,
Qv 25 19 24,
Qi 26 25 11,
⟨.loc 27, .bin .int .and (.loc 26) (.const (.d (.int .i64 1073741823))), none, []⟩,
Qb 3 27]
def c45_5:= rg [Qa 16 4,
Qi 17 16 1,
Qb 4 17]
def c45_6 : ACode := (.seq (.seq c45_3 (.cond (.var 15) .skip (.exit 0))) (.seq (.block 1 c45_4) c45_5))
def c45_7:= rg [Qa 28 0,
Qa 29 3,
⟨.loc 30, .build [.nil 0 1, .d (.int .i64 0), .d (.int .i64 0)] [(0, 1, (.loc 28)), (2, 1, (.loc 29))], none, []⟩,
⟨.loc 31, .box (.loc 30), none, []⟩,
Qb 2 31]
def c45 : ACode := (.seq c45_0 (.seq c45_1 (.seq (.seq c45_2 (.block 0 (.loop [0, 3, 4] c45_6))) (.seq c45_7 .ret))))
abbrev F_S_l01New : FuncId := 45
theorem v_S_l01New : VT 1 1 Tryd.f45 45 [0,2,3,4,15] [none] [(.box 3, 2, none)] c45 := mkV Tryd.func45 rfl rfl (by kernel_rfl) (by kernel_rfl) rfl rfl
def c46_0:= rg [Qw 4 0 0 0 7]
def c46_1:= rg [Qa 11 0,
Qa 12 0,
Qt 13 23 12 16777216 3,
⟨.loc 14, .lit 0 1 4 [.int .i64 0] [(0, (.const (.d (.int .i64 0)))), (1, (.const (.d (.int .i64 0)))), (2, (.const (.d (.int .i64 7)))), (3, (.loc 13))], none, []⟩,
Qaf 15 47 11 14 3,
Qa 16 0,
Qan 17 58 16 3,
⟨.loc 18, .build [.d (.int .i64 0), .d (.int .i64 0), .nil 0 7] [(0, 1, (.loc 15)), (1, 1, (.loc 17))], none, []⟩,
Qw 5 0 0 0 7,
Qn 3 5 18]
def c46_2:= rg [Qe 6 0]
def c46_3:= rg [Qe 7 0]
def c46_4:= rg [Qa 19 7,
Qa 20 1,
Qp 21 19 20]
def c46_5:= rg [Qa 24 6,
Qa 25 0,
Qt 26 23 25 3 3,
Qv 27 24 26,
Qb 6 27]
def c46_6 : ACode := .reg [Qk 29 3 5,
  Qa 30 0,
  Qa 31 6,
  ⟨.loc 32, .call (.fn 38) [(.loc 30), (.loc 31)] [.box 3, .borrow], none, [1, 2]⟩,
  ⟨.loc 33, .call (.fn 14) [(.loc 29), (.loc 32)] [.borrow, .borrow], none, [0, 3, 1, 2]⟩,
  ⟨.loc 28, .mv (.loc 33), none, [4, 0, 3, 1, 2]⟩,
  ⟨.loc 34, .ext (.loc 28) 0, none, [5, 4, 0, 3, 1, 2]⟩,
  ⟨.loc 35, .ext (.loc 28) 1, none, [5, 4, 0, 3, 1, 2]⟩,
  Qw 8 0 0 0 7,
  ⟨.none, .store 3 (.var 8) (.loc 34), none, [6, 5, 4, 0, 3, 1, 2, 8]⟩,
  ⟨.loc 9, .mv (.loc 35), none, [7, 9, 6, 5, 4, 0, 3, 1, 2, 8]⟩] true
def c46_7:= rg [Qk 36 3 8,
Qn 3 5 36]
def c46_8:= rg [Qa 22 7,
Qi 23 22 1,
Qb 7 23]
def c46_9 : ACode := (.seq (.seq c46_4 (.cond (.var 21) .skip (.exit 0))) (.seq (.block 1 (.seq c46_5 (.seq c46_6 c46_7))) c46_8))
def c46_10:= rg [Qa 37 0,
Qt 38 25 37 5 3,
Qg 39 38,
Qao 40 2 5 39,
Qag 41 1 40 39,
⟨.loc 42, .len false (.loc 41), some ((.loc 39), true), []⟩,
⟨.loc 43, .bin .int .gtr (.loc 42) (.const (.d (.int .i64 0))), some ((.loc 39), true), []⟩,
Qbk 44 39 43]
def c46_11:= rg [Qa 45 0,
Qc 46 2 5,
Qd 47 1 46,
Ql 48 47,
Qaj 49 23 45 48 3,
Qb 10 49]
def c46_12:= rg [Qa 50 0,
Qal 51 23 50 6 3]
def c46_13:= rg [Qz 53 51 0,
Qb 52 53]
def c46_14 : ACode := .reg [Qc 54 2 5,
  Qh 55 1 54 [0],
  Qa 56 10,
  Qc 57 2 5,
  Qh 58 1 57 [3],
  Qa 59 10,
  Qab 60 7 58 59 [4,3,5],
  Qq 61 5 60 [6,4,3,5],
  Qh 62 1 61 [7,6,4,3,5],
  ⟨.loc 63, .bin .int .add (.loc 62) (.const (.d (.int .i64 1))), none, [8, 7, 6, 4, 3, 5]⟩,
  Qab 64 7 55 56 [1,0,2,9,8,7,6,4,3,5],
  Qq 65 5 64 [10,1,0,2,9,8,7,6,4,3,5],
  Qbc 1 65 63 [11,10,1,0,2,9,8,7,6,4,3,5]] true
def c46_15:= rg [Qz 67 51 1,
Qb 66 67]
def c46_16 : ACode := .reg [Qc 68 2 5,
  Qh 69 1 68 [0],
  Qa 70 10,
  Qc 71 2 5,
  Qh 72 1 71 [3],
  Qa 73 10,
  Qab 74 7 72 73 [4,3,5],
  Qq 75 6 74 [6,4,3,5],
  Qh 76 1 75 [7,6,4,3,5],
  ⟨.loc 77, .bin .int .add (.loc 76) (.const (.d (.int .i64 1))), none, [8, 7, 6, 4, 3, 5]⟩,
  Qab 78 7 69 70 [1,0,2,9,8,7,6,4,3,5],
  Qq 79 6 78 [10,1,0,2,9,8,7,6,4,3,5],
  Qbc 1 79 77 [11,10,1,0,2,9,8,7,6,4,3,5]] true
def c46_17:= rg [Qz 81 51 2,
Qb 80 81]
def c46_18:= rg [Qc 82 2 5,
Qd 83 1 82,
Qa 84 10,
Qr 85 7 83 84,
Qai 86 3 85,
⟨.none, .store 1 (.loc 86) (.const (.d (.str [111, 116, 104, 101, 114]))), none, []⟩]
def c46_19:= rg [Qz 88 51 3,
Qb 87 88]
def c46_20:= rg [Qc 89 2 5,
Qd 90 1 89,
⟨.loc 91, .sliceA 7 (.loc 90) (some (.const (.d (.int .i64 1)))) none, none, []⟩,
Qc 92 2 5,
Qu 1 92 91]
def c46_21:= rg [Qz 94 51 4,
Qb 93 94]
def c46_22 : ACode := .reg [Qc 95 2 5,
  Qh 96 1 95 [0],
  Qa 97 10,
  Qc 98 2 5,
  Qh 99 1 98 [3],
  Qa 100 10,
  Qab 101 7 99 100 [4,3,5],
  Qq 102 0 101 [6,4,3,5],
  Qh 103 1 102 [7,6,4,3,5],
  ⟨.loc 104, .bin .int .add (.loc 103) (.const (.d (.int .i64 1))), none, [8, 7, 6, 4, 3, 5]⟩,
  Qab 105 7 96 97 [1,0,2,9,8,7,6,4,3,5],
  Qq 106 0 105 [10,1,0,2,9,8,7,6,4,3,5],
  Qbc 1 106 104 [11,10,1,0,2,9,8,7,6,4,3,5]] true
def c46_23:= rg [Qz 108 51 5,
Qb 107 108]
def c46_24 : ACode := .reg [Qc 109 2 5,
  Qh 110 1 109 [0],
  Qa 111 10,
  Qa 112 0,
  ⟨.loc 113, .lit 0 1 2 [.int .i64 0] [(0, (.const (.d (.int .i64 (-1))))), (1, (.const (.d (.int .i64 0))))], none, []⟩,
  ⟨.loc 114, .call (.fn 47) [(.loc 112), (.loc 113)] [.box 3, .give], none, [3, 4]⟩,
  Qab 115 7 110 111 [1,0,2,5,3,4],
  Qq 116 1 115 [6,1,0,2,5,3,4],
  Qbc 1 116 114 [7,6,1,0,2,5,3,4]] true
def c46_25:= rg [Qa 117 0,
Qal 118 25 117 30 3]
def c46_26:= rg [Qc 119 0 5,
⟨.none, .store 1 (.loc 119) (.const (.d (.int .i64 (-1)))), none, []⟩]
def c46_27:= rg [Qk 120 3 5,
Qn 3 4 120]
def c46 : ACode := (.seq c46_0 (.seq c46_1 (.seq c46_2 (.seq (.seq c46_3 (.block 0 (.loop [0, 1, 4, 5, 6, 7] c46_9))) (.seq (.seq c46_10 (.cond (.var 44) (.seq c46_11 (.seq c46_12 (.block 2 (.seq c46_13 (.cond (.var 52) c46_14 (.seq c46_15 (.cond (.var 66) c46_16 (.seq c46_17 (.cond (.var 80) c46_18 (.seq c46_19 (.cond (.var 87) c46_20 (.seq c46_21 (.cond (.var 93) c46_22 (.seq c46_23 (.cond (.var 107) c46_24 .skip))))))))))))))) .skip)) (.seq (.seq c46_25 (.cond (.var 118) c46_26 .skip)) (.seq c46_27 .ret)))))))
abbrev F_S_l15DrawChain : FuncId := 46
theorem v_S_l15DrawChain : VT 2 1 Tryd.f46 46 [0,1,4,5,6,7,8,10,21,44,51,52,66,80,87,93,107,118] [some (.box 3), none] [(.give, 4, some (true, 3))] c46 := mkV Tryd.func46 rfl rfl (by kernel_rfl) (by kernel_rfl) rfl rfl
def c47_0:= rg [Qe 4 0]
def c47_1:= rg [Qa 5 1,
Qa 6 0,
Qa 7 1,
Ql 8 7,
Qaj 9 23 6 8 3,
Qr 10 1 5 9,
Qd 11 1 10,
Qb 4 11]
def c47 : ACode := (.seq c47_0 (.seq c47_1 .ret))
abbrev F_S_l01PickInt : FuncId := 47
theorem v_S_l01PickInt : VT 2 1 Tryd.f47 47 [0,1,4] [some (.box 3), none] [(.give, 4, none)] c47 := mkV Tryd.func47 rfl rfl (by kernel_rfl) (by kernel_rfl) rfl rfl
def c48_0:= rg [Qe 2 0]
def c48_1:= rg [Qa 4 0,
Qa 5 0,
⟨.loc 6, .nchk (.loc 5), none, []⟩,
Qai 7 2 6,
Qd 8 1 7,
Qbj 9 8 6364136223846793005,
Qi 10 9 1442695040888963407,
⟨.loc 11, .nchk (.loc 4), none, []⟩,
Qai 12 2 11,
Qu 1 12 10]
def c48_2 : ACode := .reg [Qa 13 0,
  Qbf 14 13 [0],
  Qq 15 2 14 [1,0],
  Qh 16 1 15 [2,1,0],
  ⟨.loc 17, .bin .int .shr (.loc 16) (.const (.d (.int .u64 33))), none, [3, 2, 1, 0]⟩,
  Qa 18 0,
  Qbf 19 18 [5],
  Qq 20 2 19 [6,5],
  Qh 21 1 20 [7,6,5],
  ⟨.loc 22, .bin .int .shr (.loc 21) (.const (.d (.int .u64 45))), none, [8, 7, 6, 5]⟩,
  ⟨.loc 23, .bin .int .xor (.loc 17) (.loc 22), none, [4, 3, 2, 1, 0, 9, 8, 7, 6, 5]⟩,
  ⟨.loc 24, .bin .int .and (.loc 23) (.const (.d (.int .i64 255))), none, [10, 4, 3, 2, 1, 0, 9, 8, 7, 6, 5]⟩,
  ⟨.var 3, .mv (.loc 24), none, [11, 10, 4, 3, 2, 1, 0, 9, 8, 7, 6, 5]⟩] true
def c48_3 : ACode := .reg [Qa 25 0,
  Qbf 26 25 [0],
  Qq 27 1 26 [1,0],
  Qh 28 1 27 [2,1,0],
  Qa 29 0,
  Qbf 30 29 [4],
  Qq 31 0 30 [5,4],
  Qh 32 1 31 [6,5,4],
  ⟨.loc 33, .len false (.loc 32), none, [7, 6, 5, 4]⟩,
  ⟨.var 34, .bin .int .lss (.loc 28) (.loc 33), none, [3, 2, 1, 0, 8, 7, 6, 5, 4]⟩] true
def c48_4 : ACode := .reg [Qa 35 3,
  Qa 36 0,
  Qbf 37 36 [1],
  Qq 38 0 37 [2,1],
  Qh 39 1 38 [3,2,1],
  Qa 40 0,
  Qbf 41 40 [5],
  Qq 42 1 41 [6,5],
  Qh 43 1 42 [7,6,5],
  Qab 44 1 39 43 [4,3,2,1,8,7,6,5],
  Qh 45 1 44 [9,4,3,2,1,8,7,6,5],
  ⟨.loc 46, .conv .i64 (.loc 45), none, [10, 9, 4, 3, 2, 1, 8, 7, 6, 5]⟩,
  ⟨.loc 47, .bin .int .add (.loc 35) (.loc 46), none, [0, 11, 10, 9, 4, 3, 2, 1, 8, 7, 6, 5]⟩,
  ⟨.loc 48, .bin .int .and (.loc 47) (.const (.d (.int .i64 255))), none, [12, 0, 11, 10, 9, 4, 3, 2, 1, 8, 7, 6, 5]⟩,
  ⟨.var 3, .mv (.loc 48), none, [13, 12, 0, 11, 10, 9, 4, 3, 2, 1, 8, 7, 6, 5]⟩] true
def c48_5:= rg [Qa 49 0,
Qa 50 0,
⟨.loc 51, .nchk (.loc 50), none, []⟩,
Qai 52 1 51,
Qd 53 1 52,
Qi 54 53 1,
⟨.loc 55, .nchk (.loc 49), none, []⟩,
Qai 56 1 55,
Qu 1 56 54]
def c48_6:= rg [Qa 57 3,
Qb 2 57]
def c48 : ACode := (.seq c48_0 (.seq c48_1 (.seq c48_2 (.seq (.seq c48_3 (.cond (.var 34) (.seq c48_4 c48_5) .skip)) (.seq c48_6 .ret)))))
abbrev F_S_l01Byte : FuncId := 48
theorem v_S_l01Byte : VT 1 1 Tryd.f48 48 [0,2,3,34] [some (.box 3)] [(.give, 2, none)] c48 := mkV Tryd.func48 rfl rfl (by kernel_rfl) (by kernel_rfl) rfl rfl
def c49_0:= rg [Qf 2]
def c49_1:= rg [Qa 5 0,
Qy 6 5,
⟨.var 7, .bin .int .gtr (.loc 6) (.const (.d (.int .i64 120))), none, []⟩]
def c49_2:= rg [Qf 2]
def c49_3:= rg [Qa 8 0,
⟨.loc 9, .call (.fn 59) [(.loc 8), (.const (.d (.int .u8 47)))] [.borrow, .borrow], none, []⟩,
Qb 3 9]
def c49_4:= rg [Qe 4 0]
def c49_5:= rg [Qa 10 4,
Qa 11 3,
Ql 12 11,
Qp 13 10 12]
def c49_6:= rg [Qa 16 3,
Qa 17 4,
Qr 18 1 16 17,
Qd 19 1 18,
Qj 20 60 19,
Qak 21 20,
Qg 22 21,
Qm 23 3 22,
Qm 24 4 22,
⟨.loc 25, .idxA 1 (.loc 23) (.loc 24), some ((.loc 22), true), []⟩,
Qag 26 1 25 22,
⟨.loc 27, .bin .str .neq (.loc 26) (.const (.d (.str [43]))), some ((.loc 22), true), []⟩,
Qo 28 22 27,
Qg 29 28,
Qm 30 3 29,
Qm 31 4 29,
⟨.loc 32, .idxA 1 (.loc 30) (.loc 31), some ((.loc 29), true), []⟩,
Qag 33 1 32 29,
⟨.loc 34, .bin .str .eql (.loc 33) (.const (.d (.str [42]))), some ((.loc 29), true), []⟩,
⟨.loc 35, .split (.loc 34), some ((.loc 29), true), []⟩,
Qm 36 4 35,
Qm 37 3 35,
⟨.loc 38, .len false (.loc 37), some ((.loc 35), true), []⟩,
⟨.loc 39, .bin .int .sub (.loc 38) (.const (.d (.int .i64 1))), some ((.loc 35), true), []⟩,
⟨.loc 40, .bin .int .eql (.loc 36) (.loc 39), some ((.loc 35), true), []⟩,
⟨.loc 41, .pick (.loc 35) (.loc 40) (.const (.d (.bool false))), some ((.loc 29), true), []⟩,
⟨.loc 42, .un .not (.loc 41), some ((.loc 29), true), []⟩,
Qbk 43 29 42]
def c49_7:= rg [Qf 2]
def c49_8:= rg [Qa 14 4,
Qi 15 14 1,
Qb 4 15]
def c49_9 : ACode := (.seq (.seq c49_5 (.cond (.var 13) .skip (.exit 0))) (.seq (.block 1 (.seq c49_6 (.cond (.var 43) (.seq c49_7 .ret) .skip))) c49_8))
def c49_10:= rg [Qa 44 3,
Ql 45 44,
⟨.loc 46, .bin .int .leq (.loc 45) (.const (.d (.int .i64 8))), none, []⟩,
Qb 2 46]
def c49 : ACode := (.seq c49_0 (.seq (.seq c49_1 (.cond (.var 7) (.seq c49_2 .ret) .skip)) (.seq c49_3 (.seq (.seq c49_4 (.block 0 (.loop [3, 4] c49_9))) (.seq c49_10 .ret)))))
abbrev F_S_GlobOk : FuncId := 49
theorem v_S_GlobOk : VT 1 1 Tryd.f49 49 [0,2,3,4,7,13,43] [none] [(.give, 2, none)] c49 := mkV Tryd.func49 rfl rfl (by kernel_rfl) (by kernel_rfl) rfl rfl
def c50_0:= rg [Qx 1 0,
Qf 2]
def c50_1:= rg [Qc 3 0 1,
Qd 4 1 3,
Qam 5 61 4 1 1000000000,
Qg 6 5,
Qao 7 1 1 6,
Qag 8 1 7 6,
⟨.loc 9, .call (.fn 61) [(.loc 8), (.const (.d (.int .i64 0))), (.const (.d (.int .i64 1000000000)))] [.borrow, .borrow, .borrow], some ((.loc 6), true), []⟩,
Qo 10 6 9,
Qg 11 10,
Qao 12 2 1 11,
Qag 13 1 12 11,
⟨.loc 14, .call (.fn 61) [(.loc 13), (.const (.d (.int .i64 0))), (.const (.d (.int .i64 1000000000)))] [.borrow, .borrow, .borrow], some ((.loc 11), true), []⟩,
Qo 15 11 14,
Qg 16 15,
Qao 17 3 1 16,
Qag 18 1 17 16,
⟨.loc 19, .call (.fn 62) [(.loc 18)] [.borrow], some ((.loc 16), true), []⟩,
Qo 20 16 19,
Qg 21 20,
Qao 22 4 1 21,
Qag 23 1 22 21,
⟨.loc 24, .call (.fn 63) [(.loc 23)] [.borrow], some ((.loc 21), true), []⟩,
Qo 25 21 24,
Qg 26 25,
Qao 27 5 1 26,
Qag 28 1 27 26,
⟨.loc 29, .call (.fn 61) [(.loc 28), (.const (.d (.int .i64 0))), (.const (.d (.int .i64 99)))] [.borrow, .borrow, .borrow], some ((.loc 26), true), []⟩,
Qo 30 26 29,
Qb 2 30]
def c50 : ACode := (.seq c50_0 (.seq c50_1 .ret))
abbrev F_I_isNote : FuncId := 50
theorem v_I_isNote : VT 1 1 Tryd.f50 50 [0,1,2] [none] [(.give, 2, none)] c50 := mkV Tryd.func50 rfl rfl (by kernel_rfl) (by kernel_rfl) rfl rfl
def c51_0:= rg [Qf 2]
def c51_1:= rg [Qa 3 0,
Qam 4 61 3 0 1099511627776,
Qb 2 4]
def c51 : ACode := (.seq c51_0 (.seq c51_1 .ret))
abbrev F_I_isKey : FuncId := 51
theorem v_I_isKey : VT 1 1 Tryd.f51 51 [0,2] [none] [(.give, 2, none)] c51 := mkV Tryd.func51 rfl rfl (by kernel_rfl) (by kernel_rfl) rfl rfl
def c53_0:= rg [Qae 2 0 1]
def c53_1:= rg [⟨.loc 5, .lit 0 1 0 [.int .u8 0] [], none, []⟩,
Qb 3 5]
def c53_2:= rg [Qe 4 0]
def c53_3:= rg [Qa 6 4,
Qa 7 0,
Ql 8 7,
Qp 9 6 8]
def c53_4:= rg [Qa 12 3,
Qa 13 0,
Qa 14 4,
Qr 15 1 13 14,
Qd 16 1 15,
Qbi 17 0 1 1 0 0 16,
Qat 18 1 1 12 17,
Qb 3 18]
def c53_5:= rg [Qa 10 4,
Qi 11 10 1,
Qb 4 11]
def c53_6 : ACode := (.seq (.seq c53_3 (.cond (.var 9) .skip (.exit 0))) (.seq (.block 1 c53_4) c53_5))
def c53_7:= rg [Qa 19 3,
Qb 2 19]
def c53 : ACode := (.seq c53_0 (.seq c53_1 (.seq (.seq c53_2 (.block 0 (.loop [0, 3, 4] c53_6))) (.seq c53_7 .ret))))
abbrev F_S_l01Bytes : FuncId := 53
theorem v_S_l01Bytes : VT 1 1 Tryd.f53 53 [0,2,3,4,9] [none] [(.give, 2, none)] c53 := mkV Tryd.func53 rfl rfl (by kernel_rfl) (by kernel_rfl) rfl rfl
def c54_0:= rg [Qad 4]
def c54_1:= rg [Qa 5 1,
Qa 6 0,
Qa 7 1,
Ql 8 7,
Qaj 9 23 6 8 3,
Qr 10 1 5 9,
Qd 11 1 10,
Qb 4 11]
def c54 : ACode := (.seq c54_0 (.seq c54_1 .ret))
abbrev F_S_l01PickText : FuncId := 54
theorem v_S_l01PickText : VT 2 1 Tryd.f54 54 [0,1,4] [some (.box 3), none] [(.give, 4, none)] c54 := mkV Tryd.func54 rfl rfl (by kernel_rfl) (by kernel_rfl) rfl rfl
def c55_0:= rg [Qad 2]
def c55_1:= rg [Qa 6 0,
Qan 7 65 6 3,
Qb 3 7]
def c55_2:= rg [Qa 8 0,
Qt 9 23 8 4 3,
Qb 4 9]
def c55_3:= rg [Qa 10 0,
Qal 11 25 10 20 3]
def c55_4:= rg [Qa 12 0,
Qt 13 23 12 2 3,
Qax 14 7 13,
Qb 4 14]
def c55_5:= rg [Qe 5 0]
def c55_6:= rg [Qa 15 5,
Qa 16 4,
Qp 17 15 16]
def c55_7:= rg [Qa 20 3,
⟨.loc 21, .bin .str .add (.loc 20) (.const (.d (.str [47]))), none, []⟩,
Qa 22 0,
Qan 23 65 22 3,
⟨.loc 24, .bin .str .add (.loc 21) (.loc 23), none, []⟩,
Qb 3 24]
def c55_8:= rg [Qa 18 5,
Qi 19 18 1,
Qb 5 19]
def c55_9 : ACode := (.seq (.seq c55_6 (.cond (.var 17) .skip (.exit 0))) (.seq (.block 1 c55_7) c55_8))
def c55_10:= rg [Qa 25 3,
Qb 2 25]
def c55 : ACode := (.seq c55_0 (.seq c55_1 (.seq c55_2 (.seq (.seq c55_3 (.cond (.var 11) c55_4 .skip)) (.seq (.seq c55_5 (.block 0 (.loop [0, 3, 4, 5] c55_9))) (.seq c55_10 .ret))))))
abbrev F_S_l01DrawPath : FuncId := 55
theorem v_S_l01DrawPath : VT 1 1 Tryd.f55 55 [0,2,3,4,5,11,17] [some (.box 3)] [(.give, 2, none)] c55 := mkV Tryd.func55 rfl rfl (by kernel_rfl) (by kernel_rfl) rfl rfl
def c58_0:= rg [Qe 2 0]
def c58_1:= rg [Qa 3 0,
Qt 4 23 3 16777216 3,
Qbj 5 4 65536,
Qa 6 0,
Qt 7 23 6 65536 3,
Qv 8 5 7,
Qb 2 8]
def c58 : ACode := (.seq c58_0 (.seq c58_1 .ret))
abbrev F_S_l04DrawGood : FuncId := 58
theorem v_S_l04DrawGood : VT 1 1 Tryd.f58 58 [0,2] [some (.box 3)] [(.give, 2, none)] c58 := mkV Tryd.func58 rfl rfl (by kernel_rfl) (by kernel_rfl) rfl rfl
def c59_0:= rg [Qae 4 0 1]
def c59_1:= rg [⟨.loc 8, .lit 0 1 0 [.str []] [], none, []⟩,
Qb 5 8]
def c59_2:= rg [Qe 6 0]
def c59_3:= rg [Qe 7 0]
def c59_4:= rg [Qa 9 7,
Qa 10 0,
Qy 11 10,
⟨.var 12, .bin .int .leq (.loc 9) (.loc 11), none, []⟩]
def c59_5:= rg [Qa 15 7,
Qa 16 0,
Qy 17 16,
⟨.loc 18, .bin .int .eql (.loc 15) (.loc 17), none, []⟩,
Qg 19 18,
Qs 20 0 19,
Qs 21 7 19,
⟨.loc 22, .idxS (.loc 20) (.loc 21), some ((.loc 19), false), []⟩,
Qs 23 1 19,
⟨.loc 24, .bin .int .eql (.loc 22) (.loc 23), some ((.loc 19), false), []⟩,
Qaa 25 19 24]
def c59_6:= rg [Qa 26 5,
Qa 27 0,
Qa 28 6,
Qa 29 7,
⟨.loc 30, .sliceS (.loc 27) (some (.loc 28)) (some (.loc 29)), none, []⟩,
⟨.loc 31, .lit 0 1 1 [.str []] [(0, (.loc 30))], none, []⟩,
Qat 32 1 16 26 31,
Qb 5 32]
def c59_7:= rg [Qa 33 7,
Qi 34 33 1,
Qb 6 34]
def c59_8:= rg [Qa 13 7,
Qi 14 13 1,
Qb 7 14]
def c59_9 : ACode := (.seq (.seq c59_4 (.cond (.var 12) .skip (.exit 0))) (.seq (.block 1 (.seq c59_5 (.cond (.var 25) (.seq c59_6 c59_7) .skip))) c59_8))
def c59_10:= rg [Qa 35 5,
Qb 4 35]
def c59 : ACode := (.seq c59_0 (.seq c59_1 (.seq c59_2 (.seq (.seq c59_3 (.block 0 (.loop [0, 1, 5, 6, 7] c59_9))) (.seq c59_10 .ret)))))
abbrev F_S_l01Parts : FuncId := 59
theorem v_S_l01Parts : VT 2 1 Tryd.f59 59 [0,1,4,5,6,7,12,25] [none, none] [(.give, 4, none)] c59 := mkV Tryd.func59 rfl rfl (by kernel_rfl) (by kernel_rfl) rfl rfl
def c60_0:= rg [Qf 2]
def c60_1:= rg [Qa 5 0,
Qy 6 5,
Qam 7 27 6 1 16,
Qas 8 7]
def c60_2:= rg [Qf 2]
def c60_3:= rg [Qe 3 0]
def c60_4:= rg [Qa 9 3,
Qa 10 0,
Qy 11 10,
Qp 12 9 11]
def c60_5:= rg [Qa 15 0,
Qa 16 3,
⟨.loc 17, .idxS (.loc 15) (.loc 16), none, []⟩,
Qb 4 17]
def c60_6:= rg [Qa 18 4,
⟨.loc 19, .bin .int .geq (.loc 18) (.const (.d (.int .u8 97))), none, []⟩,
Qg 20 19,
Qm 21 4 20,
⟨.loc 22, .bin .int .leq (.loc 21) (.const (.d (.int .u8 122))), some ((.loc 20), true), []⟩,
Qo 23 20 22,
Qak 24 23,
Qg 25 24,
Qm 26 4 25,
⟨.loc 27, .bin .int .geq (.loc 26) (.const (.d (.int .u8 48))), some ((.loc 25), true), []⟩,
⟨.loc 28, .split (.loc 27), some ((.loc 25), true), []⟩,
Qm 29 4 28,
⟨.loc 30, .bin .int .leq (.loc 29) (.const (.d (.int .u8 57))), some ((.loc 28), true), []⟩,
⟨.loc 31, .pick (.loc 28) (.loc 30) (.const (.d (.bool false))), some ((.loc 25), true), []⟩,
⟨.loc 32, .un .not (.loc 31), some ((.loc 25), true), []⟩,
Qo 33 25 32,
Qg 34 33,
Qm 35 4 34,
⟨.loc 36, .bin .int .neq (.loc 35) (.const (.d (.int .u8 45))), some ((.loc 34), true), []⟩,
Qbk 37 34 36]
def c60_7:= rg [Qf 2]
def c60_8:= rg [Qa 13 3,
Qi 14 13 1,
Qb 3 14]
def c60_9 : ACode := (.seq (.seq c60_4 (.cond (.var 12) .skip (.exit 0))) (.seq (.block 1 (.seq c60_5 (.seq c60_6 (.cond (.var 37) (.seq c60_7 .ret) .skip)))) c60_8))
def c60_10:= rg [Qaq 2]
def c60 : ACode := (.seq c60_0 (.seq (.seq c60_1 (.cond (.var 8) (.seq c60_2 .ret) .skip)) (.seq (.seq c60_3 (.block 0 (.loop [0, 3] c60_9))) (.seq c60_10 .ret))))
abbrev F_S_l01Segment : FuncId := 60
theorem v_S_l01Segment : VT 1 1 Tryd.f60 60 [0,2,3,4,8,12,37] [none] [(.give, 2, none)] c60 := mkV Tryd.func60 rfl rfl (by kernel_rfl) (by kernel_rfl) rfl rfl
def c61_0:= rg [Qf 6]
def c61_1:= rg [Qa 7 0,
Qa 8 1,
⟨.loc 9, .bin .int .geq (.loc 7) (.loc 8), none, []⟩,
Qg 10 9,
Qm 11 0 10,
Qm 12 2 10,
⟨.loc 13, .bin .int .leq (.loc 11) (.loc 12), some ((.loc 10), true), []⟩,
Qo 14 10 13,
Qb 6 14]
def c61 : ACode := (.seq c61_0 (.seq c61_1 .ret))
abbrev F_I_within : FuncId := 61
theorem v_I_within : VT 3 1 Tryd.f61 61 [0,1,2,6] [none, none, none] [(.give, 6, none)] c61 := mkV Tryd.func61 rfl rfl (by kernel_rfl) (by kernel_rfl) rfl rfl
def c62_0:= rg [Qf 2]
def c62_1:= rg [Qa 3 0,
Qy 4 3,
Qam 5 61 4 1 12,
Qg 6 5,
Qm 7 0 6,
⟨.loc 8, .call (.fn 67) [(.loc 7), (.const (.d (.str [97, 98, 99, 100, 101, 102, 103, 104, 105, 106, 107, 108, 109, 110, 111, 112, 113, 114, 115, 116, 117, 118, 119, 120, 121, 122, 48, 49, 50, 51, 52, 53, 54, 55, 56, 57])))] [.borrow, .borrow], some ((.loc 6), true), []⟩,
Qo 9 6 8,
Qb 2 9]
def c62 : ACode := (.seq c62_0 (.seq c62_1 .ret))
abbrev F_I_isName : FuncId := 62
theorem v_I_isName : VT 1 1 Tryd.f62 62 [0,2] [none] [(.give, 2, none)] c62 := mkV Tryd.func62 rfl rfl (by kernel_rfl) (by kernel_rfl) rfl rfl
def c63_0:= rg [Qf 2]
def c63_1:= rg [Qa 3 0,
Qj 4 68 3,
Qg 5 4,
Qm 6 0 5,
⟨.loc 7, .call (.fn 69) [(.loc 6), (.const (.d (.str [43, 42])))] [.borrow, .borrow], some ((.loc 5), true), []⟩,
⟨.loc 8, .un .not (.loc 7), some ((.loc 5), true), []⟩,
Qo 9 5 8,
Qb 2 9]
def c63 : ACode := (.seq c63_0 (.seq c63_1 .ret))
abbrev F_I_isPath : FuncId := 63
theorem v_I_isPath : VT 1 1 Tryd.f63 63 [0,2] [none] [(.give, 2, none)] c63 := mkV Tryd.func63 rfl rfl (by kernel_rfl) (by kernel_rfl) rfl rfl
def c65_0:= rg [Qad 2]
def c65_1:= rg [Qa 3 0,
Qal 4 25 3 25 3]
def c65_2:= rg [Qa 5 0,
⟨.loc 6, .lit 0 1 9 [.str []] [(0, (.const (.d (.str [])))), (1, (.const (.d (.str [65])))), (2, (.const (.d (.str [97, 47, 98])))), (3, (.const (.d (.str [97, 98, 99, 100, 101, 102, 103, 104, 105, 106, 107, 108, 109, 110, 111, 112])))), (4, (.const (.d (.str [97, 98, 99, 100, 101, 102, 103, 104, 105, 106, 107, 108, 109, 110, 111, 112, 113])))), (5, (.const (.d (.str [45])))), (6, (.const (.d (.str [97, 32, 98])))), (7, (.const (.d (.str [43, 97])))), (8, (.const (.d (.str [42, 42]))))], none, []⟩,
Qaf 7 54 5 6 3,
Qb 2 7]
def c65_3:= rg [Qa 8 0,
⟨.loc 9, .lit 0 1 7 [.str []] [(0, (.const (.d (.str [97])))), (1, (.const (.d (.str [98])))), (2, (.const (.d (.str [99])))), (3, (.const (.d (.str [107, 118])))), (4, (.const (.d (.str [100, 98])))), (5, (.const (.d (.str [120, 45, 49])))), (6, (.const (.d (.str [57]))))], none, []⟩,
Qaf 10 54 8 9 3,
Qb 2 10]
def c65 : ACode := (.seq c65_0 (.seq (.seq c65_1 (.cond (.var 4) (.seq c65_2 .ret) .skip)) (.seq c65_3 .ret)))
abbrev F_S_l01DrawSegment : FuncId := 65
theorem v_S_l01DrawSegment : VT 1 1 Tryd.f65 65 [0,2,4] [some (.box 3)] [(.give, 2, none)] c65 := mkV Tryd.func65 rfl rfl (by kernel_rfl) (by kernel_rfl) rfl rfl
def c67_0:= rg [Qf 4]
def c67_1:= rg [Qa 6 0,
⟨.var 7, .len true (.loc 6), none, []⟩,
Qe 8 0]
def c67_2:= rg [Qba 9 8 7]
def c67_3:= rg [Qa 10 8,
Qb 5 10]
def c67_4:= rg [Qa 11 1,
Qa 12 0,
Qa 13 5,
⟨.loc 14, .idxS (.loc 12) (.loc 13), none, []⟩,
⟨.loc 15, .call (.fn 77) [(.loc 11), (.loc 14)] [.borrow, .borrow], none, []⟩,
Qbg 16 15 0]
def c67_5:= rg [Qf 4]
def c67_6:= rg [Qbb 17 8 1,
Qb 8 17]
def c67_7 : ACode := (.seq c67_2 (.seq (.cond (.var 9) .skip (.exit 0)) (.seq (.block 1 (.seq c67_3 (.seq c67_4 (.cond (.var 16) (.seq c67_5 .ret) .skip)))) c67_6)))
def c67_8:= rg [Qaq 4]
def c67 : ACode := (.seq c67_0 (.seq (.seq c67_1 (.block 0 (.loop [0, 1, 7, 8] c67_7))) (.seq c67_8 .ret)))
abbrev F_I_onlyOf : FuncId := 67
theorem v_I_onlyOf : VT 2 1 Tryd.f67 67 [0,1,4,5,7,8,9,16] [none, none] [(.give, 4, none)] c67 := mkV Tryd.func67 rfl rfl (by kernel_rfl) (by kernel_rfl) rfl rfl
def c68_0:= rg [Qf 2]
def c68_1:= rg [Qa 6 0,
Qy 7 6,
⟨.var 8, .bin .int .gtr (.loc 7) (.const (.d (.int .i64 120))), none, []⟩]
def c68_2:= rg [Qf 2]
def c68_3:= rg [Qa 9 0,
⟨.loc 10, .call (.fn 78) [(.loc 9), (.const (.d (.str [47])))] [.borrow, .borrow], none, []⟩,
Qb 3 10]
def c68_4:= rg [⟨.var 11, .mv (.var 3), none, []⟩,
⟨.var 12, .len false (.var 11), none, []⟩,
Qe 13 0]
def c68_5:= rg [Qba 14 13 12]
def c68_6:= rg [Qa 15 13,
⟨.loc 16, .idxA 1 (.var 11) (.var 13), none, []⟩,
Qd 17 1 16,
Qb 4 15,
Qb 5 17]
def c68_7:= rg [Qa 18 5,
⟨.loc 19, .bin .str .eql (.loc 18) (.const (.d (.str [43]))), none, []⟩,
Qg 20 19,
Qs 21 5 20,
⟨.loc 22, .bin .str .eql (.loc 21) (.const (.d (.str [42]))), some ((.loc 20), false), []⟩,
⟨.loc 23, .split (.loc 22), some ((.loc 20), false), []⟩,
Qm 24 4 23,
Qm 25 3 23,
⟨.loc 26, .len false (.loc 25), some ((.loc 23), true), []⟩,
⟨.loc 27, .bin .int .sub (.loc 26) (.const (.d (.int .i64 1))), some ((.loc 23), true), []⟩,
⟨.loc 28, .bin .int .eql (.loc 24) (.loc 27), some ((.loc 23), true), []⟩,
⟨.loc 29, .pick (.loc 23) (.loc 28) (.const (.d (.bool false))), some ((.loc 20), false), []⟩,
Qaa 30 20 29]
def c68_8:= rg [Qa 31 5,
Qy 32 31,
Qam 33 61 32 1 16,
Qak 34 33,
Qg 35 34,
Qs 36 5 35,
⟨.loc 37, .call (.fn 67) [(.loc 36), (.const (.d (.str [97, 98, 99, 100, 101, 102, 103, 104, 105, 106, 107, 108, 109, 110, 111, 112, 113, 114, 115, 116, 117, 118, 119, 120, 121, 122, 48, 49, 50, 51, 52, 53, 54, 55, 56, 57, 45])))] [.borrow, .borrow], some ((.loc 35), false), []⟩,
Qar 38 37 35,
Qaa 39 35 38]
def c68_9:= rg [Qf 2]
def c68_10:= rg [Qbb 40 13 1,
Qb 13 40]
def c68_11 : ACode := (.seq c68_5 (.seq (.cond (.var 14) .skip (.exit 0)) (.seq (.block 1 (.seq c68_6 (.seq (.seq c68_7 (.cond (.var 30) (.exit 1) .skip)) (.seq c68_8 (.cond (.var 39) (.seq c68_9 .ret) .skip))))) c68_10)))
def c68_12:= rg [Qa 41 3,
Ql 42 41,
⟨.loc 43, .bin .int .leq (.loc 42) (.const (.d (.int .i64 8))), none, []⟩,
Qb 2 43]
def c68 : ACode := (.seq c68_0 (.seq (.seq c68_1 (.cond (.var 8) (.seq c68_2 .ret) .skip)) (.seq c68_3 (.seq (.seq c68_4 (.block 0 (.loop [3, 11, 12, 13] c68_11))) (.seq c68_12 .ret)))))
abbrev F_I_isGlob : FuncId := 68
theorem v_I_isGlob : VT 1 1 Tryd.f68 68 [0,2,3,4,5,8,11,12,13,14,30,39] [none] [(.give, 2, none)] c68 := mkV Tryd.func68 rfl rfl (by kernel_rfl) (by kernel_rfl) rfl rfl

end Go.Proofs.YtalclmngpfpkmaaDoor.Ab
