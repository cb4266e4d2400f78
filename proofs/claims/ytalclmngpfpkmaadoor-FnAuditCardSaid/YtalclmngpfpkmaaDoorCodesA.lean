/-
  A part of a proof about the given program; what is proved is said where each theorem stands.
-/
import Derived.Lib.LaidTab
import Derived.Lib.ItoaLen
import Derived.Shelf.Strconv.Itoa3
import Derived.KernelRfl
import Derived.Test.YtalclmngpfpkmaaDoorProg
import Derived.Test.YtalclmngpfpkmaaDoorFrameA
import Derived.Test.YtalclmngpfpkmaaDoorFrameB
import Derived.Test.YtalclmngpfpkmaaDoorFrameC
import Derived.Test.YtalclmngpfpkmaaDoorFrameD
import Derived.Test.YtalclmngpfpkmaaDoorFrameE
namespace Go.Proofs.YtalclmngpfpkmaaDoor.Ab
open Go.Proofs
noncomputable abbrev PP : Program := Tryd.prog
/-- The table of powers of ten that the library's number texts lean on. -/
def pow10Cells : Obj → Prop
  | .cells cs _ _ => cs = (Lib.pow10Tab.map fun z => Value.int .u64 z).toArray
  | _ => False
class P10 (GG : GV) : Prop where
  h : GG 0 = some pow10Cells
/-- An error variable: nil or an error. -/
def errCell : Obj → Prop
  | .cells cs _ _ => ∃ ev, cs[0]? = some ev ∧ (ev = .nilIface ∨ ∃ te pe, ev = .iface te pe)
  | _ => False
/-- A number variable. -/
def intCell : Obj → Prop
  | .cells cs _ _ => ∃ m : Int, cs[0]? = some (.int .i64 m)
  | _ => False
class MaxL (GG : GV) : Prop where
  h : GG 3 = some intCell
/-- What is asked of the code of a function. -/
abbrev WX (GG : GV) (vl : List Nat) (nt : Nat) (om : List (Option Mode)) (rs : List (Mode × Nat × Option (Bool × Nat))) (c : ACode) (rcs cs : List C) (os : List (Option C)) : Prop :=
  W PP vl (nt, pinOf 0 om) (Valid PP GG) c (entry cs) (Fin (Valid PP GG) rs om rcs os) (fun _ _ => False) (Fin (Valid PP GG) rs om rcs os)
/-- An operation without a guard. -/
abbrev o1 (d : Dst) (p : AOp) : AOper := ⟨d, p, none, []⟩
@[simp] theorem o1_is (d : Dst) (p : AOp) : o1 d p = ⟨d, p, none, []⟩ := id rfl
abbrev rg (l : List AOper) : ACode := .reg l false
abbrev VT (n m : Nat) (fn : Func) (f : FuncId) (vl : List Nat) (om : List (Option Mode)) (rs : List (Mode × Nat × Option (Bool × Nat))) (c : ACode) : Prop :=
  ∀ {GG : GV} (rcs : List C) {cs : List C} {r : C} {os : List (Option C)}, (cs.length == n && rcs.length == m) = true → retOf rcs = r → WX GG vl fn.ntmps om rs c rcs cs os → Valid PP GG f cs r os
theorem mkV {n m : Nat} {fn : Func} {f : FuncId} {vl : List Nat} {om : List (Option Mode)} {rs : List (Mode × Nat × Option (Bool × Nat))} {c : ACode} (hf : PP.funcs[f]? = some fn) (hb : fn.body.isSome = true) (hname : (fn.name == "runtime.NumGoroutine") = false) (hr : resOk PP fn.results.toList rs = true) (hcomp : comp PP (fn.ntmps, pinOf 0 om) vl (fn.body.getD .skip) = some c.erase)
    (hvl : ((List.range n).all vl.contains) = true) (hn : decide (n ≤ fn.ntmps ∧ om.length ≤ n ∧ m = rs.length) = true) : VT n m fn f vl om rs c :=
  fun {_} rcs {_ _ _} hN hret hW => fn_valid_n n m _ _ _ _ rcs hf hb hname hr hcomp hvl hn hN hret hW
abbrev Qa (n0 : Nat) (n1 : Nat) : AOper := ⟨.loc n0, .mv (.var n1), none, []⟩
abbrev Qb (n0 : Nat) (n1 : Nat) : AOper := ⟨.var n0, .mv (.loc n1), none, []⟩
abbrev Qc (n0 : Nat) (n1 : Nat) (n2 : Nat) : AOper := ⟨.loc n0, .fld n1 (.var n2), none, []⟩
abbrev Qd (n0 : Nat) (n1 : Nat) (n2 : Nat) : AOper := ⟨.loc n0, .load false n1 (.loc n2), none, []⟩
abbrev Qe (n0 : Nat) (n1 : Nat) (n2 : Nat) (n3 : List Nat) : AOper := ⟨.loc n0, .load false n1 (.loc n2), none, n3⟩
abbrev Qf (n0 : Nat) (n1 : Int) : AOper := ⟨.var n0, .mv (.const (.d (.int .i64 n1))), none, []⟩
abbrev Qg (n0 : Nat) (n1 : Nat) (n2 : Nat) : AOper := ⟨.loc n0, .load true n1 (.var n2), none, []⟩
abbrev Qh (n0 : Nat) : AOper := ⟨.var n0, .mv (.const (.d (.bool false))), none, []⟩
abbrev Qi (n0 : Nat) (n1 : Nat) : AOper := ⟨.loc n0, .split (.loc n1), none, []⟩
abbrev Qj (n0 : Nat) (n1 : Nat) : AOper := ⟨.loc n0, .len false (.loc n1), none, []⟩
abbrev Qk (n0 : Nat) (n1 : Nat) (n2 : Nat) : AOper := ⟨.none, .store n0 (.var n1) (.loc n2), none, []⟩
abbrev Ql (n0 : Nat) (n1 : Nat) (n2 : Int) : AOper := ⟨.loc n0, .bin .int .add (.loc n1) (.const (.d (.int .i64 n2))), none, []⟩
abbrev Qm (n0 : Nat) (n1 : Nat) (n2 : Nat) : AOper := ⟨.loc n0, .call (.fn n1) [(.loc n2)] [.borrow], none, []⟩
abbrev Qn (n0 : Nat) (n1 : Nat) (n2 : Nat) : AOper := ⟨.loc n0, .mv (.var n1), some ((.loc n2), true), []⟩
abbrev Qo (n0 : Nat) (n1 : Nat) : AOper := ⟨.var n0, .box (.var n1), none, []⟩
abbrev Qp (n0 : Nat) (n1 : Int) (n2 : Int) (n3 : Nat) (n4 : Nat) : AOper := ⟨.var n0, .alloc [.d (.int .i64 n1), .d (.int .i64 n2), .nil n3 n4], none, []⟩
abbrev Qq (n0 : Nat) (n1 : Nat) (n2 : Nat) : AOper := ⟨.none, .store n0 (.loc n1) (.loc n2), none, []⟩
abbrev Qr (n0 : Nat) (n1 : Nat) (n2 : Nat) (n3 : List Nat) : AOper := ⟨.loc n0, .call (.fn n1) [(.loc n2)] [.borrow], none, n3⟩
abbrev Qs (n0 : Nat) (n1 : Nat) (n2 : Nat) (n3 : Nat) (n4 : List Nat) : AOper := ⟨.loc n0, .idxA n1 (.loc n2) (.loc n3), none, n4⟩
abbrev Qt (n0 : Nat) (n1 : Nat) (n2 : Nat) (n3 : List Nat) : AOper := ⟨.loc n0, .fld n1 (.loc n2), none, n3⟩
abbrev Qu (n0 : Nat) (n1 : Nat) (n2 : Nat) (n3 : Nat) : AOper := ⟨.loc n0, .idxA n1 (.loc n2) (.loc n3), none, []⟩
abbrev Qv (n0 : Nat) (n1 : Nat) (n2 : Nat) (n3 : Nat) (n4 : List Nat) : AOper := ⟨.loc n0, .load false n1 (.loc n2), some ((.loc n3), false), n4⟩
abbrev Qw (n0 : Nat) (n1 : Nat) (n2 : Nat) : AOper := ⟨.loc n0, .pick (.loc n1) (.loc n2) (.const (.d (.bool false))), none, []⟩
abbrev Qx (n0 : Nat) (n1 : Nat) (n2 : Nat) : AOper := ⟨.var n0, .bin .int .lss (.loc n1) (.loc n2), none, []⟩
abbrev Qy (n0 : Nat) (n1 : Nat) (n2 : Nat) : AOper := ⟨.loc n0, .bin .int .add (.loc n1) (.loc n2), none, []⟩
abbrev Qz (n0 : Nat) (n1 : Nat) (n2 : Nat) : AOper := ⟨.loc n0, .fld n1 (.loc n2), none, []⟩
abbrev Qaa (n0 : Nat) (n1 : Nat) : AOper := ⟨.var n0, .un .not (.loc n1), none, []⟩
abbrev Qab (n0 : Nat) (n1 : Nat) (n2 : Nat) (n3 : Nat) (n4 : List Nat) : AOper := ⟨.loc n0, .fld n1 (.var n2), some ((.loc n3), false), n4⟩
abbrev Qac (n0 : Nat) (n1 : Nat) : AOper := ⟨.loc n0, .len true (.loc n1), none, []⟩
abbrev Qad (n0 : Nat) (n1 : Nat) (n2 : Int) : AOper := ⟨.loc n0, .bin .int .eql (.var n1) (.const (.d (.int .i64 n2))), none, []⟩
abbrev Qae (n0 : Nat) (n1 : Nat) (n2 : Nat) : AOper := ⟨.loc n0, .ext (.loc n1) n2, none, []⟩
abbrev Qaf (n0 : Nat) (n1 : Nat) (n2 : List Nat) : AOper := ⟨.var n0, .mv (.loc n1), none, n2⟩
abbrev Qag (n0 : Nat) (n1 : Nat) (n2 : Nat) (n3 : Int) (n4 : Nat) : AOper := ⟨.loc n0, .call (.fn n1) [(.loc n2), (.const (.d (.int .i64 n3)))] [.box n4, .borrow], none, []⟩
abbrev Qah (n0 : Nat) (n1 : Nat) (n2 : Nat) (n3 : Nat) : AOper := ⟨.loc n0, .load false n1 (.loc n2), some ((.loc n3), true), []⟩
abbrev Qai (n0 : Nat) (n1 : Nat) (n2 : Nat) (n3 : Nat) : AOper := ⟨.loc n0, .fld n1 (.var n2), some ((.loc n3), false), []⟩
abbrev Qaj (n0 : Nat) (n1 : Nat) (n2 : Nat) (n3 : Nat) : AOper := ⟨.loc n0, .load false n1 (.loc n2), some ((.loc n3), false), []⟩
abbrev Qak (n0 : Nat) (n1 : Nat) (n2 : Nat) (n3 : List Nat) : AOper := ⟨.none, .store n0 (.loc n1) (.loc n2), none, n3⟩
abbrev Qal (n0 : Nat) (n1 : Nat) (n2 : List Nat) : AOper := ⟨.loc n0, .split (.loc n1), none, n2⟩
abbrev Qam (n0 : Nat) (n1 : Nat) (n2 : Nat) (n3 : Nat) (n4 : Nat) : AOper := ⟨.loc n0, .call (.fn n1) [(.loc n2), (.loc n3)] [.box n4, .give], none, []⟩
abbrev Qan (n0 : Nat) : AOper := ⟨.var n0, .mv (.const (.d (.bool true))), none, []⟩
abbrev Qao (n0 : Nat) (n1 : Nat) (n2 : Nat) (n3 : Int) (n4 : Int) : AOper := ⟨.loc n0, .call (.fn n1) [(.loc n2), (.const (.d (.int .i64 n3))), (.const (.d (.int .i64 n4)))] [.borrow, .borrow, .borrow], none, []⟩
abbrev Qap (n0 : Nat) (n1 : Nat) (n2 : Nat) (n3 : Nat) : AOper := ⟨.loc n0, .call (.fn n1) [(.loc n2)] [.box n3], none, []⟩
abbrev Qaq (n0 : Nat) (n1 : Nat) (n2 : Nat) (n3 : Nat) : AOper := ⟨.loc n0, .fld n1 (.var n2), some ((.loc n3), true), []⟩
abbrev Qar (n0 : Nat) (n1 : Nat) (n2 : Int) : AOper := ⟨.loc n0, .bin .int .rem (.loc n1) (.const (.d (.int .i64 n2))), none, []⟩
abbrev Qas (n0 : Nat) (n1 : Int) (n2 : Int) (n3 : Int) (n4 : Int) (n5 : Int) : AOper := ⟨.var n0, .alloc [.d (.int .i64 n1), .d (.int .i64 n2), .d (.int .i64 n3), .d (.str []), .d (.str []), .d (.int .i64 n4), .d (.int .i64 n5)], none, []⟩
abbrev Qat (n0 : Nat) (n1 : Nat) (n2 : Nat) : AOper := ⟨.var n0, .pick (.loc n1) (.const (.d (.bool true))) (.loc n2), none, []⟩
abbrev Qau (n0 : Nat) (n1 : Nat) (n2 : Nat) (n3 : Nat) (n4 : List Nat) : AOper := ⟨.loc n0, .load false n1 (.loc n2), some ((.loc n3), true), n4⟩
abbrev Qav (n0 : Nat) (n1 : Nat) (n2 : Nat) : AOper := ⟨.loc n0, .un .not (.loc n1), some ((.loc n2), false), []⟩
abbrev Qaw (n0 : Nat) (n1 : Nat) (n2 : Int) : AOper := ⟨.loc n0, .bin .int .mul (.loc n1) (.const (.d (.int .i64 n2))), none, []⟩
abbrev Qax (n0 : Nat) (n1 : Nat) (n2 : Nat) (n3 : Int) (n4 : Nat) : AOper := ⟨.var n0, .call (.fn n1) [(.loc n2), (.const (.d (.int .i64 n3)))] [.box n4, .borrow], none, []⟩
abbrev Qay (n0 : Nat) (n1 : Nat) (n2 : Nat) : AOper := ⟨.loc n0, .mv (.var n1), some ((.loc n2), false), []⟩
abbrev Qaz (n0 : Nat) (n1 : Nat) (n2 : Nat) (n3 : Nat) : AOper := ⟨.loc n0, .call (.fn n1) [(.loc n2), (.loc n3)] [.borrow, .borrow], none, []⟩
abbrev Qba (n0 : Nat) (n1 : Nat) (n2 : List Nat) : AOper := ⟨.loc n0, .len false (.loc n1), none, n2⟩
abbrev Qbb (n0 : Nat) (n1 : Nat) : AOper := ⟨.loc n0, .conv .i64 (.loc n1), none, []⟩
abbrev Qbc (n0 : Nat) (n1 : Nat) (n2 : Int) : AOper := ⟨.var n0, .bin .int .gtr (.loc n1) (.const (.d (.int .i64 n2))), none, []⟩
abbrev Qbd (n0 : Nat) (n1 : Nat) (n2 : Nat) : AOper := ⟨.var n0, .pick (.loc n1) (.loc n2) (.const (.d (.bool false))), none, []⟩
abbrev Qbe (n0 : Nat) (n1 : Nat) (n2 : List Nat) : AOper := ⟨.loc n0, .bin .str .add (.loc n1) (.const (.d (.str [10]))), none, n2⟩
abbrev Qbf (n0 : Nat) (n1 : Nat) (n2 : Nat) (n3 : List Nat) : AOper := ⟨.loc n0, .bin .str .add (.loc n1) (.loc n2), none, n3⟩
abbrev Qbg (n0 : Nat) (n1 : Nat) (n2 : Nat) (n3 : Nat) (n4 : Nat) : AOper := ⟨.loc n0, .call (.fn n1) [(.loc n2), (.loc n3)] [.box n4, .borrow], none, []⟩
abbrev Qbh (n0 : Nat) (n1 : Int) (n2 : Nat) : AOper := ⟨.loc n0, .bin .int .mul (.const (.d (.int .i64 n1))) (.loc n2), none, []⟩
abbrev Qbi (n0 : Nat) (n1 : Nat) (n2 : List Nat) : AOper := ⟨.loc n0, .nchk (.loc n1), none, n2⟩
abbrev Qbj (n0 : Nat) (n1 : Nat) (n2 : Int) : AOper := ⟨.var n0, .bin .int .eql (.loc n1) (.const (.d (.int .i64 n2))), none, []⟩
abbrev Qbk (n0 : Nat) (n1 : Nat) (n2 : Int) (n3 : List Nat) : AOper := ⟨.loc n0, .bin .int .add (.loc n1) (.const (.d (.int .i64 n2))), none, n3⟩
abbrev Qbl (n0 : Nat) (n1 : Nat) (n2 : Nat) (n3 : List Nat) : AOper := ⟨.none, .store n0 (.var n1) (.loc n2), none, n3⟩
abbrev Qbm (n0 : Nat) (n1 : Nat) (n2 : Nat) (n3 : List Nat) : AOper := ⟨.loc n0, .load true n1 (.loc n2), none, n3⟩
abbrev Qbn (n0 : Nat) (n1 : Nat) (n2 : Nat) (n3 : Nat) (n4 : List Nat) : AOper := ⟨.loc n0, .fld n1 (.var n2), some ((.loc n3), true), n4⟩
abbrev Qbo (n0 : Nat) (n1 : Nat) (n2 : Nat) : AOper := ⟨.loc n0, .pick (.loc n1) (.const (.d (.bool true))) (.loc n2), none, []⟩
abbrev Qbp (n0 : Nat) (n1 : Nat) : AOper := ⟨.loc n0, .un .not (.loc n1), none, []⟩
abbrev Qbq (n0 : Nat) (n1 : Nat) (n2 : Nat) (n3 : Nat) (n4 : List Nat) : AOper := ⟨.loc n0, .call (.fn n1) [(.loc n2), (.loc n3)] [.borrow, .borrow], none, n4⟩
abbrev Qbr (n0 : Nat) (n1 : Nat) (n2 : Nat) (n3 : List Nat) : AOper := ⟨.loc n0, .pick (.loc n1) (.const (.d (.bool true))) (.loc n2), none, n3⟩
abbrev Qbs (n0 : Nat) (n1 : Int) (n2 : Nat) : AOper := ⟨.loc n0, .bin .int .add (.const (.d (.int .i64 n1))) (.loc n2), none, []⟩
abbrev Qbt (n0 : Nat) (n1 : Nat) (n2 : Nat) : AOper := ⟨.var n0, .bin .int .lss (.var n1) (.var n2), none, []⟩
abbrev Qbu (n0 : Nat) (n1 : Nat) (n2 : Int) : AOper := ⟨.loc n0, .bin .int .add (.var n1) (.const (.d (.int .i64 n2))), none, []⟩
abbrev Qbv (n0 : Nat) : AOper := ⟨.var n0, .mv (.const (.d (.str []))), none, []⟩
def c4_0:= rg [Qh 2]
def c4_1:= rg [Qa 18 0,
⟨.var 19, .call (.fn 5) [(.loc 18)] [.borrow], none, []⟩]
def c4_2:= rg [Qan 2]
def c4_3:= rg [Qa 20 0,
⟨.loc 21, .call (.fn 11) [(.loc 20), (.const (.d (.int .i64 0)))] [.borrow, .borrow], none, []⟩,
⟨.loc 22, .build [.d (.int .i64 0), .d (.int .i64 0), .nil 0 7] [(1, 1, (.loc 21))], none, []⟩,
Qp 3 0 0 0 7,
Qk 3 3 22]
def c4_4:= rg [Qa 23 0,
⟨.loc 24, .call (.fn 11) [(.loc 23), (.const (.d (.int .i64 1)))] [.borrow, .borrow], none, []⟩,
Qar 25 24 40,
Qb 4 25]
def c4_5:= rg [Qf 5 0]
def c4_6:= rg [Qa 26 5,
Qa 27 4,
Qx 28 26 27]
def c4_7:= rg [Qa 32 0,
Qa 33 5,
Qaz 34 13 32 33,
Qm 35 12 34,
⟨.loc 31, .mv (.loc 35), none, []⟩,
Qae 36 31 0,
Qae 37 31 1,
⟨.loc 6, .alloc [.d (.int .i64 0), .d (.int .i64 0), .nil 0 7], none, []⟩,
Qas 7 0 0 0 0 0,
Qq 3 6 36,
Qk 7 7 37]
def c4_8:= rg [Qa 38 5,
Qc 39 1 7,
Qq 1 39 38]
def c4_9:= rg [Qg 41 3 3,
Qg 42 7 7,
Qaz 43 14 41 42,
⟨.loc 40, .mv (.loc 43), none, []⟩,
Qae 44 40 0,
Qae 45 40 1,
Qp 8 0 0 0 7,
Qk 3 8 44,
Qb 9 45]
def c4_10:= rg [Qg 47 3 3,
Qg 48 7 7,
Qaz 49 15 47 48,
⟨.loc 46, .mv (.loc 49), none, []⟩,
Qae 50 46 0,
Qae 51 46 1,
Qp 10 0 0 0 7,
Qk 3 10 50,
Qb 11 51]
def c4_11:= rg [Qa 52 11,
Qa 53 9,
⟨.loc 54, .bin .bool .neq (.loc 52) (.loc 53), none, []⟩,
Qi 55 54,
Qai 56 2 10 55,
Qaj 57 1 56 55,
⟨.loc 58, .len false (.loc 57), some ((.loc 55), false), []⟩,
Qai 59 2 8 55,
Qaj 60 1 59 55,
⟨.loc 61, .len false (.loc 60), some ((.loc 55), false), []⟩,
⟨.loc 62, .bin .int .neq (.loc 58) (.loc 61), some ((.loc 55), false), []⟩,
Qat 63 55 62]
def c4_12:= rg [Qh 2]
def c4_13:= rg [Qg 64 3 10,
Qk 3 3 64]
def c4_14:= rg [Qa 29 5,
Ql 30 29 1,
Qb 5 30]
def c4_15 : ACode := (.seq (.seq c4_6 (.cond (.var 28) .skip (.exit 0))) (.seq (.block 1 (.seq c4_7 (.seq c4_8 (.seq c4_9 (.seq c4_10 (.seq (.seq c4_11 (.cond (.var 63) (.seq c4_12 .ret) .skip)) c4_13)))))) c4_14))
def c4_16 : ACode := .reg [Qg 65 3 3,
  Qr 66 16 65 [0],
  Qc 67 2 3,
  Qe 68 1 67 [2],
  Qba 69 68 [3,2],
  ⟨.var 70, .bin .int .neq (.loc 66) (.loc 69), none, [1, 0, 4, 3, 2]⟩] true
def c4_17:= rg [Qh 2]
def c4_18:= rg [Qc 71 2 3,
Qd 72 1 71,
Qj 73 72,
Qbj 74 73 0]
def c4_19 : ACode := .reg [Qg 75 3 3,
  Qr 76 17 75 [0],
  Qc 77 0 3,
  Qe 78 1 77 [2],
  ⟨.loc 79, .bin .int .eql (.loc 76) (.loc 78), none, [1, 0, 3, 2]⟩,
  Qaf 2 79 [4,1,0,3,2]] true
def c4_20 : ACode := .reg [Qa 80 0,
  ⟨.loc 81, .call (.fn 11) [(.loc 80), (.const (.d (.int .i64 2)))] [.borrow, .borrow], none, [0]⟩,
  Qc 82 2 3,
  Qe 83 1 82 [2],
  Qba 84 83 [3,2],
  Qbk 85 84 1 [4,3,2],
  ⟨.loc 86, .bin .int .rem (.loc 81) (.loc 85), none, [1, 0, 5, 4, 3, 2]⟩,
  Qaf 12 86 [6,1,0,5,4,3,2]] true
def c4_21 : ACode := .reg [Qc 87 0 3,
  Qe 88 1 87 [0],
  Qc 89 1 3,
  Qe 90 1 89 [2],
  Qc 91 2 3,
  Qe 92 1 91 [4],
  Qa 93 12,
  ⟨.loc 94, .sliceA 7 (.loc 92) none (some (.loc 93)), none, [5, 4, 6]⟩,
  ⟨.loc 95, .build [.d (.int .i64 0), .d (.int .i64 0), .nil 0 7] [(0, 1, (.loc 88)), (1, 1, (.loc 90)), (2, 1, (.loc 94))], none, [1, 0, 3, 2, 7, 5, 4, 6]⟩,
  Qp 13 0 0 0 7,
  Qbl 3 13 95 [8,1,0,3,2,7,5,4,6,9]] true
def c4_22 : ACode := .reg [Qg 96 3 13,
  Qr 97 17 96 [0],
  Qc 98 1 3,
  Qe 99 1 98 [2],
  Qc 100 2 3,
  Qe 101 1 100 [4],
  Qa 102 12,
  ⟨.loc 103, .sliceA 7 (.loc 101) (some (.loc 102)) none, none, [5, 4, 6]⟩,
  ⟨.loc 104, .build [.d (.int .i64 0), .d (.int .i64 0), .nil 0 7] [(0, 1, (.loc 97)), (1, 1, (.loc 99)), (2, 1, (.loc 103))], none, [1, 0, 3, 2, 7, 5, 4, 6]⟩,
  Qp 14 0 0 0 7,
  Qbl 3 14 104 [8,1,0,3,2,7,5,4,6,9]] true
def c4_23:= rg [Qg 105 3 13,
Qg 106 3 14,
Qaz 107 18 105 106,
Qaa 108 107]
def c4_24:= rg [Qh 2]
def c4_25:= rg [Qc 109 0 3,
Qd 110 1 109,
Qc 111 1 3,
Qd 112 1 111,
⟨.loc 113, .build [.d (.int .i64 0), .d (.int .i64 0), .nil 0 7] [(0, 1, (.loc 110)), (1, 1, (.loc 112))], none, []⟩,
Qp 15 0 0 0 7,
Qk 3 15 113]
def c4_26:= rg [Qf 16 0]
def c4_27:= rg [Qa 114 16,
Qc 115 2 3,
Qd 116 1 115,
Qj 117 116,
Qx 118 114 117]
def c4_28 : ACode := .reg [Qc 121 2 15,
  Qe 122 1 121 [0],
  Qc 123 2 3,
  Qe 124 1 123 [2],
  Qa 125 16,
  Qs 126 7 124 125 [3,2,4],
  Qbm 127 7 126 [5,3,2,4],
  ⟨.loc 128, .lit 0 7 1 [.int .i64 0, .int .i64 0, .int .i64 0, .str [], .str [], .int .i64 0, .int .i64 0] [(0, (.loc 127))], none, [6, 5, 3, 2, 4]⟩,
  ⟨.loc 129, .app 7 72 (.loc 122) (.loc 128), none, [1, 0, 7, 6, 5, 3, 2, 4]⟩,
  ⟨.loc 130, .fld 2 (.var 15), none, [8, 1, 0, 7, 6, 5, 3, 2, 4]⟩,
  Qak 1 130 129 [9,8,1,0,7,6,5,3,2,4]] true
def c4_29:= rg [Qa 119 16,
Ql 120 119 1,
Qb 16 120]
def c4_30 : ACode := (.seq (.seq c4_27 (.cond (.var 118) .skip (.exit 2))) (.seq (.block 3 c4_28) c4_29))
def c4_31 : ACode := .reg [Qa 131 0,
  ⟨.loc 132, .call (.fn 11) [(.loc 131), (.const (.d (.int .i64 3)))] [.borrow, .borrow], none, [0]⟩,
  Qc 133 2 15,
  Qe 134 1 133 [2],
  Qba 135 134 [3,2],
  ⟨.loc 136, .bin .int .rem (.loc 132) (.loc 135), none, [1, 0, 4, 3, 2]⟩,
  Qaf 17 136 [5,1,0,4,3,2]] true
def c4_32 : ACode := .reg [Qc 137 2 15,
  Qe 138 1 137 [0],
  Qa 139 17,
  Qc 140 2 15,
  Qe 141 1 140 [3],
  Qa 142 17,
  Qs 143 7 141 142 [4,3,5],
  Qt 144 5 143 [6,4,3,5],
  Qe 145 1 144 [7,6,4,3,5],
  Qbk 146 145 1 [8,7,6,4,3,5],
  ⟨.loc 147, .bin .int .rem (.loc 146) (.const (.d (.int .i64 100))), none, [9, 8, 7, 6, 4, 3, 5]⟩,
  Qs 148 7 138 139 [1,0,2,10,9,8,7,6,4,3,5],
  Qt 149 5 148 [11,1,0,2,10,9,8,7,6,4,3,5],
  Qak 1 149 147 [12,11,1,0,2,10,9,8,7,6,4,3,5]] true
def c4_33 : ACode := .reg [Qc 150 2 15,
  Qe 151 1 150 [0],
  Qa 152 17,
  Qs 153 7 151 152 [1,0,2],
  Qbm 154 7 153 [3,1,0,2],
  ⟨.loc 155, .call (.fn 19) [(.const (.d (.int .i64 0))), (.loc 154)] [.borrow, .borrow], none, [4, 3, 1, 0, 2]⟩,
  Qc 156 2 3,
  Qe 157 1 156 [6],
  Qa 158 17,
  Qs 159 7 157 158 [7,6,8],
  Qbm 160 7 159 [9,7,6,8],
  ⟨.loc 161, .call (.fn 19) [(.const (.d (.int .i64 0))), (.loc 160)] [.borrow, .borrow], none, [10, 9, 7, 6, 8, 5, 4, 3, 1, 0, 2]⟩,
  ⟨.var 162, .bin .int .eql (.loc 155) (.loc 161), none, [11, 10, 9, 7, 6, 8, 5, 4, 3, 1, 0, 2]⟩] true
def c4_34:= rg [Qan 2]
def c4_35 : ACode := .reg [Qg 163 3 15,
  Qr 164 16 163 [0],
  Qg 165 3 15,
  Qr 166 20 165 [2,1,0],
  ⟨.loc 167, .bin .int .eql (.loc 164) (.loc 166), none, [3, 2, 1, 0]⟩,
  Qal 168 167 [4,3,2,1,0],
  ⟨.loc 169, .load true 3 (.var 15), some ((.loc 168), true), [5, 4, 3, 2, 1, 0]⟩,
  ⟨.loc 170, .call (.fn 16) [(.loc 169)] [.borrow], some ((.loc 168), true), [6, 5, 4, 3, 2, 1, 0]⟩,
  Qbn 171 2 15 168 [5,4,3,2,1,0],
  Qau 172 1 171 168 [8,5,4,3,2,1,0],
  ⟨.loc 173, .len false (.loc 172), some ((.loc 168), true), [9, 8, 5, 4, 3, 2, 1, 0]⟩,
  ⟨.loc 174, .bin .int .leq (.loc 170) (.loc 173), some ((.loc 168), true), [7, 6, 10, 9, 8, 5, 4, 3, 2, 1, 0]⟩,
  ⟨.loc 175, .pick (.loc 168) (.loc 174) (.const (.d (.bool false))), none, [11, 7, 6, 10, 9, 8, 5, 4, 3, 2, 1, 0]⟩,
  Qaf 2 175 [12,11,7,6,10,9,8,5,4,3,2,1,0]] true
def c4 : ACode := (.seq c4_0 (.seq (.seq c4_1 (.cond (.var 19) (.seq c4_2 .ret) .skip)) (.seq c4_3 (.seq c4_4 (.seq (.seq c4_5 (.block 0 (.loop [0, 3, 4, 5] c4_15))) (.seq (.seq c4_16 (.cond (.var 70) (.seq c4_17 .ret) .skip)) (.seq (.seq c4_18 (.cond (.var 74) (.seq c4_19 .ret) .skip)) (.seq c4_20 (.seq c4_21 (.seq c4_22 (.seq (.seq c4_23 (.cond (.var 108) (.seq c4_24 .ret) .skip)) (.seq c4_25 (.seq (.seq c4_26 (.block 2 (.loop [0, 3, 15, 16] c4_30))) (.seq c4_31 (.seq c4_32 (.seq (.seq c4_33 (.cond (.var 162) (.seq c4_34 .ret) .skip)) (.seq c4_35 .ret)))))))))))))))))
abbrev F_L_FnAudit : FuncId := 4
theorem v_L_FnAudit : VT 1 1 Tryd.f4 4 [0,2,3,4,5,7,8,9,10,11,12,13,14,15,16,17,19,28,63,70,74,108,118,162] [none] [(.give, 2, none)] c4 := mkV Tryd.func4 rfl rfl (by kernel_rfl) (by kernel_rfl) rfl rfl
def c5_0:= rg [Qh 2]
def c5_1:= rg [Qa 3 0,
Qj 4 3,
⟨.loc 5, .bin .int .gtr (.loc 4) (.const (.d (.int .i64 1048576))), none, []⟩,
Qb 2 5]
def c5 : ACode := (.seq c5_0 (.seq c5_1 .ret))
abbrev F_L_big : FuncId := 5
theorem v_L_big : VT 1 1 Tryd.f5 5 [0,2] [none] [(.give, 2, none)] c5 := mkV Tryd.func5 rfl rfl (by kernel_rfl) (by kernel_rfl) rfl rfl
def c7_0:= rg [Qo 1 0,
Qh 2]
def c7_1:= rg [Qc 5 0 1,
Qd 6 1 5,
⟨.loc 7, .bin .int .lss (.loc 6) (.const (.d (.int .i64 0))), none, []⟩,
Qi 8 7,
Qai 9 1 1 8,
Qaj 10 1 9 8,
⟨.loc 11, .call (.fn 26) [(.loc 10)] [.borrow], some ((.loc 8), false), []⟩,
Qav 12 11 8,
Qbo 13 8 12,
Qi 14 13,
Qai 15 2 1 14,
Qaj 16 1 15 14,
⟨.loc 17, .len false (.loc 16), some ((.loc 14), false), []⟩,
⟨.loc 18, .bin .int .gtr (.loc 17) (.const (.d (.int .i64 120))), some ((.loc 14), false), []⟩,
Qat 19 14 18]
def c7_2:= rg [Qh 2]
def c7_3:= rg [Qf 3 0]
def c7_4:= rg [Qa 20 3,
Qc 21 2 1,
Qd 22 1 21,
Qj 23 22,
Qx 24 20 23]
def c7_5:= rg [Qc 27 2 1,
Qd 28 1 27,
Qa 29 3,
Qu 30 7 28 29,
⟨.loc 31, .load true 7 (.loc 30), none, []⟩,
Qas 4 0 0 0 0 0,
Qk 7 4 31]
def c7_6:= rg [Qc 32 0 4,
Qd 33 1 32,
Qao 34 27 33 1 1000000000,
Qbp 35 34,
Qi 36 35,
Qai 37 1 4 36,
Qaj 38 1 37 36,
⟨.loc 39, .call (.fn 27) [(.loc 38), (.const (.d (.int .i64 0))), (.const (.d (.int .i64 1000000000)))] [.borrow, .borrow, .borrow], some ((.loc 36), false), []⟩,
Qav 40 39 36,
Qbo 41 36 40,
Qi 42 41,
Qai 43 2 4 42,
Qaj 44 1 43 42,
⟨.loc 45, .call (.fn 27) [(.loc 44), (.const (.d (.int .i64 0))), (.const (.d (.int .i64 1000000000)))] [.borrow, .borrow, .borrow], some ((.loc 42), false), []⟩,
Qav 46 45 42,
Qbo 47 42 46,
Qi 48 47,
Qai 49 3 4 48,
Qaj 50 1 49 48,
⟨.loc 51, .call (.fn 28) [(.loc 50)] [.borrow], some ((.loc 48), false), []⟩,
Qav 52 51 48,
Qbo 53 48 52,
Qi 54 53,
Qai 55 4 4 54,
Qaj 56 1 55 54,
⟨.loc 57, .call (.fn 29) [(.loc 56)] [.borrow], some ((.loc 54), false), []⟩,
Qav 58 57 54,
Qbo 59 54 58,
Qi 60 59,
Qai 61 5 4 60,
Qaj 62 1 61 60,
⟨.loc 63, .call (.fn 27) [(.loc 62), (.const (.d (.int .i64 0))), (.const (.d (.int .i64 99)))] [.borrow, .borrow, .borrow], some ((.loc 60), false), []⟩,
Qav 64 63 60,
Qat 65 60 64]
def c7_7:= rg [Qh 2]
def c7_8 : ACode := .reg [Qa 66 3,
  ⟨.loc 67, .bin .int .gtr (.loc 66) (.const (.d (.int .i64 0))), none, [0]⟩,
  Qal 68 67 [1,0],
  Qbn 69 0 4 68 [2,1,0],
  Qau 70 1 69 68 [3,2,1,0],
  Qbn 71 2 1 68 [2,1,0],
  Qau 72 1 71 68 [5,2,1,0],
  ⟨.loc 73, .mv (.var 3), some ((.loc 68), true), [2, 1, 0]⟩,
  ⟨.loc 74, .bin .int .sub (.loc 73) (.const (.d (.int .i64 1))), some ((.loc 68), true), [7, 2, 1, 0]⟩,
  ⟨.loc 75, .idxA 7 (.loc 72) (.loc 74), some ((.loc 68), true), [6, 5, 8, 7, 2, 1, 0]⟩,
  ⟨.loc 76, .fld 0 (.loc 75), some ((.loc 68), true), [9, 6, 5, 8, 7, 2, 1, 0]⟩,
  Qau 77 1 76 68 [10,9,6,5,8,7,2,1,0],
  ⟨.loc 78, .bin .int .add (.loc 77) (.const (.d (.int .i64 1))), some ((.loc 68), true), [11, 10, 9, 6, 5, 8, 7, 2, 1, 0]⟩,
  ⟨.loc 79, .bin .int .neq (.loc 70) (.loc 78), some ((.loc 68), true), [4, 3, 12, 11, 10, 9, 6, 5, 8, 7, 2, 1, 0]⟩,
  ⟨.loc 80, .split (.loc 79), some ((.loc 68), true), [13, 4, 3, 12, 11, 10, 9, 6, 5, 8, 7, 2, 1, 0]⟩,
  Qab 81 1 4 80 [14,13,4,3,12,11,10,9,6,5,8,7,2,1,0],
  Qv 82 1 81 80 [15,14,13,4,3,12,11,10,9,6,5,8,7,2,1,0],
  Qab 83 2 1 80 [14,13,4,3,12,11,10,9,6,5,8,7,2,1,0],
  Qv 84 1 83 80 [17,14,13,4,3,12,11,10,9,6,5,8,7,2,1,0],
  ⟨.loc 85, .mv (.var 3), some ((.loc 80), false), [14, 13, 4, 3, 12, 11, 10, 9, 6, 5, 8, 7, 2, 1, 0]⟩,
  ⟨.loc 86, .bin .int .sub (.loc 85) (.const (.d (.int .i64 1))), some ((.loc 80), false), [19, 14, 13, 4, 3, 12, 11, 10, 9, 6, 5, 8, 7, 2, 1, 0]⟩,
  ⟨.loc 87, .idxA 7 (.loc 84) (.loc 86), some ((.loc 80), false), [18, 17, 20, 19, 14, 13, 4, 3, 12, 11, 10, 9, 6, 5, 8, 7, 2, 1, 0]⟩,
  ⟨.loc 88, .fld 1 (.loc 87), some ((.loc 80), false), [21, 18, 17, 20, 19, 14, 13, 4, 3, 12, 11, 10, 9, 6, 5, 8, 7, 2, 1, 0]⟩,
  Qv 89 1 88 80 [22,21,18,17,20,19,14,13,4,3,12,11,10,9,6,5,8,7,2,1,0],
  ⟨.loc 90, .bin .int .lss (.loc 82) (.loc 89), some ((.loc 80), false), [16, 15, 23, 22, 21, 18, 17, 20, 19, 14, 13, 4, 3, 12, 11, 10, 9, 6, 5, 8, 7, 2, 1, 0]⟩,
  ⟨.loc 91, .pick (.loc 80) (.const (.d (.bool true))) (.loc 90), some ((.loc 68), true), [24, 16, 15, 23, 22, 21, 18, 17, 20, 19, 14, 13, 4, 3, 12, 11, 10, 9, 6, 5, 8, 7, 2, 1, 0]⟩,
  ⟨.var 92, .pick (.loc 68) (.loc 91) (.const (.d (.bool false))), none, [25, 24, 16, 15, 23, 22, 21, 18, 17, 20, 19, 14, 13, 4, 3, 12, 11, 10, 9, 6, 5, 8, 7, 2, 1, 0]⟩] true
def c7_9:= rg [Qh 2]
def c7_10:= rg [Qa 25 3,
Ql 26 25 1,
Qb 3 26]
def c7_11 : ACode := (.seq (.seq c7_4 (.cond (.var 24) .skip (.exit 0))) (.seq (.block 1 (.seq c7_5 (.seq (.seq c7_6 (.cond (.var 65) (.seq c7_7 .ret) .skip)) (.seq c7_8 (.cond (.var 92) (.seq c7_9 .ret) .skip))))) c7_10))
def c7_12:= rg [Qan 2]
def c7 : ACode := (.seq c7_0 (.seq (.seq c7_1 (.cond (.var 19) (.seq c7_2 .ret) .skip)) (.seq (.seq c7_3 (.block 0 (.loop [1, 3] c7_11))) (.seq c7_12 .ret))))
abbrev F_S_ChainOk : FuncId := 7
theorem v_S_ChainOk : VT 1 1 Tryd.f7 7 [0,1,2,3,4,19,24,65,92] [none] [(.give, 2, none)] c7 := mkV Tryd.func7 rfl rfl (by kernel_rfl) (by kernel_rfl) rfl rfl
def c11_0:= rg [Qf 4 0]
def c11_1:= rg [Qa 5 1,
Qa 6 0,
Qj 7 6,
Qx 8 5 7]
def c11_2:= rg [Qa 9 0,
Qa 10 1,
Qu 11 1 9 10,
Qd 12 1 11,
Qbb 13 12,
Qb 4 13]
def c11_3:= rg [Qa 14 1,
Qaw 15 14 13,
Qa 16 0,
Qj 17 16,
Qaw 18 17 5,
Qy 19 15 18,
Qar 20 19 256,
Qb 4 20]
def c11 : ACode := (.seq c11_0 (.seq (.seq c11_1 (.cond (.var 8) (.seq c11_2 .ret) .skip)) (.seq c11_3 .ret)))
abbrev F_L_at : FuncId := 11
theorem v_L_at : VT 2 1 Tryd.f11 11 [0,1,4,8] [none, none] [(.give, 4, none)] c11 := mkV Tryd.func11 rfl rfl (by kernel_rfl) (by kernel_rfl) rfl rfl
def c12_0:= rg [Qp 2 0 0 0 7,
Qas 3 0 0 0 0 0]
def c12_1:= rg [Qa 8 0,
Qm 9 21 8,
⟨.loc 7, .mv (.loc 9), none, []⟩,
Qae 10 7 0,
Qae 11 7 1,
Qp 5 0 0 0 7,
Qb 4 10,
Qk 3 5 11]
def c12_2:= rg [Qf 6 0]
def c12_3:= rg [Qc 12 2 5,
Qd 13 1 12,
Qj 14 13,
Qbc 15 14 0]
def c12_4 : ACode := .reg [Qc 16 2 5,
  Qe 17 1 16 [0],
  Qc 18 2 5,
  Qe 19 1 18 [2],
  Qba 20 19 [3,2],
  ⟨.loc 21, .bin .int .sub (.loc 20) (.const (.d (.int .i64 1))), none, [4, 3, 2]⟩,
  Qs 22 7 17 21 [1,0,5,4,3,2],
  Qt 23 1 22 [6,1,0,5,4,3,2],
  Qe 24 1 23 [7,6,1,0,5,4,3,2],
  Qa 25 4,
  ⟨.loc 26, .call (.fn 23) [(.loc 25), (.const (.d (.int .i64 3)))] [.box 3, .borrow], none, [9]⟩,
  ⟨.loc 27, .bin .int .add (.loc 24) (.loc 26), none, [8, 7, 6, 1, 0, 5, 4, 3, 2, 10, 9]⟩,
  Qaf 6 27 [11,8,7,6,1,0,5,4,3,2,10,9]] true
def c12_5 : ACode := .reg [Qg 28 3 5,
  Qa 29 4,
  Qa 30 6,
  ⟨.loc 31, .call (.fn 38) [(.loc 29), (.loc 30)] [.box 3, .borrow], none, [1, 2]⟩,
  Qbl 3 2 28 [3,1,2,0],
  Qbl 7 3 31 [4,3,1,2,0]] true
def c12 : ACode := (.seq c12_0 (.seq c12_1 (.seq c12_2 (.seq (.seq c12_3 (.cond (.var 15) c12_4 .skip)) (.seq c12_5 .ret)))))
abbrev F_S_DrawAddNote : FuncId := 12
theorem v_S_DrawAddNote : VT 1 2 Tryd.f12 12 [0,2,3,4,5,6,15] [none] [(.give, 2, some (true, 3)), (.give, 3, some (true, 7))] c12 := mkV Tryd.func12 rfl rfl (by kernel_rfl) (by kernel_rfl) rfl rfl
def c13_0:= rg [⟨.var 4, .mv (.const (.nil 0 1)), none, []⟩]
def c13_1:= rg [Qa 7 1,
⟨.loc 8, .conv .u8 (.loc 7), none, []⟩,
⟨.loc 9, .lit 0 1 1 [.int .u8 0] [(0, (.loc 8))], none, []⟩,
Qb 5 9]
def c13_2:= rg [Qf 6 0]
def c13_3:= rg [Qa 10 6,
Qa 11 0,
Qj 12 11,
⟨.loc 13, .bin .int .lss (.loc 10) (.loc 12), none, []⟩,
Qi 14 13,
Qn 15 6 14,
⟨.loc 16, .bin .int .lss (.loc 15) (.const (.d (.int .i64 3000))), some ((.loc 14), true), []⟩,
Qbd 17 14 16]
def c13_4:= rg [Qa 20 5,
Qa 21 0,
Qa 22 6,
Qu 23 1 21 22,
Qd 24 1 23,
⟨.loc 25, .lit 0 1 1 [.int .u8 0] [(0, (.loc 24))], none, []⟩,
⟨.loc 26, .app 1 1 (.loc 20) (.loc 25), none, []⟩,
Qb 5 26]
def c13_5:= rg [Qa 18 6,
Ql 19 18 1,
Qb 6 19]
def c13_6 : ACode := (.seq (.seq c13_3 (.cond (.var 17) .skip (.exit 0))) (.seq (.block 1 c13_4) c13_5))
def c13_7:= rg [Qa 27 5,
Qb 4 27]
def c13 : ACode := (.seq c13_0 (.seq c13_1 (.seq (.seq c13_2 (.block 0 (.loop [0, 5, 6] c13_6))) (.seq c13_7 .ret))))
abbrev F_L_alt : FuncId := 13
theorem v_L_alt : VT 2 1 Tryd.f13 13 [0,1,4,5,6,17] [none, none] [(.give, 4, none)] c13 := mkV Tryd.func13 rfl rfl (by kernel_rfl) (by kernel_rfl) rfl rfl
def c14_0:= rg [Qo 2 0,
Qo 3 1,
Qp 4 0 0 0 7,
Qh 5]
def c14_1:= rg [Qg 8 3 2,
Qm 9 39 8,
Qp 6 0 0 0 7,
Qk 3 6 9]
def c14_2:= rg [Qg 10 3 2,
Qm 11 7 10,
Qaa 12 11]
def c14_3:= rg [Qg 13 3 6,
Qk 3 4 13,
Qh 5]
def c14_4:= rg [Qc 14 0 3,
⟨.none, .store 1 (.loc 14) (.const (.d (.int .i64 1))), none, []⟩]
def c14_5:= rg [Qc 15 2 2,
Qd 16 1 15,
Qj 17 16,
Qb 7 17]
def c14_6:= rg [Qa 18 7,
Qbc 19 18 0]
def c14_7:= rg [Qc 20 2 2,
Qd 21 1 20,
Qa 22 7,
⟨.loc 23, .bin .int .sub (.loc 22) (.const (.d (.int .i64 1))), none, []⟩,
Qu 24 7 21 23,
Qz 25 0 24,
Qd 26 1 25,
Ql 27 26 1,
Qc 28 0 3,
Qq 1 28 27]
def c14_8 : ACode := .reg [Qg 29 3 2,
  Qr 30 40 29 [0],
  Qg 31 7 3,
  Qbq 32 19 30 31 [2,1,0],
  ⟨.loc 33, .fld 6 (.var 3), none, [3, 2, 1, 0]⟩,
  Qak 1 33 32 [4,3,2,1,0]] true
def c14_9:= rg [Qc 34 2 6,
Qd 35 1 34,
Qg 36 7 3,
⟨.loc 37, .lit 0 7 1 [.int .i64 0, .int .i64 0, .int .i64 0, .str [], .str [], .int .i64 0, .int .i64 0] [(0, (.loc 36))], none, []⟩,
⟨.loc 38, .app 7 72 (.loc 35) (.loc 37), none, []⟩,
Qc 39 2 6,
Qq 1 39 38]
def c14_10:= rg [Qc 40 2 6,
Qd 41 1 40,
Qj 42 41,
Qbc 43 42 120]
def c14_11:= rg [Qc 44 2 6,
Qd 45 1 44,
⟨.loc 46, .idxA 7 (.loc 45) (.const (.d (.int .i64 0))), none, []⟩,
Qz 47 6 46,
Qd 48 1 47,
Qc 49 0 6,
Qq 1 49 48]
def c14_12:= rg [Qc 50 2 6,
Qd 51 1 50,
⟨.loc 52, .sliceA 7 (.loc 51) (some (.const (.d (.int .i64 1)))) none, none, []⟩,
Qc 53 2 6,
Qq 1 53 52]
def c14_13:= rg [Qg 54 3 6,
Qm 55 7 54,
Qaa 56 55]
def c14_14:= rg [Qg 57 3 2,
Qm 58 39 57,
Qk 3 4 58,
Qh 5]
def c14_15:= rg [Qg 59 3 6,
Qk 3 4 59,
Qan 5]
def c14 : ACode := (.seq c14_0 (.seq c14_1 (.seq (.seq c14_2 (.cond (.var 12) (.seq c14_3 .ret) .skip)) (.seq c14_4 (.seq (.seq c14_5 (.seq c14_6 (.cond (.var 19) c14_7 .skip))) (.seq c14_8 (.seq c14_9 (.seq (.seq c14_10 (.cond (.var 43) (.seq c14_11 c14_12) .skip)) (.seq (.seq c14_13 (.cond (.var 56) (.seq c14_14 .ret) .skip)) (.seq c14_15 .ret))))))))))
abbrev F_S_AddNote : FuncId := 14
theorem v_S_AddNote : VT 2 2 Tryd.f14 14 [0,1,2,3,4,5,6,7,12,19,43,56] [none, none] [(.give, 4, some (true, 3)), (.give, 5, none)] c14 := mkV Tryd.func14 rfl rfl (by kernel_rfl) (by kernel_rfl) rfl rfl
def c15_0:= rg [Qo 2 0,
Qo 3 1,
Qp 4 0 0 0 7,
Qh 5]
def c15_1:= rg [Qg 6 3 2,
Qm 7 30 6,
Qaa 8 7]
def c15_2:= rg [Qg 9 3 2,
Qm 10 41 9,
Qk 3 4 10,
Qh 5]
def c15_3:= rg [Qg 11 3 2,
Qg 12 7 3,
Qaz 13 42 11 12,
Qae 14 13 0,
Qae 15 13 1,
Qk 3 4 14,
Qb 5 15]
def c15 : ACode := (.seq c15_0 (.seq (.seq c15_1 (.cond (.var 8) (.seq c15_2 .ret) .skip)) (.seq c15_3 .ret)))
abbrev F_I_AddNote : FuncId := 15
theorem v_I_AddNote : VT 2 2 Tryd.f15 15 [0,1,2,3,4,5,8] [none, none] [(.give, 4, some (true, 3)), (.give, 5, none)] c15 := mkV Tryd.func15 rfl rfl (by kernel_rfl) (by kernel_rfl) rfl rfl
def c16_0:= rg [Qo 1 0,
Qf 2 0]
def c16_1:= rg [Qg 3 3 1,
Qm 4 30 3,
Qaa 5 4]
def c16_2:= rg [Qf 2 (-1)]
def c16_3:= rg [Qg 6 3 1,
Qm 7 43 6,
Qb 2 7]
def c16 : ACode := (.seq c16_0 (.seq (.seq c16_1 (.cond (.var 5) (.seq c16_2 .ret) .skip)) (.seq c16_3 .ret)))
abbrev F_I_BreakOf : FuncId := 16
theorem v_I_BreakOf : VT 1 1 Tryd.f16 16 [0,1,2,5] [none] [(.give, 2, none)] c16 := mkV Tryd.func16 rfl rfl (by kernel_rfl) (by kernel_rfl) rfl rfl
def c17_0:= rg [Qo 1 0,
Qf 2 0]
def c17_1:= rg [Qg 3 3 1,
Qm 4 30 3,
Qaa 5 4]
def c17_2:= rg [Qf 2 (-1)]
def c17_3:= rg [Qg 6 3 1,
Qm 7 44 6,
Qb 2 7]
def c17 : ACode := (.seq c17_0 (.seq (.seq c17_1 (.cond (.var 5) (.seq c17_2 .ret) .skip)) (.seq c17_3 .ret)))
abbrev F_I_HeadOf : FuncId := 17
theorem v_I_HeadOf : VT 1 1 Tryd.f17 17 [0,1,2,5] [none] [(.give, 2, none)] c17 := mkV Tryd.func17 rfl rfl (by kernel_rfl) (by kernel_rfl) rfl rfl
def c18_0:= rg [Qo 2 0,
Qo 3 1,
Qh 4]
def c18_1 : ACode := .reg [Qg 5 3 2,
  Qr 6 30 5 [0],
  ⟨.loc 7, .un .not (.loc 6), none, [1, 0]⟩,
  Qal 8 7 [2,1,0],
  ⟨.loc 9, .load true 3 (.var 3), some ((.loc 8), false), [3, 2, 1, 0]⟩,
  ⟨.loc 10, .call (.fn 30) [(.loc 9)] [.borrow], some ((.loc 8), false), [4, 3, 2, 1, 0]⟩,
  ⟨.loc 11, .un .not (.loc 10), some ((.loc 8), false), [5, 4, 3, 2, 1, 0]⟩,
  Qbr 12 8 11 [6,5,4,3,2,1,0],
  Qal 13 12 [7,6,5,4,3,2,1,0],
  ⟨.loc 14, .load true 3 (.var 2), some ((.loc 13), false), [8, 7, 6, 5, 4, 3, 2, 1, 0]⟩,
  ⟨.loc 15, .call (.fn 43) [(.loc 14)] [.borrow], some ((.loc 13), false), [9, 8, 7, 6, 5, 4, 3, 2, 1, 0]⟩,
  Qab 16 2 2 13 [8,7,6,5,4,3,2,1,0],
  Qv 17 1 16 13 [11,8,7,6,5,4,3,2,1,0],
  ⟨.loc 18, .len false (.loc 17), some ((.loc 13), false), [12, 11, 8, 7, 6, 5, 4, 3, 2, 1, 0]⟩,
  ⟨.loc 19, .bin .int .lss (.loc 15) (.loc 18), some ((.loc 13), false), [10, 9, 13, 12, 11, 8, 7, 6, 5, 4, 3, 2, 1, 0]⟩,
  Qbr 20 13 19 [14,10,9,13,12,11,8,7,6,5,4,3,2,1,0],
  Qal 21 20 [15,14,13,12,11,10,9,8,7,6,5,4,3,2,1,0],
  ⟨.loc 22, .load true 3 (.var 3), some ((.loc 21), false), [16, 15, 14, 13, 12, 11, 10, 9, 8, 7, 6, 5, 4, 3, 2, 1, 0]⟩,
  ⟨.loc 23, .call (.fn 43) [(.loc 22)] [.borrow], some ((.loc 21), false), [17, 16, 15, 14, 13, 12, 11, 10, 9, 8, 7, 6, 5, 4, 3, 2, 1, 0]⟩,
  Qab 24 2 3 21 [16,15,14,13,12,11,10,9,8,7,6,5,4,3,2,1,0],
  Qv 25 1 24 21 [19,16,15,14,13,12,11,10,9,8,7,6,5,4,3,2,1,0],
  ⟨.loc 26, .len false (.loc 25), some ((.loc 21), false), [20, 19, 16, 15, 14, 13, 12, 11, 10, 9, 8, 7, 6, 5, 4, 3, 2, 1, 0]⟩,
  ⟨.loc 27, .bin .int .lss (.loc 23) (.loc 26), some ((.loc 21), false), [18, 17, 21, 20, 19, 16, 15, 14, 13, 12, 11, 10, 9, 8, 7, 6, 5, 4, 3, 2, 1, 0]⟩,
  Qbr 28 21 27 [22,18,17,21,20,19,16,15,14,13,12,11,10,9,8,7,6,5,4,3,2,1,0],
  Qal 29 28 [23,22,21,20,19,18,17,16,15,14,13,12,11,10,9,8,7,6,5,4,3,2,1,0],
  ⟨.loc 30, .load true 3 (.var 2), some ((.loc 29), false), [24, 23, 22, 21, 20, 19, 18, 17, 16, 15, 14, 13, 12, 11, 10, 9, 8, 7, 6, 5, 4, 3, 2, 1, 0]⟩,
  ⟨.loc 31, .call (.fn 44) [(.loc 30)] [.borrow], some ((.loc 29), false), [25, 24, 23, 22, 21, 20, 19, 18, 17, 16, 15, 14, 13, 12, 11, 10, 9, 8, 7, 6, 5, 4, 3, 2, 1, 0]⟩,
  Qab 32 0 3 29 [24,23,22,21,20,19,18,17,16,15,14,13,12,11,10,9,8,7,6,5,4,3,2,1,0],
  Qv 33 1 32 29 [27,24,23,22,21,20,19,18,17,16,15,14,13,12,11,10,9,8,7,6,5,4,3,2,1,0],
  ⟨.loc 34, .bin .int .neq (.loc 31) (.loc 33), some ((.loc 29), false), [26, 25, 28, 27, 24, 23, 22, 21, 20, 19, 18, 17, 16, 15, 14, 13, 12, 11, 10, 9, 8, 7, 6, 5, 4, 3, 2, 1, 0]⟩,
  ⟨.var 35, .pick (.loc 29) (.const (.d (.bool true))) (.loc 34), none, [29, 26, 25, 28, 27, 24, 23, 22, 21, 20, 19, 18, 17, 16, 15, 14, 13, 12, 11, 10, 9, 8, 7, 6, 5, 4, 3, 2, 1, 0]⟩] true
def c18_2:= rg [Qh 4]
def c18_3 : ACode := .reg [Qc 36 2 2,
  Qe 37 1 36 [0],
  Qba 38 37 [1,0],
  ⟨.loc 39, .bin .int .eql (.loc 38) (.const (.d (.int .i64 0))), none, [2, 1, 0]⟩,
  Qal 40 39 [3,2,1,0],
  Qab 41 2 3 40 [4,3,2,1,0],
  Qv 42 1 41 40 [5,4,3,2,1,0],
  ⟨.loc 43, .len false (.loc 42), some ((.loc 40), false), [6, 5, 4, 3, 2, 1, 0]⟩,
  ⟨.loc 44, .bin .int .eql (.loc 43) (.const (.d (.int .i64 0))), some ((.loc 40), false), [7, 6, 5, 4, 3, 2, 1, 0]⟩,
  Qbr 45 40 44 [8,7,6,5,4,3,2,1,0],
  Qal 46 45 [9,8,7,6,5,4,3,2,1,0],
  Qab 47 2 3 46 [10,9,8,7,6,5,4,3,2,1,0],
  Qv 48 1 47 46 [11,10,9,8,7,6,5,4,3,2,1,0],
  ⟨.loc 49, .idxA 7 (.loc 48) (.const (.d (.int .i64 0))), some ((.loc 46), false), [12, 11, 10, 9, 8, 7, 6, 5, 4, 3, 2, 1, 0]⟩,
  ⟨.loc 50, .fld 0 (.loc 49), some ((.loc 46), false), [13, 12, 11, 10, 9, 8, 7, 6, 5, 4, 3, 2, 1, 0]⟩,
  Qv 51 1 50 46 [14,13,12,11,10,9,8,7,6,5,4,3,2,1,0],
  Qab 52 2 2 46 [10,9,8,7,6,5,4,3,2,1,0],
  Qv 53 1 52 46 [16,10,9,8,7,6,5,4,3,2,1,0],
  Qab 54 2 2 46 [10,9,8,7,6,5,4,3,2,1,0],
  Qv 55 1 54 46 [18,10,9,8,7,6,5,4,3,2,1,0],
  ⟨.loc 56, .len false (.loc 55), some ((.loc 46), false), [19, 18, 10, 9, 8, 7, 6, 5, 4, 3, 2, 1, 0]⟩,
  ⟨.loc 57, .bin .int .sub (.loc 56) (.const (.d (.int .i64 1))), some ((.loc 46), false), [20, 19, 18, 10, 9, 8, 7, 6, 5, 4, 3, 2, 1, 0]⟩,
  ⟨.loc 58, .idxA 7 (.loc 53) (.loc 57), some ((.loc 46), false), [17, 16, 21, 20, 19, 18, 10, 9, 8, 7, 6, 5, 4, 3, 2, 1, 0]⟩,
  ⟨.loc 59, .fld 0 (.loc 58), some ((.loc 46), false), [22, 17, 16, 21, 20, 19, 18, 10, 9, 8, 7, 6, 5, 4, 3, 2, 1, 0]⟩,
  Qv 60 1 59 46 [23,22,17,16,21,20,19,18,10,9,8,7,6,5,4,3,2,1,0],
  ⟨.loc 61, .bin .int .add (.loc 60) (.const (.d (.int .i64 1))), some ((.loc 46), false), [24, 23, 22, 17, 16, 21, 20, 19, 18, 10, 9, 8, 7, 6, 5, 4, 3, 2, 1, 0]⟩,
  ⟨.loc 62, .bin .int .eql (.loc 51) (.loc 61), some ((.loc 46), false), [15, 14, 13, 12, 11, 25, 24, 23, 22, 17, 16, 21, 20, 19, 18, 10, 9, 8, 7, 6, 5, 4, 3, 2, 1, 0]⟩,
  Qbr 63 46 62 [26,15,14,13,12,11,25,24,23,22,17,16,21,20,19,18,10,9,8,7,6,5,4,3,2,1,0],
  Qaf 4 63 [27,26,15,14,13,12,11,25,24,23,22,17,16,21,20,19,18,10,9,8,7,6,5,4,3,2,1,0]] true
def c18 : ACode := (.seq c18_0 (.seq (.seq c18_1 (.cond (.var 35) (.seq c18_2 .ret) .skip)) (.seq c18_3 .ret)))
abbrev F_I_Follows : FuncId := 18
theorem v_I_Follows : VT 2 1 Tryd.f18 18 [0,1,2,3,4,35] [none, none] [(.give, 4, none)] c18 := mkV Tryd.func18 rfl rfl (by kernel_rfl) (by kernel_rfl) rfl rfl
def c19_0:= rg [Qo 3 1,
Qf 4 0]
def c19_1 : ACode := .reg [Qa 6 0,
  Qr 7 34 6 [0],
  Qbe 8 7 [1,0],
  Qc 9 0 3,
  Qe 10 1 9 [3],
  Qr 11 34 10 [4,3,1,0],
  Qbf 12 8 11 [2,5,4,3,1,0],
  Qbe 13 12 [6,2,5,4,3,1,0],
  Qc 14 1 3,
  Qe 15 1 14 [8],
  Qr 16 34 15 [9,8,5,4,3,1,0],
  Qbf 17 13 16 [7,6,2,10,9,8,5,4,3,1,0],
  Qbe 18 17 [11,7,6,2,10,9,8,5,4,3,1,0],
  Qc 19 2 3,
  Qe 20 1 19 [13],
  Qr 21 34 20 [14,13,10,9,8,5,4,3,1,0],
  Qbf 22 18 21 [12,11,7,6,2,15,14,13,10,9,8,5,4,3,1,0],
  Qbe 23 22 [16,12,11,7,6,2,15,14,13,10,9,8,5,4,3,1,0],
  Qc 24 3 3,
  Qe 25 1 24 [18],
  Qbf 26 23 25 [17,16,12,11,7,6,2,15,14,13,10,9,8,5,4,3,1,0,19,18],
  Qbe 27 26 [20,17,16,12,11,7,6,2,15,14,13,10,9,8,5,4,3,1,0,19,18],
  Qc 28 4 3,
  Qe 29 1 28 [22],
  Qbf 30 27 29 [21,20,17,16,12,11,7,6,2,15,14,13,10,9,8,5,4,3,1,0,19,18,23,22],
  Qbe 31 30 [24,21,20,17,16,12,11,7,6,2,15,14,13,10,9,8,5,4,3,1,0,19,18,23,22],
  Qc 32 5 3,
  Qe 33 1 32 [26],
  Qr 34 34 33 [27,26,15,14,13,10,9,8,5,4,3,1,0],
  Qbf 35 31 34 [25,24,21,20,17,16,12,11,7,6,2,19,18,23,22,28,27,26,15,14,13,10,9,8,5,4,3,1,0],
  Qaf 5 35 [29,25,24,21,20,17,16,12,11,7,6,2,19,18,23,22,28,27,26,15,14,13,10,9,8,5,4,3,1,0]] true
def c19_2:= rg [Qa 36 5,
⟨.loc 37, .s2b (.loc 36), none, []⟩,
Qm 38 35 37,
Qb 4 38]
def c19 : ACode := (.seq c19_0 (.seq c19_1 (.seq c19_2 .ret)))
abbrev F_S_SumOf : FuncId := 19
theorem v_S_SumOf : VT 2 1 Tryd.f19 19 [0,1,3,4,5] [none, none] [(.give, 4, none)] c19 := mkV Tryd.func19 rfl rfl (by kernel_rfl) (by kernel_rfl) rfl rfl
def c20_0:= rg [Qo 1 0,
Qf 2 0]
def c20_1:= rg [Qg 5 3 1,
Qm 6 7 5,
Qaa 7 6]
def c20_2:= rg [Qf 2 (-1)]
def c20_3:= rg [Qc 8 0 1,
Qd 9 1 8,
Qb 3 9]
def c20_4:= rg [Qf 4 0]
def c20_5:= rg [Qa 10 4,
Qc 11 2 1,
Qd 12 1 11,
Qj 13 12,
Qx 14 10 13]
def c20_6 : ACode := .reg [Qc 17 2 1,
  Qe 18 1 17 [0],
  Qa 19 4,
  Qs 20 7 18 19 [1,0,2],
  Qt 21 6 20 [3,1,0,2],
  Qe 22 1 21 [4,3,1,0,2],
  Qa 23 3,
  Qc 24 2 1,
  Qe 25 1 24 [7],
  Qa 26 4,
  Qs 27 7 25 26 [8,7,9],
  Qbm 28 7 27 [10,8,7,9],
  Qbq 29 19 23 28 [6,11,10,8,7,9],
  ⟨.var 30, .bin .int .neq (.loc 22) (.loc 29), none, [5, 4, 3, 1, 0, 2, 12, 6, 11, 10, 8, 7, 9]⟩] true
def c20_7:= rg [Qa 31 4,
Qb 2 31]
def c20_8:= rg [Qc 32 2 1,
Qd 33 1 32,
Qa 34 4,
Qu 35 7 33 34,
Qz 36 6 35,
Qd 37 1 36,
Qb 3 37]
def c20_9:= rg [Qa 15 4,
Ql 16 15 1,
Qb 4 16]
def c20_10 : ACode := (.seq (.seq c20_5 (.cond (.var 14) .skip (.exit 0))) (.seq (.block 1 (.seq (.seq c20_6 (.cond (.var 30) (.seq c20_7 .ret) .skip)) c20_8)) c20_9))
def c20_11:= rg [Qc 38 2 1,
Qd 39 1 38,
Qj 40 39,
Qb 2 40]
def c20 : ACode := (.seq c20_0 (.seq (.seq c20_1 (.cond (.var 7) (.seq c20_2 .ret) .skip)) (.seq c20_3 (.seq (.seq c20_4 (.block 0 (.loop [1, 3, 4] c20_10))) (.seq c20_11 .ret)))))
abbrev F_S_BreakOf : FuncId := 20
theorem v_S_BreakOf : VT 1 1 Tryd.f20 20 [0,1,2,3,4,7,14,30] [none] [(.give, 2, none)] c20 := mkV Tryd.func20 rfl rfl (by kernel_rfl) (by kernel_rfl) rfl rfl
def c21_0:= rg [⟨.var 2, .mv (.const (.undef)), none, []⟩,
Qp 3 0 0 0 7]
def c21_1:= rg [Qa 6 0,
Qm 7 45 6,
Qb 4 7]
def c21_2:= rg [Qa 8 4,
Qa 9 0,
⟨.loc 10, .call (.fn 24) [(.loc 9), (.const (.d (.int .i64 20)))] [.borrow, .borrow], none, []⟩,
Qbg 11 23 8 10 3,
Qb 5 11]
def c21_3:= rg [Qa 12 4,
Qax 13 25 12 30 3]
def c21_4:= rg [Qa 14 4,
Qag 15 23 14 4 3,
Qbs 16 119 15,
Qb 5 16]
def c21_5:= rg [Qa 17 4,
Qa 18 4,
Qa 19 5,
Qbg 20 46 18 19 3,
Qb 2 17,
Qk 3 3 20]
def c21 : ACode := (.seq c21_0 (.seq c21_1 (.seq c21_2 (.seq (.seq c21_3 (.cond (.var 13) c21_4 .skip)) (.seq c21_5 .ret)))))
abbrev F_S_l15DrawOne : FuncId := 21
theorem v_S_l15DrawOne : VT 1 2 Tryd.f21 21 [0,2,3,4,5,13] [none] [(.box 3, 2, none), (.give, 3, some (true, 3))] c21 := mkV Tryd.func21 rfl rfl (by kernel_rfl) (by kernel_rfl) rfl rfl
def c23_0:= rg [Qf 4 0]
def c23_1:= rg [Qa 8 1,
⟨.var 9, .bin .int .leq (.loc 8) (.const (.d (.int .i64 0))), none, []⟩]
def c23_2:= rg [Qf 4 0]
def c23_3:= rg [Qa 10 1,
⟨.var 11, .bin .int .leq (.loc 10) (.const (.d (.int .i64 256))), none, []⟩]
def c23_4:= rg [Qa 12 0,
Qap 13 48 12 3,
Qa 14 1,
⟨.loc 15, .bin .int .rem (.loc 13) (.loc 14), none, []⟩,
Qb 4 15]
def c23_5:= rg [Qa 16 0,
Qap 17 48 16 3,
Qb 5 17]
def c23_6:= rg [Qa 18 0,
Qap 19 48 18 3,
Qb 6 19]
def c23_7:= rg [Qa 20 0,
Qap 21 48 20 3,
Qb 7 21]
def c23_8:= rg [Qa 22 5,
Qaw 23 22 65536,
Qa 24 6,
Qaw 25 24 256,
Qy 26 23 25,
Qa 27 7,
Qy 28 26 27,
Qa 29 1,
⟨.loc 30, .bin .int .rem (.loc 28) (.loc 29), none, []⟩,
Qb 4 30]
def c23 : ACode := (.seq c23_0 (.seq (.seq c23_1 (.cond (.var 9) (.seq c23_2 .ret) .skip)) (.seq (.seq c23_3 (.cond (.var 11) (.seq c23_4 .ret) .skip)) (.seq c23_5 (.seq c23_6 (.seq c23_7 (.seq c23_8 .ret)))))))
abbrev F_S_l01Below : FuncId := 23
theorem v_S_l01Below : VT 2 1 Tryd.f23 23 [0,1,4,5,6,7,9,11] [some (.box 3), none] [(.give, 4, none)] c23 := mkV Tryd.func23 rfl rfl (by kernel_rfl) (by kernel_rfl) rfl rfl
def c24_0:= rg [Qf 4 0]
def c24_1:= rg [Qa 6 0,
Qj 7 6,
⟨.loc 8, .bin .int .quo (.loc 7) (.const (.d (.int .i64 16))), none, []⟩,
Qbs 9 2 8,
Qb 5 9]
def c24_2:= rg [Qa 10 5,
Qa 11 1,
⟨.var 12, .bin .int .gtr (.loc 10) (.loc 11), none, []⟩]
def c24_3:= rg [Qa 13 1,
Qb 4 13]
def c24_4:= rg [Qa 14 5,
Qb 4 14]
def c24 : ACode := (.seq c24_0 (.seq c24_1 (.seq (.seq c24_2 (.cond (.var 12) (.seq c24_3 .ret) .skip)) (.seq c24_4 .ret))))
abbrev F_S_l01Size : FuncId := 24
theorem v_S_l01Size : VT 2 1 Tryd.f24 24 [0,1,4,5,12] [none, none] [(.give, 4, none)] c24 := mkV Tryd.func24 rfl rfl (by kernel_rfl) (by kernel_rfl) rfl rfl
def c25_0:= rg [Qh 4]
def c25_1:= rg [Qa 5 0,
Qa 6 1,
Qbg 7 23 5 6 3,
⟨.loc 8, .bin .int .eql (.loc 7) (.const (.d (.int .i64 0))), none, []⟩,
Qb 4 8]
def c25 : ACode := (.seq c25_0 (.seq c25_1 .ret))
abbrev F_S_l01Once : FuncId := 25
theorem v_S_l01Once : VT 2 1 Tryd.f25 25 [0,1,4] [some (.box 3), none] [(.give, 4, none)] c25 := mkV Tryd.func25 rfl rfl (by kernel_rfl) (by kernel_rfl) rfl rfl
def c26_0:= rg [Qh 2]
def c26_1:= rg [Qa 3 0,
Qao 4 27 3 0 1099511627776,
Qb 2 4]
def c26 : ACode := (.seq c26_0 (.seq c26_1 .ret))
abbrev F_S_l04Key : FuncId := 26
theorem v_S_l04Key : VT 1 1 Tryd.f26 26 [0,2] [none] [(.give, 2, none)] c26 := mkV Tryd.func26 rfl rfl (by kernel_rfl) (by kernel_rfl) rfl rfl
def c27_0:= rg [Qh 6]
def c27_1:= rg [Qa 7 1,
Qa 8 0,
⟨.loc 9, .bin .int .leq (.loc 7) (.loc 8), none, []⟩,
Qi 10 9,
Qn 11 0 10,
Qn 12 2 10,
⟨.loc 13, .bin .int .leq (.loc 11) (.loc 12), some ((.loc 10), true), []⟩,
Qw 14 10 13,
Qb 6 14]
def c27 : ACode := (.seq c27_0 (.seq c27_1 .ret))
abbrev F_S_l01In : FuncId := 27
theorem v_S_l01In : VT 3 1 Tryd.f27 27 [0,1,2,6] [none, none, none] [(.give, 6, none)] c27 := mkV Tryd.func27 rfl rfl (by kernel_rfl) (by kernel_rfl) rfl rfl
def c28_0:= rg [Qh 2]
def c28_1:= rg [Qf 3 0]
def c28_2:= rg [Qa 5 3,
Qa 6 0,
Qac 7 6,
Qx 8 5 7]
def c28_3:= rg [Qa 11 0,
Qa 12 3,
⟨.loc 13, .idxS (.loc 11) (.loc 12), none, []⟩,
Qb 4 13]
def c28_4:= rg [Qa 14 4,
⟨.loc 15, .bin .int .geq (.loc 14) (.const (.d (.int .u8 97))), none, []⟩,
Qi 16 15,
Qn 17 4 16,
⟨.loc 18, .bin .int .leq (.loc 17) (.const (.d (.int .u8 122))), some ((.loc 16), true), []⟩,
Qw 19 16 18,
Qbp 20 19,
Qi 21 20,
Qn 22 4 21,
⟨.loc 23, .bin .int .geq (.loc 22) (.const (.d (.int .u8 48))), some ((.loc 21), true), []⟩,
⟨.loc 24, .split (.loc 23), some ((.loc 21), true), []⟩,
Qn 25 4 24,
⟨.loc 26, .bin .int .leq (.loc 25) (.const (.d (.int .u8 57))), some ((.loc 24), true), []⟩,
⟨.loc 27, .pick (.loc 24) (.loc 26) (.const (.d (.bool false))), some ((.loc 21), true), []⟩,
⟨.loc 28, .un .not (.loc 27), some ((.loc 21), true), []⟩,
Qbd 29 21 28]
def c28_5:= rg [Qh 2]
def c28_6:= rg [Qa 9 3,
Ql 10 9 1,
Qb 3 10]
def c28_7 : ACode := (.seq (.seq c28_2 (.cond (.var 8) .skip (.exit 0))) (.seq (.block 1 (.seq c28_3 (.seq c28_4 (.cond (.var 29) (.seq c28_5 .ret) .skip)))) c28_6))
def c28_8:= rg [Qa 30 0,
Qac 31 30,
Qao 32 27 31 1 12,
Qb 2 32]
def c28 : ACode := (.seq c28_0 (.seq (.seq c28_1 (.block 0 (.loop [0, 3] c28_7))) (.seq c28_8 .ret)))
abbrev F_S_l01Name : FuncId := 28
theorem v_S_l01Name : VT 1 1 Tryd.f28 28 [0,2,3,4,8,29] [none] [(.give, 2, none)] c28 := mkV Tryd.func28 rfl rfl (by kernel_rfl) (by kernel_rfl) rfl rfl
def c29_0:= rg [Qh 2]
def c29_1:= rg [Qa 4 0,
Qm 5 49 4,
Qaa 6 5]
def c29_2:= rg [Qh 2]
def c29_3:= rg [Qf 3 0]
def c29_4:= rg [Qa 7 3,
Qa 8 0,
Qac 9 8,
Qx 10 7 9]
def c29_5:= rg [Qa 13 0,
Qa 14 3,
⟨.loc 15, .idxS (.loc 13) (.loc 14), none, []⟩,
⟨.loc 16, .bin .int .eql (.loc 15) (.const (.d (.int .u8 43))), none, []⟩,
Qi 17 16,
Qay 18 0 17,
Qay 19 3 17,
⟨.loc 20, .idxS (.loc 18) (.loc 19), some ((.loc 17), false), []⟩,
⟨.loc 21, .bin .int .eql (.loc 20) (.const (.d (.int .u8 42))), some ((.loc 17), false), []⟩,
Qat 22 17 21]
def c29_6:= rg [Qh 2]
def c29_7:= rg [Qa 11 3,
Ql 12 11 1,
Qb 3 12]
def c29_8 : ACode := (.seq (.seq c29_4 (.cond (.var 10) .skip (.exit 0))) (.seq (.block 1 (.seq c29_5 (.cond (.var 22) (.seq c29_6 .ret) .skip))) c29_7))
def c29_9:= rg [Qan 2]
def c29 : ACode := (.seq c29_0 (.seq (.seq c29_1 (.cond (.var 6) (.seq c29_2 .ret) .skip)) (.seq (.seq c29_3 (.block 0 (.loop [0, 3] c29_8))) (.seq c29_9 .ret))))
abbrev F_S_PathOk : FuncId := 29
theorem v_S_PathOk : VT 1 1 Tryd.f29 29 [0,2,3,6,10,22] [none] [(.give, 2, none)] c29 := mkV Tryd.func29 rfl rfl (by kernel_rfl) (by kernel_rfl) rfl rfl
def c30_0:= rg [Qo 1 0,
Qh 2]
def c30_1:= rg [Qc 5 2 1,
⟨.var 6, .load false 1 (.loc 5), none, []⟩,
⟨.var 7, .len false (.var 6), none, []⟩,
Qf 8 0]
def c30_2:= rg [Qbt 9 8 7]
def c30_3:= rg [Qa 10 8,
⟨.loc 11, .idxA 7 (.var 6) (.var 8), none, []⟩,
⟨.loc 12, .load true 7 (.loc 11), none, []⟩,
Qas 4 0 0 0 0 0,
Qb 3 10,
Qk 7 4 12]
def c30_4 : ACode := .reg [Qg 13 7 4,
  Qr 14 50 13 [0],
  ⟨.loc 15, .un .not (.loc 14), none, [1, 0]⟩,
  Qal 16 15 [2,1,0],
  ⟨.loc 17, .mv (.var 3), some ((.loc 16), false), [3, 2, 1, 0]⟩,
  ⟨.loc 18, .bin .int .gtr (.loc 17) (.const (.d (.int .i64 0))), some ((.loc 16), false), [4, 3, 2, 1, 0]⟩,
  ⟨.loc 19, .split (.loc 18), some ((.loc 16), false), [5, 4, 3, 2, 1, 0]⟩,
  Qbn 20 2 1 19 [6,5,4,3,2,1,0],
  Qau 21 1 20 19 [7,6,5,4,3,2,1,0],
  ⟨.loc 22, .mv (.var 3), some ((.loc 19), true), [6, 5, 4, 3, 2, 1, 0]⟩,
  ⟨.loc 23, .bin .int .sub (.loc 22) (.const (.d (.int .i64 1))), some ((.loc 19), true), [9, 6, 5, 4, 3, 2, 1, 0]⟩,
  ⟨.loc 24, .idxA 7 (.loc 21) (.loc 23), some ((.loc 19), true), [8, 7, 10, 9, 6, 5, 4, 3, 2, 1, 0]⟩,
  ⟨.loc 25, .fld 0 (.loc 24), some ((.loc 19), true), [11, 8, 7, 10, 9, 6, 5, 4, 3, 2, 1, 0]⟩,
  Qau 26 1 25 19 [12,11,8,7,10,9,6,5,4,3,2,1,0],
  ⟨.loc 27, .bin .int .add (.loc 26) (.const (.d (.int .i64 1))), some ((.loc 19), true), [13, 12, 11, 8, 7, 10, 9, 6, 5, 4, 3, 2, 1, 0]⟩,
  Qbn 28 0 4 19 [6,5,4,3,2,1,0],
  Qau 29 1 28 19 [15,6,5,4,3,2,1,0],
  ⟨.loc 30, .bin .int .neq (.loc 27) (.loc 29), some ((.loc 19), true), [14, 13, 12, 11, 8, 7, 10, 9, 16, 15, 6, 5, 4, 3, 2, 1, 0]⟩,
  ⟨.loc 31, .split (.loc 30), some ((.loc 19), true), [17, 14, 13, 12, 11, 8, 7, 10, 9, 16, 15, 6, 5, 4, 3, 2, 1, 0]⟩,
  Qab 32 2 1 31 [18,17,14,13,12,11,8,7,10,9,16,15,6,5,4,3,2,1,0],
  Qv 33 1 32 31 [19,18,17,14,13,12,11,8,7,10,9,16,15,6,5,4,3,2,1,0],
  ⟨.loc 34, .mv (.var 3), some ((.loc 31), false), [18, 17, 14, 13, 12, 11, 8, 7, 10, 9, 16, 15, 6, 5, 4, 3, 2, 1, 0]⟩,
  ⟨.loc 35, .bin .int .sub (.loc 34) (.const (.d (.int .i64 1))), some ((.loc 31), false), [21, 18, 17, 14, 13, 12, 11, 8, 7, 10, 9, 16, 15, 6, 5, 4, 3, 2, 1, 0]⟩,
  ⟨.loc 36, .idxA 7 (.loc 33) (.loc 35), some ((.loc 31), false), [20, 19, 22, 21, 18, 17, 14, 13, 12, 11, 8, 7, 10, 9, 16, 15, 6, 5, 4, 3, 2, 1, 0]⟩,
  ⟨.loc 37, .fld 1 (.loc 36), some ((.loc 31), false), [23, 20, 19, 22, 21, 18, 17, 14, 13, 12, 11, 8, 7, 10, 9, 16, 15, 6, 5, 4, 3, 2, 1, 0]⟩,
  Qv 38 1 37 31 [24,23,20,19,22,21,18,17,14,13,12,11,8,7,10,9,16,15,6,5,4,3,2,1,0],
  Qab 39 1 4 31 [18,17,14,13,12,11,8,7,10,9,16,15,6,5,4,3,2,1,0],
  Qv 40 1 39 31 [26,18,17,14,13,12,11,8,7,10,9,16,15,6,5,4,3,2,1,0],
  ⟨.loc 41, .bin .int .gtr (.loc 38) (.loc 40), some ((.loc 31), false), [25, 24, 23, 20, 19, 22, 21, 27, 26, 18, 17, 14, 13, 12, 11, 8, 7, 10, 9, 16, 15, 6, 5, 4, 3, 2, 1, 0]⟩,
  ⟨.loc 42, .pick (.loc 31) (.const (.d (.bool true))) (.loc 41), some ((.loc 19), true), [28, 25, 24, 23, 20, 19, 22, 21, 27, 26, 18, 17, 14, 13, 12, 11, 8, 7, 10, 9, 16, 15, 6, 5, 4, 3, 2, 1, 0]⟩,
  ⟨.loc 43, .pick (.loc 19) (.loc 42) (.const (.d (.bool false))), some ((.loc 16), false), [29, 28, 25, 24, 23, 20, 19, 22, 21, 27, 26, 18, 17, 14, 13, 12, 11, 8, 7, 10, 9, 16, 15, 6, 5, 4, 3, 2, 1, 0]⟩,
  ⟨.var 44, .pick (.loc 16) (.const (.d (.bool true))) (.loc 43), none, [30, 29, 28, 25, 24, 23, 20, 19, 22, 21, 27, 26, 18, 17, 14, 13, 12, 11, 8, 7, 10, 9, 16, 15, 6, 5, 4, 3, 2, 1, 0]⟩] true
def c30_5:= rg [Qh 2]
def c30_6:= rg [Qbu 45 8 1,
Qb 8 45]
def c30_7 : ACode := (.seq c30_2 (.seq (.cond (.var 9) .skip (.exit 0)) (.seq (.block 1 (.seq c30_3 (.seq c30_4 (.cond (.var 44) (.seq c30_5 .ret) .skip)))) c30_6)))
def c30_8:= rg [Qc 46 0 1,
Qd 47 1 46,
⟨.loc 48, .bin .int .geq (.loc 47) (.const (.d (.int .i64 0))), none, []⟩,
Qi 49 48,
Qaq 50 1 1 49,
Qah 51 1 50 49,
⟨.loc 52, .call (.fn 51) [(.loc 51)] [.borrow], some ((.loc 49), true), []⟩,
Qw 53 49 52,
Qi 54 53,
Qaq 55 2 1 54,
Qah 56 1 55 54,
⟨.loc 57, .len false (.loc 56), some ((.loc 54), true), []⟩,
⟨.loc 58, .bin .int .leq (.loc 57) (.const (.d (.int .i64 120))), some ((.loc 54), true), []⟩,
Qw 59 54 58,
Qb 2 59]
def c30 : ACode := (.seq c30_0 (.seq (.seq c30_1 (.block 0 (.loop [1, 6, 7, 8] c30_7))) (.seq c30_8 .ret)))
abbrev F_I_isChain : FuncId := 30
theorem v_I_isChain : VT 1 1 Tryd.f30 30 [0,1,2,3,4,6,7,8,9,44] [none] [(.give, 2, none)] c30 := mkV Tryd.func30 rfl rfl (by kernel_rfl) (by kernel_rfl) rfl rfl
def c32_0:= rg [Qf 2 0]
def c32_1:= rg [Qf 3 7,
Qf 4 11]
def c32_2:= rg [⟨.var 7, .mv (.var 0), none, []⟩,
⟨.var 8, .len false (.var 7), none, []⟩,
Qf 9 0]
def c32_3:= rg [Qbt 10 9 8]
def c32_4:= rg [⟨.loc 11, .idxA 1 (.var 7) (.var 9), none, []⟩,
Qd 12 1 11,
Qb 6 12]
def c32_5:= rg [Qa 13 3,
Qbh 14 131 13,
Qa 15 6,
Qbb 16 15,
Qy 17 14 16,
Ql 18 17 1,
Qar 19 18 2147483647,
Qb 3 19]
def c32_6:= rg [Qa 20 4,
Qbh 21 137 20,
Qa 22 6,
Qbb 23 22,
Qy 24 21 23,
Ql 25 24 3,
Qar 26 25 2147483629,
Qb 4 26]
def c32_7:= rg [Qbu 27 9 1,
Qb 9 27]
def c32_8 : ACode := (.seq c32_3 (.seq (.cond (.var 10) .skip (.exit 0)) (.seq (.block 1 (.seq c32_4 (.seq c32_5 c32_6))) c32_7)))
def c32_9:= rg [Qa 28 3,
Qbh 29 2147483648 28,
Qa 30 4,
Qy 31 29 30,
Qb 2 31]
def c32 : ACode := (.seq c32_0 (.seq c32_1 (.seq (.seq c32_2 (.block 0 (.loop [3, 4, 7, 8, 9] c32_8))) (.seq c32_9 .ret))))
abbrev F_I_digest : FuncId := 32
theorem v_I_digest : VT 1 1 Tryd.f32 32 [0,2,3,4,6,7,8,9,10] [none] [(.give, 2, none)] c32 := mkV Tryd.func32 rfl rfl (by kernel_rfl) (by kernel_rfl) rfl rfl
def c34_0:= rg [Qbv 2]
def c34_1:= rg [Qa 6 0,
Qbj 7 6 0]
def c34_2:= rg [⟨.var 2, .mv (.const (.d (.str [48]))), none, []⟩]
def c34_3:= rg [Qbv 3]
def c34_4:= rg [Qa 8 0,
⟨.loc 9, .bin .int .lss (.loc 8) (.const (.d (.int .i64 0))), none, []⟩,
Qb 4 9]
def c34_5:= rg [Qa 10 0,
⟨.var 11, .bin .int .neq (.loc 10) (.const (.d (.int .i64 0))), none, []⟩]
def c34_6:= rg [Qa 12 0,
Qar 13 12 10,
Qb 5 13]
def c34_7:= rg [Qa 14 5,
⟨.var 15, .bin .int .lss (.loc 14) (.const (.d (.int .i64 0))), none, []⟩]
def c34_8:= rg [Qa 16 5,
⟨.loc 17, .un .neg (.loc 16), none, []⟩,
Qb 5 17]
def c34_9:= rg [Qa 18 5,
Qbs 19 48 18,
⟨.loc 20, .conv .u8 (.loc 19), none, []⟩,
⟨.loc 21, .lit 0 1 1 [.int .u8 0] [(0, (.loc 20))], none, []⟩,
⟨.loc 22, .b2s (.loc 21), none, []⟩,
Qa 23 3,
⟨.loc 24, .bin .str .add (.loc 22) (.loc 23), none, []⟩,
Qb 3 24]
def c34_10:= rg [Qa 25 0,
⟨.loc 26, .bin .int .quo (.loc 25) (.const (.d (.int .i64 10))), none, []⟩,
Qb 0 26]
def c34_11 : ACode := (.seq (.seq c34_5 (.cond (.var 11) .skip (.exit 0))) (.block 1 (.seq c34_6 (.seq (.seq c34_7 (.cond (.var 15) c34_8 .skip)) (.seq c34_9 c34_10)))))
def c34_12:= rg [⟨.var 27, .mv (.var 4), none, []⟩]
def c34_13:= rg [Qa 28 3,
⟨.loc 29, .bin .str .add (.const (.d (.str [45]))) (.loc 28), none, []⟩,
Qb 2 29]
def c34_14:= rg [Qa 30 3,
Qb 2 30]
def c34 : ACode := (.seq c34_0 (.seq (.seq c34_1 (.cond (.var 7) (.seq c34_2 .ret) .skip)) (.seq c34_3 (.seq c34_4 (.seq (.block 0 (.loop [0, 3, 4] c34_11)) (.seq (.seq c34_12 (.cond (.var 27) (.seq c34_13 .ret) .skip)) (.seq c34_14 .ret)))))))
abbrev F_S_l01Num : FuncId := 34
theorem v_S_l01Num : VT 1 1 Tryd.f34 34 [0,2,3,4,5,7,11,15,27] [none] [(.give, 2, none)] c34 := mkV Tryd.func34 rfl rfl (by kernel_rfl) (by kernel_rfl) rfl rfl
def c35_0:= rg [Qf 2 0]
def c35_1:= rg [Qf 3 7]
def c35_2:= rg [Qf 4 11]
def c35_3:= rg [Qf 5 0]
def c35_4:= rg [Qa 6 5,
Qa 7 0,
Qj 8 7,
Qx 9 6 8]
def c35_5:= rg [Qa 12 3,
Qbh 13 131 12,
Qa 14 0,
Qa 15 5,
Qu 16 1 14 15,
Qd 17 1 16,
Qbb 18 17,
Qy 19 13 18,
Ql 20 19 1,
Qar 21 20 2147483647,
Qb 3 21]
def c35_6:= rg [Qa 22 4,
Qbh 23 137 22,
Qa 24 0,
Qa 25 5,
Qu 26 1 24 25,
Qd 27 1 26,
Qbb 28 27,
Qy 29 23 28,
Ql 30 29 3,
Qar 31 30 2147483629,
Qb 4 31]
def c35_7:= rg [Qa 10 5,
Ql 11 10 1,
Qb 5 11]
def c35_8 : ACode := (.seq (.seq c35_4 (.cond (.var 9) .skip (.exit 0))) (.seq (.block 1 (.seq c35_5 c35_6)) c35_7))
def c35_9:= rg [Qa 32 3,
Qbh 33 2147483648 32,
Qa 34 4,
Qy 35 33 34,
Qb 2 35]
def c35 : ACode := (.seq c35_0 (.seq c35_1 (.seq c35_2 (.seq (.seq c35_3 (.block 0 (.loop [0, 3, 4, 5] c35_8))) (.seq c35_9 .ret)))))
abbrev F_S_Digest : FuncId := 35
theorem v_S_Digest : VT 1 1 Tryd.f35 35 [0,2,3,4,5,9] [none] [(.give, 2, none)] c35 := mkV Tryd.func35 rfl rfl (by kernel_rfl) (by kernel_rfl) rfl rfl
def c38_0:= rg [Qas 4 0 0 0 0 0]
def c38_1:= rg [Qa 6 1,
Qa 7 0,
Qag 8 23 7 9 3,
Qa 9 0,
⟨.loc 10, .lit 0 1 4 [.str []] [(0, (.const (.d (.str [114, 101, 97, 100])))), (1, (.const (.d (.str [119, 114, 105, 116, 101])))), (2, (.const (.d (.str [108, 111, 103, 105, 110])))), (3, (.const (.d (.str [120, 49]))))], none, []⟩,
Qam 11 54 9 10 3,
Qa 12 0,
⟨.loc 13, .lit 0 1 3 [.str []] [(0, (.const (.d (.str [97])))), (1, (.const (.d (.str [107, 118, 47, 98])))), (2, (.const (.d (.str [100, 98, 47, 120, 45, 49]))))], none, []⟩,
Qam 14 54 12 13 3,
Qa 15 0,
Qag 16 23 15 8 3,
⟨.loc 17, .build [.d (.int .i64 0), .d (.int .i64 0), .d (.int .i64 0), .d (.str []), .d (.str []), .d (.int .i64 0), .d (.int .i64 0)] [(1, 1, (.loc 6)), (2, 1, (.loc 8)), (3, 1, (.loc 11)), (4, 1, (.loc 14)), (5, 1, (.loc 16))], none, []⟩,
Qas 5 0 0 0 0 0,
Qk 7 5 17]
def c38_2:= rg [Qa 18 0,
Qax 19 25 18 25 3]
def c38_3:= rg [Qa 20 0,
Qax 21 23 20 5 3]
def c38_4:= rg [Qad 23 21 0,
Qb 22 23]
def c38_5:= rg [Qa 24 0,
⟨.loc 25, .lit 0 1 4 [.int .i64 0] [(0, (.const (.d (.int .i64 (-1))))), (1, (.const (.d (.int .i64 1000000000)))), (2, (.const (.d (.int .i64 1000000001)))), (3, (.const (.d (.int .i64 0))))], none, []⟩,
Qam 26 47 24 25 3,
Qc 27 1 5,
Qq 1 27 26]
def c38_6:= rg [Qad 29 21 1,
Qb 28 29]
def c38_7:= rg [Qa 30 0,
⟨.loc 31, .lit 0 1 3 [.int .i64 0] [(0, (.const (.d (.int .i64 (-1))))), (1, (.const (.d (.int .i64 1000000000)))), (2, (.const (.d (.int .i64 1000000001))))], none, []⟩,
Qam 32 47 30 31 3,
Qc 33 2 5,
Qq 1 33 32]
def c38_8:= rg [Qad 35 21 2,
Qb 34 35]
def c38_9:= rg [Qa 36 0,
⟨.loc 37, .lit 0 1 3 [.str []] [(0, (.const (.d (.str [])))), (1, (.const (.d (.str [82, 101, 97, 100])))), (2, (.const (.d (.str [97, 98, 99, 100, 101, 102, 103, 104, 105, 106, 107, 108, 109]))))], none, []⟩,
Qam 38 54 36 37 3,
Qc 39 3 5,
Qq 1 39 38]
def c38_10:= rg [Qad 41 21 3,
Qb 40 41]
def c38_11:= rg [Qa 42 0,
Qap 43 55 42 3,
Qc 44 4 5,
Qq 1 44 43]
def c38_12:= rg [Qad 46 21 4,
Qb 45 46]
def c38_13:= rg [Qa 47 0,
⟨.loc 48, .lit 0 1 3 [.int .i64 0] [(0, (.const (.d (.int .i64 (-1))))), (1, (.const (.d (.int .i64 99)))), (2, (.const (.d (.int .i64 100))))], none, []⟩,
Qam 49 47 47 48 3,
Qc 50 5 5,
Qq 1 50 49]
def c38_14:= rg [Qg 51 7 5,
Qk 7 4 51]
def c38 : ACode := (.seq c38_0 (.seq c38_1 (.seq (.seq c38_2 (.cond (.var 19) (.seq c38_3 (.block 0 (.seq c38_4 (.cond (.var 22) c38_5 (.seq c38_6 (.cond (.var 28) c38_7 (.seq c38_8 (.cond (.var 34) c38_9 (.seq c38_10 (.cond (.var 40) c38_11 (.seq c38_12 (.cond (.var 45) c38_13 .skip)))))))))))) .skip)) (.seq c38_14 .ret))))
abbrev F_S_l15DrawNote : FuncId := 38
theorem v_S_l15DrawNote : VT 2 1 Tryd.f38 38 [0,1,4,5,19,21,22,28,34,40,45] [some (.box 3), none] [(.give, 4, some (true, 7))] c38 := mkV Tryd.func38 rfl rfl (by kernel_rfl) (by kernel_rfl) rfl rfl
def c39_0:= rg [Qo 1 0,
Qp 2 0 0 0 7]
def c39_1:= rg [Qc 5 0 1,
Qd 6 1 5,
Qc 7 1 1,
Qd 8 1 7,
⟨.loc 9, .build [.d (.int .i64 0), .d (.int .i64 0), .nil 0 7] [(0, 1, (.loc 6)), (1, 1, (.loc 8))], none, []⟩,
Qp 3 0 0 0 7,
Qk 3 3 9]
def c39_2:= rg [Qf 4 0]
def c39_3:= rg [Qa 10 4,
Qc 11 2 1,
Qd 12 1 11,
Qj 13 12,
Qx 14 10 13]
def c39_4 : ACode := .reg [Qc 17 2 3,
  Qe 18 1 17 [0],
  Qc 19 2 1,
  Qe 20 1 19 [2],
  Qa 21 4,
  Qs 22 7 20 21 [3,2,4],
  Qbm 23 7 22 [5,3,2,4],
  ⟨.loc 24, .lit 0 7 1 [.int .i64 0, .int .i64 0, .int .i64 0, .str [], .str [], .int .i64 0, .int .i64 0] [(0, (.loc 23))], none, [6, 5, 3, 2, 4]⟩,
  ⟨.loc 25, .app 7 72 (.loc 18) (.loc 24), none, [1, 0, 7, 6, 5, 3, 2, 4]⟩,
  ⟨.loc 26, .fld 2 (.var 3), none, [8, 1, 0, 7, 6, 5, 3, 2, 4]⟩,
  Qak 1 26 25 [9,8,1,0,7,6,5,3,2,4]] true
def c39_5:= rg [Qa 15 4,
Ql 16 15 1,
Qb 4 16]
def c39_6 : ACode := (.seq (.seq c39_3 (.cond (.var 14) .skip (.exit 0))) (.seq (.block 1 c39_4) c39_5))
def c39_7:= rg [Qg 27 3 3,
Qk 3 2 27]
def c39 : ACode := (.seq c39_0 (.seq c39_1 (.seq (.seq c39_2 (.block 0 (.loop [1, 2, 3, 4] c39_6))) (.seq c39_7 .ret))))
abbrev F_S_l15Copy : FuncId := 39
theorem v_S_l15Copy : VT 1 1 Tryd.f39 39 [0,1,2,3,4,14] [none] [(.give, 2, some (true, 3))] c39 := mkV Tryd.func39 rfl rfl (by kernel_rfl) (by kernel_rfl) rfl rfl
def c40_0:= rg [Qo 1 0,
Qf 2 0]
def c40_1:= rg [Qg 3 3 1,
Qm 4 7 3,
Qaa 5 4]
def c40_2:= rg [Qf 2 (-1)]
def c40_3:= rg [Qc 6 2 1,
Qd 7 1 6,
Qj 8 7,
Qbj 9 8 0]
def c40_4:= rg [Qc 10 0 1,
Qd 11 1 10,
Qb 2 11]
def c40_5:= rg [Qc 12 2 1,
Qd 13 1 12,
Qc 14 2 1,
Qd 15 1 14,
Qj 16 15,
⟨.loc 17, .bin .int .sub (.loc 16) (.const (.d (.int .i64 1))), none, []⟩,
Qu 18 7 13 17,
Qz 19 6 18,
Qd 20 1 19,
Qb 2 20]
def c40 : ACode := (.seq c40_0 (.seq (.seq c40_1 (.cond (.var 5) (.seq c40_2 .ret) .skip)) (.seq (.seq c40_3 (.cond (.var 9) (.seq c40_4 .ret) .skip)) (.seq c40_5 .ret))))
abbrev F_S_HeadOf : FuncId := 40
theorem v_S_HeadOf : VT 1 1 Tryd.f40 40 [0,1,2,5,9] [none] [(.give, 2, none)] c40 := mkV Tryd.func40 rfl rfl (by kernel_rfl) (by kernel_rfl) rfl rfl
def c41_0:= rg [Qo 1 0,
Qp 2 0 0 0 7]
def c41_1:= rg [Qc 3 2 1,
Qd 4 1 3,
Qm 5 56 4,
Qc 6 2 1,
Qq 1 6 5]
def c41_2:= rg [Qg 7 3 1,
Qk 3 2 7]
def c41 : ACode := (.seq c41_0 (.seq c41_1 (.seq c41_2 .ret)))
abbrev F_I_cloneChain : FuncId := 41
theorem v_I_cloneChain : VT 1 1 Tryd.f41 41 [0,1,2] [none] [(.give, 2, some (true, 3))] c41 := mkV Tryd.func41 rfl rfl (by kernel_rfl) (by kernel_rfl) rfl rfl
def c42_0:= rg [Qo 2 0,
Qo 3 1,
Qp 4 0 0 0 7,
Qh 5]
def c42_1:= rg [Qg 7 3 2,
Qm 8 41 7,
Qp 6 0 0 0 7,
Qk 3 6 8]
def c42_2:= rg [Qc 9 0 3,
⟨.none, .store 1 (.loc 9) (.const (.d (.int .i64 1))), none, []⟩]
def c42_3:= rg [Qc 10 2 2,
Qd 11 1 10,
Qj 12 11,
Qbc 13 12 0]
def c42_4:= rg [Qc 14 2 2,
Qd 15 1 14,
Qc 16 2 2,
Qd 17 1 16,
Qj 18 17,
⟨.loc 19, .bin .int .sub (.loc 18) (.const (.d (.int .i64 1))), none, []⟩,
Qu 20 7 15 19,
Qz 21 0 20,
Qd 22 1 21,
Ql 23 22 1,
Qc 24 0 3,
Qq 1 24 23]
def c42_5 : ACode := .reg [Qg 25 3 2,
  Qr 26 44 25 [0],
  Qg 27 7 3,
  Qbq 28 57 26 27 [2,1,0],
  ⟨.loc 29, .fld 6 (.var 3), none, [3, 2, 1, 0]⟩,
  Qak 1 29 28 [4,3,2,1,0]] true
def c42_6:= rg [Qc 30 2 6,
Qd 31 1 30,
Qj 32 31,
Qbj 33 32 120]
def c42_7:= rg [Qc 34 2 6,
Qd 35 1 34,
⟨.loc 36, .idxA 7 (.loc 35) (.const (.d (.int .i64 0))), none, []⟩,
Qz 37 6 36,
Qd 38 1 37,
Qc 39 0 6,
Qq 1 39 38]
def c42_8:= rg [Qc 40 2 6,
Qd 41 1 40,
⟨.loc 42, .sliceA 7 (.loc 41) (some (.const (.d (.int .i64 1)))) none, none, []⟩,
Qc 43 2 6,
Qq 1 43 42]
def c42_9:= rg [Qc 44 2 6,
Qd 45 1 44,
Qg 46 7 3,
⟨.loc 47, .lit 0 7 1 [.int .i64 0, .int .i64 0, .int .i64 0, .str [], .str [], .int .i64 0, .int .i64 0] [(0, (.loc 46))], none, []⟩,
⟨.loc 48, .app 7 72 (.loc 45) (.loc 47), none, []⟩,
Qc 49 2 6,
Qq 1 49 48]
def c42_10:= rg [Qg 50 3 6,
Qm 51 30 50,
Qaa 52 51]
def c42_11:= rg [Qg 53 3 2,
Qm 54 41 53,
Qk 3 4 54,
Qh 5]
def c42_12:= rg [Qg 55 3 6,
Qk 3 4 55,
Qan 5]
def c42 : ACode := (.seq c42_0 (.seq c42_1 (.seq c42_2 (.seq (.seq c42_3 (.cond (.var 13) c42_4 .skip)) (.seq c42_5 (.seq (.seq c42_6 (.cond (.var 33) (.seq c42_7 c42_8) .skip)) (.seq c42_9 (.seq (.seq c42_10 (.cond (.var 52) (.seq c42_11 .ret) .skip)) (.seq c42_12 .ret)))))))))
abbrev F_I_addNote : FuncId := 42
theorem v_I_addNote : VT 2 2 Tryd.f42 42 [0,1,2,3,4,5,6,13,33,52] [none, none] [(.give, 4, some (true, 3)), (.give, 5, none)] c42 := mkV Tryd.func42 rfl rfl (by kernel_rfl) (by kernel_rfl) rfl rfl
def c43_0:= rg [Qo 1 0,
Qf 2 0]
def c43_1:= rg [Qc 6 0 1,
Qd 7 1 6,
Qb 3 7]
def c43_2:= rg [Qc 8 2 1,
⟨.var 9, .load false 1 (.loc 8), none, []⟩,
⟨.var 10, .len false (.var 9), none, []⟩,
Qf 11 0]
def c43_3:= rg [Qbt 12 11 10]
def c43_4:= rg [Qa 13 11,
⟨.loc 14, .idxA 7 (.var 9) (.var 11), none, []⟩,
⟨.loc 15, .load true 7 (.loc 14), none, []⟩,
Qas 5 0 0 0 0 0,
Qb 4 13,
Qk 7 5 15]
def c43_5 : ACode := .reg [Qc 16 6 5,
  Qe 17 1 16 [0],
  Qa 18 3,
  Qg 19 7 5,
  Qbq 20 57 18 19 [2,3],
  ⟨.var 21, .bin .int .neq (.loc 17) (.loc 20), none, [1, 0, 4, 2, 3]⟩] true
def c43_6:= rg [Qa 22 4,
Qb 2 22]
def c43_7:= rg [Qc 23 6 5,
Qd 24 1 23,
Qb 3 24]
def c43_8:= rg [Qbu 25 11 1,
Qb 11 25]
def c43_9 : ACode := (.seq c43_3 (.seq (.cond (.var 12) .skip (.exit 0)) (.seq (.block 1 (.seq c43_4 (.seq (.seq c43_5 (.cond (.var 21) (.seq c43_6 .ret) .skip)) c43_7))) c43_8)))
def c43_10:= rg [Qc 26 2 1,
Qd 27 1 26,
Qj 28 27,
Qb 2 28]
def c43 : ACode := (.seq c43_0 (.seq c43_1 (.seq (.seq c43_2 (.block 0 (.loop [1, 3, 9, 10, 11] c43_9))) (.seq c43_10 .ret))))
abbrev F_I_breakOf : FuncId := 43
theorem v_I_breakOf : VT 1 1 Tryd.f43 43 [0,1,2,3,4,5,9,10,11,12,21] [none] [(.give, 2, none)] c43 := mkV Tryd.func43 rfl rfl (by kernel_rfl) (by kernel_rfl) rfl rfl
def c44_0:= rg [Qo 1 0,
Qf 2 0]
def c44_1:= rg [Qc 3 2 1,
Qd 4 1 3,
Qj 5 4,
Qbj 6 5 0]
def c44_2:= rg [Qc 7 0 1,
Qd 8 1 7,
Qb 2 8]
def c44_3:= rg [Qc 9 2 1,
Qd 10 1 9,
Qc 11 2 1,
Qd 12 1 11,
Qj 13 12,
⟨.loc 14, .bin .int .sub (.loc 13) (.const (.d (.int .i64 1))), none, []⟩,
Qu 15 7 10 14,
Qz 16 6 15,
Qd 17 1 16,
Qb 2 17]
def c44 : ACode := (.seq c44_0 (.seq (.seq c44_1 (.cond (.var 6) (.seq c44_2 .ret) .skip)) (.seq c44_3 .ret)))
abbrev F_I_headOf : FuncId := 44
theorem v_I_headOf : VT 1 1 Tryd.f44 44 [0,1,2,6] [none] [(.give, 2, none)] c44 := mkV Tryd.func44 rfl rfl (by kernel_rfl) (by kernel_rfl) rfl rfl
def c45_0:= rg [⟨.var 2, .mv (.const (.undef)), none, []⟩]
def c45_1:= rg [Qa 5 0,
Qj 6 5,
Qbs 7 705705 6,
Qb 3 7]
def c45_2:= rg [Qf 4 0]
def c45_3:= rg [Qa 8 4,
Qa 9 0,
Qj 10 9,
⟨.loc 11, .bin .int .lss (.loc 8) (.loc 10), none, []⟩,
Qi 12 11,
Qn 13 4 12,
⟨.loc 14, .bin .int .lss (.loc 13) (.const (.d (.int .i64 4000))), some ((.loc 12), true), []⟩,
Qbd 15 12 14]
def c45_4:= rg [Qa 18 3,
Qaw 19 18 149,
Qa 20 0,
Qa 21 4,
Qu 22 1 20 21,
Qd 23 1 22,
Qbb 24 23,
Qy 25 19 24,
Ql 26 25 11,
⟨.loc 27, .bin .int .and (.loc 26) (.const (.d (.int .i64 1073741823))), none, []⟩,
Qb 3 27]
def c45_5:= rg [Qa 16 4,
Ql 17 16 1,
Qb 4 17]
def c45_6 : ACode := (.seq (.seq c45_3 (.cond (.var 15) .skip (.exit 0))) (.seq (.block 1 c45_4) c45_5))
def c45_7:= rg [Qa 28 0,
Qa 29 3,
⟨.loc 30, .build [.nil 0 1, .d (.int .i64 0), .d (.int .i64 0)] [(0, 1, (.loc 28)), (2, 1, (.loc 29))], none, []⟩,
⟨.loc 31, .box (.loc 30), none, []⟩,
Qb 2 31]
def c45 : ACode := (.seq c45_0 (.seq c45_1 (.seq (.seq c45_2 (.block 0 (.loop [0, 3, 4] c45_6))) (.seq c45_7 .ret))))
abbrev F_S_l01New : FuncId := 45
theorem v_S_l01New : VT 1 1 Tryd.f45 45 [0,2,3,4,15] [none] [(.box 3, 2, none)] c45 := mkV Tryd.func45 rfl rfl (by kernel_rfl) (by kernel_rfl) rfl rfl
def c46_0:= rg [Qp 4 0 0 0 7]
def c46_1:= rg [Qa 11 0,
Qa 12 0,
Qag 13 23 12 16777216 3,
⟨.loc 14, .lit 0 1 4 [.int .i64 0] [(0, (.const (.d (.int .i64 0)))), (1, (.const (.d (.int .i64 0)))), (2, (.const (.d (.int .i64 7)))), (3, (.loc 13))], none, []⟩,
Qam 15 47 11 14 3,
Qa 16 0,
Qap 17 58 16 3,
⟨.loc 18, .build [.d (.int .i64 0), .d (.int .i64 0), .nil 0 7] [(0, 1, (.loc 15)), (1, 1, (.loc 17))], none, []⟩,
Qp 5 0 0 0 7,
Qk 3 5 18]
def c46_2:= rg [Qf 6 0]
def c46_3:= rg [Qf 7 0]
def c46_4:= rg [Qa 19 7,
Qa 20 1,
Qx 21 19 20]
def c46_5:= rg [Qa 24 6,
Qa 25 0,
Qag 26 23 25 3 3,
Qy 27 24 26,
Qb 6 27]
def c46_6 : ACode := .reg [Qg 29 3 5,
  Qa 30 0,
  Qa 31 6,
  ⟨.loc 32, .call (.fn 38) [(.loc 30), (.loc 31)] [.box 3, .borrow], none, [1, 2]⟩,
  Qbq 33 14 29 32 [0,3,1,2],
  ⟨.loc 28, .mv (.loc 33), none, [4, 0, 3, 1, 2]⟩,
  ⟨.loc 34, .ext (.loc 28) 0, none, [5, 4, 0, 3, 1, 2]⟩,
  ⟨.loc 35, .ext (.loc 28) 1, none, [5, 4, 0, 3, 1, 2]⟩,
  Qp 8 0 0 0 7,
  Qbl 3 8 34 [6,5,4,0,3,1,2,8],
  ⟨.loc 9, .mv (.loc 35), none, [7, 9, 6, 5, 4, 0, 3, 1, 2, 8]⟩] true
def c46_7:= rg [Qg 36 3 8,
Qk 3 5 36]
def c46_8:= rg [Qa 22 7,
Ql 23 22 1,
Qb 7 23]
def c46_9 : ACode := (.seq (.seq c46_4 (.cond (.var 21) .skip (.exit 0))) (.seq (.block 1 (.seq c46_5 (.seq c46_6 c46_7))) c46_8))
def c46_10:= rg [Qa 37 0,
Qag 38 25 37 5 3,
Qi 39 38,
Qaq 40 2 5 39,
Qah 41 1 40 39,
⟨.loc 42, .len false (.loc 41), some ((.loc 39), true), []⟩,
⟨.loc 43, .bin .int .gtr (.loc 42) (.const (.d (.int .i64 0))), some ((.loc 39), true), []⟩,
Qbd 44 39 43]
def c46_11:= rg [Qa 45 0,
Qc 46 2 5,
Qd 47 1 46,
Qj 48 47,
Qbg 49 23 45 48 3,
Qb 10 49]
def c46_12:= rg [Qa 50 0,
Qax 51 23 50 6 3]
def c46_13:= rg [Qad 53 51 0,
Qb 52 53]
def c46_14 : ACode := .reg [Qc 54 2 5,
  Qe 55 1 54 [0],
  Qa 56 10,
  Qc 57 2 5,
  Qe 58 1 57 [3],
  Qa 59 10,
  Qs 60 7 58 59 [4,3,5],
  Qt 61 5 60 [6,4,3,5],
  Qe 62 1 61 [7,6,4,3,5],
  Qbk 63 62 1 [8,7,6,4,3,5],
  Qs 64 7 55 56 [1,0,2,9,8,7,6,4,3,5],
  Qt 65 5 64 [10,1,0,2,9,8,7,6,4,3,5],
  Qak 1 65 63 [11,10,1,0,2,9,8,7,6,4,3,5]] true
def c46_15:= rg [Qad 67 51 1,
Qb 66 67]
def c46_16 : ACode := .reg [Qc 68 2 5,
  Qe 69 1 68 [0],
  Qa 70 10,
  Qc 71 2 5,
  Qe 72 1 71 [3],
  Qa 73 10,
  Qs 74 7 72 73 [4,3,5],
  Qt 75 6 74 [6,4,3,5],
  Qe 76 1 75 [7,6,4,3,5],
  Qbk 77 76 1 [8,7,6,4,3,5],
  Qs 78 7 69 70 [1,0,2,9,8,7,6,4,3,5],
  Qt 79 6 78 [10,1,0,2,9,8,7,6,4,3,5],
  Qak 1 79 77 [11,10,1,0,2,9,8,7,6,4,3,5]] true
def c46_17:= rg [Qad 81 51 2,
Qb 80 81]
def c46_18:= rg [Qc 82 2 5,
Qd 83 1 82,
Qa 84 10,
Qu 85 7 83 84,
Qz 86 3 85,
⟨.none, .store 1 (.loc 86) (.const (.d (.str [111, 116, 104, 101, 114]))), none, []⟩]
def c46_19:= rg [Qad 88 51 3,
Qb 87 88]
def c46_20:= rg [Qc 89 2 5,
Qd 90 1 89,
⟨.loc 91, .sliceA 7 (.loc 90) (some (.const (.d (.int .i64 1)))) none, none, []⟩,
Qc 92 2 5,
Qq 1 92 91]
def c46_21:= rg [Qad 94 51 4,
Qb 93 94]
def c46_22 : ACode := .reg [Qc 95 2 5,
  Qe 96 1 95 [0],
  Qa 97 10,
  Qc 98 2 5,
  Qe 99 1 98 [3],
  Qa 100 10,
  Qs 101 7 99 100 [4,3,5],
  Qt 102 0 101 [6,4,3,5],
  Qe 103 1 102 [7,6,4,3,5],
  Qbk 104 103 1 [8,7,6,4,3,5],
  Qs 105 7 96 97 [1,0,2,9,8,7,6,4,3,5],
  Qt 106 0 105 [10,1,0,2,9,8,7,6,4,3,5],
  Qak 1 106 104 [11,10,1,0,2,9,8,7,6,4,3,5]] true
def c46_23:= rg [Qad 108 51 5,
Qb 107 108]
def c46_24 : ACode := .reg [Qc 109 2 5,
  Qe 110 1 109 [0],
  Qa 111 10,
  Qa 112 0,
  ⟨.loc 113, .lit 0 1 2 [.int .i64 0] [(0, (.const (.d (.int .i64 (-1))))), (1, (.const (.d (.int .i64 0))))], none, []⟩,
  ⟨.loc 114, .call (.fn 47) [(.loc 112), (.loc 113)] [.box 3, .give], none, [3, 4]⟩,
  Qs 115 7 110 111 [1,0,2,5,3,4],
  Qt 116 1 115 [6,1,0,2,5,3,4],
  Qak 1 116 114 [7,6,1,0,2,5,3,4]] true
def c46_25:= rg [Qa 117 0,
Qax 118 25 117 30 3]
def c46_26:= rg [Qc 119 0 5,
⟨.none, .store 1 (.loc 119) (.const (.d (.int .i64 (-1)))), none, []⟩]
def c46_27:= rg [Qg 120 3 5,
Qk 3 4 120]
def c46 : ACode := (.seq c46_0 (.seq c46_1 (.seq c46_2 (.seq (.seq c46_3 (.block 0 (.loop [0, 1, 4, 5, 6, 7] c46_9))) (.seq (.seq c46_10 (.cond (.var 44) (.seq c46_11 (.seq c46_12 (.block 2 (.seq c46_13 (.cond (.var 52) c46_14 (.seq c46_15 (.cond (.var 66) c46_16 (.seq c46_17 (.cond (.var 80) c46_18 (.seq c46_19 (.cond (.var 87) c46_20 (.seq c46_21 (.cond (.var 93) c46_22 (.seq c46_23 (.cond (.var 107) c46_24 .skip))))))))))))))) .skip)) (.seq (.seq c46_25 (.cond (.var 118) c46_26 .skip)) (.seq c46_27 .ret)))))))
abbrev F_S_l15DrawChain : FuncId := 46
theorem v_S_l15DrawChain : VT 2 1 Tryd.f46 46 [0,1,4,5,6,7,8,10,21,44,51,52,66,80,87,93,107,118] [some (.box 3), none] [(.give, 4, some (true, 3))] c46 := mkV Tryd.func46 rfl rfl (by kernel_rfl) (by kernel_rfl) rfl rfl
def c47_0:= rg [Qf 4 0]
def c47_1:= rg [Qa 5 1,
Qa 6 0,
Qa 7 1,
Qj 8 7,
Qbg 9 23 6 8 3,
Qu 10 1 5 9,
Qd 11 1 10,
Qb 4 11]
def c47 : ACode := (.seq c47_0 (.seq c47_1 .ret))
abbrev F_S_l01PickInt : FuncId := 47
theorem v_S_l01PickInt : VT 2 1 Tryd.f47 47 [0,1,4] [some (.box 3), none] [(.give, 4, none)] c47 := mkV Tryd.func47 rfl rfl (by kernel_rfl) (by kernel_rfl) rfl rfl
def c48_0:= rg [Qf 2 0]
def c48_1:= rg [Qa 4 0,
Qa 5 0,
⟨.loc 6, .nchk (.loc 5), none, []⟩,
Qz 7 2 6,
Qd 8 1 7,
Qaw 9 8 6364136223846793005,
Ql 10 9 1442695040888963407,
⟨.loc 11, .nchk (.loc 4), none, []⟩,
Qz 12 2 11,
Qq 1 12 10]
def c48_2 : ACode := .reg [Qa 13 0,
  Qbi 14 13 [0],
  Qt 15 2 14 [1,0],
  Qe 16 1 15 [2,1,0],
  ⟨.loc 17, .bin .int .shr (.loc 16) (.const (.d (.int .u64 33))), none, [3, 2, 1, 0]⟩,
  Qa 18 0,
  Qbi 19 18 [5],
  Qt 20 2 19 [6,5],
  Qe 21 1 20 [7,6,5],
  ⟨.loc 22, .bin .int .shr (.loc 21) (.const (.d (.int .u64 45))), none, [8, 7, 6, 5]⟩,
  ⟨.loc 23, .bin .int .xor (.loc 17) (.loc 22), none, [4, 3, 2, 1, 0, 9, 8, 7, 6, 5]⟩,
  ⟨.loc 24, .bin .int .and (.loc 23) (.const (.d (.int .i64 255))), none, [10, 4, 3, 2, 1, 0, 9, 8, 7, 6, 5]⟩,
  Qaf 3 24 [11,10,4,3,2,1,0,9,8,7,6,5]] true
def c48_3 : ACode := .reg [Qa 25 0,
  Qbi 26 25 [0],
  Qt 27 1 26 [1,0],
  Qe 28 1 27 [2,1,0],
  Qa 29 0,
  Qbi 30 29 [4],
  Qt 31 0 30 [5,4],
  Qe 32 1 31 [6,5,4],
  Qba 33 32 [7,6,5,4],
  ⟨.var 34, .bin .int .lss (.loc 28) (.loc 33), none, [3, 2, 1, 0, 8, 7, 6, 5, 4]⟩] true
def c48_4 : ACode := .reg [Qa 35 3,
  Qa 36 0,
  Qbi 37 36 [1],
  Qt 38 0 37 [2,1],
  Qe 39 1 38 [3,2,1],
  Qa 40 0,
  Qbi 41 40 [5],
  Qt 42 1 41 [6,5],
  Qe 43 1 42 [7,6,5],
  Qs 44 1 39 43 [4,3,2,1,8,7,6,5],
  Qe 45 1 44 [9,4,3,2,1,8,7,6,5],
  ⟨.loc 46, .conv .i64 (.loc 45), none, [10, 9, 4, 3, 2, 1, 8, 7, 6, 5]⟩,
  ⟨.loc 47, .bin .int .add (.loc 35) (.loc 46), none, [0, 11, 10, 9, 4, 3, 2, 1, 8, 7, 6, 5]⟩,
  ⟨.loc 48, .bin .int .and (.loc 47) (.const (.d (.int .i64 255))), none, [12, 0, 11, 10, 9, 4, 3, 2, 1, 8, 7, 6, 5]⟩,
  Qaf 3 48 [13,12,0,11,10,9,4,3,2,1,8,7,6,5]] true
def c48_5:= rg [Qa 49 0,
Qa 50 0,
⟨.loc 51, .nchk (.loc 50), none, []⟩,
Qz 52 1 51,
Qd 53 1 52,
Ql 54 53 1,
⟨.loc 55, .nchk (.loc 49), none, []⟩,
Qz 56 1 55,
Qq 1 56 54]
def c48_6:= rg [Qa 57 3,
Qb 2 57]
def c48 : ACode := (.seq c48_0 (.seq c48_1 (.seq c48_2 (.seq (.seq c48_3 (.cond (.var 34) (.seq c48_4 c48_5) .skip)) (.seq c48_6 .ret)))))
abbrev F_S_l01Byte : FuncId := 48
theorem v_S_l01Byte : VT 1 1 Tryd.f48 48 [0,2,3,34] [some (.box 3)] [(.give, 2, none)] c48 := mkV Tryd.func48 rfl rfl (by kernel_rfl) (by kernel_rfl) rfl rfl
def c49_0:= rg [Qh 2]
def c49_1:= rg [Qa 5 0,
Qac 6 5,
Qbc 7 6 120]
def c49_2:= rg [Qh 2]
def c49_3:= rg [Qa 8 0,
⟨.loc 9, .call (.fn 59) [(.loc 8), (.const (.d (.int .u8 47)))] [.borrow, .borrow], none, []⟩,
Qb 3 9]
def c49_4:= rg [Qf 4 0]
def c49_5:= rg [Qa 10 4,
Qa 11 3,
Qj 12 11,
Qx 13 10 12]
def c49_6:= rg [Qa 16 3,
Qa 17 4,
Qu 18 1 16 17,
Qd 19 1 18,
Qm 20 60 19,
Qbp 21 20,
Qi 22 21,
Qn 23 3 22,
Qn 24 4 22,
⟨.loc 25, .idxA 1 (.loc 23) (.loc 24), some ((.loc 22), true), []⟩,
Qah 26 1 25 22,
⟨.loc 27, .bin .str .neq (.loc 26) (.const (.d (.str [43]))), some ((.loc 22), true), []⟩,
Qw 28 22 27,
Qi 29 28,
Qn 30 3 29,
Qn 31 4 29,
⟨.loc 32, .idxA 1 (.loc 30) (.loc 31), some ((.loc 29), true), []⟩,
Qah 33 1 32 29,
⟨.loc 34, .bin .str .eql (.loc 33) (.const (.d (.str [42]))), some ((.loc 29), true), []⟩,
⟨.loc 35, .split (.loc 34), some ((.loc 29), true), []⟩,
Qn 36 4 35,
Qn 37 3 35,
⟨.loc 38, .len false (.loc 37), some ((.loc 35), true), []⟩,
⟨.loc 39, .bin .int .sub (.loc 38) (.const (.d (.int .i64 1))), some ((.loc 35), true), []⟩,
⟨.loc 40, .bin .int .eql (.loc 36) (.loc 39), some ((.loc 35), true), []⟩,
⟨.loc 41, .pick (.loc 35) (.loc 40) (.const (.d (.bool false))), some ((.loc 29), true), []⟩,
⟨.loc 42, .un .not (.loc 41), some ((.loc 29), true), []⟩,
Qbd 43 29 42]
def c49_7:= rg [Qh 2]
def c49_8:= rg [Qa 14 4,
Ql 15 14 1,
Qb 4 15]
def c49_9 : ACode := (.seq (.seq c49_5 (.cond (.var 13) .skip (.exit 0))) (.seq (.block 1 (.seq c49_6 (.cond (.var 43) (.seq c49_7 .ret) .skip))) c49_8))
def c49_10:= rg [Qa 44 3,
Qj 45 44,
⟨.loc 46, .bin .int .leq (.loc 45) (.const (.d (.int .i64 8))), none, []⟩,
Qb 2 46]
def c49 : ACode := (.seq c49_0 (.seq (.seq c49_1 (.cond (.var 7) (.seq c49_2 .ret) .skip)) (.seq c49_3 (.seq (.seq c49_4 (.block 0 (.loop [3, 4] c49_9))) (.seq c49_10 .ret)))))
abbrev F_S_GlobOk : FuncId := 49
theorem v_S_GlobOk : VT 1 1 Tryd.f49 49 [0,2,3,4,7,13,43] [none] [(.give, 2, none)] c49 := mkV Tryd.func49 rfl rfl (by kernel_rfl) (by kernel_rfl) rfl rfl
def c50_0:= rg [Qo 1 0,
Qh 2]
def c50_1:= rg [Qc 3 0 1,
Qd 4 1 3,
Qao 5 61 4 1 1000000000,
Qi 6 5,
Qaq 7 1 1 6,
Qah 8 1 7 6,
⟨.loc 9, .call (.fn 61) [(.loc 8), (.const (.d (.int .i64 0))), (.const (.d (.int .i64 1000000000)))] [.borrow, .borrow, .borrow], some ((.loc 6), true), []⟩,
Qw 10 6 9,
Qi 11 10,
Qaq 12 2 1 11,
Qah 13 1 12 11,
⟨.loc 14, .call (.fn 61) [(.loc 13), (.const (.d (.int .i64 0))), (.const (.d (.int .i64 1000000000)))] [.borrow, .borrow, .borrow], some ((.loc 11), true), []⟩,
Qw 15 11 14,
Qi 16 15,
Qaq 17 3 1 16,
Qah 18 1 17 16,
⟨.loc 19, .call (.fn 62) [(.loc 18)] [.borrow], some ((.loc 16), true), []⟩,
Qw 20 16 19,
Qi 21 20,
Qaq 22 4 1 21,
Qah 23 1 22 21,
⟨.loc 24, .call (.fn 63) [(.loc 23)] [.borrow], some ((.loc 21), true), []⟩,
Qw 25 21 24,
Qi 26 25,
Qaq 27 5 1 26,
Qah 28 1 27 26,
⟨.loc 29, .call (.fn 61) [(.loc 28), (.const (.d (.int .i64 0))), (.const (.d (.int .i64 99)))] [.borrow, .borrow, .borrow], some ((.loc 26), true), []⟩,
Qw 30 26 29,
Qb 2 30]
def c50 : ACode := (.seq c50_0 (.seq c50_1 .ret))
abbrev F_I_isNote : FuncId := 50
theorem v_I_isNote : VT 1 1 Tryd.f50 50 [0,1,2] [none] [(.give, 2, none)] c50 := mkV Tryd.func50 rfl rfl (by kernel_rfl) (by kernel_rfl) rfl rfl
def c51_0:= rg [Qh 2]
def c51_1:= rg [Qa 3 0,
Qao 4 61 3 0 1099511627776,
Qb 2 4]
def c51 : ACode := (.seq c51_0 (.seq c51_1 .ret))
abbrev F_I_isKey : FuncId := 51
theorem v_I_isKey : VT 1 1 Tryd.f51 51 [0,2] [none] [(.give, 2, none)] c51 := mkV Tryd.func51 rfl rfl (by kernel_rfl) (by kernel_rfl) rfl rfl
def c54_0:= rg [Qbv 4]
def c54_1:= rg [Qa 5 1,
Qa 6 0,
Qa 7 1,
Qj 8 7,
Qbg 9 23 6 8 3,
Qu 10 1 5 9,
Qd 11 1 10,
Qb 4 11]
def c54 : ACode := (.seq c54_0 (.seq c54_1 .ret))
abbrev F_S_l01PickText : FuncId := 54
theorem v_S_l01PickText : VT 2 1 Tryd.f54 54 [0,1,4] [some (.box 3), none] [(.give, 4, none)] c54 := mkV Tryd.func54 rfl rfl (by kernel_rfl) (by kernel_rfl) rfl rfl
def c55_0:= rg [Qbv 2]
def c55_1:= rg [Qa 6 0,
Qap 7 65 6 3,
Qb 3 7]
def c55_2:= rg [Qa 8 0,
Qag 9 23 8 4 3,
Qb 4 9]
def c55_3:= rg [Qa 10 0,
Qax 11 25 10 20 3]
def c55_4:= rg [Qa 12 0,
Qag 13 23 12 2 3,
Qbs 14 7 13,
Qb 4 14]
def c55_5:= rg [Qf 5 0]
def c55_6:= rg [Qa 15 5,
Qa 16 4,
Qx 17 15 16]
def c55_7:= rg [Qa 20 3,
⟨.loc 21, .bin .str .add (.loc 20) (.const (.d (.str [47]))), none, []⟩,
Qa 22 0,
Qap 23 65 22 3,
⟨.loc 24, .bin .str .add (.loc 21) (.loc 23), none, []⟩,
Qb 3 24]
def c55_8:= rg [Qa 18 5,
Ql 19 18 1,
Qb 5 19]
def c55_9 : ACode := (.seq (.seq c55_6 (.cond (.var 17) .skip (.exit 0))) (.seq (.block 1 c55_7) c55_8))
def c55_10:= rg [Qa 25 3,
Qb 2 25]
def c55 : ACode := (.seq c55_0 (.seq c55_1 (.seq c55_2 (.seq (.seq c55_3 (.cond (.var 11) c55_4 .skip)) (.seq (.seq c55_5 (.block 0 (.loop [0, 3, 4, 5] c55_9))) (.seq c55_10 .ret))))))
abbrev F_S_l01DrawPath : FuncId := 55
theorem v_S_l01DrawPath : VT 1 1 Tryd.f55 55 [0,2,3,4,5,11,17] [some (.box 3)] [(.give, 2, none)] c55 := mkV Tryd.func55 rfl rfl (by kernel_rfl) (by kernel_rfl) rfl rfl
def c57_0:= rg [Qo 3 1,
Qf 4 0]
def c57_1 : ACode := .reg [Qa 6 0,
  Qr 7 31 6 [0],
  Qc 8 0 3,
  Qe 9 1 8 [2],
  Qr 10 31 9 [3,2,1,0],
  Qc 11 1 3,
  Qe 12 1 11 [5],
  Qr 13 31 12 [6,5,4,3,2,1,0],
  Qc 14 2 3,
  Qe 15 1 14 [8],
  Qr 16 31 15 [9,8,7,6,5,4,3,2,1,0],
  Qc 17 3 3,
  Qe 18 1 17 [11],
  Qc 19 4 3,
  Qe 20 1 19 [13],
  Qc 21 5 3,
  Qe 22 1 21 [15],
  Qr 23 31 22 [16,15,10,9,8,7,6,5,4,3,2,1,0],
  ⟨.loc 24, .lit 0 1 7 [.str []] [(0, (.loc 7)), (1, (.loc 10)), (2, (.loc 13)), (3, (.loc 16)), (4, (.loc 18)), (5, (.loc 20)), (6, (.loc 23))], none, [12, 11, 14, 13, 17, 16, 15, 10, 9, 8, 7, 6, 5, 4, 3, 2, 1, 0]⟩,
  Qaf 5 24 [18,12,11,14,13,17,16,15,10,9,8,7,6,5,4,3,2,1,0]] true
def c57_2:= rg [Qa 25 5,
⟨.loc 26, .call (.fn 66) [(.loc 25), (.const (.d (.str [10])))] [.borrow, .borrow], none, []⟩,
⟨.loc 27, .s2b (.loc 26), none, []⟩,
Qm 28 32 27,
Qb 4 28]
def c57 : ACode := (.seq c57_0 (.seq c57_1 (.seq c57_2 .ret)))
abbrev F_I_sumOf : FuncId := 57
theorem v_I_sumOf : VT 2 1 Tryd.f57 57 [0,1,3,4,5] [none, none] [(.give, 4, none)] c57 := mkV Tryd.func57 rfl rfl (by kernel_rfl) (by kernel_rfl) rfl rfl
def c58_0:= rg [Qf 2 0]
def c58_1:= rg [Qa 3 0,
Qag 4 23 3 16777216 3,
Qaw 5 4 65536,
Qa 6 0,
Qag 7 23 6 65536 3,
Qy 8 5 7,
Qb 2 8]
def c58 : ACode := (.seq c58_0 (.seq c58_1 .ret))
abbrev F_S_l04DrawGood : FuncId := 58
theorem v_S_l04DrawGood : VT 1 1 Tryd.f58 58 [0,2] [some (.box 3)] [(.give, 2, none)] c58 := mkV Tryd.func58 rfl rfl (by kernel_rfl) (by kernel_rfl) rfl rfl
def c59_0:= rg [⟨.var 4, .mv (.const (.nil 0 1)), none, []⟩]
def c59_1:= rg [⟨.loc 8, .lit 0 1 0 [.str []] [], none, []⟩,
Qb 5 8]
def c59_2:= rg [Qf 6 0]
def c59_3:= rg [Qf 7 0]
def c59_4:= rg [Qa 9 7,
Qa 10 0,
Qac 11 10,
⟨.var 12, .bin .int .leq (.loc 9) (.loc 11), none, []⟩]
def c59_5:= rg [Qa 15 7,
Qa 16 0,
Qac 17 16,
⟨.loc 18, .bin .int .eql (.loc 15) (.loc 17), none, []⟩,
Qi 19 18,
Qay 20 0 19,
Qay 21 7 19,
⟨.loc 22, .idxS (.loc 20) (.loc 21), some ((.loc 19), false), []⟩,
Qay 23 1 19,
⟨.loc 24, .bin .int .eql (.loc 22) (.loc 23), some ((.loc 19), false), []⟩,
Qat 25 19 24]
def c59_6:= rg [Qa 26 5,
Qa 27 0,
Qa 28 6,
Qa 29 7,
⟨.loc 30, .sliceS (.loc 27) (some (.loc 28)) (some (.loc 29)), none, []⟩,
⟨.loc 31, .lit 0 1 1 [.str []] [(0, (.loc 30))], none, []⟩,
⟨.loc 32, .app 1 16 (.loc 26) (.loc 31), none, []⟩,
Qb 5 32]
def c59_7:= rg [Qa 33 7,
Ql 34 33 1,
Qb 6 34]
def c59_8:= rg [Qa 13 7,
Ql 14 13 1,
Qb 7 14]
def c59_9 : ACode := (.seq (.seq c59_4 (.cond (.var 12) .skip (.exit 0))) (.seq (.block 1 (.seq c59_5 (.cond (.var 25) (.seq c59_6 c59_7) .skip))) c59_8))
def c59_10:= rg [Qa 35 5,
Qb 4 35]
def c59 : ACode := (.seq c59_0 (.seq c59_1 (.seq c59_2 (.seq (.seq c59_3 (.block 0 (.loop [0, 1, 5, 6, 7] c59_9))) (.seq c59_10 .ret)))))
abbrev F_S_l01Parts : FuncId := 59
theorem v_S_l01Parts : VT 2 1 Tryd.f59 59 [0,1,4,5,6,7,12,25] [none, none] [(.give, 4, none)] c59 := mkV Tryd.func59 rfl rfl (by kernel_rfl) (by kernel_rfl) rfl rfl
def c60_0:= rg [Qh 2]
def c60_1:= rg [Qa 5 0,
Qac 6 5,
Qao 7 27 6 1 16,
Qaa 8 7]
def c60_2:= rg [Qh 2]
def c60_3:= rg [Qf 3 0]
def c60_4:= rg [Qa 9 3,
Qa 10 0,
Qac 11 10,
Qx 12 9 11]
def c60_5:= rg [Qa 15 0,
Qa 16 3,
⟨.loc 17, .idxS (.loc 15) (.loc 16), none, []⟩,
Qb 4 17]
def c60_6:= rg [Qa 18 4,
⟨.loc 19, .bin .int .geq (.loc 18) (.const (.d (.int .u8 97))), none, []⟩,
Qi 20 19,
Qn 21 4 20,
⟨.loc 22, .bin .int .leq (.loc 21) (.const (.d (.int .u8 122))), some ((.loc 20), true), []⟩,
Qw 23 20 22,
Qbp 24 23,
Qi 25 24,
Qn 26 4 25,
⟨.loc 27, .bin .int .geq (.loc 26) (.const (.d (.int .u8 48))), some ((.loc 25), true), []⟩,
⟨.loc 28, .split (.loc 27), some ((.loc 25), true), []⟩,
Qn 29 4 28,
⟨.loc 30, .bin .int .leq (.loc 29) (.const (.d (.int .u8 57))), some ((.loc 28), true), []⟩,
⟨.loc 31, .pick (.loc 28) (.loc 30) (.const (.d (.bool false))), some ((.loc 25), true), []⟩,
⟨.loc 32, .un .not (.loc 31), some ((.loc 25), true), []⟩,
Qw 33 25 32,
Qi 34 33,
Qn 35 4 34,
⟨.loc 36, .bin .int .neq (.loc 35) (.const (.d (.int .u8 45))), some ((.loc 34), true), []⟩,
Qbd 37 34 36]
def c60_7:= rg [Qh 2]
def c60_8:= rg [Qa 13 3,
Ql 14 13 1,
Qb 3 14]
def c60_9 : ACode := (.seq (.seq c60_4 (.cond (.var 12) .skip (.exit 0))) (.seq (.block 1 (.seq c60_5 (.seq c60_6 (.cond (.var 37) (.seq c60_7 .ret) .skip)))) c60_8))
def c60_10:= rg [Qan 2]
def c60 : ACode := (.seq c60_0 (.seq (.seq c60_1 (.cond (.var 8) (.seq c60_2 .ret) .skip)) (.seq (.seq c60_3 (.block 0 (.loop [0, 3] c60_9))) (.seq c60_10 .ret))))
abbrev F_S_l01Segment : FuncId := 60
theorem v_S_l01Segment : VT 1 1 Tryd.f60 60 [0,2,3,4,8,12,37] [none] [(.give, 2, none)] c60 := mkV Tryd.func60 rfl rfl (by kernel_rfl) (by kernel_rfl) rfl rfl
def c61_0:= rg [Qh 6]
def c61_1:= rg [Qa 7 0,
Qa 8 1,
⟨.loc 9, .bin .int .geq (.loc 7) (.loc 8), none, []⟩,
Qi 10 9,
Qn 11 0 10,
Qn 12 2 10,
⟨.loc 13, .bin .int .leq (.loc 11) (.loc 12), some ((.loc 10), true), []⟩,
Qw 14 10 13,
Qb 6 14]
def c61 : ACode := (.seq c61_0 (.seq c61_1 .ret))
abbrev F_I_within : FuncId := 61
theorem v_I_within : VT 3 1 Tryd.f61 61 [0,1,2,6] [none, none, none] [(.give, 6, none)] c61 := mkV Tryd.func61 rfl rfl (by kernel_rfl) (by kernel_rfl) rfl rfl
def c62_0:= rg [Qh 2]
def c62_1:= rg [Qa 3 0,
Qac 4 3,
Qao 5 61 4 1 12,
Qi 6 5,
Qn 7 0 6,
⟨.loc 8, .call (.fn 67) [(.loc 7), (.const (.d (.str [97, 98, 99, 100, 101, 102, 103, 104, 105, 106, 107, 108, 109, 110, 111, 112, 113, 114, 115, 116, 117, 118, 119, 120, 121, 122, 48, 49, 50, 51, 52, 53, 54, 55, 56, 57])))] [.borrow, .borrow], some ((.loc 6), true), []⟩,
Qw 9 6 8,
Qb 2 9]
def c62 : ACode := (.seq c62_0 (.seq c62_1 .ret))
abbrev F_I_isName : FuncId := 62
theorem v_I_isName : VT 1 1 Tryd.f62 62 [0,2] [none] [(.give, 2, none)] c62 := mkV Tryd.func62 rfl rfl (by kernel_rfl) (by kernel_rfl) rfl rfl
def c63_0:= rg [Qh 2]
def c63_1:= rg [Qa 3 0,
Qm 4 68 3,
Qi 5 4,
Qn 6 0 5,
⟨.loc 7, .call (.fn 69) [(.loc 6), (.const (.d (.str [43, 42])))] [.borrow, .borrow], some ((.loc 5), true), []⟩,
⟨.loc 8, .un .not (.loc 7), some ((.loc 5), true), []⟩,
Qw 9 5 8,
Qb 2 9]
def c63 : ACode := (.seq c63_0 (.seq c63_1 .ret))
abbrev F_I_isPath : FuncId := 63
theorem v_I_isPath : VT 1 1 Tryd.f63 63 [0,2] [none] [(.give, 2, none)] c63 := mkV Tryd.func63 rfl rfl (by kernel_rfl) (by kernel_rfl) rfl rfl
def c65_0:= rg [Qbv 2]
def c65_1:= rg [Qa 3 0,
Qax 4 25 3 25 3]
def c65_2:= rg [Qa 5 0,
⟨.loc 6, .lit 0 1 9 [.str []] [(0, (.const (.d (.str [])))), (1, (.const (.d (.str [65])))), (2, (.const (.d (.str [97, 47, 98])))), (3, (.const (.d (.str [97, 98, 99, 100, 101, 102, 103, 104, 105, 106, 107, 108, 109, 110, 111, 112])))), (4, (.const (.d (.str [97, 98, 99, 100, 101, 102, 103, 104, 105, 106, 107, 108, 109, 110, 111, 112, 113])))), (5, (.const (.d (.str [45])))), (6, (.const (.d (.str [97, 32, 98])))), (7, (.const (.d (.str [43, 97])))), (8, (.const (.d (.str [42, 42]))))], none, []⟩,
Qam 7 54 5 6 3,
Qb 2 7]
def c65_3:= rg [Qa 8 0,
⟨.loc 9, .lit 0 1 7 [.str []] [(0, (.const (.d (.str [97])))), (1, (.const (.d (.str [98])))), (2, (.const (.d (.str [99])))), (3, (.const (.d (.str [107, 118])))), (4, (.const (.d (.str [100, 98])))), (5, (.const (.d (.str [120, 45, 49])))), (6, (.const (.d (.str [57]))))], none, []⟩,
Qam 10 54 8 9 3,
Qb 2 10]
def c65 : ACode := (.seq c65_0 (.seq (.seq c65_1 (.cond (.var 4) (.seq c65_2 .ret) .skip)) (.seq c65_3 .ret)))
abbrev F_S_l01DrawSegment : FuncId := 65
theorem v_S_l01DrawSegment : VT 1 1 Tryd.f65 65 [0,2,4] [some (.box 3)] [(.give, 2, none)] c65 := mkV Tryd.func65 rfl rfl (by kernel_rfl) (by kernel_rfl) rfl rfl
def c67_0:= rg [Qh 4]
def c67_1:= rg [Qa 6 0,
⟨.var 7, .len true (.loc 6), none, []⟩,
Qf 8 0]
def c67_2:= rg [Qbt 9 8 7]
def c67_3:= rg [Qa 10 8,
Qb 5 10]
def c67_4:= rg [Qa 11 1,
Qa 12 0,
Qa 13 5,
⟨.loc 14, .idxS (.loc 12) (.loc 13), none, []⟩,
Qaz 15 77 11 14,
⟨.var 16, .bin .int .lss (.loc 15) (.const (.d (.int .i64 0))), none, []⟩]
def c67_5:= rg [Qh 4]
def c67_6:= rg [Qbu 17 8 1,
Qb 8 17]
def c67_7 : ACode := (.seq c67_2 (.seq (.cond (.var 9) .skip (.exit 0)) (.seq (.block 1 (.seq c67_3 (.seq c67_4 (.cond (.var 16) (.seq c67_5 .ret) .skip)))) c67_6)))
def c67_8:= rg [Qan 4]
def c67 : ACode := (.seq c67_0 (.seq (.seq c67_1 (.block 0 (.loop [0, 1, 7, 8] c67_7))) (.seq c67_8 .ret)))
abbrev F_I_onlyOf : FuncId := 67
theorem v_I_onlyOf : VT 2 1 Tryd.f67 67 [0,1,4,5,7,8,9,16] [none, none] [(.give, 4, none)] c67 := mkV Tryd.func67 rfl rfl (by kernel_rfl) (by kernel_rfl) rfl rfl
def c68_0:= rg [Qh 2]
def c68_1:= rg [Qa 6 0,
Qac 7 6,
Qbc 8 7 120]
def c68_2:= rg [Qh 2]
def c68_3:= rg [Qa 9 0,
⟨.loc 10, .call (.fn 78) [(.loc 9), (.const (.d (.str [47])))] [.borrow, .borrow], none, []⟩,
Qb 3 10]
def c68_4:= rg [⟨.var 11, .mv (.var 3), none, []⟩,
⟨.var 12, .len false (.var 11), none, []⟩,
Qf 13 0]
def c68_5:= rg [Qbt 14 13 12]
def c68_6:= rg [Qa 15 13,
⟨.loc 16, .idxA 1 (.var 11) (.var 13), none, []⟩,
Qd 17 1 16,
Qb 4 15,
Qb 5 17]
def c68_7:= rg [Qa 18 5,
⟨.loc 19, .bin .str .eql (.loc 18) (.const (.d (.str [43]))), none, []⟩,
Qi 20 19,
Qay 21 5 20,
⟨.loc 22, .bin .str .eql (.loc 21) (.const (.d (.str [42]))), some ((.loc 20), false), []⟩,
⟨.loc 23, .split (.loc 22), some ((.loc 20), false), []⟩,
Qn 24 4 23,
Qn 25 3 23,
⟨.loc 26, .len false (.loc 25), some ((.loc 23), true), []⟩,
⟨.loc 27, .bin .int .sub (.loc 26) (.const (.d (.int .i64 1))), some ((.loc 23), true), []⟩,
⟨.loc 28, .bin .int .eql (.loc 24) (.loc 27), some ((.loc 23), true), []⟩,
⟨.loc 29, .pick (.loc 23) (.loc 28) (.const (.d (.bool false))), some ((.loc 20), false), []⟩,
Qat 30 20 29]
def c68_8:= rg [Qa 31 5,
Qac 32 31,
Qao 33 61 32 1 16,
Qbp 34 33,
Qi 35 34,
Qay 36 5 35,
⟨.loc 37, .call (.fn 67) [(.loc 36), (.const (.d (.str [97, 98, 99, 100, 101, 102, 103, 104, 105, 106, 107, 108, 109, 110, 111, 112, 113, 114, 115, 116, 117, 118, 119, 120, 121, 122, 48, 49, 50, 51, 52, 53, 54, 55, 56, 57, 45])))] [.borrow, .borrow], some ((.loc 35), false), []⟩,
Qav 38 37 35,
Qat 39 35 38]
def c68_9:= rg [Qh 2]
def c68_10:= rg [Qbu 40 13 1,
Qb 13 40]
def c68_11 : ACode := (.seq c68_5 (.seq (.cond (.var 14) .skip (.exit 0)) (.seq (.block 1 (.seq c68_6 (.seq (.seq c68_7 (.cond (.var 30) (.exit 1) .skip)) (.seq c68_8 (.cond (.var 39) (.seq c68_9 .ret) .skip))))) c68_10)))
def c68_12:= rg [Qa 41 3,
Qj 42 41,
⟨.loc 43, .bin .int .leq (.loc 42) (.const (.d (.int .i64 8))), none, []⟩,
Qb 2 43]
def c68 : ACode := (.seq c68_0 (.seq (.seq c68_1 (.cond (.var 8) (.seq c68_2 .ret) .skip)) (.seq c68_3 (.seq (.seq c68_4 (.block 0 (.loop [3, 11, 12, 13] c68_11))) (.seq c68_12 .ret)))))
abbrev F_I_isGlob : FuncId := 68
theorem v_I_isGlob : VT 1 1 Tryd.f68 68 [0,2,3,4,5,8,11,12,13,14,30,39] [none] [(.give, 2, none)] c68 := mkV Tryd.func68 rfl rfl (by kernel_rfl) (by kernel_rfl) rfl rfl

end Go.Proofs.YtalclmngpfpkmaaDoor.Ab
