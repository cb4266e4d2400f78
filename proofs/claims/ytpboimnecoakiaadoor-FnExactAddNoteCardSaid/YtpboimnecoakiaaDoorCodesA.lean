/-
  A part of a proof about the given program; what is proved is said where each theorem stands.
-/
import Derived.Lib.LaidTab
import Derived.Lib.ItoaLen
import Derived.Shelf.Strconv.Itoa3
import Derived.KernelRfl
import Derived.Test.YtpboimnecoakiaaDoorProg
import Derived.Test.YtpboimnecoakiaaDoorFrameA
import Derived.Test.YtpboimnecoakiaaDoorFrameB
import Derived.Test.YtpboimnecoakiaaDoorFrameC
import Derived.Test.YtpboimnecoakiaaDoorFrameD
import Derived.Test.YtpboimnecoakiaaDoorFrameE
import Derived.Test.YtpboimnecoakiaaDoorShelf
namespace Go.Proofs.YtpboimnecoakiaaDoor.Ab
open Go.Proofs
noncomputable abbrev PP : Program := Tryd.prog
/-- The table of powers of ten that the library's number texts lean on. -/
def pow10Cells : Obj → Prop
  | .cells cs _ _ => cs = (Lib.pow10Tab.map fun z => Value.int .u64 z).toArray
  | _ => False
class P10 (GG : GV) : Prop where
  h : GG 3 = some pow10Cells
/-- An error variable: nil or an error. -/
def errCell : Obj → Prop
  | .cells cs _ _ => ∃ ev, cs[0]? = some ev ∧ (ev = .nilIface ∨ ∃ te pe, ev = .iface te pe)
  | _ => False
/-- A number variable. -/
def intCell : Obj → Prop
  | .cells cs _ _ => ∃ m : Int, cs[0]? = some (.int .i64 m)
  | _ => False
class ESyn (GG : GV) : Prop where
  h : GG 1 = some errCell
class MaxL (GG : GV) : Prop where
  h : GG 0 = some intCell
class ERng (GG : GV) : Prop where
  h : GG 2 = some errCell
def c_L_FnExactAddNote_0 : ACode := .reg [⟨.var 2, .box (.var 0), none, []⟩,
  ⟨.var 3, .box (.var 1), none, []⟩,
  ⟨.var 4, .mv (.const (.d (.bool false))), none, []⟩] false
def c_L_FnExactAddNote_1 : ACode := .reg [⟨.var 5, .mv (.const (.d (.int .i64 1048576))), none, []⟩] false
def c_L_FnExactAddNote_2 : ACode := .reg [⟨.loc 16, .load true 3 (.var 2), none, []⟩,
  ⟨.loc 17, .mv (.var 5), none, []⟩,
  ⟨.loc 18, .call (.fn 11) [(.loc 16), (.loc 17)] [.borrow, .borrow], none, []⟩,
  ⟨.var 5, .mv (.loc 18), none, []⟩] false
def c_L_FnExactAddNote_3 : ACode := .reg [⟨.loc 19, .mv (.var 5), none, []⟩,
  ⟨.var 20, .bin .int .lss (.loc 19) (.const (.d (.int .i64 0))), none, []⟩] false
def c_L_FnExactAddNote_4 : ACode := .reg [⟨.var 4, .mv (.const (.d (.bool true))), none, []⟩] false
def c_L_FnExactAddNote_5 : ACode := .reg [⟨.loc 21, .load true 7 (.var 3), none, []⟩,
  ⟨.loc 22, .mv (.var 5), none, []⟩,
  ⟨.loc 23, .call (.fn 18) [(.loc 21), (.loc 22)] [.borrow, .borrow], none, []⟩,
  ⟨.var 5, .mv (.loc 23), none, []⟩] false
def c_L_FnExactAddNote_6 : ACode := .reg [⟨.loc 24, .mv (.var 5), none, []⟩,
  ⟨.var 25, .bin .int .lss (.loc 24) (.const (.d (.int .i64 0))), none, []⟩] false
def c_L_FnExactAddNote_7 : ACode := .reg [⟨.var 4, .mv (.const (.d (.bool true))), none, []⟩] false
def c_L_FnExactAddNote_8 : ACode := .reg [⟨.loc 27, .load true 3 (.var 2), none, []⟩,
  ⟨.loc 28, .call (.fn 13) [(.loc 27)] [.borrow], none, [0]⟩,
  ⟨.loc 29, .load true 7 (.var 3), none, []⟩,
  ⟨.loc 30, .call (.fn 20) [(.loc 29)] [.borrow], none, [2, 1, 0]⟩,
  ⟨.loc 31, .call (.fn 19) [(.loc 28), (.loc 30)] [.borrow, .borrow], none, [3, 2, 1, 0]⟩,
  ⟨.loc 26, .mv (.loc 31), none, [4, 3, 2, 1, 0]⟩,
  ⟨.loc 32, .ext (.loc 26) 0, none, [5, 4, 3, 2, 1, 0]⟩,
  ⟨.loc 33, .ext (.loc 26) 1, none, [5, 4, 3, 2, 1, 0]⟩,
  ⟨.var 6, .alloc [.d (.int .i64 0), .d (.int .i64 0), .nil 0 7], none, []⟩,
  ⟨.none, .store 3 (.var 6) (.loc 32), none, [6, 5, 4, 3, 2, 1, 0, 8]⟩,
  ⟨.var 7, .mv (.loc 33), none, [7, 9, 6, 5, 4, 3, 2, 1, 0, 8]⟩] true
def c_L_FnExactAddNote_9 : ACode := .reg [⟨.loc 34, .load true 3 (.var 2), none, []⟩,
  ⟨.loc 35, .call (.fn 13) [(.loc 34)] [.borrow], none, []⟩,
  ⟨.var 8, .alloc [.d (.int .i64 0), .d (.int .i64 0), .nil 0 7], none, []⟩,
  ⟨.none, .store 3 (.var 8) (.loc 35), none, []⟩] false
def c_L_FnExactAddNote_10 : ACode := .reg [⟨.loc 37, .load true 3 (.var 8), none, []⟩,
  ⟨.loc 38, .load true 7 (.var 3), none, []⟩,
  ⟨.loc 39, .call (.fn 20) [(.loc 38)] [.borrow], none, [1]⟩,
  ⟨.loc 40, .call (.fn 21) [(.loc 37), (.loc 39)] [.borrow, .borrow], none, [0, 2, 1]⟩,
  ⟨.loc 36, .mv (.loc 40), none, [3, 0, 2, 1]⟩,
  ⟨.loc 41, .ext (.loc 36) 0, none, [4, 3, 0, 2, 1]⟩,
  ⟨.loc 42, .ext (.loc 36) 1, none, [4, 3, 0, 2, 1]⟩,
  ⟨.var 9, .alloc [.d (.int .i64 0), .d (.int .i64 0), .nil 0 7], none, []⟩,
  ⟨.none, .store 3 (.var 9) (.loc 41), none, [5, 4, 3, 0, 2, 1, 7]⟩,
  ⟨.var 10, .mv (.loc 42), none, [6, 8, 5, 4, 3, 0, 2, 1, 7]⟩] true
def c_L_FnExactAddNote_11 : ACode := .reg [⟨.loc 43, .load true 3 (.var 9), none, []⟩,
  ⟨.loc 44, .load true 3 (.var 6), none, []⟩,
  ⟨.loc 45, .call (.fn 15) [(.loc 43), (.loc 44)] [.borrow, .borrow], none, []⟩,
  ⟨.loc 46, .un .not (.loc 45), none, []⟩,
  ⟨.loc 47, .split (.loc 46), none, []⟩,
  ⟨.loc 48, .mv (.var 10), some ((.loc 47), false), []⟩,
  ⟨.loc 49, .mv (.var 7), some ((.loc 47), false), []⟩,
  ⟨.loc 50, .bin .bool .neq (.loc 48) (.loc 49), some ((.loc 47), false), []⟩,
  ⟨.var 51, .pick (.loc 47) (.const (.d (.bool true))) (.loc 50), none, []⟩] false
def c_L_FnExactAddNote_12 : ACode := .reg [⟨.var 4, .mv (.const (.d (.bool false))), none, []⟩] false
def c_L_FnExactAddNote_13 : ACode := .reg [⟨.loc 52, .load true 3 (.var 8), none, []⟩,
  ⟨.loc 53, .load true 3 (.var 2), none, []⟩,
  ⟨.loc 54, .call (.fn 13) [(.loc 53)] [.borrow], none, [1]⟩,
  ⟨.loc 55, .call (.fn 15) [(.loc 52), (.loc 54)] [.borrow, .borrow], none, [0, 2, 1]⟩,
  ⟨.var 56, .un .not (.loc 55), none, [3, 0, 2, 1]⟩] true
def c_L_FnExactAddNote_14 : ACode := .reg [⟨.var 4, .mv (.const (.d (.bool false))), none, []⟩] false
def c_L_FnExactAddNote_15 : ACode := .reg [⟨.var 11, .mv (.const (.d (.int .i64 1))), none, []⟩] false
def c_L_FnExactAddNote_16 : ACode := .reg [⟨.loc 57, .load true 3 (.var 8), none, []⟩,
  ⟨.loc 58, .mv (.var 11), none, []⟩,
  ⟨.loc 59, .call (.fn 22) [(.loc 57), (.loc 58)] [.lend, .borrow], none, []⟩,
  ⟨.var 11, .mv (.loc 59), none, []⟩] false
def c_L_FnExactAddNote_17 : ACode := .reg [⟨.loc 60, .mv (.var 11), none, []⟩,
  ⟨.loc 61, .bin .int .lss (.loc 60) (.const (.d (.int .i64 0))), none, []⟩,
  ⟨.loc 62, .split (.loc 61), none, []⟩,
  ⟨.loc 63, .load true 3 (.var 9), some ((.loc 62), false), []⟩,
  ⟨.loc 64, .load true 3 (.var 6), some ((.loc 62), false), []⟩,
  ⟨.loc 65, .call (.fn 15) [(.loc 63), (.loc 64)] [.borrow, .borrow], some ((.loc 62), false), []⟩,
  ⟨.loc 66, .un .not (.loc 65), some ((.loc 62), false), []⟩,
  ⟨.loc 67, .pick (.loc 62) (.const (.d (.bool true))) (.loc 66), none, []⟩,
  ⟨.loc 68, .split (.loc 67), none, []⟩,
  ⟨.loc 69, .mv (.var 10), some ((.loc 68), false), []⟩,
  ⟨.loc 70, .mv (.var 7), some ((.loc 68), false), []⟩,
  ⟨.loc 71, .bin .bool .neq (.loc 69) (.loc 70), some ((.loc 68), false), []⟩,
  ⟨.var 72, .pick (.loc 68) (.const (.d (.bool true))) (.loc 71), none, []⟩] false
def c_L_FnExactAddNote_18 : ACode := .reg [⟨.var 4, .mv (.const (.d (.bool false))), none, []⟩] false
def c_L_FnExactAddNote_19 : ACode := .reg [⟨.var 12, .mv (.const (.d (.int .i64 1))), none, []⟩] false
def c_L_FnExactAddNote_20 : ACode := .reg [⟨.loc 73, .load true 3 (.var 9), none, []⟩,
  ⟨.loc 74, .mv (.var 12), none, []⟩,
  ⟨.loc 75, .call (.fn 22) [(.loc 73), (.loc 74)] [.lend, .borrow], none, []⟩,
  ⟨.var 12, .mv (.loc 75), none, []⟩] false
def c_L_FnExactAddNote_21 : ACode := .reg [⟨.var 13, .mv (.const (.d (.int .i64 1))), none, []⟩] false
def c_L_FnExactAddNote_22 : ACode := .reg [⟨.loc 76, .load true 3 (.var 9), none, []⟩,
  ⟨.loc 77, .mv (.var 13), none, []⟩,
  ⟨.loc 78, .call (.fn 23) [(.loc 76), (.loc 77)] [.borrow, .borrow], none, []⟩,
  ⟨.var 13, .mv (.loc 78), none, []⟩] false
def c_L_FnExactAddNote_23 : ACode := .reg [⟨.loc 79, .mv (.var 13), none, []⟩,
  ⟨.var 80, .bin .int .lss (.loc 79) (.const (.d (.int .i64 0))), none, []⟩] false
def c_L_FnExactAddNote_24 : ACode := .reg [⟨.var 4, .mv (.const (.d (.bool false))), none, []⟩] false
def c_L_FnExactAddNote_25 : ACode := .reg [⟨.loc 81, .mv (.var 13), none, []⟩,
  ⟨.loc 82, .mv (.var 12), none, []⟩,
  ⟨.var 83, .bin .int .neq (.loc 81) (.loc 82), none, []⟩] false
def c_L_FnExactAddNote_26 : ACode := .reg [⟨.var 4, .mv (.const (.d (.bool false))), none, []⟩] false
def c_L_FnExactAddNote_27 : ACode := .reg [⟨.loc 85, .load true 3 (.var 2), none, []⟩,
  ⟨.loc 86, .call (.fn 13) [(.loc 85)] [.borrow], none, [0]⟩,
  ⟨.loc 87, .load true 7 (.var 3), none, []⟩,
  ⟨.loc 88, .call (.fn 20) [(.loc 87)] [.borrow], none, [2, 1, 0]⟩,
  ⟨.loc 89, .call (.fn 21) [(.loc 86), (.loc 88)] [.borrow, .borrow], none, [3, 2, 1, 0]⟩,
  ⟨.loc 84, .mv (.loc 89), none, [4, 3, 2, 1, 0]⟩,
  ⟨.loc 90, .ext (.loc 84) 0, none, [5, 4, 3, 2, 1, 0]⟩,
  ⟨.loc 91, .ext (.loc 84) 1, none, [5, 4, 3, 2, 1, 0]⟩,
  ⟨.var 14, .alloc [.d (.int .i64 0), .d (.int .i64 0), .nil 0 7], none, []⟩,
  ⟨.none, .store 3 (.var 14) (.loc 90), none, [6, 5, 4, 3, 2, 1, 0, 8]⟩,
  ⟨.var 15, .mv (.loc 91), none, [7, 9, 6, 5, 4, 3, 2, 1, 0, 8]⟩] true
def c_L_FnExactAddNote_28 : ACode := .reg [⟨.loc 92, .load true 3 (.var 14), none, []⟩,
  ⟨.loc 93, .load true 3 (.var 6), none, []⟩,
  ⟨.loc 94, .call (.fn 15) [(.loc 92), (.loc 93)] [.borrow, .borrow], none, []⟩,
  ⟨.loc 95, .un .not (.loc 94), none, []⟩,
  ⟨.loc 96, .split (.loc 95), none, []⟩,
  ⟨.loc 97, .mv (.var 15), some ((.loc 96), false), []⟩,
  ⟨.loc 98, .mv (.var 7), some ((.loc 96), false), []⟩,
  ⟨.loc 99, .bin .bool .neq (.loc 97) (.loc 98), some ((.loc 96), false), []⟩,
  ⟨.var 100, .pick (.loc 96) (.const (.d (.bool true))) (.loc 99), none, []⟩] false
def c_L_FnExactAddNote_29 : ACode := .reg [⟨.var 4, .mv (.const (.d (.bool false))), none, []⟩] false
def c_L_FnExactAddNote_30 : ACode := .reg [⟨.var 13, .mv (.const (.d (.int .i64 1))), none, []⟩] false
def c_L_FnExactAddNote_31 : ACode := .reg [⟨.loc 101, .load true 3 (.var 9), none, []⟩,
  ⟨.loc 102, .mv (.var 13), none, []⟩,
  ⟨.loc 103, .call (.fn 23) [(.loc 101), (.loc 102)] [.borrow, .borrow], none, []⟩,
  ⟨.var 13, .mv (.loc 103), none, []⟩] false
def c_L_FnExactAddNote_32 : ACode := .reg [⟨.loc 104, .mv (.var 13), none, []⟩,
  ⟨.var 105, .bin .int .lss (.loc 104) (.const (.d (.int .i64 0))), none, []⟩] false
def c_L_FnExactAddNote_33 : ACode := .reg [⟨.var 4, .mv (.const (.d (.bool false))), none, []⟩] false
def c_L_FnExactAddNote_34 : ACode := .reg [⟨.loc 106, .mv (.var 13), none, []⟩,
  ⟨.loc 107, .mv (.var 12), none, []⟩,
  ⟨.var 108, .bin .int .neq (.loc 106) (.loc 107), none, []⟩] false
def c_L_FnExactAddNote_35 : ACode := .reg [⟨.var 4, .mv (.const (.d (.bool false))), none, []⟩] false
def c_L_FnExactAddNote_36 : ACode := .reg [⟨.var 4, .mv (.const (.d (.bool true))), none, []⟩] false
def c_L_FnExactAddNote : ACode := (.seq c_L_FnExactAddNote_0 (.seq c_L_FnExactAddNote_1 (.seq c_L_FnExactAddNote_2 (.seq (.seq c_L_FnExactAddNote_3 (.cond (.var 20) (.seq c_L_FnExactAddNote_4 .ret) .skip)) (.seq c_L_FnExactAddNote_5 (.seq (.seq c_L_FnExactAddNote_6 (.cond (.var 25) (.seq c_L_FnExactAddNote_7 .ret) .skip)) (.seq c_L_FnExactAddNote_8 (.seq c_L_FnExactAddNote_9 (.seq c_L_FnExactAddNote_10 (.seq (.seq c_L_FnExactAddNote_11 (.cond (.var 51) (.seq c_L_FnExactAddNote_12 .ret) .skip)) (.seq (.seq c_L_FnExactAddNote_13 (.cond (.var 56) (.seq c_L_FnExactAddNote_14 .ret) .skip)) (.seq c_L_FnExactAddNote_15 (.seq c_L_FnExactAddNote_16 (.seq (.seq c_L_FnExactAddNote_17 (.cond (.var 72) (.seq c_L_FnExactAddNote_18 .ret) .skip)) (.seq c_L_FnExactAddNote_19 (.seq c_L_FnExactAddNote_20 (.seq c_L_FnExactAddNote_21 (.seq c_L_FnExactAddNote_22 (.seq (.seq c_L_FnExactAddNote_23 (.cond (.var 80) (.seq c_L_FnExactAddNote_24 .ret) .skip)) (.seq (.seq c_L_FnExactAddNote_25 (.cond (.var 83) (.seq c_L_FnExactAddNote_26 .ret) .skip)) (.seq c_L_FnExactAddNote_27 (.seq (.seq c_L_FnExactAddNote_28 (.cond (.var 100) (.seq c_L_FnExactAddNote_29 .ret) .skip)) (.seq c_L_FnExactAddNote_30 (.seq c_L_FnExactAddNote_31 (.seq (.seq c_L_FnExactAddNote_32 (.cond (.var 105) (.seq c_L_FnExactAddNote_33 .ret) .skip)) (.seq (.seq c_L_FnExactAddNote_34 (.cond (.var 108) (.seq c_L_FnExactAddNote_35 .ret) .skip)) (.seq c_L_FnExactAddNote_36 .ret)))))))))))))))))))))))))))
abbrev F_L_FnExactAddNote : FuncId := 5
theorem k_L_FnExactAddNote : comp PP (Tryd.f5.ntmps, pinOf 0 [none, none]) [0, 1, 2, 3, 4, 5, 6, 7, 8, 9, 10, 11, 12, 13, 14, 15, 20, 25, 51, 56, 72, 80, 83, 100, 105, 108] (Tryd.f5.body.getD .skip) = some c_L_FnExactAddNote.erase := by kernel_rfl
theorem v_L_FnExactAddNote {GG : GV} (rcs : List C) {cs : List C} {r : C} {os : List (Option C)} (hN : (cs.length == 2 && rcs.length == 1) = true) (hret : retOf rcs = r)
    (hW : W PP [0, 1, 2, 3, 4, 5, 6, 7, 8, 9, 10, 11, 12, 13, 14, 15, 20, 25, 51, 56, 72, 80, 83, 100, 105, 108] (Tryd.f5.ntmps, pinOf 0 [none, none]) (Valid PP GG) c_L_FnExactAddNote (entry cs) (Fin (Valid PP GG) [(.give, 4, none)] [none, none] rcs os) (fun _ _ => False) (Fin (Valid PP GG) [(.give, 4, none)] [none, none] rcs os)) : Valid PP GG F_L_FnExactAddNote cs r os :=
  fn_valid_n 2 1 [0, 1, 2, 3, 4, 5, 6, 7, 8, 9, 10, 11, 12, 13, 14, 15, 20, 25, 51, 56, 72, 80, 83, 100, 105, 108] c_L_FnExactAddNote [(.give, 4, none)] [none, none] rcs Tryd.func5 rfl rfl (by kernel_rfl) k_L_FnExactAddNote rfl rfl hN hret hW
def c_L_szChain_0 : ACode := .reg [⟨.var 2, .box (.var 0), none, []⟩,
  ⟨.var 4, .mv (.const (.d (.int .i64 0))), none, []⟩] false
def c_L_szChain_1 : ACode := .reg [⟨.loc 5, .fld 2 (.var 2), none, []⟩,
  ⟨.loc 6, .load false 1 (.loc 5), none, []⟩,
  ⟨.loc 7, .mv (.var 1), none, []⟩,
  ⟨.loc 8, .call (.fn 48) [(.loc 6), (.loc 7)] [.borrow, .borrow], none, []⟩,
  ⟨.var 1, .mv (.loc 8), none, []⟩] false
def c_L_szChain_2 : ACode := .reg [⟨.loc 9, .mv (.var 1), none, []⟩,
  ⟨.var 10, .bin .int .lss (.loc 9) (.const (.d (.int .i64 0))), none, []⟩] false
def c_L_szChain_3 : ACode := .reg [⟨.var 4, .mv (.const (.d (.int .i64 (-1)))), none, []⟩] false
def c_L_szChain_4 : ACode := .reg [⟨.loc 11, .mv (.var 1), none, []⟩,
  ⟨.var 4, .mv (.loc 11), none, []⟩] false
def c_L_szChain : ACode := (.seq c_L_szChain_0 (.seq c_L_szChain_1 (.seq (.seq c_L_szChain_2 (.cond (.var 10) (.seq c_L_szChain_3 .ret) .skip)) (.seq c_L_szChain_4 .ret))))
abbrev F_L_szChain : FuncId := 11
theorem k_L_szChain : comp PP (Tryd.f11.ntmps, pinOf 0 [none, none]) [0, 1, 2, 4, 10] (Tryd.f11.body.getD .skip) = some c_L_szChain.erase := by kernel_rfl
theorem v_L_szChain {GG : GV} (rcs : List C) {cs : List C} {r : C} {os : List (Option C)} (hN : (cs.length == 2 && rcs.length == 1) = true) (hret : retOf rcs = r)
    (hW : W PP [0, 1, 2, 4, 10] (Tryd.f11.ntmps, pinOf 0 [none, none]) (Valid PP GG) c_L_szChain (entry cs) (Fin (Valid PP GG) [(.give, 4, none)] [none, none] rcs os) (fun _ _ => False) (Fin (Valid PP GG) [(.give, 4, none)] [none, none] rcs os)) : Valid PP GG F_L_szChain cs r os :=
  fn_valid_n 2 1 [0, 1, 2, 4, 10] c_L_szChain [(.give, 4, none)] [none, none] rcs Tryd.func11 rfl rfl (by kernel_rfl) k_L_szChain rfl rfl hN hret hW
def c_S_BreakOf_0 : ACode := .reg [⟨.var 1, .box (.var 0), none, []⟩,
  ⟨.var 2, .mv (.const (.d (.int .i64 0))), none, []⟩] false
def c_S_BreakOf_1 : ACode := .reg [⟨.loc 5, .load true 3 (.var 1), none, []⟩,
  ⟨.loc 6, .call (.fn 49) [(.loc 5)] [.borrow], none, []⟩,
  ⟨.var 7, .un .not (.loc 6), none, []⟩] false
def c_S_BreakOf_2 : ACode := .reg [⟨.var 2, .mv (.const (.d (.int .i64 (-1)))), none, []⟩] false
def c_S_BreakOf_3 : ACode := .reg [⟨.loc 8, .fld 0 (.var 1), none, []⟩,
  ⟨.loc 9, .load false 1 (.loc 8), none, []⟩,
  ⟨.var 3, .mv (.loc 9), none, []⟩] false
def c_S_BreakOf_4 : ACode := .reg [⟨.var 4, .mv (.const (.d (.int .i64 0))), none, []⟩] false
def c_S_BreakOf_5 : ACode := .reg [⟨.loc 10, .mv (.var 4), none, []⟩,
  ⟨.loc 11, .fld 2 (.var 1), none, []⟩,
  ⟨.loc 12, .load false 1 (.loc 11), none, []⟩,
  ⟨.loc 13, .len false (.loc 12), none, []⟩,
  ⟨.var 14, .bin .int .lss (.loc 10) (.loc 13), none, []⟩] false
def c_S_BreakOf_6 : ACode := .reg [⟨.loc 17, .fld 2 (.var 1), none, []⟩,
  ⟨.loc 18, .load false 1 (.loc 17), none, [0]⟩,
  ⟨.loc 19, .mv (.var 4), none, []⟩,
  ⟨.loc 20, .idxA 7 (.loc 18) (.loc 19), none, [1, 0, 2]⟩,
  ⟨.loc 21, .fld 6 (.loc 20), none, [3, 1, 0, 2]⟩,
  ⟨.loc 22, .load false 1 (.loc 21), none, [4, 3, 1, 0, 2]⟩,
  ⟨.loc 23, .mv (.var 3), none, []⟩,
  ⟨.loc 24, .fld 2 (.var 1), none, []⟩,
  ⟨.loc 25, .load false 1 (.loc 24), none, [7]⟩,
  ⟨.loc 26, .mv (.var 4), none, []⟩,
  ⟨.loc 27, .idxA 7 (.loc 25) (.loc 26), none, [8, 7, 9]⟩,
  ⟨.loc 28, .load true 7 (.loc 27), none, [10, 8, 7, 9]⟩,
  ⟨.loc 29, .call (.fn 50) [(.loc 23), (.loc 28)] [.borrow, .borrow], none, [6, 11, 10, 8, 7, 9]⟩,
  ⟨.var 30, .bin .int .neq (.loc 22) (.loc 29), none, [5, 4, 3, 1, 0, 2, 12, 6, 11, 10, 8, 7, 9]⟩] true
def c_S_BreakOf_7 : ACode := .reg [⟨.loc 31, .mv (.var 4), none, []⟩,
  ⟨.var 2, .mv (.loc 31), none, []⟩] false
def c_S_BreakOf_8 : ACode := .reg [⟨.loc 32, .fld 2 (.var 1), none, []⟩,
  ⟨.loc 33, .load false 1 (.loc 32), none, []⟩,
  ⟨.loc 34, .mv (.var 4), none, []⟩,
  ⟨.loc 35, .idxA 7 (.loc 33) (.loc 34), none, []⟩,
  ⟨.loc 36, .fld 6 (.loc 35), none, []⟩,
  ⟨.loc 37, .load false 1 (.loc 36), none, []⟩,
  ⟨.var 3, .mv (.loc 37), none, []⟩] false
def c_S_BreakOf_9 : ACode := .reg [⟨.loc 15, .mv (.var 4), none, []⟩,
  ⟨.loc 16, .bin .int .add (.loc 15) (.const (.d (.int .i64 1))), none, []⟩,
  ⟨.var 4, .mv (.loc 16), none, []⟩] false
def c_S_BreakOf_10 : ACode := (.seq (.seq c_S_BreakOf_5 (.cond (.var 14) .skip (.exit 0))) (.seq (.block 1 (.seq (.seq c_S_BreakOf_6 (.cond (.var 30) (.seq c_S_BreakOf_7 .ret) .skip)) c_S_BreakOf_8)) c_S_BreakOf_9))
def c_S_BreakOf_11 : ACode := .reg [⟨.loc 38, .fld 2 (.var 1), none, []⟩,
  ⟨.loc 39, .load false 1 (.loc 38), none, []⟩,
  ⟨.loc 40, .len false (.loc 39), none, []⟩,
  ⟨.var 2, .mv (.loc 40), none, []⟩] false
def c_S_BreakOf : ACode := (.seq c_S_BreakOf_0 (.seq (.seq c_S_BreakOf_1 (.cond (.var 7) (.seq c_S_BreakOf_2 .ret) .skip)) (.seq c_S_BreakOf_3 (.seq (.seq c_S_BreakOf_4 (.block 0 (.loop [1, 3, 4] c_S_BreakOf_10))) (.seq c_S_BreakOf_11 .ret)))))
abbrev F_S_BreakOf : FuncId := 12
theorem k_S_BreakOf : comp PP (Tryd.f12.ntmps, pinOf 0 [none]) [0, 1, 2, 3, 4, 7, 14, 30] (Tryd.f12.body.getD .skip) = some c_S_BreakOf.erase := by kernel_rfl
theorem v_S_BreakOf {GG : GV} (rcs : List C) {cs : List C} {r : C} {os : List (Option C)} (hN : (cs.length == 1 && rcs.length == 1) = true) (hret : retOf rcs = r)
    (hW : W PP [0, 1, 2, 3, 4, 7, 14, 30] (Tryd.f12.ntmps, pinOf 0 [none]) (Valid PP GG) c_S_BreakOf (entry cs) (Fin (Valid PP GG) [(.give, 2, none)] [none] rcs os) (fun _ _ => False) (Fin (Valid PP GG) [(.give, 2, none)] [none] rcs os)) : Valid PP GG F_S_BreakOf cs r os :=
  fn_valid_n 1 1 [0, 1, 2, 3, 4, 7, 14, 30] c_S_BreakOf [(.give, 2, none)] [none] rcs Tryd.func12 rfl rfl (by kernel_rfl) k_S_BreakOf rfl rfl hN hret hW
def c_L_toChain_0 : ACode := .reg [⟨.var 1, .box (.var 0), none, []⟩,
  ⟨.var 2, .alloc [.d (.int .i64 0), .d (.int .i64 0), .nil 0 7], none, []⟩] false
def c_L_toChain_1 : ACode := .reg [⟨.var 3, .alloc [.d (.int .i64 0), .d (.int .i64 0), .nil 0 7], none, []⟩] false
def c_L_toChain_2 : ACode := .reg [⟨.loc 4, .fld 0 (.var 1), none, []⟩,
  ⟨.loc 5, .load false 1 (.loc 4), none, []⟩,
  ⟨.loc 6, .fld 0 (.var 3), none, []⟩,
  ⟨.none, .store 1 (.loc 6) (.loc 5), none, []⟩] false
def c_L_toChain_3 : ACode := .reg [⟨.loc 7, .fld 1 (.var 1), none, []⟩,
  ⟨.loc 8, .load false 1 (.loc 7), none, []⟩,
  ⟨.loc 9, .fld 1 (.var 3), none, []⟩,
  ⟨.none, .store 1 (.loc 9) (.loc 8), none, []⟩] false
def c_L_toChain_4 : ACode := .reg [⟨.loc 10, .fld 2 (.var 1), none, []⟩,
  ⟨.loc 11, .load false 1 (.loc 10), none, []⟩,
  ⟨.loc 12, .call (.fn 51) [(.loc 11)] [.borrow], none, []⟩,
  ⟨.loc 13, .fld 2 (.var 3), none, []⟩,
  ⟨.none, .store 1 (.loc 13) (.loc 12), none, []⟩] false
def c_L_toChain_5 : ACode := .reg [⟨.loc 14, .load true 3 (.var 3), none, []⟩,
  ⟨.none, .store 3 (.var 2) (.loc 14), none, []⟩] false
def c_L_toChain : ACode := (.seq c_L_toChain_0 (.seq c_L_toChain_1 (.seq c_L_toChain_2 (.seq c_L_toChain_3 (.seq c_L_toChain_4 (.seq c_L_toChain_5 .ret))))))
abbrev F_L_toChain : FuncId := 13
theorem k_L_toChain : comp PP (Tryd.f13.ntmps, pinOf 0 [none]) [0, 1, 2, 3] (Tryd.f13.body.getD .skip) = some c_L_toChain.erase := by kernel_rfl
theorem v_L_toChain {GG : GV} (rcs : List C) {cs : List C} {r : C} {os : List (Option C)} (hN : (cs.length == 1 && rcs.length == 1) = true) (hret : retOf rcs = r)
    (hW : W PP [0, 1, 2, 3] (Tryd.f13.ntmps, pinOf 0 [none]) (Valid PP GG) c_L_toChain (entry cs) (Fin (Valid PP GG) [(.give, 2, some (true, 3))] [none] rcs os) (fun _ _ => False) (Fin (Valid PP GG) [(.give, 2, some (true, 3))] [none] rcs os)) : Valid PP GG F_L_toChain cs r os :=
  fn_valid_n 1 1 [0, 1, 2, 3] c_L_toChain [(.give, 2, some (true, 3))] [none] rcs Tryd.func13 rfl rfl (by kernel_rfl) k_L_toChain rfl rfl hN hret hW
def c_I_BreakOf_0 : ACode := .reg [⟨.var 1, .box (.var 0), none, []⟩,
  ⟨.var 2, .mv (.const (.d (.int .i64 0))), none, []⟩] false
def c_I_BreakOf_1 : ACode := .reg [⟨.loc 3, .load true 3 (.var 1), none, []⟩,
  ⟨.loc 4, .call (.fn 52) [(.loc 3)] [.borrow], none, []⟩,
  ⟨.var 5, .un .not (.loc 4), none, []⟩] false
def c_I_BreakOf_2 : ACode := .reg [⟨.var 2, .mv (.const (.d (.int .i64 (-1)))), none, []⟩] false
def c_I_BreakOf_3 : ACode := .reg [⟨.loc 6, .load true 3 (.var 1), none, []⟩,
  ⟨.loc 7, .call (.fn 53) [(.loc 6)] [.borrow], none, []⟩,
  ⟨.var 2, .mv (.loc 7), none, []⟩] false
def c_I_BreakOf : ACode := (.seq c_I_BreakOf_0 (.seq (.seq c_I_BreakOf_1 (.cond (.var 5) (.seq c_I_BreakOf_2 .ret) .skip)) (.seq c_I_BreakOf_3 .ret)))
abbrev F_I_BreakOf : FuncId := 14
theorem k_I_BreakOf : comp PP (Tryd.f14.ntmps, pinOf 0 [none]) [0, 1, 2, 5] (Tryd.f14.body.getD .skip) = some c_I_BreakOf.erase := by kernel_rfl
theorem v_I_BreakOf {GG : GV} (rcs : List C) {cs : List C} {r : C} {os : List (Option C)} (hN : (cs.length == 1 && rcs.length == 1) = true) (hret : retOf rcs = r)
    (hW : W PP [0, 1, 2, 5] (Tryd.f14.ntmps, pinOf 0 [none]) (Valid PP GG) c_I_BreakOf (entry cs) (Fin (Valid PP GG) [(.give, 2, none)] [none] rcs os) (fun _ _ => False) (Fin (Valid PP GG) [(.give, 2, none)] [none] rcs os)) : Valid PP GG F_I_BreakOf cs r os :=
  fn_valid_n 1 1 [0, 1, 2, 5] c_I_BreakOf [(.give, 2, none)] [none] rcs Tryd.func14 rfl rfl (by kernel_rfl) k_I_BreakOf rfl rfl hN hret hW
def c_L_eqChain_0 : ACode := .reg [⟨.var 2, .box (.var 0), none, []⟩,
  ⟨.var 3, .box (.var 1), none, []⟩,
  ⟨.var 4, .mv (.const (.d (.bool false))), none, []⟩] false
def c_L_eqChain_1 : ACode := .reg [⟨.loc 5, .fld 0 (.var 2), none, []⟩,
  ⟨.loc 6, .load false 1 (.loc 5), none, []⟩,
  ⟨.loc 7, .fld 0 (.var 3), none, []⟩,
  ⟨.loc 8, .load false 1 (.loc 7), none, []⟩,
  ⟨.var 9, .bin .int .neq (.loc 6) (.loc 8), none, []⟩] false
def c_L_eqChain_2 : ACode := .reg [⟨.var 4, .mv (.const (.d (.bool false))), none, []⟩] false
def c_L_eqChain_3 : ACode := .reg [⟨.loc 10, .fld 1 (.var 2), none, []⟩,
  ⟨.loc 11, .load false 1 (.loc 10), none, []⟩,
  ⟨.loc 12, .fld 1 (.var 3), none, []⟩,
  ⟨.loc 13, .load false 1 (.loc 12), none, []⟩,
  ⟨.var 14, .bin .int .neq (.loc 11) (.loc 13), none, []⟩] false
def c_L_eqChain_4 : ACode := .reg [⟨.var 4, .mv (.const (.d (.bool false))), none, []⟩] false
def c_L_eqChain_5 : ACode := .reg [⟨.loc 15, .fld 2 (.var 2), none, []⟩,
  ⟨.loc 16, .load false 1 (.loc 15), none, []⟩,
  ⟨.loc 17, .fld 2 (.var 3), none, []⟩,
  ⟨.loc 18, .load false 1 (.loc 17), none, []⟩,
  ⟨.loc 19, .call (.fn 54) [(.loc 16), (.loc 18)] [.borrow, .borrow], none, []⟩,
  ⟨.var 20, .un .not (.loc 19), none, []⟩] false
def c_L_eqChain_6 : ACode := .reg [⟨.var 4, .mv (.const (.d (.bool false))), none, []⟩] false
def c_L_eqChain_7 : ACode := .reg [⟨.var 4, .mv (.const (.d (.bool true))), none, []⟩] false
def c_L_eqChain : ACode := (.seq c_L_eqChain_0 (.seq (.seq c_L_eqChain_1 (.cond (.var 9) (.seq c_L_eqChain_2 .ret) .skip)) (.seq (.seq c_L_eqChain_3 (.cond (.var 14) (.seq c_L_eqChain_4 .ret) .skip)) (.seq (.seq c_L_eqChain_5 (.cond (.var 20) (.seq c_L_eqChain_6 .ret) .skip)) (.seq c_L_eqChain_7 .ret)))))
abbrev F_L_eqChain : FuncId := 15
theorem k_L_eqChain : comp PP (Tryd.f15.ntmps, pinOf 0 [none, none]) [0, 1, 2, 3, 4, 9, 14, 20] (Tryd.f15.body.getD .skip) = some c_L_eqChain.erase := by kernel_rfl
theorem v_L_eqChain {GG : GV} (rcs : List C) {cs : List C} {r : C} {os : List (Option C)} (hN : (cs.length == 2 && rcs.length == 1) = true) (hret : retOf rcs = r)
    (hW : W PP [0, 1, 2, 3, 4, 9, 14, 20] (Tryd.f15.ntmps, pinOf 0 [none, none]) (Valid PP GG) c_L_eqChain (entry cs) (Fin (Valid PP GG) [(.give, 4, none)] [none, none] rcs os) (fun _ _ => False) (Fin (Valid PP GG) [(.give, 4, none)] [none, none] rcs os)) : Valid PP GG F_L_eqChain cs r os :=
  fn_valid_n 2 1 [0, 1, 2, 3, 4, 9, 14, 20] c_L_eqChain [(.give, 4, none)] [none, none] rcs Tryd.func15 rfl rfl (by kernel_rfl) k_L_eqChain rfl rfl hN hret hW
def c_L_szNote_0 : ACode := .reg [⟨.var 2, .box (.var 0), none, []⟩,
  ⟨.var 4, .mv (.const (.d (.int .i64 0))), none, []⟩] false
def c_L_szNote_1 : ACode := .reg [⟨.loc 5, .mv (.var 1), none, []⟩,
  ⟨.loc 6, .fld 3 (.var 2), none, []⟩,
  ⟨.loc 7, .load false 1 (.loc 6), none, []⟩,
  ⟨.loc 8, .len true (.loc 7), none, []⟩,
  ⟨.loc 9, .bin .int .sub (.loc 5) (.loc 8), none, []⟩,
  ⟨.var 1, .mv (.loc 9), none, []⟩] false
def c_L_szNote_2 : ACode := .reg [⟨.loc 10, .mv (.var 1), none, []⟩,
  ⟨.var 11, .bin .int .lss (.loc 10) (.const (.d (.int .i64 0))), none, []⟩] false
def c_L_szNote_3 : ACode := .reg [⟨.var 4, .mv (.const (.d (.int .i64 (-1)))), none, []⟩] false
def c_L_szNote_4 : ACode := .reg [⟨.loc 12, .mv (.var 1), none, []⟩,
  ⟨.loc 13, .fld 4 (.var 2), none, []⟩,
  ⟨.loc 14, .load false 1 (.loc 13), none, []⟩,
  ⟨.loc 15, .len true (.loc 14), none, []⟩,
  ⟨.loc 16, .bin .int .sub (.loc 12) (.loc 15), none, []⟩,
  ⟨.var 1, .mv (.loc 16), none, []⟩] false
def c_L_szNote_5 : ACode := .reg [⟨.loc 17, .mv (.var 1), none, []⟩,
  ⟨.var 18, .bin .int .lss (.loc 17) (.const (.d (.int .i64 0))), none, []⟩] false
def c_L_szNote_6 : ACode := .reg [⟨.var 4, .mv (.const (.d (.int .i64 (-1)))), none, []⟩] false
def c_L_szNote_7 : ACode := .reg [⟨.loc 19, .mv (.var 1), none, []⟩,
  ⟨.var 4, .mv (.loc 19), none, []⟩] false
def c_L_szNote : ACode := (.seq c_L_szNote_0 (.seq c_L_szNote_1 (.seq (.seq c_L_szNote_2 (.cond (.var 11) (.seq c_L_szNote_3 .ret) .skip)) (.seq c_L_szNote_4 (.seq (.seq c_L_szNote_5 (.cond (.var 18) (.seq c_L_szNote_6 .ret) .skip)) (.seq c_L_szNote_7 .ret))))))
abbrev F_L_szNote : FuncId := 18
theorem k_L_szNote : comp PP (Tryd.f18.ntmps, pinOf 0 [none, none]) [0, 1, 2, 4, 11, 18] (Tryd.f18.body.getD .skip) = some c_L_szNote.erase := by kernel_rfl
theorem v_L_szNote {GG : GV} (rcs : List C) {cs : List C} {r : C} {os : List (Option C)} (hN : (cs.length == 2 && rcs.length == 1) = true) (hret : retOf rcs = r)
    (hW : W PP [0, 1, 2, 4, 11, 18] (Tryd.f18.ntmps, pinOf 0 [none, none]) (Valid PP GG) c_L_szNote (entry cs) (Fin (Valid PP GG) [(.give, 4, none)] [none, none] rcs os) (fun _ _ => False) (Fin (Valid PP GG) [(.give, 4, none)] [none, none] rcs os)) : Valid PP GG F_L_szNote cs r os :=
  fn_valid_n 2 1 [0, 1, 2, 4, 11, 18] c_L_szNote [(.give, 4, none)] [none, none] rcs Tryd.func18 rfl rfl (by kernel_rfl) k_L_szNote rfl rfl hN hret hW
def c_S_AddNote_0 : ACode := .reg [⟨.var 2, .box (.var 0), none, []⟩,
  ⟨.var 3, .box (.var 1), none, []⟩,
  ⟨.var 4, .alloc [.d (.int .i64 0), .d (.int .i64 0), .nil 0 7], none, []⟩,
  ⟨.var 5, .mv (.const (.d (.bool false))), none, []⟩] false
def c_S_AddNote_1 : ACode := .reg [⟨.loc 8, .load true 3 (.var 2), none, []⟩,
  ⟨.loc 9, .call (.fn 57) [(.loc 8)] [.borrow], none, []⟩,
  ⟨.var 6, .alloc [.d (.int .i64 0), .d (.int .i64 0), .nil 0 7], none, []⟩,
  ⟨.none, .store 3 (.var 6) (.loc 9), none, []⟩] false
def c_S_AddNote_2 : ACode := .reg [⟨.loc 10, .load true 3 (.var 2), none, []⟩,
  ⟨.loc 11, .call (.fn 49) [(.loc 10)] [.borrow], none, []⟩,
  ⟨.var 12, .un .not (.loc 11), none, []⟩] false
def c_S_AddNote_3 : ACode := .reg [⟨.loc 13, .load true 3 (.var 6), none, []⟩,
  ⟨.none, .store 3 (.var 4) (.loc 13), none, []⟩,
  ⟨.var 5, .mv (.const (.d (.bool false))), none, []⟩] false
def c_S_AddNote_4 : ACode := .reg [⟨.loc 14, .fld 0 (.var 3), none, []⟩,
  ⟨.none, .store 1 (.loc 14) (.const (.d (.int .i64 1))), none, []⟩] false
def c_S_AddNote_5 : ACode := .reg [⟨.loc 15, .fld 2 (.var 2), none, []⟩,
  ⟨.loc 16, .load false 1 (.loc 15), none, []⟩,
  ⟨.loc 17, .len false (.loc 16), none, []⟩,
  ⟨.var 7, .mv (.loc 17), none, []⟩] false
def c_S_AddNote_6 : ACode := .reg [⟨.loc 18, .mv (.var 7), none, []⟩,
  ⟨.var 19, .bin .int .gtr (.loc 18) (.const (.d (.int .i64 0))), none, []⟩] false
def c_S_AddNote_7 : ACode := .reg [⟨.loc 20, .fld 2 (.var 2), none, []⟩,
  ⟨.loc 21, .load false 1 (.loc 20), none, []⟩,
  ⟨.loc 22, .mv (.var 7), none, []⟩,
  ⟨.loc 23, .bin .int .sub (.loc 22) (.const (.d (.int .i64 1))), none, []⟩,
  ⟨.loc 24, .idxA 7 (.loc 21) (.loc 23), none, []⟩,
  ⟨.loc 25, .fld 0 (.loc 24), none, []⟩,
  ⟨.loc 26, .load false 1 (.loc 25), none, []⟩,
  ⟨.loc 27, .bin .int .add (.loc 26) (.const (.d (.int .i64 1))), none, []⟩,
  ⟨.loc 28, .fld 0 (.var 3), none, []⟩,
  ⟨.none, .store 1 (.loc 28) (.loc 27), none, []⟩] false
def c_S_AddNote_8 : ACode := .reg [⟨.loc 29, .load true 3 (.var 2), none, []⟩,
  ⟨.loc 30, .call (.fn 55) [(.loc 29)] [.borrow], none, [0]⟩,
  ⟨.loc 31, .load true 7 (.var 3), none, []⟩,
  ⟨.loc 32, .call (.fn 50) [(.loc 30), (.loc 31)] [.borrow, .borrow], none, [2, 1, 0]⟩,
  ⟨.loc 33, .fld 6 (.var 3), none, [3, 2, 1, 0]⟩,
  ⟨.none, .store 1 (.loc 33) (.loc 32), none, [4, 3, 2, 1, 0]⟩] true
def c_S_AddNote_9 : ACode := .reg [⟨.loc 34, .fld 2 (.var 6), none, []⟩,
  ⟨.loc 35, .load false 1 (.loc 34), none, []⟩,
  ⟨.loc 36, .load true 7 (.var 3), none, []⟩,
  ⟨.loc 37, .lit 0 7 1 [.int .i64 0, .int .i64 0, .int .i64 0, .str [], .str [], .int .i64 0, .int .i64 0] [(0, (.loc 36))], none, []⟩,
  ⟨.loc 38, .app 7 72 (.loc 35) (.loc 37), none, []⟩,
  ⟨.loc 39, .fld 2 (.var 6), none, []⟩,
  ⟨.none, .store 1 (.loc 39) (.loc 38), none, []⟩] false
def c_S_AddNote_10 : ACode := .reg [⟨.loc 40, .fld 2 (.var 6), none, []⟩,
  ⟨.loc 41, .load false 1 (.loc 40), none, []⟩,
  ⟨.loc 42, .len false (.loc 41), none, []⟩,
  ⟨.var 43, .bin .int .gtr (.loc 42) (.const (.d (.int .i64 120))), none, []⟩] false
def c_S_AddNote_11 : ACode := .reg [⟨.loc 44, .fld 2 (.var 6), none, []⟩,
  ⟨.loc 45, .load false 1 (.loc 44), none, []⟩,
  ⟨.loc 46, .idxA 7 (.loc 45) (.const (.d (.int .i64 0))), none, []⟩,
  ⟨.loc 47, .fld 6 (.loc 46), none, []⟩,
  ⟨.loc 48, .load false 1 (.loc 47), none, []⟩,
  ⟨.loc 49, .fld 0 (.var 6), none, []⟩,
  ⟨.none, .store 1 (.loc 49) (.loc 48), none, []⟩] false
def c_S_AddNote_12 : ACode := .reg [⟨.loc 50, .fld 2 (.var 6), none, []⟩,
  ⟨.loc 51, .load false 1 (.loc 50), none, []⟩,
  ⟨.loc 52, .sliceA 7 (.loc 51) (some (.const (.d (.int .i64 1)))) none, none, []⟩,
  ⟨.loc 53, .fld 2 (.var 6), none, []⟩,
  ⟨.none, .store 1 (.loc 53) (.loc 52), none, []⟩] false
def c_S_AddNote_13 : ACode := .reg [⟨.loc 54, .load true 3 (.var 6), none, []⟩,
  ⟨.loc 55, .call (.fn 49) [(.loc 54)] [.borrow], none, []⟩,
  ⟨.var 56, .un .not (.loc 55), none, []⟩] false
def c_S_AddNote_14 : ACode := .reg [⟨.loc 57, .load true 3 (.var 2), none, []⟩,
  ⟨.loc 58, .call (.fn 57) [(.loc 57)] [.borrow], none, []⟩,
  ⟨.none, .store 3 (.var 4) (.loc 58), none, []⟩,
  ⟨.var 5, .mv (.const (.d (.bool false))), none, []⟩] false
def c_S_AddNote_15 : ACode := .reg [⟨.loc 59, .load true 3 (.var 6), none, []⟩,
  ⟨.none, .store 3 (.var 4) (.loc 59), none, []⟩,
  ⟨.var 5, .mv (.const (.d (.bool true))), none, []⟩] false
def c_S_AddNote : ACode := (.seq c_S_AddNote_0 (.seq c_S_AddNote_1 (.seq (.seq c_S_AddNote_2 (.cond (.var 12) (.seq c_S_AddNote_3 .ret) .skip)) (.seq c_S_AddNote_4 (.seq (.seq c_S_AddNote_5 (.seq c_S_AddNote_6 (.cond (.var 19) c_S_AddNote_7 .skip))) (.seq c_S_AddNote_8 (.seq c_S_AddNote_9 (.seq (.seq c_S_AddNote_10 (.cond (.var 43) (.seq c_S_AddNote_11 c_S_AddNote_12) .skip)) (.seq (.seq c_S_AddNote_13 (.cond (.var 56) (.seq c_S_AddNote_14 .ret) .skip)) (.seq c_S_AddNote_15 .ret))))))))))
abbrev F_S_AddNote : FuncId := 19
theorem k_S_AddNote : comp PP (Tryd.f19.ntmps, pinOf 0 [none, none]) [0, 1, 2, 3, 4, 5, 6, 7, 12, 19, 43, 56] (Tryd.f19.body.getD .skip) = some c_S_AddNote.erase := by kernel_rfl
theorem v_S_AddNote {GG : GV} (rcs : List C) {cs : List C} {r : C} {os : List (Option C)} (hN : (cs.length == 2 && rcs.length == 2) = true) (hret : retOf rcs = r)
    (hW : W PP [0, 1, 2, 3, 4, 5, 6, 7, 12, 19, 43, 56] (Tryd.f19.ntmps, pinOf 0 [none, none]) (Valid PP GG) c_S_AddNote (entry cs) (Fin (Valid PP GG) [(.give, 4, some (true, 3)), (.give, 5, none)] [none, none] rcs os) (fun _ _ => False) (Fin (Valid PP GG) [(.give, 4, some (true, 3)), (.give, 5, none)] [none, none] rcs os)) : Valid PP GG F_S_AddNote cs r os :=
  fn_valid_n 2 2 [0, 1, 2, 3, 4, 5, 6, 7, 12, 19, 43, 56] c_S_AddNote [(.give, 4, some (true, 3)), (.give, 5, none)] [none, none] rcs Tryd.func19 rfl rfl (by kernel_rfl) k_S_AddNote rfl rfl hN hret hW
def c_L_toNote_0 : ACode := .reg [⟨.var 1, .box (.var 0), none, []⟩,
  ⟨.var 2, .alloc [.d (.int .i64 0), .d (.int .i64 0), .d (.int .i64 0), .d (.str []), .d (.str []), .d (.int .i64 0), .d (.int .i64 0)], none, []⟩] false
def c_L_toNote_1 : ACode := .reg [⟨.var 3, .alloc [.d (.int .i64 0), .d (.int .i64 0), .d (.int .i64 0), .d (.str []), .d (.str []), .d (.int .i64 0), .d (.int .i64 0)], none, []⟩] false
def c_L_toNote_2 : ACode := .reg [⟨.loc 4, .fld 0 (.var 1), none, []⟩,
  ⟨.loc 5, .load false 1 (.loc 4), none, []⟩,
  ⟨.loc 6, .fld 0 (.var 3), none, []⟩,
  ⟨.none, .store 1 (.loc 6) (.loc 5), none, []⟩] false
def c_L_toNote_3 : ACode := .reg [⟨.loc 7, .fld 1 (.var 1), none, []⟩,
  ⟨.loc 8, .load false 1 (.loc 7), none, []⟩,
  ⟨.loc 9, .fld 1 (.var 3), none, []⟩,
  ⟨.none, .store 1 (.loc 9) (.loc 8), none, []⟩] false
def c_L_toNote_4 : ACode := .reg [⟨.loc 10, .fld 2 (.var 1), none, []⟩,
  ⟨.loc 11, .load false 1 (.loc 10), none, []⟩,
  ⟨.loc 12, .fld 2 (.var 3), none, []⟩,
  ⟨.none, .store 1 (.loc 12) (.loc 11), none, []⟩] false
def c_L_toNote_5 : ACode := .reg [⟨.loc 13, .fld 3 (.var 1), none, []⟩,
  ⟨.loc 14, .load false 1 (.loc 13), none, []⟩,
  ⟨.loc 15, .fld 3 (.var 3), none, []⟩,
  ⟨.none, .store 1 (.loc 15) (.loc 14), none, []⟩] false
def c_L_toNote_6 : ACode := .reg [⟨.loc 16, .fld 4 (.var 1), none, []⟩,
  ⟨.loc 17, .load false 1 (.loc 16), none, []⟩,
  ⟨.loc 18, .fld 4 (.var 3), none, []⟩,
  ⟨.none, .store 1 (.loc 18) (.loc 17), none, []⟩] false
def c_L_toNote_7 : ACode := .reg [⟨.loc 19, .fld 5 (.var 1), none, []⟩,
  ⟨.loc 20, .load false 1 (.loc 19), none, []⟩,
  ⟨.loc 21, .fld 5 (.var 3), none, []⟩,
  ⟨.none, .store 1 (.loc 21) (.loc 20), none, []⟩] false
def c_L_toNote_8 : ACode := .reg [⟨.loc 22, .fld 6 (.var 1), none, []⟩,
  ⟨.loc 23, .load false 1 (.loc 22), none, []⟩,
  ⟨.loc 24, .fld 6 (.var 3), none, []⟩,
  ⟨.none, .store 1 (.loc 24) (.loc 23), none, []⟩] false
def c_L_toNote_9 : ACode := .reg [⟨.loc 25, .load true 7 (.var 3), none, []⟩,
  ⟨.none, .store 7 (.var 2) (.loc 25), none, []⟩] false
def c_L_toNote : ACode := (.seq c_L_toNote_0 (.seq c_L_toNote_1 (.seq c_L_toNote_2 (.seq c_L_toNote_3 (.seq c_L_toNote_4 (.seq c_L_toNote_5 (.seq c_L_toNote_6 (.seq c_L_toNote_7 (.seq c_L_toNote_8 (.seq c_L_toNote_9 .ret))))))))))
abbrev F_L_toNote : FuncId := 20
theorem k_L_toNote : comp PP (Tryd.f20.ntmps, pinOf 0 [none]) [0, 1, 2, 3] (Tryd.f20.body.getD .skip) = some c_L_toNote.erase := by kernel_rfl
theorem v_L_toNote {GG : GV} (rcs : List C) {cs : List C} {r : C} {os : List (Option C)} (hN : (cs.length == 1 && rcs.length == 1) = true) (hret : retOf rcs = r)
    (hW : W PP [0, 1, 2, 3] (Tryd.f20.ntmps, pinOf 0 [none]) (Valid PP GG) c_L_toNote (entry cs) (Fin (Valid PP GG) [(.give, 2, some (true, 7))] [none] rcs os) (fun _ _ => False) (Fin (Valid PP GG) [(.give, 2, some (true, 7))] [none] rcs os)) : Valid PP GG F_L_toNote cs r os :=
  fn_valid_n 1 1 [0, 1, 2, 3] c_L_toNote [(.give, 2, some (true, 7))] [none] rcs Tryd.func20 rfl rfl (by kernel_rfl) k_L_toNote rfl rfl hN hret hW
def c_I_AddNote_0 : ACode := .reg [⟨.var 2, .box (.var 0), none, []⟩,
  ⟨.var 3, .box (.var 1), none, []⟩,
  ⟨.var 4, .alloc [.d (.int .i64 0), .d (.int .i64 0), .nil 0 7], none, []⟩,
  ⟨.var 5, .mv (.const (.d (.bool false))), none, []⟩] false
def c_I_AddNote_1 : ACode := .reg [⟨.loc 6, .load true 3 (.var 2), none, []⟩,
  ⟨.loc 7, .call (.fn 52) [(.loc 6)] [.borrow], none, []⟩,
  ⟨.var 8, .un .not (.loc 7), none, []⟩] false
def c_I_AddNote_2 : ACode := .reg [⟨.loc 9, .load true 3 (.var 2), none, []⟩,
  ⟨.loc 10, .call (.fn 58) [(.loc 9)] [.borrow], none, []⟩,
  ⟨.none, .store 3 (.var 4) (.loc 10), none, []⟩,
  ⟨.var 5, .mv (.const (.d (.bool false))), none, []⟩] false
def c_I_AddNote_3 : ACode := .reg [⟨.loc 11, .load true 3 (.var 2), none, []⟩,
  ⟨.loc 12, .load true 7 (.var 3), none, []⟩,
  ⟨.loc 13, .call (.fn 59) [(.loc 11), (.loc 12)] [.borrow, .borrow], none, []⟩,
  ⟨.loc 14, .ext (.loc 13) 0, none, []⟩,
  ⟨.loc 15, .ext (.loc 13) 1, none, []⟩,
  ⟨.none, .store 3 (.var 4) (.loc 14), none, []⟩,
  ⟨.var 5, .mv (.loc 15), none, []⟩] false
def c_I_AddNote : ACode := (.seq c_I_AddNote_0 (.seq (.seq c_I_AddNote_1 (.cond (.var 8) (.seq c_I_AddNote_2 .ret) .skip)) (.seq c_I_AddNote_3 .ret)))
abbrev F_I_AddNote : FuncId := 21
theorem k_I_AddNote : comp PP (Tryd.f21.ntmps, pinOf 0 [none, none]) [0, 1, 2, 3, 4, 5, 8] (Tryd.f21.body.getD .skip) = some c_I_AddNote.erase := by kernel_rfl
theorem v_I_AddNote {GG : GV} (rcs : List C) {cs : List C} {r : C} {os : List (Option C)} (hN : (cs.length == 2 && rcs.length == 2) = true) (hret : retOf rcs = r)
    (hW : W PP [0, 1, 2, 3, 4, 5, 8] (Tryd.f21.ntmps, pinOf 0 [none, none]) (Valid PP GG) c_I_AddNote (entry cs) (Fin (Valid PP GG) [(.give, 4, some (true, 3)), (.give, 5, none)] [none, none] rcs os) (fun _ _ => False) (Fin (Valid PP GG) [(.give, 4, some (true, 3)), (.give, 5, none)] [none, none] rcs os)) : Valid PP GG F_I_AddNote cs r os :=
  fn_valid_n 2 2 [0, 1, 2, 3, 4, 5, 8] c_I_AddNote [(.give, 4, some (true, 3)), (.give, 5, none)] [none, none] rcs Tryd.func21 rfl rfl (by kernel_rfl) k_I_AddNote rfl rfl hN hret hW
def c_L_markChain_0 : ACode := .reg [⟨.var 2, .box (.var 0), none, []⟩,
  ⟨.var 4, .mv (.const (.d (.int .i64 0))), none, []⟩] false
def c_L_markChain_1 : ACode := .reg [⟨.loc 5, .fld 2 (.var 2), none, []⟩,
  ⟨.loc 6, .load false 1 (.loc 5), none, []⟩,
  ⟨.loc 7, .mv (.var 1), none, []⟩,
  ⟨.loc 8, .call (.fn 60) [(.loc 6), (.loc 7)] [.lend, .borrow], none, []⟩,
  ⟨.var 1, .mv (.loc 8), none, []⟩] false
def c_L_markChain_2 : ACode := .reg [⟨.loc 9, .mv (.var 1), none, []⟩,
  ⟨.var 4, .mv (.loc 9), none, []⟩] false
def c_L_markChain : ACode := (.seq c_L_markChain_0 (.seq c_L_markChain_1 (.seq c_L_markChain_2 .ret)))
abbrev F_L_markChain : FuncId := 22
theorem k_L_markChain : comp PP (Tryd.f22.ntmps, pinOf 0 [some .give, none]) [0, 1, 2, 4] (Tryd.f22.body.getD .skip) = some c_L_markChain.erase := by kernel_rfl
theorem v_L_markChain {GG : GV} (rcs : List C) {cs : List C} {r : C} {os : List (Option C)} (hN : (cs.length == 2 && rcs.length == 1) = true) (hret : retOf rcs = r)
    (hW : W PP [0, 1, 2, 4] (Tryd.f22.ntmps, pinOf 0 [some .give, none]) (Valid PP GG) c_L_markChain (entry cs) (Fin (Valid PP GG) [(.give, 4, none)] [some .give, none] rcs os) (fun _ _ => False) (Fin (Valid PP GG) [(.give, 4, none)] [some .give, none] rcs os)) : Valid PP GG F_L_markChain cs r os :=
  fn_valid_n 2 1 [0, 1, 2, 4] c_L_markChain [(.give, 4, none)] [some .give, none] rcs Tryd.func22 rfl rfl (by kernel_rfl) k_L_markChain rfl rfl hN hret hW
def c_L_heldChain_0 : ACode := .reg [⟨.var 2, .box (.var 0), none, []⟩,
  ⟨.var 4, .mv (.const (.d (.int .i64 0))), none, []⟩] false
def c_L_heldChain_1 : ACode := .reg [⟨.loc 5, .fld 2 (.var 2), none, []⟩,
  ⟨.loc 6, .load false 1 (.loc 5), none, []⟩,
  ⟨.loc 7, .mv (.var 1), none, []⟩,
  ⟨.loc 8, .call (.fn 61) [(.loc 6), (.loc 7)] [.borrow, .borrow], none, []⟩,
  ⟨.var 1, .mv (.loc 8), none, []⟩] false
def c_L_heldChain_2 : ACode := .reg [⟨.loc 9, .mv (.var 1), none, []⟩,
  ⟨.var 10, .bin .int .lss (.loc 9) (.const (.d (.int .i64 0))), none, []⟩] false
def c_L_heldChain_3 : ACode := .reg [⟨.var 4, .mv (.const (.d (.int .i64 (-1)))), none, []⟩] false
def c_L_heldChain_4 : ACode := .reg [⟨.loc 11, .mv (.var 1), none, []⟩,
  ⟨.var 4, .mv (.loc 11), none, []⟩] false
def c_L_heldChain : ACode := (.seq c_L_heldChain_0 (.seq c_L_heldChain_1 (.seq (.seq c_L_heldChain_2 (.cond (.var 10) (.seq c_L_heldChain_3 .ret) .skip)) (.seq c_L_heldChain_4 .ret))))
abbrev F_L_heldChain : FuncId := 23
theorem k_L_heldChain : comp PP (Tryd.f23.ntmps, pinOf 0 [none, none]) [0, 1, 2, 4, 10] (Tryd.f23.body.getD .skip) = some c_L_heldChain.erase := by kernel_rfl
theorem v_L_heldChain {GG : GV} (rcs : List C) {cs : List C} {r : C} {os : List (Option C)} (hN : (cs.length == 2 && rcs.length == 1) = true) (hret : retOf rcs = r)
    (hW : W PP [0, 1, 2, 4, 10] (Tryd.f23.ntmps, pinOf 0 [none, none]) (Valid PP GG) c_L_heldChain (entry cs) (Fin (Valid PP GG) [(.give, 4, none)] [none, none] rcs os) (fun _ _ => False) (Fin (Valid PP GG) [(.give, 4, none)] [none, none] rcs os)) : Valid PP GG F_L_heldChain cs r os :=
  fn_valid_n 2 1 [0, 1, 2, 4, 10] c_L_heldChain [(.give, 4, none)] [none, none] rcs Tryd.func23 rfl rfl (by kernel_rfl) k_L_heldChain rfl rfl hN hret hW
def c_L_szNoteS_0 : ACode := .reg [⟨.var 4, .mv (.const (.d (.int .i64 0))), none, []⟩] false
def c_L_szNoteS_1 : ACode := .reg [⟨.loc 6, .mv (.var 1), none, []⟩,
  ⟨.loc 7, .mv (.var 0), none, []⟩,
  ⟨.loc 8, .len false (.loc 7), none, []⟩,
  ⟨.loc 9, .bin .int .sub (.loc 6) (.loc 8), none, []⟩,
  ⟨.var 1, .mv (.loc 9), none, []⟩] false
def c_L_szNoteS_2 : ACode := .reg [⟨.loc 10, .mv (.var 1), none, []⟩,
  ⟨.var 11, .bin .int .lss (.loc 10) (.const (.d (.int .i64 0))), none, []⟩] false
def c_L_szNoteS_3 : ACode := .reg [⟨.var 4, .mv (.const (.d (.int .i64 (-1)))), none, []⟩] false
def c_L_szNoteS_4 : ACode := .reg [⟨.var 5, .mv (.const (.d (.int .i64 0))), none, []⟩] false
def c_L_szNoteS_5 : ACode := .reg [⟨.loc 12, .mv (.var 5), none, []⟩,
  ⟨.loc 13, .mv (.var 0), none, []⟩,
  ⟨.loc 14, .len false (.loc 13), none, []⟩,
  ⟨.var 15, .bin .int .lss (.loc 12) (.loc 14), none, []⟩] false
def c_L_szNoteS_6 : ACode := .reg [⟨.loc 18, .mv (.var 0), none, []⟩,
  ⟨.loc 19, .mv (.var 5), none, []⟩,
  ⟨.loc 20, .idxA 7 (.loc 18) (.loc 19), none, []⟩,
  ⟨.loc 21, .load true 7 (.loc 20), none, []⟩,
  ⟨.loc 22, .mv (.var 1), none, []⟩,
  ⟨.loc 23, .call (.fn 18) [(.loc 21), (.loc 22)] [.borrow, .borrow], none, []⟩,
  ⟨.var 1, .mv (.loc 23), none, []⟩] false
def c_L_szNoteS_7 : ACode := .reg [⟨.loc 24, .mv (.var 1), none, []⟩,
  ⟨.var 25, .bin .int .lss (.loc 24) (.const (.d (.int .i64 0))), none, []⟩] false
def c_L_szNoteS_8 : ACode := .reg [⟨.var 4, .mv (.const (.d (.int .i64 (-1)))), none, []⟩] false
def c_L_szNoteS_9 : ACode := .reg [⟨.loc 16, .mv (.var 5), none, []⟩,
  ⟨.loc 17, .bin .int .add (.loc 16) (.const (.d (.int .i64 1))), none, []⟩,
  ⟨.var 5, .mv (.loc 17), none, []⟩] false
def c_L_szNoteS_10 : ACode := (.seq (.seq c_L_szNoteS_5 (.cond (.var 15) .skip (.exit 0))) (.seq (.block 1 (.seq c_L_szNoteS_6 (.seq c_L_szNoteS_7 (.cond (.var 25) (.seq c_L_szNoteS_8 .ret) .skip)))) c_L_szNoteS_9))
def c_L_szNoteS_11 : ACode := .reg [⟨.loc 26, .mv (.var 1), none, []⟩,
  ⟨.var 4, .mv (.loc 26), none, []⟩] false
def c_L_szNoteS : ACode := (.seq c_L_szNoteS_0 (.seq c_L_szNoteS_1 (.seq (.seq c_L_szNoteS_2 (.cond (.var 11) (.seq c_L_szNoteS_3 .ret) .skip)) (.seq (.seq c_L_szNoteS_4 (.block 0 (.loop [0, 1, 5] c_L_szNoteS_10))) (.seq c_L_szNoteS_11 .ret)))))
abbrev F_L_szNoteS : FuncId := 48
theorem k_L_szNoteS : comp PP (Tryd.f48.ntmps, pinOf 0 [none, none]) [0, 1, 4, 5, 11, 15, 25] (Tryd.f48.body.getD .skip) = some c_L_szNoteS.erase := by kernel_rfl
theorem v_L_szNoteS {GG : GV} (rcs : List C) {cs : List C} {r : C} {os : List (Option C)} (hN : (cs.length == 2 && rcs.length == 1) = true) (hret : retOf rcs = r)
    (hW : W PP [0, 1, 4, 5, 11, 15, 25] (Tryd.f48.ntmps, pinOf 0 [none, none]) (Valid PP GG) c_L_szNoteS (entry cs) (Fin (Valid PP GG) [(.give, 4, none)] [none, none] rcs os) (fun _ _ => False) (Fin (Valid PP GG) [(.give, 4, none)] [none, none] rcs os)) : Valid PP GG F_L_szNoteS cs r os :=
  fn_valid_n 2 1 [0, 1, 4, 5, 11, 15, 25] c_L_szNoteS [(.give, 4, none)] [none, none] rcs Tryd.func48 rfl rfl (by kernel_rfl) k_L_szNoteS rfl rfl hN hret hW
def c_S_ChainOk_0 : ACode := .reg [⟨.var 1, .box (.var 0), none, []⟩,
  ⟨.var 2, .mv (.const (.d (.bool false))), none, []⟩] false
def c_S_ChainOk_1 : ACode := .reg [⟨.loc 5, .fld 0 (.var 1), none, []⟩,
  ⟨.loc 6, .load false 1 (.loc 5), none, []⟩,
  ⟨.loc 7, .bin .int .lss (.loc 6) (.const (.d (.int .i64 0))), none, []⟩,
  ⟨.loc 8, .split (.loc 7), none, []⟩,
  ⟨.loc 9, .fld 1 (.var 1), some ((.loc 8), false), []⟩,
  ⟨.loc 10, .load false 1 (.loc 9), some ((.loc 8), false), []⟩,
  ⟨.loc 11, .call (.fn 95) [(.loc 10)] [.borrow], some ((.loc 8), false), []⟩,
  ⟨.loc 12, .un .not (.loc 11), some ((.loc 8), false), []⟩,
  ⟨.loc 13, .pick (.loc 8) (.const (.d (.bool true))) (.loc 12), none, []⟩,
  ⟨.loc 14, .split (.loc 13), none, []⟩,
  ⟨.loc 15, .fld 2 (.var 1), some ((.loc 14), false), []⟩,
  ⟨.loc 16, .load false 1 (.loc 15), some ((.loc 14), false), []⟩,
  ⟨.loc 17, .len false (.loc 16), some ((.loc 14), false), []⟩,
  ⟨.loc 18, .bin .int .gtr (.loc 17) (.const (.d (.int .i64 120))), some ((.loc 14), false), []⟩,
  ⟨.var 19, .pick (.loc 14) (.const (.d (.bool true))) (.loc 18), none, []⟩] false
def c_S_ChainOk_2 : ACode := .reg [⟨.var 2, .mv (.const (.d (.bool false))), none, []⟩] false
def c_S_ChainOk_3 : ACode := .reg [⟨.var 3, .mv (.const (.d (.int .i64 0))), none, []⟩] false
def c_S_ChainOk_4 : ACode := .reg [⟨.loc 20, .mv (.var 3), none, []⟩,
  ⟨.loc 21, .fld 2 (.var 1), none, []⟩,
  ⟨.loc 22, .load false 1 (.loc 21), none, []⟩,
  ⟨.loc 23, .len false (.loc 22), none, []⟩,
  ⟨.var 24, .bin .int .lss (.loc 20) (.loc 23), none, []⟩] false
def c_S_ChainOk_5 : ACode := .reg [⟨.loc 27, .fld 2 (.var 1), none, []⟩,
  ⟨.loc 28, .load false 1 (.loc 27), none, []⟩,
  ⟨.loc 29, .mv (.var 3), none, []⟩,
  ⟨.loc 30, .idxA 7 (.loc 28) (.loc 29), none, []⟩,
  ⟨.loc 31, .load true 7 (.loc 30), none, []⟩,
  ⟨.var 4, .alloc [.d (.int .i64 0), .d (.int .i64 0), .d (.int .i64 0), .d (.str []), .d (.str []), .d (.int .i64 0), .d (.int .i64 0)], none, []⟩,
  ⟨.none, .store 7 (.var 4) (.loc 31), none, []⟩] false
def c_S_ChainOk_6 : ACode := .reg [⟨.loc 32, .fld 0 (.var 4), none, []⟩,
  ⟨.loc 33, .load false 1 (.loc 32), none, []⟩,
  ⟨.loc 34, .call (.fn 64) [(.loc 33), (.const (.d (.int .i64 1))), (.const (.d (.int .i64 1000000000)))] [.borrow, .borrow, .borrow], none, []⟩,
  ⟨.loc 35, .un .not (.loc 34), none, []⟩,
  ⟨.loc 36, .split (.loc 35), none, []⟩,
  ⟨.loc 37, .fld 1 (.var 4), some ((.loc 36), false), []⟩,
  ⟨.loc 38, .load false 1 (.loc 37), some ((.loc 36), false), []⟩,
  ⟨.loc 39, .call (.fn 64) [(.loc 38), (.const (.d (.int .i64 0))), (.const (.d (.int .i64 1000000000)))] [.borrow, .borrow, .borrow], some ((.loc 36), false), []⟩,
  ⟨.loc 40, .un .not (.loc 39), some ((.loc 36), false), []⟩,
  ⟨.loc 41, .pick (.loc 36) (.const (.d (.bool true))) (.loc 40), none, []⟩,
  ⟨.loc 42, .split (.loc 41), none, []⟩,
  ⟨.loc 43, .fld 2 (.var 4), some ((.loc 42), false), []⟩,
  ⟨.loc 44, .load false 1 (.loc 43), some ((.loc 42), false), []⟩,
  ⟨.loc 45, .call (.fn 64) [(.loc 44), (.const (.d (.int .i64 0))), (.const (.d (.int .i64 1000000000)))] [.borrow, .borrow, .borrow], some ((.loc 42), false), []⟩,
  ⟨.loc 46, .un .not (.loc 45), some ((.loc 42), false), []⟩,
  ⟨.loc 47, .pick (.loc 42) (.const (.d (.bool true))) (.loc 46), none, []⟩,
  ⟨.loc 48, .split (.loc 47), none, []⟩,
  ⟨.loc 49, .fld 3 (.var 4), some ((.loc 48), false), []⟩,
  ⟨.loc 50, .load false 1 (.loc 49), some ((.loc 48), false), []⟩,
  ⟨.loc 51, .call (.fn 96) [(.loc 50)] [.borrow], some ((.loc 48), false), []⟩,
  ⟨.loc 52, .un .not (.loc 51), some ((.loc 48), false), []⟩,
  ⟨.loc 53, .pick (.loc 48) (.const (.d (.bool true))) (.loc 52), none, []⟩,
  ⟨.loc 54, .split (.loc 53), none, []⟩,
  ⟨.loc 55, .fld 4 (.var 4), some ((.loc 54), false), []⟩,
  ⟨.loc 56, .load false 1 (.loc 55), some ((.loc 54), false), []⟩,
  ⟨.loc 57, .call (.fn 97) [(.loc 56)] [.borrow], some ((.loc 54), false), []⟩,
  ⟨.loc 58, .un .not (.loc 57), some ((.loc 54), false), []⟩,
  ⟨.loc 59, .pick (.loc 54) (.const (.d (.bool true))) (.loc 58), none, []⟩,
  ⟨.loc 60, .split (.loc 59), none, []⟩,
  ⟨.loc 61, .fld 5 (.var 4), some ((.loc 60), false), []⟩,
  ⟨.loc 62, .load false 1 (.loc 61), some ((.loc 60), false), []⟩,
  ⟨.loc 63, .call (.fn 64) [(.loc 62), (.const (.d (.int .i64 0))), (.const (.d (.int .i64 99)))] [.borrow, .borrow, .borrow], some ((.loc 60), false), []⟩,
  ⟨.loc 64, .un .not (.loc 63), some ((.loc 60), false), []⟩,
  ⟨.var 65, .pick (.loc 60) (.const (.d (.bool true))) (.loc 64), none, []⟩] false
def c_S_ChainOk_7 : ACode := .reg [⟨.var 2, .mv (.const (.d (.bool false))), none, []⟩] false
def c_S_ChainOk_8 : ACode := .reg [⟨.loc 66, .mv (.var 3), none, []⟩,
  ⟨.loc 67, .bin .int .gtr (.loc 66) (.const (.d (.int .i64 0))), none, [0]⟩,
  ⟨.loc 68, .split (.loc 67), none, [1, 0]⟩,
  ⟨.loc 69, .fld 0 (.var 4), some ((.loc 68), true), [2, 1, 0]⟩,
  ⟨.loc 70, .load false 1 (.loc 69), some ((.loc 68), true), [3, 2, 1, 0]⟩,
  ⟨.loc 71, .fld 2 (.var 1), some ((.loc 68), true), [2, 1, 0]⟩,
  ⟨.loc 72, .load false 1 (.loc 71), some ((.loc 68), true), [5, 2, 1, 0]⟩,
  ⟨.loc 73, .mv (.var 3), some ((.loc 68), true), [2, 1, 0]⟩,
  ⟨.loc 74, .bin .int .sub (.loc 73) (.const (.d (.int .i64 1))), some ((.loc 68), true), [7, 2, 1, 0]⟩,
  ⟨.loc 75, .idxA 7 (.loc 72) (.loc 74), some ((.loc 68), true), [6, 5, 8, 7, 2, 1, 0]⟩,
  ⟨.loc 76, .fld 0 (.loc 75), some ((.loc 68), true), [9, 6, 5, 8, 7, 2, 1, 0]⟩,
  ⟨.loc 77, .load false 1 (.loc 76), some ((.loc 68), true), [10, 9, 6, 5, 8, 7, 2, 1, 0]⟩,
  ⟨.loc 78, .bin .int .add (.loc 77) (.const (.d (.int .i64 1))), some ((.loc 68), true), [11, 10, 9, 6, 5, 8, 7, 2, 1, 0]⟩,
  ⟨.loc 79, .bin .int .neq (.loc 70) (.loc 78), some ((.loc 68), true), [4, 3, 12, 11, 10, 9, 6, 5, 8, 7, 2, 1, 0]⟩,
  ⟨.loc 80, .split (.loc 79), some ((.loc 68), true), [13, 4, 3, 12, 11, 10, 9, 6, 5, 8, 7, 2, 1, 0]⟩,
  ⟨.loc 81, .fld 1 (.var 4), some ((.loc 80), false), [14, 13, 4, 3, 12, 11, 10, 9, 6, 5, 8, 7, 2, 1, 0]⟩,
  ⟨.loc 82, .load false 1 (.loc 81), some ((.loc 80), false), [15, 14, 13, 4, 3, 12, 11, 10, 9, 6, 5, 8, 7, 2, 1, 0]⟩,
  ⟨.loc 83, .fld 2 (.var 1), some ((.loc 80), false), [14, 13, 4, 3, 12, 11, 10, 9, 6, 5, 8, 7, 2, 1, 0]⟩,
  ⟨.loc 84, .load false 1 (.loc 83), some ((.loc 80), false), [17, 14, 13, 4, 3, 12, 11, 10, 9, 6, 5, 8, 7, 2, 1, 0]⟩,
  ⟨.loc 85, .mv (.var 3), some ((.loc 80), false), [14, 13, 4, 3, 12, 11, 10, 9, 6, 5, 8, 7, 2, 1, 0]⟩,
  ⟨.loc 86, .bin .int .sub (.loc 85) (.const (.d (.int .i64 1))), some ((.loc 80), false), [19, 14, 13, 4, 3, 12, 11, 10, 9, 6, 5, 8, 7, 2, 1, 0]⟩,
  ⟨.loc 87, .idxA 7 (.loc 84) (.loc 86), some ((.loc 80), false), [18, 17, 20, 19, 14, 13, 4, 3, 12, 11, 10, 9, 6, 5, 8, 7, 2, 1, 0]⟩,
  ⟨.loc 88, .fld 1 (.loc 87), some ((.loc 80), false), [21, 18, 17, 20, 19, 14, 13, 4, 3, 12, 11, 10, 9, 6, 5, 8, 7, 2, 1, 0]⟩,
  ⟨.loc 89, .load false 1 (.loc 88), some ((.loc 80), false), [22, 21, 18, 17, 20, 19, 14, 13, 4, 3, 12, 11, 10, 9, 6, 5, 8, 7, 2, 1, 0]⟩,
  ⟨.loc 90, .bin .int .lss (.loc 82) (.loc 89), some ((.loc 80), false), [16, 15, 23, 22, 21, 18, 17, 20, 19, 14, 13, 4, 3, 12, 11, 10, 9, 6, 5, 8, 7, 2, 1, 0]⟩,
  ⟨.loc 91, .pick (.loc 80) (.const (.d (.bool true))) (.loc 90), some ((.loc 68), true), [24, 16, 15, 23, 22, 21, 18, 17, 20, 19, 14, 13, 4, 3, 12, 11, 10, 9, 6, 5, 8, 7, 2, 1, 0]⟩,
  ⟨.var 92, .pick (.loc 68) (.loc 91) (.const (.d (.bool false))), none, [25, 24, 16, 15, 23, 22, 21, 18, 17, 20, 19, 14, 13, 4, 3, 12, 11, 10, 9, 6, 5, 8, 7, 2, 1, 0]⟩] true
def c_S_ChainOk_9 : ACode := .reg [⟨.var 2, .mv (.const (.d (.bool false))), none, []⟩] false
def c_S_ChainOk_10 : ACode := .reg [⟨.loc 25, .mv (.var 3), none, []⟩,
  ⟨.loc 26, .bin .int .add (.loc 25) (.const (.d (.int .i64 1))), none, []⟩,
  ⟨.var 3, .mv (.loc 26), none, []⟩] false
def c_S_ChainOk_11 : ACode := (.seq (.seq c_S_ChainOk_4 (.cond (.var 24) .skip (.exit 0))) (.seq (.block 1 (.seq c_S_ChainOk_5 (.seq (.seq c_S_ChainOk_6 (.cond (.var 65) (.seq c_S_ChainOk_7 .ret) .skip)) (.seq c_S_ChainOk_8 (.cond (.var 92) (.seq c_S_ChainOk_9 .ret) .skip))))) c_S_ChainOk_10))
def c_S_ChainOk_12 : ACode := .reg [⟨.var 2, .mv (.const (.d (.bool true))), none, []⟩] false
def c_S_ChainOk : ACode := (.seq c_S_ChainOk_0 (.seq (.seq c_S_ChainOk_1 (.cond (.var 19) (.seq c_S_ChainOk_2 .ret) .skip)) (.seq (.seq c_S_ChainOk_3 (.block 0 (.loop [1, 3] c_S_ChainOk_11))) (.seq c_S_ChainOk_12 .ret))))
abbrev F_S_ChainOk : FuncId := 49
theorem k_S_ChainOk : comp PP (Tryd.f49.ntmps, pinOf 0 [none]) [0, 1, 2, 3, 4, 19, 24, 65, 92] (Tryd.f49.body.getD .skip) = some c_S_ChainOk.erase := by kernel_rfl
theorem v_S_ChainOk {GG : GV} (rcs : List C) {cs : List C} {r : C} {os : List (Option C)} (hN : (cs.length == 1 && rcs.length == 1) = true) (hret : retOf rcs = r)
    (hW : W PP [0, 1, 2, 3, 4, 19, 24, 65, 92] (Tryd.f49.ntmps, pinOf 0 [none]) (Valid PP GG) c_S_ChainOk (entry cs) (Fin (Valid PP GG) [(.give, 2, none)] [none] rcs os) (fun _ _ => False) (Fin (Valid PP GG) [(.give, 2, none)] [none] rcs os)) : Valid PP GG F_S_ChainOk cs r os :=
  fn_valid_n 1 1 [0, 1, 2, 3, 4, 19, 24, 65, 92] c_S_ChainOk [(.give, 2, none)] [none] rcs Tryd.func49 rfl rfl (by kernel_rfl) k_S_ChainOk rfl rfl hN hret hW
def c_S_SumOf_0 : ACode := .reg [⟨.var 3, .box (.var 1), none, []⟩,
  ⟨.var 4, .mv (.const (.d (.int .i64 0))), none, []⟩] false
def c_S_SumOf_1 : ACode := .reg [⟨.loc 6, .mv (.var 0), none, []⟩,
  ⟨.loc 7, .call (.fn 88) [(.loc 6)] [.borrow], none, [0]⟩,
  ⟨.loc 8, .bin .str .add (.loc 7) (.const (.d (.str [10]))), none, [1, 0]⟩,
  ⟨.loc 9, .fld 0 (.var 3), none, []⟩,
  ⟨.loc 10, .load false 1 (.loc 9), none, [3]⟩,
  ⟨.loc 11, .call (.fn 88) [(.loc 10)] [.borrow], none, [4, 3, 1, 0]⟩,
  ⟨.loc 12, .bin .str .add (.loc 8) (.loc 11), none, [2, 5, 4, 3, 1, 0]⟩,
  ⟨.loc 13, .bin .str .add (.loc 12) (.const (.d (.str [10]))), none, [6, 2, 5, 4, 3, 1, 0]⟩,
  ⟨.loc 14, .fld 1 (.var 3), none, []⟩,
  ⟨.loc 15, .load false 1 (.loc 14), none, [8]⟩,
  ⟨.loc 16, .call (.fn 88) [(.loc 15)] [.borrow], none, [9, 8, 5, 4, 3, 1, 0]⟩,
  ⟨.loc 17, .bin .str .add (.loc 13) (.loc 16), none, [7, 6, 2, 10, 9, 8, 5, 4, 3, 1, 0]⟩,
  ⟨.loc 18, .bin .str .add (.loc 17) (.const (.d (.str [10]))), none, [11, 7, 6, 2, 10, 9, 8, 5, 4, 3, 1, 0]⟩,
  ⟨.loc 19, .fld 2 (.var 3), none, []⟩,
  ⟨.loc 20, .load false 1 (.loc 19), none, [13]⟩,
  ⟨.loc 21, .call (.fn 88) [(.loc 20)] [.borrow], none, [14, 13, 10, 9, 8, 5, 4, 3, 1, 0]⟩,
  ⟨.loc 22, .bin .str .add (.loc 18) (.loc 21), none, [12, 11, 7, 6, 2, 15, 14, 13, 10, 9, 8, 5, 4, 3, 1, 0]⟩,
  ⟨.loc 23, .bin .str .add (.loc 22) (.const (.d (.str [10]))), none, [16, 12, 11, 7, 6, 2, 15, 14, 13, 10, 9, 8, 5, 4, 3, 1, 0]⟩,
  ⟨.loc 24, .fld 3 (.var 3), none, []⟩,
  ⟨.loc 25, .load false 1 (.loc 24), none, [18]⟩,
  ⟨.loc 26, .bin .str .add (.loc 23) (.loc 25), none, [17, 16, 12, 11, 7, 6, 2, 15, 14, 13, 10, 9, 8, 5, 4, 3, 1, 0, 19, 18]⟩,
  ⟨.loc 27, .bin .str .add (.loc 26) (.const (.d (.str [10]))), none, [20, 17, 16, 12, 11, 7, 6, 2, 15, 14, 13, 10, 9, 8, 5, 4, 3, 1, 0, 19, 18]⟩,
  ⟨.loc 28, .fld 4 (.var 3), none, []⟩,
  ⟨.loc 29, .load false 1 (.loc 28), none, [22]⟩,
  ⟨.loc 30, .bin .str .add (.loc 27) (.loc 29), none, [21, 20, 17, 16, 12, 11, 7, 6, 2, 15, 14, 13, 10, 9, 8, 5, 4, 3, 1, 0, 19, 18, 23, 22]⟩,
  ⟨.loc 31, .bin .str .add (.loc 30) (.const (.d (.str [10]))), none, [24, 21, 20, 17, 16, 12, 11, 7, 6, 2, 15, 14, 13, 10, 9, 8, 5, 4, 3, 1, 0, 19, 18, 23, 22]⟩,
  ⟨.loc 32, .fld 5 (.var 3), none, []⟩,
  ⟨.loc 33, .load false 1 (.loc 32), none, [26]⟩,
  ⟨.loc 34, .call (.fn 88) [(.loc 33)] [.borrow], none, [27, 26, 15, 14, 13, 10, 9, 8, 5, 4, 3, 1, 0]⟩,
  ⟨.loc 35, .bin .str .add (.loc 31) (.loc 34), none, [25, 24, 21, 20, 17, 16, 12, 11, 7, 6, 2, 19, 18, 23, 22, 28, 27, 26, 15, 14, 13, 10, 9, 8, 5, 4, 3, 1, 0]⟩,
  ⟨.var 5, .mv (.loc 35), none, [29, 25, 24, 21, 20, 17, 16, 12, 11, 7, 6, 2, 19, 18, 23, 22, 28, 27, 26, 15, 14, 13, 10, 9, 8, 5, 4, 3, 1, 0]⟩] true
def c_S_SumOf_2 : ACode := .reg [⟨.loc 36, .mv (.var 5), none, []⟩,
  ⟨.loc 37, .s2b (.loc 36), none, []⟩,
  ⟨.loc 38, .call (.fn 98) [(.loc 37)] [.borrow], none, []⟩,
  ⟨.var 4, .mv (.loc 38), none, []⟩] false
def c_S_SumOf : ACode := (.seq c_S_SumOf_0 (.seq c_S_SumOf_1 (.seq c_S_SumOf_2 .ret)))
abbrev F_S_SumOf : FuncId := 50
theorem k_S_SumOf : comp PP (Tryd.f50.ntmps, pinOf 0 [none, none]) [0, 1, 3, 4, 5] (Tryd.f50.body.getD .skip) = some c_S_SumOf.erase := by kernel_rfl
theorem v_S_SumOf {GG : GV} (rcs : List C) {cs : List C} {r : C} {os : List (Option C)} (hN : (cs.length == 2 && rcs.length == 1) = true) (hret : retOf rcs = r)
    (hW : W PP [0, 1, 3, 4, 5] (Tryd.f50.ntmps, pinOf 0 [none, none]) (Valid PP GG) c_S_SumOf (entry cs) (Fin (Valid PP GG) [(.give, 4, none)] [none, none] rcs os) (fun _ _ => False) (Fin (Valid PP GG) [(.give, 4, none)] [none, none] rcs os)) : Valid PP GG F_S_SumOf cs r os :=
  fn_valid_n 2 1 [0, 1, 3, 4, 5] c_S_SumOf [(.give, 4, none)] [none, none] rcs Tryd.func50 rfl rfl (by kernel_rfl) k_S_SumOf rfl rfl hN hret hW
def c_L_toNoteS_0 : ACode := .reg [⟨.var 2, .mv (.const (.nil 0 7)), none, []⟩] false
def c_L_toNoteS_1 : ACode := .reg [⟨.loc 5, .mv (.var 0), none, []⟩,
  ⟨.loc 6, .len false (.loc 5), none, []⟩,
  ⟨.loc 7, .mkslice 0 7 72 [.int .i64 0, .int .i64 0, .int .i64 0, .str [], .str [], .int .i64 0, .int .i64 0] (.loc 6) (.loc 6), none, []⟩,
  ⟨.var 3, .mv (.loc 7), none, []⟩] false
def c_L_toNoteS_2 : ACode := .reg [⟨.var 4, .mv (.const (.d (.int .i64 0))), none, []⟩] false
def c_L_toNoteS_3 : ACode := .reg [⟨.loc 8, .mv (.var 4), none, []⟩,
  ⟨.loc 9, .mv (.var 0), none, []⟩,
  ⟨.loc 10, .len false (.loc 9), none, []⟩,
  ⟨.var 11, .bin .int .lss (.loc 8) (.loc 10), none, []⟩] false
def c_L_toNoteS_4 : ACode := .reg [⟨.loc 14, .mv (.var 3), none, []⟩,
  ⟨.loc 15, .mv (.var 4), none, []⟩,
  ⟨.loc 16, .mv (.var 0), none, []⟩,
  ⟨.loc 17, .mv (.var 4), none, []⟩,
  ⟨.loc 18, .idxA 7 (.loc 16) (.loc 17), none, []⟩,
  ⟨.loc 19, .load true 7 (.loc 18), none, []⟩,
  ⟨.loc 20, .call (.fn 20) [(.loc 19)] [.borrow], none, []⟩,
  ⟨.loc 21, .idxA 7 (.loc 14) (.loc 15), none, []⟩,
  ⟨.none, .store 7 (.loc 21) (.loc 20), none, []⟩] false
def c_L_toNoteS_5 : ACode := .reg [⟨.loc 12, .mv (.var 4), none, []⟩,
  ⟨.loc 13, .bin .int .add (.loc 12) (.const (.d (.int .i64 1))), none, []⟩,
  ⟨.var 4, .mv (.loc 13), none, []⟩] false
def c_L_toNoteS_6 : ACode := (.seq (.seq c_L_toNoteS_3 (.cond (.var 11) .skip (.exit 0))) (.seq (.block 1 c_L_toNoteS_4) c_L_toNoteS_5))
def c_L_toNoteS_7 : ACode := .reg [⟨.loc 22, .mv (.var 3), none, []⟩,
  ⟨.var 2, .mv (.loc 22), none, []⟩] false
def c_L_toNoteS : ACode := (.seq c_L_toNoteS_0 (.seq c_L_toNoteS_1 (.seq (.seq c_L_toNoteS_2 (.block 0 (.loop [0, 3, 4] c_L_toNoteS_6))) (.seq c_L_toNoteS_7 .ret))))
abbrev F_L_toNoteS : FuncId := 51
theorem k_L_toNoteS : comp PP (Tryd.f51.ntmps, pinOf 0 [none]) [0, 2, 3, 4, 11] (Tryd.f51.body.getD .skip) = some c_L_toNoteS.erase := by kernel_rfl
theorem v_L_toNoteS {GG : GV} (rcs : List C) {cs : List C} {r : C} {os : List (Option C)} (hN : (cs.length == 1 && rcs.length == 1) = true) (hret : retOf rcs = r)
    (hW : W PP [0, 2, 3, 4, 11] (Tryd.f51.ntmps, pinOf 0 [none]) (Valid PP GG) c_L_toNoteS (entry cs) (Fin (Valid PP GG) [(.give, 2, none)] [none] rcs os) (fun _ _ => False) (Fin (Valid PP GG) [(.give, 2, none)] [none] rcs os)) : Valid PP GG F_L_toNoteS cs r os :=
  fn_valid_n 1 1 [0, 2, 3, 4, 11] c_L_toNoteS [(.give, 2, none)] [none] rcs Tryd.func51 rfl rfl (by kernel_rfl) k_L_toNoteS rfl rfl hN hret hW
def c_I_isChain_0 : ACode := .reg [⟨.var 1, .box (.var 0), none, []⟩,
  ⟨.var 2, .mv (.const (.d (.bool false))), none, []⟩] false
def c_I_isChain_1 : ACode := .reg [⟨.loc 5, .fld 2 (.var 1), none, []⟩,
  ⟨.var 6, .load false 1 (.loc 5), none, []⟩,
  ⟨.var 7, .len false (.var 6), none, []⟩,
  ⟨.var 8, .mv (.const (.d (.int .i64 0))), none, []⟩] false
def c_I_isChain_2 : ACode := .reg [⟨.var 9, .bin .int .lss (.var 8) (.var 7), none, []⟩] false
def c_I_isChain_3 : ACode := .reg [⟨.loc 10, .mv (.var 8), none, []⟩,
  ⟨.loc 11, .idxA 7 (.var 6) (.var 8), none, []⟩,
  ⟨.loc 12, .load true 7 (.loc 11), none, []⟩,
  ⟨.var 4, .alloc [.d (.int .i64 0), .d (.int .i64 0), .d (.int .i64 0), .d (.str []), .d (.str []), .d (.int .i64 0), .d (.int .i64 0)], none, []⟩,
  ⟨.var 3, .mv (.loc 10), none, []⟩,
  ⟨.none, .store 7 (.var 4) (.loc 12), none, []⟩] false
def c_I_isChain_4 : ACode := .reg [⟨.loc 13, .load true 7 (.var 4), none, []⟩,
  ⟨.loc 14, .call (.fn 99) [(.loc 13)] [.borrow], none, [0]⟩,
  ⟨.loc 15, .un .not (.loc 14), none, [1, 0]⟩,
  ⟨.loc 16, .split (.loc 15), none, [2, 1, 0]⟩,
  ⟨.loc 17, .mv (.var 3), some ((.loc 16), false), [3, 2, 1, 0]⟩,
  ⟨.loc 18, .bin .int .gtr (.loc 17) (.const (.d (.int .i64 0))), some ((.loc 16), false), [4, 3, 2, 1, 0]⟩,
  ⟨.loc 19, .split (.loc 18), some ((.loc 16), false), [5, 4, 3, 2, 1, 0]⟩,
  ⟨.loc 20, .fld 2 (.var 1), some ((.loc 19), true), [6, 5, 4, 3, 2, 1, 0]⟩,
  ⟨.loc 21, .load false 1 (.loc 20), some ((.loc 19), true), [7, 6, 5, 4, 3, 2, 1, 0]⟩,
  ⟨.loc 22, .mv (.var 3), some ((.loc 19), true), [6, 5, 4, 3, 2, 1, 0]⟩,
  ⟨.loc 23, .bin .int .sub (.loc 22) (.const (.d (.int .i64 1))), some ((.loc 19), true), [9, 6, 5, 4, 3, 2, 1, 0]⟩,
  ⟨.loc 24, .idxA 7 (.loc 21) (.loc 23), some ((.loc 19), true), [8, 7, 10, 9, 6, 5, 4, 3, 2, 1, 0]⟩,
  ⟨.loc 25, .fld 0 (.loc 24), some ((.loc 19), true), [11, 8, 7, 10, 9, 6, 5, 4, 3, 2, 1, 0]⟩,
  ⟨.loc 26, .load false 1 (.loc 25), some ((.loc 19), true), [12, 11, 8, 7, 10, 9, 6, 5, 4, 3, 2, 1, 0]⟩,
  ⟨.loc 27, .bin .int .add (.loc 26) (.const (.d (.int .i64 1))), some ((.loc 19), true), [13, 12, 11, 8, 7, 10, 9, 6, 5, 4, 3, 2, 1, 0]⟩,
  ⟨.loc 28, .fld 0 (.var 4), some ((.loc 19), true), [6, 5, 4, 3, 2, 1, 0]⟩,
  ⟨.loc 29, .load false 1 (.loc 28), some ((.loc 19), true), [15, 6, 5, 4, 3, 2, 1, 0]⟩,
  ⟨.loc 30, .bin .int .neq (.loc 27) (.loc 29), some ((.loc 19), true), [14, 13, 12, 11, 8, 7, 10, 9, 16, 15, 6, 5, 4, 3, 2, 1, 0]⟩,
  ⟨.loc 31, .split (.loc 30), some ((.loc 19), true), [17, 14, 13, 12, 11, 8, 7, 10, 9, 16, 15, 6, 5, 4, 3, 2, 1, 0]⟩,
  ⟨.loc 32, .fld 2 (.var 1), some ((.loc 31), false), [18, 17, 14, 13, 12, 11, 8, 7, 10, 9, 16, 15, 6, 5, 4, 3, 2, 1, 0]⟩,
  ⟨.loc 33, .load false 1 (.loc 32), some ((.loc 31), false), [19, 18, 17, 14, 13, 12, 11, 8, 7, 10, 9, 16, 15, 6, 5, 4, 3, 2, 1, 0]⟩,
  ⟨.loc 34, .mv (.var 3), some ((.loc 31), false), [18, 17, 14, 13, 12, 11, 8, 7, 10, 9, 16, 15, 6, 5, 4, 3, 2, 1, 0]⟩,
  ⟨.loc 35, .bin .int .sub (.loc 34) (.const (.d (.int .i64 1))), some ((.loc 31), false), [21, 18, 17, 14, 13, 12, 11, 8, 7, 10, 9, 16, 15, 6, 5, 4, 3, 2, 1, 0]⟩,
  ⟨.loc 36, .idxA 7 (.loc 33) (.loc 35), some ((.loc 31), false), [20, 19, 22, 21, 18, 17, 14, 13, 12, 11, 8, 7, 10, 9, 16, 15, 6, 5, 4, 3, 2, 1, 0]⟩,
  ⟨.loc 37, .fld 1 (.loc 36), some ((.loc 31), false), [23, 20, 19, 22, 21, 18, 17, 14, 13, 12, 11, 8, 7, 10, 9, 16, 15, 6, 5, 4, 3, 2, 1, 0]⟩,
  ⟨.loc 38, .load false 1 (.loc 37), some ((.loc 31), false), [24, 23, 20, 19, 22, 21, 18, 17, 14, 13, 12, 11, 8, 7, 10, 9, 16, 15, 6, 5, 4, 3, 2, 1, 0]⟩,
  ⟨.loc 39, .fld 1 (.var 4), some ((.loc 31), false), [18, 17, 14, 13, 12, 11, 8, 7, 10, 9, 16, 15, 6, 5, 4, 3, 2, 1, 0]⟩,
  ⟨.loc 40, .load false 1 (.loc 39), some ((.loc 31), false), [26, 18, 17, 14, 13, 12, 11, 8, 7, 10, 9, 16, 15, 6, 5, 4, 3, 2, 1, 0]⟩,
  ⟨.loc 41, .bin .int .gtr (.loc 38) (.loc 40), some ((.loc 31), false), [25, 24, 23, 20, 19, 22, 21, 27, 26, 18, 17, 14, 13, 12, 11, 8, 7, 10, 9, 16, 15, 6, 5, 4, 3, 2, 1, 0]⟩,
  ⟨.loc 42, .pick (.loc 31) (.const (.d (.bool true))) (.loc 41), some ((.loc 19), true), [28, 25, 24, 23, 20, 19, 22, 21, 27, 26, 18, 17, 14, 13, 12, 11, 8, 7, 10, 9, 16, 15, 6, 5, 4, 3, 2, 1, 0]⟩,
  ⟨.loc 43, .pick (.loc 19) (.loc 42) (.const (.d (.bool false))), some ((.loc 16), false), [29, 28, 25, 24, 23, 20, 19, 22, 21, 27, 26, 18, 17, 14, 13, 12, 11, 8, 7, 10, 9, 16, 15, 6, 5, 4, 3, 2, 1, 0]⟩,
  ⟨.var 44, .pick (.loc 16) (.const (.d (.bool true))) (.loc 43), none, [30, 29, 28, 25, 24, 23, 20, 19, 22, 21, 27, 26, 18, 17, 14, 13, 12, 11, 8, 7, 10, 9, 16, 15, 6, 5, 4, 3, 2, 1, 0]⟩] true
def c_I_isChain_5 : ACode := .reg [⟨.var 2, .mv (.const (.d (.bool false))), none, []⟩] false
def c_I_isChain_6 : ACode := .reg [⟨.loc 45, .bin .int .add (.var 8) (.const (.d (.int .i64 1))), none, []⟩,
  ⟨.var 8, .mv (.loc 45), none, []⟩] false
def c_I_isChain_7 : ACode := (.seq c_I_isChain_2 (.seq (.cond (.var 9) .skip (.exit 0)) (.seq (.block 1 (.seq c_I_isChain_3 (.seq c_I_isChain_4 (.cond (.var 44) (.seq c_I_isChain_5 .ret) .skip)))) c_I_isChain_6)))
def c_I_isChain_8 : ACode := .reg [⟨.loc 46, .fld 0 (.var 1), none, []⟩,
  ⟨.loc 47, .load false 1 (.loc 46), none, []⟩,
  ⟨.loc 48, .bin .int .geq (.loc 47) (.const (.d (.int .i64 0))), none, []⟩,
  ⟨.loc 49, .split (.loc 48), none, []⟩,
  ⟨.loc 50, .fld 1 (.var 1), some ((.loc 49), true), []⟩,
  ⟨.loc 51, .load false 1 (.loc 50), some ((.loc 49), true), []⟩,
  ⟨.loc 52, .call (.fn 100) [(.loc 51)] [.borrow], some ((.loc 49), true), []⟩,
  ⟨.loc 53, .pick (.loc 49) (.loc 52) (.const (.d (.bool false))), none, []⟩,
  ⟨.loc 54, .split (.loc 53), none, []⟩,
  ⟨.loc 55, .fld 2 (.var 1), some ((.loc 54), true), []⟩,
  ⟨.loc 56, .load false 1 (.loc 55), some ((.loc 54), true), []⟩,
  ⟨.loc 57, .len false (.loc 56), some ((.loc 54), true), []⟩,
  ⟨.loc 58, .bin .int .leq (.loc 57) (.const (.d (.int .i64 120))), some ((.loc 54), true), []⟩,
  ⟨.loc 59, .pick (.loc 54) (.loc 58) (.const (.d (.bool false))), none, []⟩,
  ⟨.var 2, .mv (.loc 59), none, []⟩] false
def c_I_isChain : ACode := (.seq c_I_isChain_0 (.seq (.seq c_I_isChain_1 (.block 0 (.loop [1, 6, 7, 8] c_I_isChain_7))) (.seq c_I_isChain_8 .ret)))
abbrev F_I_isChain : FuncId := 52
theorem k_I_isChain : comp PP (Tryd.f52.ntmps, pinOf 0 [none]) [0, 1, 2, 3, 4, 6, 7, 8, 9, 44] (Tryd.f52.body.getD .skip) = some c_I_isChain.erase := by kernel_rfl
theorem v_I_isChain {GG : GV} (rcs : List C) {cs : List C} {r : C} {os : List (Option C)} (hN : (cs.length == 1 && rcs.length == 1) = true) (hret : retOf rcs = r)
    (hW : W PP [0, 1, 2, 3, 4, 6, 7, 8, 9, 44] (Tryd.f52.ntmps, pinOf 0 [none]) (Valid PP GG) c_I_isChain (entry cs) (Fin (Valid PP GG) [(.give, 2, none)] [none] rcs os) (fun _ _ => False) (Fin (Valid PP GG) [(.give, 2, none)] [none] rcs os)) : Valid PP GG F_I_isChain cs r os :=
  fn_valid_n 1 1 [0, 1, 2, 3, 4, 6, 7, 8, 9, 44] c_I_isChain [(.give, 2, none)] [none] rcs Tryd.func52 rfl rfl (by kernel_rfl) k_I_isChain rfl rfl hN hret hW
def c_I_breakOf_0 : ACode := .reg [⟨.var 1, .box (.var 0), none, []⟩,
  ⟨.var 2, .mv (.const (.d (.int .i64 0))), none, []⟩] false
def c_I_breakOf_1 : ACode := .reg [⟨.loc 6, .fld 0 (.var 1), none, []⟩,
  ⟨.loc 7, .load false 1 (.loc 6), none, []⟩,
  ⟨.var 3, .mv (.loc 7), none, []⟩] false
def c_I_breakOf_2 : ACode := .reg [⟨.loc 8, .fld 2 (.var 1), none, []⟩,
  ⟨.var 9, .load false 1 (.loc 8), none, []⟩,
  ⟨.var 10, .len false (.var 9), none, []⟩,
  ⟨.var 11, .mv (.const (.d (.int .i64 0))), none, []⟩] false
def c_I_breakOf_3 : ACode := .reg [⟨.var 12, .bin .int .lss (.var 11) (.var 10), none, []⟩] false
def c_I_breakOf_4 : ACode := .reg [⟨.loc 13, .mv (.var 11), none, []⟩,
  ⟨.loc 14, .idxA 7 (.var 9) (.var 11), none, []⟩,
  ⟨.loc 15, .load true 7 (.loc 14), none, []⟩,
  ⟨.var 5, .alloc [.d (.int .i64 0), .d (.int .i64 0), .d (.int .i64 0), .d (.str []), .d (.str []), .d (.int .i64 0), .d (.int .i64 0)], none, []⟩,
  ⟨.var 4, .mv (.loc 13), none, []⟩,
  ⟨.none, .store 7 (.var 5) (.loc 15), none, []⟩] false
def c_I_breakOf_5 : ACode := .reg [⟨.loc 16, .fld 6 (.var 5), none, []⟩,
  ⟨.loc 17, .load false 1 (.loc 16), none, [0]⟩,
  ⟨.loc 18, .mv (.var 3), none, []⟩,
  ⟨.loc 19, .load true 7 (.var 5), none, []⟩,
  ⟨.loc 20, .call (.fn 101) [(.loc 18), (.loc 19)] [.borrow, .borrow], none, [2, 3]⟩,
  ⟨.var 21, .bin .int .neq (.loc 17) (.loc 20), none, [1, 0, 4, 2, 3]⟩] true
def c_I_breakOf_6 : ACode := .reg [⟨.loc 22, .mv (.var 4), none, []⟩,
  ⟨.var 2, .mv (.loc 22), none, []⟩] false
def c_I_breakOf_7 : ACode := .reg [⟨.loc 23, .fld 6 (.var 5), none, []⟩,
  ⟨.loc 24, .load false 1 (.loc 23), none, []⟩,
  ⟨.var 3, .mv (.loc 24), none, []⟩] false
def c_I_breakOf_8 : ACode := .reg [⟨.loc 25, .bin .int .add (.var 11) (.const (.d (.int .i64 1))), none, []⟩,
  ⟨.var 11, .mv (.loc 25), none, []⟩] false
def c_I_breakOf_9 : ACode := (.seq c_I_breakOf_3 (.seq (.cond (.var 12) .skip (.exit 0)) (.seq (.block 1 (.seq c_I_breakOf_4 (.seq (.seq c_I_breakOf_5 (.cond (.var 21) (.seq c_I_breakOf_6 .ret) .skip)) c_I_breakOf_7))) c_I_breakOf_8)))
def c_I_breakOf_10 : ACode := .reg [⟨.loc 26, .fld 2 (.var 1), none, []⟩,
  ⟨.loc 27, .load false 1 (.loc 26), none, []⟩,
  ⟨.loc 28, .len false (.loc 27), none, []⟩,
  ⟨.var 2, .mv (.loc 28), none, []⟩] false
def c_I_breakOf : ACode := (.seq c_I_breakOf_0 (.seq c_I_breakOf_1 (.seq (.seq c_I_breakOf_2 (.block 0 (.loop [1, 3, 9, 10, 11] c_I_breakOf_9))) (.seq c_I_breakOf_10 .ret))))
abbrev F_I_breakOf : FuncId := 53
theorem k_I_breakOf : comp PP (Tryd.f53.ntmps, pinOf 0 [none]) [0, 1, 2, 3, 4, 5, 9, 10, 11, 12, 21] (Tryd.f53.body.getD .skip) = some c_I_breakOf.erase := by kernel_rfl
theorem v_I_breakOf {GG : GV} (rcs : List C) {cs : List C} {r : C} {os : List (Option C)} (hN : (cs.length == 1 && rcs.length == 1) = true) (hret : retOf rcs = r)
    (hW : W PP [0, 1, 2, 3, 4, 5, 9, 10, 11, 12, 21] (Tryd.f53.ntmps, pinOf 0 [none]) (Valid PP GG) c_I_breakOf (entry cs) (Fin (Valid PP GG) [(.give, 2, none)] [none] rcs os) (fun _ _ => False) (Fin (Valid PP GG) [(.give, 2, none)] [none] rcs os)) : Valid PP GG F_I_breakOf cs r os :=
  fn_valid_n 1 1 [0, 1, 2, 3, 4, 5, 9, 10, 11, 12, 21] c_I_breakOf [(.give, 2, none)] [none] rcs Tryd.func53 rfl rfl (by kernel_rfl) k_I_breakOf rfl rfl hN hret hW
def c_L_eqNoteS_0 : ACode := .reg [⟨.var 4, .mv (.const (.d (.bool false))), none, []⟩] false
def c_L_eqNoteS_1 : ACode := .reg [⟨.loc 6, .mv (.var 0), none, []⟩,
  ⟨.loc 7, .len false (.loc 6), none, []⟩,
  ⟨.loc 8, .mv (.var 1), none, []⟩,
  ⟨.loc 9, .len false (.loc 8), none, []⟩,
  ⟨.var 10, .bin .int .neq (.loc 7) (.loc 9), none, []⟩] false
def c_L_eqNoteS_2 : ACode := .reg [⟨.var 4, .mv (.const (.d (.bool false))), none, []⟩] false
def c_L_eqNoteS_3 : ACode := .reg [⟨.var 5, .mv (.const (.d (.int .i64 0))), none, []⟩] false
def c_L_eqNoteS_4 : ACode := .reg [⟨.loc 11, .mv (.var 5), none, []⟩,
  ⟨.loc 12, .mv (.var 0), none, []⟩,
  ⟨.loc 13, .len false (.loc 12), none, []⟩,
  ⟨.var 14, .bin .int .lss (.loc 11) (.loc 13), none, []⟩] false
def c_L_eqNoteS_5 : ACode := .reg [⟨.loc 17, .mv (.var 0), none, []⟩,
  ⟨.loc 18, .mv (.var 5), none, []⟩,
  ⟨.loc 19, .idxA 7 (.loc 17) (.loc 18), none, [0, 1]⟩,
  ⟨.loc 20, .load true 7 (.loc 19), none, [2, 0, 1]⟩,
  ⟨.loc 21, .mv (.var 1), none, []⟩,
  ⟨.loc 22, .mv (.var 5), none, []⟩,
  ⟨.loc 23, .idxA 7 (.loc 21) (.loc 22), none, [4, 5]⟩,
  ⟨.loc 24, .load true 7 (.loc 23), none, [6, 4, 5]⟩,
  ⟨.loc 25, .call (.fn 102) [(.loc 20), (.loc 24)] [.borrow, .borrow], none, [3, 2, 0, 1, 7, 6, 4, 5]⟩,
  ⟨.var 26, .un .not (.loc 25), none, [8, 3, 2, 0, 1, 7, 6, 4, 5]⟩] true
def c_L_eqNoteS_6 : ACode := .reg [⟨.var 4, .mv (.const (.d (.bool false))), none, []⟩] false
def c_L_eqNoteS_7 : ACode := .reg [⟨.loc 15, .mv (.var 5), none, []⟩,
  ⟨.loc 16, .bin .int .add (.loc 15) (.const (.d (.int .i64 1))), none, []⟩,
  ⟨.var 5, .mv (.loc 16), none, []⟩] false
def c_L_eqNoteS_8 : ACode := (.seq (.seq c_L_eqNoteS_4 (.cond (.var 14) .skip (.exit 0))) (.seq (.block 1 (.seq c_L_eqNoteS_5 (.cond (.var 26) (.seq c_L_eqNoteS_6 .ret) .skip))) c_L_eqNoteS_7))
def c_L_eqNoteS_9 : ACode := .reg [⟨.var 4, .mv (.const (.d (.bool true))), none, []⟩] false
def c_L_eqNoteS : ACode := (.seq c_L_eqNoteS_0 (.seq (.seq c_L_eqNoteS_1 (.cond (.var 10) (.seq c_L_eqNoteS_2 .ret) .skip)) (.seq (.seq c_L_eqNoteS_3 (.block 0 (.loop [0, 1, 5] c_L_eqNoteS_8))) (.seq c_L_eqNoteS_9 .ret))))
abbrev F_L_eqNoteS : FuncId := 54
theorem k_L_eqNoteS : comp PP (Tryd.f54.ntmps, pinOf 0 [none, none]) [0, 1, 4, 5, 10, 14, 26] (Tryd.f54.body.getD .skip) = some c_L_eqNoteS.erase := by kernel_rfl
theorem v_L_eqNoteS {GG : GV} (rcs : List C) {cs : List C} {r : C} {os : List (Option C)} (hN : (cs.length == 2 && rcs.length == 1) = true) (hret : retOf rcs = r)
    (hW : W PP [0, 1, 4, 5, 10, 14, 26] (Tryd.f54.ntmps, pinOf 0 [none, none]) (Valid PP GG) c_L_eqNoteS (entry cs) (Fin (Valid PP GG) [(.give, 4, none)] [none, none] rcs os) (fun _ _ => False) (Fin (Valid PP GG) [(.give, 4, none)] [none, none] rcs os)) : Valid PP GG F_L_eqNoteS cs r os :=
  fn_valid_n 2 1 [0, 1, 4, 5, 10, 14, 26] c_L_eqNoteS [(.give, 4, none)] [none, none] rcs Tryd.func54 rfl rfl (by kernel_rfl) k_L_eqNoteS rfl rfl hN hret hW
def c_S_HeadOf_0 : ACode := .reg [⟨.var 1, .box (.var 0), none, []⟩,
  ⟨.var 2, .mv (.const (.d (.int .i64 0))), none, []⟩] false
def c_S_HeadOf_1 : ACode := .reg [⟨.loc 3, .load true 3 (.var 1), none, []⟩,
  ⟨.loc 4, .call (.fn 49) [(.loc 3)] [.borrow], none, []⟩,
  ⟨.var 5, .un .not (.loc 4), none, []⟩] false
def c_S_HeadOf_2 : ACode := .reg [⟨.var 2, .mv (.const (.d (.int .i64 (-1)))), none, []⟩] false
def c_S_HeadOf_3 : ACode := .reg [⟨.loc 6, .fld 2 (.var 1), none, []⟩,
  ⟨.loc 7, .load false 1 (.loc 6), none, []⟩,
  ⟨.loc 8, .len false (.loc 7), none, []⟩,
  ⟨.var 9, .bin .int .eql (.loc 8) (.const (.d (.int .i64 0))), none, []⟩] false
def c_S_HeadOf_4 : ACode := .reg [⟨.loc 10, .fld 0 (.var 1), none, []⟩,
  ⟨.loc 11, .load false 1 (.loc 10), none, []⟩,
  ⟨.var 2, .mv (.loc 11), none, []⟩] false
def c_S_HeadOf_5 : ACode := .reg [⟨.loc 12, .fld 2 (.var 1), none, []⟩,
  ⟨.loc 13, .load false 1 (.loc 12), none, []⟩,
  ⟨.loc 14, .fld 2 (.var 1), none, []⟩,
  ⟨.loc 15, .load false 1 (.loc 14), none, []⟩,
  ⟨.loc 16, .len false (.loc 15), none, []⟩,
  ⟨.loc 17, .bin .int .sub (.loc 16) (.const (.d (.int .i64 1))), none, []⟩,
  ⟨.loc 18, .idxA 7 (.loc 13) (.loc 17), none, []⟩,
  ⟨.loc 19, .fld 6 (.loc 18), none, []⟩,
  ⟨.loc 20, .load false 1 (.loc 19), none, []⟩,
  ⟨.var 2, .mv (.loc 20), none, []⟩] false
def c_S_HeadOf : ACode := (.seq c_S_HeadOf_0 (.seq (.seq c_S_HeadOf_1 (.cond (.var 5) (.seq c_S_HeadOf_2 .ret) .skip)) (.seq (.seq c_S_HeadOf_3 (.cond (.var 9) (.seq c_S_HeadOf_4 .ret) .skip)) (.seq c_S_HeadOf_5 .ret))))
abbrev F_S_HeadOf : FuncId := 55
theorem k_S_HeadOf : comp PP (Tryd.f55.ntmps, pinOf 0 [none]) [0, 1, 2, 5, 9] (Tryd.f55.body.getD .skip) = some c_S_HeadOf.erase := by kernel_rfl
theorem v_S_HeadOf {GG : GV} (rcs : List C) {cs : List C} {r : C} {os : List (Option C)} (hN : (cs.length == 1 && rcs.length == 1) = true) (hret : retOf rcs = r)
    (hW : W PP [0, 1, 2, 5, 9] (Tryd.f55.ntmps, pinOf 0 [none]) (Valid PP GG) c_S_HeadOf (entry cs) (Fin (Valid PP GG) [(.give, 2, none)] [none] rcs os) (fun _ _ => False) (Fin (Valid PP GG) [(.give, 2, none)] [none] rcs os)) : Valid PP GG F_S_HeadOf cs r os :=
  fn_valid_n 1 1 [0, 1, 2, 5, 9] c_S_HeadOf [(.give, 2, none)] [none] rcs Tryd.func55 rfl rfl (by kernel_rfl) k_S_HeadOf rfl rfl hN hret hW
def c_I_headOf_0 : ACode := .reg [⟨.var 1, .box (.var 0), none, []⟩,
  ⟨.var 2, .mv (.const (.d (.int .i64 0))), none, []⟩] false
def c_I_headOf_1 : ACode := .reg [⟨.loc 3, .fld 2 (.var 1), none, []⟩,
  ⟨.loc 4, .load false 1 (.loc 3), none, []⟩,
  ⟨.loc 5, .len false (.loc 4), none, []⟩,
  ⟨.var 6, .bin .int .eql (.loc 5) (.const (.d (.int .i64 0))), none, []⟩] false
def c_I_headOf_2 : ACode := .reg [⟨.loc 7, .fld 0 (.var 1), none, []⟩,
  ⟨.loc 8, .load false 1 (.loc 7), none, []⟩,
  ⟨.var 2, .mv (.loc 8), none, []⟩] false
def c_I_headOf_3 : ACode := .reg [⟨.loc 9, .fld 2 (.var 1), none, []⟩,
  ⟨.loc 10, .load false 1 (.loc 9), none, []⟩,
  ⟨.loc 11, .fld 2 (.var 1), none, []⟩,
  ⟨.loc 12, .load false 1 (.loc 11), none, []⟩,
  ⟨.loc 13, .len false (.loc 12), none, []⟩,
  ⟨.loc 14, .bin .int .sub (.loc 13) (.const (.d (.int .i64 1))), none, []⟩,
  ⟨.loc 15, .idxA 7 (.loc 10) (.loc 14), none, []⟩,
  ⟨.loc 16, .fld 6 (.loc 15), none, []⟩,
  ⟨.loc 17, .load false 1 (.loc 16), none, []⟩,
  ⟨.var 2, .mv (.loc 17), none, []⟩] false
def c_I_headOf : ACode := (.seq c_I_headOf_0 (.seq (.seq c_I_headOf_1 (.cond (.var 6) (.seq c_I_headOf_2 .ret) .skip)) (.seq c_I_headOf_3 .ret)))
abbrev F_I_headOf : FuncId := 56
theorem k_I_headOf : comp PP (Tryd.f56.ntmps, pinOf 0 [none]) [0, 1, 2, 6] (Tryd.f56.body.getD .skip) = some c_I_headOf.erase := by kernel_rfl
theorem v_I_headOf {GG : GV} (rcs : List C) {cs : List C} {r : C} {os : List (Option C)} (hN : (cs.length == 1 && rcs.length == 1) = true) (hret : retOf rcs = r)
    (hW : W PP [0, 1, 2, 6] (Tryd.f56.ntmps, pinOf 0 [none]) (Valid PP GG) c_I_headOf (entry cs) (Fin (Valid PP GG) [(.give, 2, none)] [none] rcs os) (fun _ _ => False) (Fin (Valid PP GG) [(.give, 2, none)] [none] rcs os)) : Valid PP GG F_I_headOf cs r os :=
  fn_valid_n 1 1 [0, 1, 2, 6] c_I_headOf [(.give, 2, none)] [none] rcs Tryd.func56 rfl rfl (by kernel_rfl) k_I_headOf rfl rfl hN hret hW
def c_S_l15Copy_0 : ACode := .reg [⟨.var 1, .box (.var 0), none, []⟩,
  ⟨.var 2, .alloc [.d (.int .i64 0), .d (.int .i64 0), .nil 0 7], none, []⟩] false
def c_S_l15Copy_1 : ACode := .reg [⟨.loc 5, .fld 0 (.var 1), none, []⟩,
  ⟨.loc 6, .load false 1 (.loc 5), none, []⟩,
  ⟨.loc 7, .fld 1 (.var 1), none, []⟩,
  ⟨.loc 8, .load false 1 (.loc 7), none, []⟩,
  ⟨.loc 9, .build [.d (.int .i64 0), .d (.int .i64 0), .nil 0 7] [(0, 1, (.loc 6)), (1, 1, (.loc 8))], none, []⟩,
  ⟨.var 3, .alloc [.d (.int .i64 0), .d (.int .i64 0), .nil 0 7], none, []⟩,
  ⟨.none, .store 3 (.var 3) (.loc 9), none, []⟩] false
def c_S_l15Copy_2 : ACode := .reg [⟨.var 4, .mv (.const (.d (.int .i64 0))), none, []⟩] false
def c_S_l15Copy_3 : ACode := .reg [⟨.loc 10, .mv (.var 4), none, []⟩,
  ⟨.loc 11, .fld 2 (.var 1), none, []⟩,
  ⟨.loc 12, .load false 1 (.loc 11), none, []⟩,
  ⟨.loc 13, .len false (.loc 12), none, []⟩,
  ⟨.var 14, .bin .int .lss (.loc 10) (.loc 13), none, []⟩] false
def c_S_l15Copy_4 : ACode := .reg [⟨.loc 17, .fld 2 (.var 3), none, []⟩,
  ⟨.loc 18, .load false 1 (.loc 17), none, [0]⟩,
  ⟨.loc 19, .fld 2 (.var 1), none, []⟩,
  ⟨.loc 20, .load false 1 (.loc 19), none, [2]⟩,
  ⟨.loc 21, .mv (.var 4), none, []⟩,
  ⟨.loc 22, .idxA 7 (.loc 20) (.loc 21), none, [3, 2, 4]⟩,
  ⟨.loc 23, .load true 7 (.loc 22), none, [5, 3, 2, 4]⟩,
  ⟨.loc 24, .lit 0 7 1 [.int .i64 0, .int .i64 0, .int .i64 0, .str [], .str [], .int .i64 0, .int .i64 0] [(0, (.loc 23))], none, [6, 5, 3, 2, 4]⟩,
  ⟨.loc 25, .app 7 72 (.loc 18) (.loc 24), none, [1, 0, 7, 6, 5, 3, 2, 4]⟩,
  ⟨.loc 26, .fld 2 (.var 3), none, [8, 1, 0, 7, 6, 5, 3, 2, 4]⟩,
  ⟨.none, .store 1 (.loc 26) (.loc 25), none, [9, 8, 1, 0, 7, 6, 5, 3, 2, 4]⟩] true
def c_S_l15Copy_5 : ACode := .reg [⟨.loc 15, .mv (.var 4), none, []⟩,
  ⟨.loc 16, .bin .int .add (.loc 15) (.const (.d (.int .i64 1))), none, []⟩,
  ⟨.var 4, .mv (.loc 16), none, []⟩] false
def c_S_l15Copy_6 : ACode := (.seq (.seq c_S_l15Copy_3 (.cond (.var 14) .skip (.exit 0))) (.seq (.block 1 c_S_l15Copy_4) c_S_l15Copy_5))
def c_S_l15Copy_7 : ACode := .reg [⟨.loc 27, .load true 3 (.var 3), none, []⟩,
  ⟨.none, .store 3 (.var 2) (.loc 27), none, []⟩] false
def c_S_l15Copy : ACode := (.seq c_S_l15Copy_0 (.seq c_S_l15Copy_1 (.seq (.seq c_S_l15Copy_2 (.block 0 (.loop [1, 2, 3, 4] c_S_l15Copy_6))) (.seq c_S_l15Copy_7 .ret))))
abbrev F_S_l15Copy : FuncId := 57
theorem k_S_l15Copy : comp PP (Tryd.f57.ntmps, pinOf 0 [none]) [0, 1, 2, 3, 4, 14] (Tryd.f57.body.getD .skip) = some c_S_l15Copy.erase := by kernel_rfl
theorem v_S_l15Copy {GG : GV} (rcs : List C) {cs : List C} {r : C} {os : List (Option C)} (hN : (cs.length == 1 && rcs.length == 1) = true) (hret : retOf rcs = r)
    (hW : W PP [0, 1, 2, 3, 4, 14] (Tryd.f57.ntmps, pinOf 0 [none]) (Valid PP GG) c_S_l15Copy (entry cs) (Fin (Valid PP GG) [(.give, 2, some (true, 3))] [none] rcs os) (fun _ _ => False) (Fin (Valid PP GG) [(.give, 2, some (true, 3))] [none] rcs os)) : Valid PP GG F_S_l15Copy cs r os :=
  fn_valid_n 1 1 [0, 1, 2, 3, 4, 14] c_S_l15Copy [(.give, 2, some (true, 3))] [none] rcs Tryd.func57 rfl rfl (by kernel_rfl) k_S_l15Copy rfl rfl hN hret hW
def c_I_cloneChain_0 : ACode := .reg [⟨.var 1, .box (.var 0), none, []⟩,
  ⟨.var 2, .alloc [.d (.int .i64 0), .d (.int .i64 0), .nil 0 7], none, []⟩] false
def c_I_cloneChain_1 : ACode := .reg [⟨.loc 3, .fld 2 (.var 1), none, []⟩,
  ⟨.loc 4, .load false 1 (.loc 3), none, []⟩,
  ⟨.loc 5, .call (.fn 103) [(.loc 4)] [.borrow], none, []⟩,
  ⟨.loc 6, .fld 2 (.var 1), none, []⟩,
  ⟨.none, .store 1 (.loc 6) (.loc 5), none, []⟩] false
def c_I_cloneChain_2 : ACode := .reg [⟨.loc 7, .load true 3 (.var 1), none, []⟩,
  ⟨.none, .store 3 (.var 2) (.loc 7), none, []⟩] false
def c_I_cloneChain : ACode := (.seq c_I_cloneChain_0 (.seq c_I_cloneChain_1 (.seq c_I_cloneChain_2 .ret)))
abbrev F_I_cloneChain : FuncId := 58
theorem k_I_cloneChain : comp PP (Tryd.f58.ntmps, pinOf 0 [none]) [0, 1, 2] (Tryd.f58.body.getD .skip) = some c_I_cloneChain.erase := by kernel_rfl
theorem v_I_cloneChain {GG : GV} (rcs : List C) {cs : List C} {r : C} {os : List (Option C)} (hN : (cs.length == 1 && rcs.length == 1) = true) (hret : retOf rcs = r)
    (hW : W PP [0, 1, 2] (Tryd.f58.ntmps, pinOf 0 [none]) (Valid PP GG) c_I_cloneChain (entry cs) (Fin (Valid PP GG) [(.give, 2, some (true, 3))] [none] rcs os) (fun _ _ => False) (Fin (Valid PP GG) [(.give, 2, some (true, 3))] [none] rcs os)) : Valid PP GG F_I_cloneChain cs r os :=
  fn_valid_n 1 1 [0, 1, 2] c_I_cloneChain [(.give, 2, some (true, 3))] [none] rcs Tryd.func58 rfl rfl (by kernel_rfl) k_I_cloneChain rfl rfl hN hret hW
def c_I_addNote_0 : ACode := .reg [⟨.var 2, .box (.var 0), none, []⟩,
  ⟨.var 3, .box (.var 1), none, []⟩,
  ⟨.var 4, .alloc [.d (.int .i64 0), .d (.int .i64 0), .nil 0 7], none, []⟩,
  ⟨.var 5, .mv (.const (.d (.bool false))), none, []⟩] false
def c_I_addNote_1 : ACode := .reg [⟨.loc 7, .load true 3 (.var 2), none, []⟩,
  ⟨.loc 8, .call (.fn 58) [(.loc 7)] [.borrow], none, []⟩,
  ⟨.var 6, .alloc [.d (.int .i64 0), .d (.int .i64 0), .nil 0 7], none, []⟩,
  ⟨.none, .store 3 (.var 6) (.loc 8), none, []⟩] false
def c_I_addNote_2 : ACode := .reg [⟨.loc 9, .fld 0 (.var 3), none, []⟩,
  ⟨.none, .store 1 (.loc 9) (.const (.d (.int .i64 1))), none, []⟩] false
def c_I_addNote_3 : ACode := .reg [⟨.loc 10, .fld 2 (.var 2), none, []⟩,
  ⟨.loc 11, .load false 1 (.loc 10), none, []⟩,
  ⟨.loc 12, .len false (.loc 11), none, []⟩,
  ⟨.var 13, .bin .int .gtr (.loc 12) (.const (.d (.int .i64 0))), none, []⟩] false
def c_I_addNote_4 : ACode := .reg [⟨.loc 14, .fld 2 (.var 2), none, []⟩,
  ⟨.loc 15, .load false 1 (.loc 14), none, []⟩,
  ⟨.loc 16, .fld 2 (.var 2), none, []⟩,
  ⟨.loc 17, .load false 1 (.loc 16), none, []⟩,
  ⟨.loc 18, .len false (.loc 17), none, []⟩,
  ⟨.loc 19, .bin .int .sub (.loc 18) (.const (.d (.int .i64 1))), none, []⟩,
  ⟨.loc 20, .idxA 7 (.loc 15) (.loc 19), none, []⟩,
  ⟨.loc 21, .fld 0 (.loc 20), none, []⟩,
  ⟨.loc 22, .load false 1 (.loc 21), none, []⟩,
  ⟨.loc 23, .bin .int .add (.loc 22) (.const (.d (.int .i64 1))), none, []⟩,
  ⟨.loc 24, .fld 0 (.var 3), none, []⟩,
  ⟨.none, .store 1 (.loc 24) (.loc 23), none, []⟩] false
def c_I_addNote_5 : ACode := .reg [⟨.loc 25, .load true 3 (.var 2), none, []⟩,
  ⟨.loc 26, .call (.fn 56) [(.loc 25)] [.borrow], none, [0]⟩,
  ⟨.loc 27, .load true 7 (.var 3), none, []⟩,
  ⟨.loc 28, .call (.fn 101) [(.loc 26), (.loc 27)] [.borrow, .borrow], none, [2, 1, 0]⟩,
  ⟨.loc 29, .fld 6 (.var 3), none, [3, 2, 1, 0]⟩,
  ⟨.none, .store 1 (.loc 29) (.loc 28), none, [4, 3, 2, 1, 0]⟩] true
def c_I_addNote_6 : ACode := .reg [⟨.loc 30, .fld 2 (.var 6), none, []⟩,
  ⟨.loc 31, .load false 1 (.loc 30), none, []⟩,
  ⟨.loc 32, .len false (.loc 31), none, []⟩,
  ⟨.var 33, .bin .int .eql (.loc 32) (.const (.d (.int .i64 120))), none, []⟩] false
def c_I_addNote_7 : ACode := .reg [⟨.loc 34, .fld 2 (.var 6), none, []⟩,
  ⟨.loc 35, .load false 1 (.loc 34), none, []⟩,
  ⟨.loc 36, .idxA 7 (.loc 35) (.const (.d (.int .i64 0))), none, []⟩,
  ⟨.loc 37, .fld 6 (.loc 36), none, []⟩,
  ⟨.loc 38, .load false 1 (.loc 37), none, []⟩,
  ⟨.loc 39, .fld 0 (.var 6), none, []⟩,
  ⟨.none, .store 1 (.loc 39) (.loc 38), none, []⟩] false
def c_I_addNote_8 : ACode := .reg [⟨.loc 40, .fld 2 (.var 6), none, []⟩,
  ⟨.loc 41, .load false 1 (.loc 40), none, []⟩,
  ⟨.loc 42, .sliceA 7 (.loc 41) (some (.const (.d (.int .i64 1)))) none, none, []⟩,
  ⟨.loc 43, .fld 2 (.var 6), none, []⟩,
  ⟨.none, .store 1 (.loc 43) (.loc 42), none, []⟩] false
def c_I_addNote_9 : ACode := .reg [⟨.loc 44, .fld 2 (.var 6), none, []⟩,
  ⟨.loc 45, .load false 1 (.loc 44), none, []⟩,
  ⟨.loc 46, .load true 7 (.var 3), none, []⟩,
  ⟨.loc 47, .lit 0 7 1 [.int .i64 0, .int .i64 0, .int .i64 0, .str [], .str [], .int .i64 0, .int .i64 0] [(0, (.loc 46))], none, []⟩,
  ⟨.loc 48, .app 7 72 (.loc 45) (.loc 47), none, []⟩,
  ⟨.loc 49, .fld 2 (.var 6), none, []⟩,
  ⟨.none, .store 1 (.loc 49) (.loc 48), none, []⟩] false
def c_I_addNote_10 : ACode := .reg [⟨.loc 50, .load true 3 (.var 6), none, []⟩,
  ⟨.loc 51, .call (.fn 52) [(.loc 50)] [.borrow], none, []⟩,
  ⟨.var 52, .un .not (.loc 51), none, []⟩] false
def c_I_addNote_11 : ACode := .reg [⟨.loc 53, .load true 3 (.var 2), none, []⟩,
  ⟨.loc 54, .call (.fn 58) [(.loc 53)] [.borrow], none, []⟩,
  ⟨.none, .store 3 (.var 4) (.loc 54), none, []⟩,
  ⟨.var 5, .mv (.const (.d (.bool false))), none, []⟩] false
def c_I_addNote_12 : ACode := .reg [⟨.loc 55, .load true 3 (.var 6), none, []⟩,
  ⟨.none, .store 3 (.var 4) (.loc 55), none, []⟩,
  ⟨.var 5, .mv (.const (.d (.bool true))), none, []⟩] false
def c_I_addNote : ACode := (.seq c_I_addNote_0 (.seq c_I_addNote_1 (.seq c_I_addNote_2 (.seq (.seq c_I_addNote_3 (.cond (.var 13) c_I_addNote_4 .skip)) (.seq c_I_addNote_5 (.seq (.seq c_I_addNote_6 (.cond (.var 33) (.seq c_I_addNote_7 c_I_addNote_8) .skip)) (.seq c_I_addNote_9 (.seq (.seq c_I_addNote_10 (.cond (.var 52) (.seq c_I_addNote_11 .ret) .skip)) (.seq c_I_addNote_12 .ret)))))))))
abbrev F_I_addNote : FuncId := 59
theorem k_I_addNote : comp PP (Tryd.f59.ntmps, pinOf 0 [none, none]) [0, 1, 2, 3, 4, 5, 6, 13, 33, 52] (Tryd.f59.body.getD .skip) = some c_I_addNote.erase := by kernel_rfl
theorem v_I_addNote {GG : GV} (rcs : List C) {cs : List C} {r : C} {os : List (Option C)} (hN : (cs.length == 2 && rcs.length == 2) = true) (hret : retOf rcs = r)
    (hW : W PP [0, 1, 2, 3, 4, 5, 6, 13, 33, 52] (Tryd.f59.ntmps, pinOf 0 [none, none]) (Valid PP GG) c_I_addNote (entry cs) (Fin (Valid PP GG) [(.give, 4, some (true, 3)), (.give, 5, none)] [none, none] rcs os) (fun _ _ => False) (Fin (Valid PP GG) [(.give, 4, some (true, 3)), (.give, 5, none)] [none, none] rcs os)) : Valid PP GG F_I_addNote cs r os :=
  fn_valid_n 2 2 [0, 1, 2, 3, 4, 5, 6, 13, 33, 52] c_I_addNote [(.give, 4, some (true, 3)), (.give, 5, none)] [none, none] rcs Tryd.func59 rfl rfl (by kernel_rfl) k_I_addNote rfl rfl hN hret hW
def c_L_markNoteS_0 : ACode := .reg [⟨.var 4, .mv (.const (.d (.int .i64 0))), none, []⟩] false
def c_L_markNoteS_1 : ACode := .reg [⟨.var 5, .mv (.const (.d (.int .i64 0))), none, []⟩] false
def c_L_markNoteS_2 : ACode := .reg [⟨.loc 6, .mv (.var 5), none, []⟩,
  ⟨.loc 7, .mv (.var 0), none, []⟩,
  ⟨.loc 8, .len false (.loc 7), none, []⟩,
  ⟨.var 9, .bin .int .lss (.loc 6) (.loc 8), none, []⟩] false
def c_L_markNoteS_3 : ACode := .reg [⟨.loc 12, .mv (.var 0), none, []⟩,
  ⟨.loc 13, .mv (.var 5), none, []⟩,
  ⟨.loc 14, .mv (.var 1), none, []⟩,
  ⟨.loc 15, .idxA 7 (.loc 12) (.loc 13), none, []⟩,
  ⟨.loc 16, .fld 0 (.loc 15), none, []⟩,
  ⟨.none, .store 1 (.loc 16) (.loc 14), none, []⟩] false
def c_L_markNoteS_4 : ACode := .reg [⟨.loc 17, .mv (.var 1), none, []⟩,
  ⟨.loc 18, .bin .int .add (.loc 17) (.const (.d (.int .i64 1))), none, []⟩,
  ⟨.var 1, .mv (.loc 18), none, []⟩] false
def c_L_markNoteS_5 : ACode := .reg [⟨.loc 19, .mv (.var 0), none, []⟩,
  ⟨.loc 20, .mv (.var 5), none, []⟩,
  ⟨.loc 21, .mv (.var 1), none, []⟩,
  ⟨.loc 22, .idxA 7 (.loc 19) (.loc 20), none, []⟩,
  ⟨.loc 23, .fld 1 (.loc 22), none, []⟩,
  ⟨.none, .store 1 (.loc 23) (.loc 21), none, []⟩] false
def c_L_markNoteS_6 : ACode := .reg [⟨.loc 24, .mv (.var 1), none, []⟩,
  ⟨.loc 25, .bin .int .add (.loc 24) (.const (.d (.int .i64 1))), none, []⟩,
  ⟨.var 1, .mv (.loc 25), none, []⟩] false
def c_L_markNoteS_7 : ACode := .reg [⟨.loc 26, .mv (.var 0), none, []⟩,
  ⟨.loc 27, .mv (.var 5), none, []⟩,
  ⟨.loc 28, .mv (.var 1), none, []⟩,
  ⟨.loc 29, .idxA 7 (.loc 26) (.loc 27), none, []⟩,
  ⟨.loc 30, .fld 2 (.loc 29), none, []⟩,
  ⟨.none, .store 1 (.loc 30) (.loc 28), none, []⟩] false
def c_L_markNoteS_8 : ACode := .reg [⟨.loc 31, .mv (.var 1), none, []⟩,
  ⟨.loc 32, .bin .int .add (.loc 31) (.const (.d (.int .i64 1))), none, []⟩,
  ⟨.var 1, .mv (.loc 32), none, []⟩] false
def c_L_markNoteS_9 : ACode := .reg [⟨.loc 33, .mv (.var 0), none, []⟩,
  ⟨.loc 34, .mv (.var 5), none, []⟩,
  ⟨.loc 35, .mv (.var 1), none, []⟩,
  ⟨.loc 36, .call (.fn 104) [(.loc 35)] [.borrow], none, []⟩,
  ⟨.loc 37, .idxA 7 (.loc 33) (.loc 34), none, []⟩,
  ⟨.loc 38, .fld 3 (.loc 37), none, []⟩,
  ⟨.none, .store 1 (.loc 38) (.loc 36), none, []⟩] false
def c_L_markNoteS_10 : ACode := .reg [⟨.loc 39, .mv (.var 1), none, []⟩,
  ⟨.loc 40, .bin .int .add (.loc 39) (.const (.d (.int .i64 1))), none, []⟩,
  ⟨.var 1, .mv (.loc 40), none, []⟩] false
def c_L_markNoteS_11 : ACode := .reg [⟨.loc 41, .mv (.var 0), none, []⟩,
  ⟨.loc 42, .mv (.var 5), none, []⟩,
  ⟨.loc 43, .mv (.var 1), none, []⟩,
  ⟨.loc 44, .call (.fn 104) [(.loc 43)] [.borrow], none, []⟩,
  ⟨.loc 45, .idxA 7 (.loc 41) (.loc 42), none, []⟩,
  ⟨.loc 46, .fld 4 (.loc 45), none, []⟩,
  ⟨.none, .store 1 (.loc 46) (.loc 44), none, []⟩] false
def c_L_markNoteS_12 : ACode := .reg [⟨.loc 47, .mv (.var 1), none, []⟩,
  ⟨.loc 48, .bin .int .add (.loc 47) (.const (.d (.int .i64 1))), none, []⟩,
  ⟨.var 1, .mv (.loc 48), none, []⟩] false
def c_L_markNoteS_13 : ACode := .reg [⟨.loc 49, .mv (.var 0), none, []⟩,
  ⟨.loc 50, .mv (.var 5), none, []⟩,
  ⟨.loc 51, .mv (.var 1), none, []⟩,
  ⟨.loc 52, .idxA 7 (.loc 49) (.loc 50), none, []⟩,
  ⟨.loc 53, .fld 5 (.loc 52), none, []⟩,
  ⟨.none, .store 1 (.loc 53) (.loc 51), none, []⟩] false
def c_L_markNoteS_14 : ACode := .reg [⟨.loc 54, .mv (.var 1), none, []⟩,
  ⟨.loc 55, .bin .int .add (.loc 54) (.const (.d (.int .i64 1))), none, []⟩,
  ⟨.var 1, .mv (.loc 55), none, []⟩] false
def c_L_markNoteS_15 : ACode := .reg [⟨.loc 56, .mv (.var 0), none, []⟩,
  ⟨.loc 57, .mv (.var 5), none, []⟩,
  ⟨.loc 58, .mv (.var 1), none, []⟩,
  ⟨.loc 59, .idxA 7 (.loc 56) (.loc 57), none, []⟩,
  ⟨.loc 60, .fld 6 (.loc 59), none, []⟩,
  ⟨.none, .store 1 (.loc 60) (.loc 58), none, []⟩] false
def c_L_markNoteS_16 : ACode := .reg [⟨.loc 61, .mv (.var 1), none, []⟩,
  ⟨.loc 62, .bin .int .add (.loc 61) (.const (.d (.int .i64 1))), none, []⟩,
  ⟨.var 1, .mv (.loc 62), none, []⟩] false
def c_L_markNoteS_17 : ACode := .reg [⟨.loc 10, .mv (.var 5), none, []⟩,
  ⟨.loc 11, .bin .int .add (.loc 10) (.const (.d (.int .i64 1))), none, []⟩,
  ⟨.var 5, .mv (.loc 11), none, []⟩] false
def c_L_markNoteS_18 : ACode := (.seq (.seq c_L_markNoteS_2 (.cond (.var 9) .skip (.exit 0))) (.seq (.block 1 (.seq c_L_markNoteS_3 (.seq c_L_markNoteS_4 (.seq c_L_markNoteS_5 (.seq c_L_markNoteS_6 (.seq c_L_markNoteS_7 (.seq c_L_markNoteS_8 (.seq c_L_markNoteS_9 (.seq c_L_markNoteS_10 (.seq c_L_markNoteS_11 (.seq c_L_markNoteS_12 (.seq c_L_markNoteS_13 (.seq c_L_markNoteS_14 (.seq c_L_markNoteS_15 c_L_markNoteS_16)))))))))))))) c_L_markNoteS_17))
def c_L_markNoteS_19 : ACode := .reg [⟨.loc 63, .mv (.var 1), none, []⟩,
  ⟨.var 4, .mv (.loc 63), none, []⟩] false
def c_L_markNoteS : ACode := (.seq c_L_markNoteS_0 (.seq (.seq c_L_markNoteS_1 (.block 0 (.loop [0, 1, 5] c_L_markNoteS_18))) (.seq c_L_markNoteS_19 .ret)))
abbrev F_L_markNoteS : FuncId := 60
theorem k_L_markNoteS : comp PP (Tryd.f60.ntmps, pinOf 0 [some .give, none]) [0, 1, 4, 5, 9] (Tryd.f60.body.getD .skip) = some c_L_markNoteS.erase := by kernel_rfl
theorem v_L_markNoteS {GG : GV} (rcs : List C) {cs : List C} {r : C} {os : List (Option C)} (hN : (cs.length == 2 && rcs.length == 1) = true) (hret : retOf rcs = r)
    (hW : W PP [0, 1, 4, 5, 9] (Tryd.f60.ntmps, pinOf 0 [some .give, none]) (Valid PP GG) c_L_markNoteS (entry cs) (Fin (Valid PP GG) [(.give, 4, none)] [some .give, none] rcs os) (fun _ _ => False) (Fin (Valid PP GG) [(.give, 4, none)] [some .give, none] rcs os)) : Valid PP GG F_L_markNoteS cs r os :=
  fn_valid_n 2 1 [0, 1, 4, 5, 9] c_L_markNoteS [(.give, 4, none)] [some .give, none] rcs Tryd.func60 rfl rfl (by kernel_rfl) k_L_markNoteS rfl rfl hN hret hW
def c_L_heldNoteS_0 : ACode := .reg [⟨.var 4, .mv (.const (.d (.int .i64 0))), none, []⟩] false
def c_L_heldNoteS_1 : ACode := .reg [⟨.var 5, .mv (.const (.d (.int .i64 0))), none, []⟩] false
def c_L_heldNoteS_2 : ACode := .reg [⟨.loc 6, .mv (.var 5), none, []⟩,
  ⟨.loc 7, .mv (.var 0), none, []⟩,
  ⟨.loc 8, .len false (.loc 7), none, []⟩,
  ⟨.var 9, .bin .int .lss (.loc 6) (.loc 8), none, []⟩] false
def c_L_heldNoteS_3 : ACode := .reg [⟨.loc 12, .mv (.var 0), none, []⟩,
  ⟨.loc 13, .mv (.var 5), none, []⟩,
  ⟨.loc 14, .idxA 7 (.loc 12) (.loc 13), none, []⟩,
  ⟨.loc 15, .fld 0 (.loc 14), none, []⟩,
  ⟨.loc 16, .load false 1 (.loc 15), none, []⟩,
  ⟨.loc 17, .mv (.var 1), none, []⟩,
  ⟨.var 18, .bin .int .neq (.loc 16) (.loc 17), none, []⟩] false
def c_L_heldNoteS_4 : ACode := .reg [⟨.var 4, .mv (.const (.d (.int .i64 (-1)))), none, []⟩] false
def c_L_heldNoteS_5 : ACode := .reg [⟨.loc 19, .mv (.var 1), none, []⟩,
  ⟨.loc 20, .bin .int .add (.loc 19) (.const (.d (.int .i64 1))), none, []⟩,
  ⟨.var 1, .mv (.loc 20), none, []⟩] false
def c_L_heldNoteS_6 : ACode := .reg [⟨.loc 21, .mv (.var 0), none, []⟩,
  ⟨.loc 22, .mv (.var 5), none, []⟩,
  ⟨.loc 23, .idxA 7 (.loc 21) (.loc 22), none, []⟩,
  ⟨.loc 24, .fld 1 (.loc 23), none, []⟩,
  ⟨.loc 25, .load false 1 (.loc 24), none, []⟩,
  ⟨.loc 26, .mv (.var 1), none, []⟩,
  ⟨.var 27, .bin .int .neq (.loc 25) (.loc 26), none, []⟩] false
def c_L_heldNoteS_7 : ACode := .reg [⟨.var 4, .mv (.const (.d (.int .i64 (-1)))), none, []⟩] false
def c_L_heldNoteS_8 : ACode := .reg [⟨.loc 28, .mv (.var 1), none, []⟩,
  ⟨.loc 29, .bin .int .add (.loc 28) (.const (.d (.int .i64 1))), none, []⟩,
  ⟨.var 1, .mv (.loc 29), none, []⟩] false
def c_L_heldNoteS_9 : ACode := .reg [⟨.loc 30, .mv (.var 0), none, []⟩,
  ⟨.loc 31, .mv (.var 5), none, []⟩,
  ⟨.loc 32, .idxA 7 (.loc 30) (.loc 31), none, []⟩,
  ⟨.loc 33, .fld 2 (.loc 32), none, []⟩,
  ⟨.loc 34, .load false 1 (.loc 33), none, []⟩,
  ⟨.loc 35, .mv (.var 1), none, []⟩,
  ⟨.var 36, .bin .int .neq (.loc 34) (.loc 35), none, []⟩] false
def c_L_heldNoteS_10 : ACode := .reg [⟨.var 4, .mv (.const (.d (.int .i64 (-1)))), none, []⟩] false
def c_L_heldNoteS_11 : ACode := .reg [⟨.loc 37, .mv (.var 1), none, []⟩,
  ⟨.loc 38, .bin .int .add (.loc 37) (.const (.d (.int .i64 1))), none, []⟩,
  ⟨.var 1, .mv (.loc 38), none, []⟩] false
def c_L_heldNoteS_12 : ACode := .reg [⟨.loc 39, .mv (.var 0), none, []⟩,
  ⟨.loc 40, .mv (.var 5), none, []⟩,
  ⟨.loc 41, .idxA 7 (.loc 39) (.loc 40), none, [0, 1]⟩,
  ⟨.loc 42, .fld 3 (.loc 41), none, [2, 0, 1]⟩,
  ⟨.loc 43, .load false 1 (.loc 42), none, [3, 2, 0, 1]⟩,
  ⟨.loc 44, .mv (.var 1), none, []⟩,
  ⟨.loc 45, .call (.fn 104) [(.loc 44)] [.borrow], none, [5]⟩,
  ⟨.var 46, .bin .str .neq (.loc 43) (.loc 45), none, [4, 3, 2, 0, 1, 6, 5]⟩] true
def c_L_heldNoteS_13 : ACode := .reg [⟨.var 4, .mv (.const (.d (.int .i64 (-1)))), none, []⟩] false
def c_L_heldNoteS_14 : ACode := .reg [⟨.loc 47, .mv (.var 1), none, []⟩,
  ⟨.loc 48, .bin .int .add (.loc 47) (.const (.d (.int .i64 1))), none, []⟩,
  ⟨.var 1, .mv (.loc 48), none, []⟩] false
def c_L_heldNoteS_15 : ACode := .reg [⟨.loc 49, .mv (.var 0), none, []⟩,
  ⟨.loc 50, .mv (.var 5), none, []⟩,
  ⟨.loc 51, .idxA 7 (.loc 49) (.loc 50), none, [0, 1]⟩,
  ⟨.loc 52, .fld 4 (.loc 51), none, [2, 0, 1]⟩,
  ⟨.loc 53, .load false 1 (.loc 52), none, [3, 2, 0, 1]⟩,
  ⟨.loc 54, .mv (.var 1), none, []⟩,
  ⟨.loc 55, .call (.fn 104) [(.loc 54)] [.borrow], none, [5]⟩,
  ⟨.var 56, .bin .str .neq (.loc 53) (.loc 55), none, [4, 3, 2, 0, 1, 6, 5]⟩] true
def c_L_heldNoteS_16 : ACode := .reg [⟨.var 4, .mv (.const (.d (.int .i64 (-1)))), none, []⟩] false
def c_L_heldNoteS_17 : ACode := .reg [⟨.loc 57, .mv (.var 1), none, []⟩,
  ⟨.loc 58, .bin .int .add (.loc 57) (.const (.d (.int .i64 1))), none, []⟩,
  ⟨.var 1, .mv (.loc 58), none, []⟩] false
def c_L_heldNoteS_18 : ACode := .reg [⟨.loc 59, .mv (.var 0), none, []⟩,
  ⟨.loc 60, .mv (.var 5), none, []⟩,
  ⟨.loc 61, .idxA 7 (.loc 59) (.loc 60), none, []⟩,
  ⟨.loc 62, .fld 5 (.loc 61), none, []⟩,
  ⟨.loc 63, .load false 1 (.loc 62), none, []⟩,
  ⟨.loc 64, .mv (.var 1), none, []⟩,
  ⟨.var 65, .bin .int .neq (.loc 63) (.loc 64), none, []⟩] false
def c_L_heldNoteS_19 : ACode := .reg [⟨.var 4, .mv (.const (.d (.int .i64 (-1)))), none, []⟩] false
def c_L_heldNoteS_20 : ACode := .reg [⟨.loc 66, .mv (.var 1), none, []⟩,
  ⟨.loc 67, .bin .int .add (.loc 66) (.const (.d (.int .i64 1))), none, []⟩,
  ⟨.var 1, .mv (.loc 67), none, []⟩] false
def c_L_heldNoteS_21 : ACode := .reg [⟨.loc 68, .mv (.var 0), none, []⟩,
  ⟨.loc 69, .mv (.var 5), none, []⟩,
  ⟨.loc 70, .idxA 7 (.loc 68) (.loc 69), none, []⟩,
  ⟨.loc 71, .fld 6 (.loc 70), none, []⟩,
  ⟨.loc 72, .load false 1 (.loc 71), none, []⟩,
  ⟨.loc 73, .mv (.var 1), none, []⟩,
  ⟨.var 74, .bin .int .neq (.loc 72) (.loc 73), none, []⟩] false
def c_L_heldNoteS_22 : ACode := .reg [⟨.var 4, .mv (.const (.d (.int .i64 (-1)))), none, []⟩] false
def c_L_heldNoteS_23 : ACode := .reg [⟨.loc 75, .mv (.var 1), none, []⟩,
  ⟨.loc 76, .bin .int .add (.loc 75) (.const (.d (.int .i64 1))), none, []⟩,
  ⟨.var 1, .mv (.loc 76), none, []⟩] false
def c_L_heldNoteS_24 : ACode := .reg [⟨.loc 10, .mv (.var 5), none, []⟩,
  ⟨.loc 11, .bin .int .add (.loc 10) (.const (.d (.int .i64 1))), none, []⟩,
  ⟨.var 5, .mv (.loc 11), none, []⟩] false
def c_L_heldNoteS_25 : ACode := (.seq (.seq c_L_heldNoteS_2 (.cond (.var 9) .skip (.exit 0))) (.seq (.block 1 (.seq (.seq c_L_heldNoteS_3 (.cond (.var 18) (.seq c_L_heldNoteS_4 .ret) .skip)) (.seq c_L_heldNoteS_5 (.seq (.seq c_L_heldNoteS_6 (.cond (.var 27) (.seq c_L_heldNoteS_7 .ret) .skip)) (.seq c_L_heldNoteS_8 (.seq (.seq c_L_heldNoteS_9 (.cond (.var 36) (.seq c_L_heldNoteS_10 .ret) .skip)) (.seq c_L_heldNoteS_11 (.seq (.seq c_L_heldNoteS_12 (.cond (.var 46) (.seq c_L_heldNoteS_13 .ret) .skip)) (.seq c_L_heldNoteS_14 (.seq (.seq c_L_heldNoteS_15 (.cond (.var 56) (.seq c_L_heldNoteS_16 .ret) .skip)) (.seq c_L_heldNoteS_17 (.seq (.seq c_L_heldNoteS_18 (.cond (.var 65) (.seq c_L_heldNoteS_19 .ret) .skip)) (.seq c_L_heldNoteS_20 (.seq (.seq c_L_heldNoteS_21 (.cond (.var 74) (.seq c_L_heldNoteS_22 .ret) .skip)) c_L_heldNoteS_23)))))))))))))) c_L_heldNoteS_24))
def c_L_heldNoteS_26 : ACode := .reg [⟨.loc 77, .mv (.var 1), none, []⟩,
  ⟨.var 4, .mv (.loc 77), none, []⟩] false
def c_L_heldNoteS : ACode := (.seq c_L_heldNoteS_0 (.seq (.seq c_L_heldNoteS_1 (.block 0 (.loop [0, 1, 5] c_L_heldNoteS_25))) (.seq c_L_heldNoteS_26 .ret)))
abbrev F_L_heldNoteS : FuncId := 61
theorem k_L_heldNoteS : comp PP (Tryd.f61.ntmps, pinOf 0 [none, none]) [0, 1, 4, 5, 9, 18, 27, 36, 46, 56, 65, 74] (Tryd.f61.body.getD .skip) = some c_L_heldNoteS.erase := by kernel_rfl
theorem v_L_heldNoteS {GG : GV} (rcs : List C) {cs : List C} {r : C} {os : List (Option C)} (hN : (cs.length == 2 && rcs.length == 1) = true) (hret : retOf rcs = r)
    (hW : W PP [0, 1, 4, 5, 9, 18, 27, 36, 46, 56, 65, 74] (Tryd.f61.ntmps, pinOf 0 [none, none]) (Valid PP GG) c_L_heldNoteS (entry cs) (Fin (Valid PP GG) [(.give, 4, none)] [none, none] rcs os) (fun _ _ => False) (Fin (Valid PP GG) [(.give, 4, none)] [none, none] rcs os)) : Valid PP GG F_L_heldNoteS cs r os :=
  fn_valid_n 2 1 [0, 1, 4, 5, 9, 18, 27, 36, 46, 56, 65, 74] c_L_heldNoteS [(.give, 4, none)] [none, none] rcs Tryd.func61 rfl rfl (by kernel_rfl) k_L_heldNoteS rfl rfl hN hret hW
def c_S_l01In_0 : ACode := .reg [⟨.var 6, .mv (.const (.d (.bool false))), none, []⟩] false
def c_S_l01In_1 : ACode := .reg [⟨.loc 7, .mv (.var 1), none, []⟩,
  ⟨.loc 8, .mv (.var 0), none, []⟩,
  ⟨.loc 9, .bin .int .leq (.loc 7) (.loc 8), none, []⟩,
  ⟨.loc 10, .split (.loc 9), none, []⟩,
  ⟨.loc 11, .mv (.var 0), some ((.loc 10), true), []⟩,
  ⟨.loc 12, .mv (.var 2), some ((.loc 10), true), []⟩,
  ⟨.loc 13, .bin .int .leq (.loc 11) (.loc 12), some ((.loc 10), true), []⟩,
  ⟨.loc 14, .pick (.loc 10) (.loc 13) (.const (.d (.bool false))), none, []⟩,
  ⟨.var 6, .mv (.loc 14), none, []⟩] false
def c_S_l01In : ACode := (.seq c_S_l01In_0 (.seq c_S_l01In_1 .ret))
abbrev F_S_l01In : FuncId := 64
theorem k_S_l01In : comp PP (Tryd.f64.ntmps, pinOf 0 [none, none, none]) [0, 1, 2, 6] (Tryd.f64.body.getD .skip) = some c_S_l01In.erase := by kernel_rfl
theorem v_S_l01In {GG : GV} (rcs : List C) {cs : List C} {r : C} {os : List (Option C)} (hN : (cs.length == 3 && rcs.length == 1) = true) (hret : retOf rcs = r)
    (hW : W PP [0, 1, 2, 6] (Tryd.f64.ntmps, pinOf 0 [none, none, none]) (Valid PP GG) c_S_l01In (entry cs) (Fin (Valid PP GG) [(.give, 6, none)] [none, none, none] rcs os) (fun _ _ => False) (Fin (Valid PP GG) [(.give, 6, none)] [none, none, none] rcs os)) : Valid PP GG F_S_l01In cs r os :=
  fn_valid_n 3 1 [0, 1, 2, 6] c_S_l01In [(.give, 6, none)] [none, none, none] rcs Tryd.func64 rfl rfl (by kernel_rfl) k_S_l01In rfl rfl hN hret hW
def c_I_within_0 : ACode := .reg [⟨.var 6, .mv (.const (.d (.bool false))), none, []⟩] false
def c_I_within_1 : ACode := .reg [⟨.loc 7, .mv (.var 0), none, []⟩,
  ⟨.loc 8, .mv (.var 1), none, []⟩,
  ⟨.loc 9, .bin .int .geq (.loc 7) (.loc 8), none, []⟩,
  ⟨.loc 10, .split (.loc 9), none, []⟩,
  ⟨.loc 11, .mv (.var 0), some ((.loc 10), true), []⟩,
  ⟨.loc 12, .mv (.var 2), some ((.loc 10), true), []⟩,
  ⟨.loc 13, .bin .int .leq (.loc 11) (.loc 12), some ((.loc 10), true), []⟩,
  ⟨.loc 14, .pick (.loc 10) (.loc 13) (.const (.d (.bool false))), none, []⟩,
  ⟨.var 6, .mv (.loc 14), none, []⟩] false
def c_I_within : ACode := (.seq c_I_within_0 (.seq c_I_within_1 .ret))
abbrev F_I_within : FuncId := 71
theorem k_I_within : comp PP (Tryd.f71.ntmps, pinOf 0 [none, none, none]) [0, 1, 2, 6] (Tryd.f71.body.getD .skip) = some c_I_within.erase := by kernel_rfl
theorem v_I_within {GG : GV} (rcs : List C) {cs : List C} {r : C} {os : List (Option C)} (hN : (cs.length == 3 && rcs.length == 1) = true) (hret : retOf rcs = r)
    (hW : W PP [0, 1, 2, 6] (Tryd.f71.ntmps, pinOf 0 [none, none, none]) (Valid PP GG) c_I_within (entry cs) (Fin (Valid PP GG) [(.give, 6, none)] [none, none, none] rcs os) (fun _ _ => False) (Fin (Valid PP GG) [(.give, 6, none)] [none, none, none] rcs os)) : Valid PP GG F_I_within cs r os :=
  fn_valid_n 3 1 [0, 1, 2, 6] c_I_within [(.give, 6, none)] [none, none, none] rcs Tryd.func71 rfl rfl (by kernel_rfl) k_I_within rfl rfl hN hret hW
def c_S_l01Parts_0 : ACode := .reg [⟨.var 4, .mv (.const (.nil 0 1)), none, []⟩] false
def c_S_l01Parts_1 : ACode := .reg [⟨.loc 8, .lit 0 1 0 [.str []] [], none, []⟩,
  ⟨.var 5, .mv (.loc 8), none, []⟩] false
def c_S_l01Parts_2 : ACode := .reg [⟨.var 6, .mv (.const (.d (.int .i64 0))), none, []⟩] false
def c_S_l01Parts_3 : ACode := .reg [⟨.var 7, .mv (.const (.d (.int .i64 0))), none, []⟩] false
def c_S_l01Parts_4 : ACode := .reg [⟨.loc 9, .mv (.var 7), none, []⟩,
  ⟨.loc 10, .mv (.var 0), none, []⟩,
  ⟨.loc 11, .len true (.loc 10), none, []⟩,
  ⟨.var 12, .bin .int .leq (.loc 9) (.loc 11), none, []⟩] false
def c_S_l01Parts_5 : ACode := .reg [⟨.loc 15, .mv (.var 7), none, []⟩,
  ⟨.loc 16, .mv (.var 0), none, []⟩,
  ⟨.loc 17, .len true (.loc 16), none, []⟩,
  ⟨.loc 18, .bin .int .eql (.loc 15) (.loc 17), none, []⟩,
  ⟨.loc 19, .split (.loc 18), none, []⟩,
  ⟨.loc 20, .mv (.var 0), some ((.loc 19), false), []⟩,
  ⟨.loc 21, .mv (.var 7), some ((.loc 19), false), []⟩,
  ⟨.loc 22, .idxS (.loc 20) (.loc 21), some ((.loc 19), false), []⟩,
  ⟨.loc 23, .mv (.var 1), some ((.loc 19), false), []⟩,
  ⟨.loc 24, .bin .int .eql (.loc 22) (.loc 23), some ((.loc 19), false), []⟩,
  ⟨.var 25, .pick (.loc 19) (.const (.d (.bool true))) (.loc 24), none, []⟩] false
def c_S_l01Parts_6 : ACode := .reg [⟨.loc 26, .mv (.var 5), none, []⟩,
  ⟨.loc 27, .mv (.var 0), none, []⟩,
  ⟨.loc 28, .mv (.var 6), none, []⟩,
  ⟨.loc 29, .mv (.var 7), none, []⟩,
  ⟨.loc 30, .sliceS (.loc 27) (some (.loc 28)) (some (.loc 29)), none, []⟩,
  ⟨.loc 31, .lit 0 1 1 [.str []] [(0, (.loc 30))], none, []⟩,
  ⟨.loc 32, .app 1 16 (.loc 26) (.loc 31), none, []⟩,
  ⟨.var 5, .mv (.loc 32), none, []⟩] false
def c_S_l01Parts_7 : ACode := .reg [⟨.loc 33, .mv (.var 7), none, []⟩,
  ⟨.loc 34, .bin .int .add (.loc 33) (.const (.d (.int .i64 1))), none, []⟩,
  ⟨.var 6, .mv (.loc 34), none, []⟩] false
def c_S_l01Parts_8 : ACode := .reg [⟨.loc 13, .mv (.var 7), none, []⟩,
  ⟨.loc 14, .bin .int .add (.loc 13) (.const (.d (.int .i64 1))), none, []⟩,
  ⟨.var 7, .mv (.loc 14), none, []⟩] false
def c_S_l01Parts_9 : ACode := (.seq (.seq c_S_l01Parts_4 (.cond (.var 12) .skip (.exit 0))) (.seq (.block 1 (.seq c_S_l01Parts_5 (.cond (.var 25) (.seq c_S_l01Parts_6 c_S_l01Parts_7) .skip))) c_S_l01Parts_8))
def c_S_l01Parts_10 : ACode := .reg [⟨.loc 35, .mv (.var 5), none, []⟩,
  ⟨.var 4, .mv (.loc 35), none, []⟩] false
def c_S_l01Parts : ACode := (.seq c_S_l01Parts_0 (.seq c_S_l01Parts_1 (.seq c_S_l01Parts_2 (.seq (.seq c_S_l01Parts_3 (.block 0 (.loop [0, 1, 5, 6, 7] c_S_l01Parts_9))) (.seq c_S_l01Parts_10 .ret)))))
abbrev F_S_l01Parts : FuncId := 81
theorem k_S_l01Parts : comp PP (Tryd.f81.ntmps, pinOf 0 [none, none]) [0, 1, 4, 5, 6, 7, 12, 25] (Tryd.f81.body.getD .skip) = some c_S_l01Parts.erase := by kernel_rfl
theorem v_S_l01Parts {GG : GV} (rcs : List C) {cs : List C} {r : C} {os : List (Option C)} (hN : (cs.length == 2 && rcs.length == 1) = true) (hret : retOf rcs = r)
    (hW : W PP [0, 1, 4, 5, 6, 7, 12, 25] (Tryd.f81.ntmps, pinOf 0 [none, none]) (Valid PP GG) c_S_l01Parts (entry cs) (Fin (Valid PP GG) [(.give, 4, none)] [none, none] rcs os) (fun _ _ => False) (Fin (Valid PP GG) [(.give, 4, none)] [none, none] rcs os)) : Valid PP GG F_S_l01Parts cs r os :=
  fn_valid_n 2 1 [0, 1, 4, 5, 6, 7, 12, 25] c_S_l01Parts [(.give, 4, none)] [none, none] rcs Tryd.func81 rfl rfl (by kernel_rfl) k_S_l01Parts rfl rfl hN hret hW
def c_S_l01Num_0 : ACode := .reg [⟨.var 2, .mv (.const (.d (.str []))), none, []⟩] false
def c_S_l01Num_1 : ACode := .reg [⟨.loc 6, .mv (.var 0), none, []⟩,
  ⟨.var 7, .bin .int .eql (.loc 6) (.const (.d (.int .i64 0))), none, []⟩] false
def c_S_l01Num_2 : ACode := .reg [⟨.var 2, .mv (.const (.d (.str [48]))), none, []⟩] false
def c_S_l01Num_3 : ACode := .reg [⟨.var 3, .mv (.const (.d (.str []))), none, []⟩] false
def c_S_l01Num_4 : ACode := .reg [⟨.loc 8, .mv (.var 0), none, []⟩,
  ⟨.loc 9, .bin .int .lss (.loc 8) (.const (.d (.int .i64 0))), none, []⟩,
  ⟨.var 4, .mv (.loc 9), none, []⟩] false
def c_S_l01Num_5 : ACode := .reg [⟨.loc 10, .mv (.var 0), none, []⟩,
  ⟨.var 11, .bin .int .neq (.loc 10) (.const (.d (.int .i64 0))), none, []⟩] false
def c_S_l01Num_6 : ACode := .reg [⟨.loc 12, .mv (.var 0), none, []⟩,
  ⟨.loc 13, .bin .int .rem (.loc 12) (.const (.d (.int .i64 10))), none, []⟩,
  ⟨.var 5, .mv (.loc 13), none, []⟩] false
def c_S_l01Num_7 : ACode := .reg [⟨.loc 14, .mv (.var 5), none, []⟩,
  ⟨.var 15, .bin .int .lss (.loc 14) (.const (.d (.int .i64 0))), none, []⟩] false
def c_S_l01Num_8 : ACode := .reg [⟨.loc 16, .mv (.var 5), none, []⟩,
  ⟨.loc 17, .un .neg (.loc 16), none, []⟩,
  ⟨.var 5, .mv (.loc 17), none, []⟩] false
def c_S_l01Num_9 : ACode := .reg [⟨.loc 18, .mv (.var 5), none, []⟩,
  ⟨.loc 19, .bin .int .add (.const (.d (.int .i64 48))) (.loc 18), none, []⟩,
  ⟨.loc 20, .conv .u8 (.loc 19), none, []⟩,
  ⟨.loc 21, .lit 0 1 1 [.int .u8 0] [(0, (.loc 20))], none, []⟩,
  ⟨.loc 22, .b2s (.loc 21), none, []⟩,
  ⟨.loc 23, .mv (.var 3), none, []⟩,
  ⟨.loc 24, .bin .str .add (.loc 22) (.loc 23), none, []⟩,
  ⟨.var 3, .mv (.loc 24), none, []⟩] false
def c_S_l01Num_10 : ACode := .reg [⟨.loc 25, .mv (.var 0), none, []⟩,
  ⟨.loc 26, .bin .int .quo (.loc 25) (.const (.d (.int .i64 10))), none, []⟩,
  ⟨.var 0, .mv (.loc 26), none, []⟩] false
def c_S_l01Num_11 : ACode := (.seq (.seq c_S_l01Num_5 (.cond (.var 11) .skip (.exit 0))) (.block 1 (.seq c_S_l01Num_6 (.seq (.seq c_S_l01Num_7 (.cond (.var 15) c_S_l01Num_8 .skip)) (.seq c_S_l01Num_9 c_S_l01Num_10)))))
def c_S_l01Num_12 : ACode := .reg [⟨.var 27, .mv (.var 4), none, []⟩] false
def c_S_l01Num_13 : ACode := .reg [⟨.loc 28, .mv (.var 3), none, []⟩,
  ⟨.loc 29, .bin .str .add (.const (.d (.str [45]))) (.loc 28), none, []⟩,
  ⟨.var 2, .mv (.loc 29), none, []⟩] false
def c_S_l01Num_14 : ACode := .reg [⟨.loc 30, .mv (.var 3), none, []⟩,
  ⟨.var 2, .mv (.loc 30), none, []⟩] false
def c_S_l01Num : ACode := (.seq c_S_l01Num_0 (.seq (.seq c_S_l01Num_1 (.cond (.var 7) (.seq c_S_l01Num_2 .ret) .skip)) (.seq c_S_l01Num_3 (.seq c_S_l01Num_4 (.seq (.block 0 (.loop [0, 3, 4] c_S_l01Num_11)) (.seq (.seq c_S_l01Num_12 (.cond (.var 27) (.seq c_S_l01Num_13 .ret) .skip)) (.seq c_S_l01Num_14 .ret)))))))
abbrev F_S_l01Num : FuncId := 88
theorem k_S_l01Num : comp PP (Tryd.f88.ntmps, pinOf 0 [none]) [0, 2, 3, 4, 5, 7, 11, 15, 27] (Tryd.f88.body.getD .skip) = some c_S_l01Num.erase := by kernel_rfl
theorem v_S_l01Num {GG : GV} (rcs : List C) {cs : List C} {r : C} {os : List (Option C)} (hN : (cs.length == 1 && rcs.length == 1) = true) (hret : retOf rcs = r)
    (hW : W PP [0, 2, 3, 4, 5, 7, 11, 15, 27] (Tryd.f88.ntmps, pinOf 0 [none]) (Valid PP GG) c_S_l01Num (entry cs) (Fin (Valid PP GG) [(.give, 2, none)] [none] rcs os) (fun _ _ => False) (Fin (Valid PP GG) [(.give, 2, none)] [none] rcs os)) : Valid PP GG F_S_l01Num cs r os :=
  fn_valid_n 1 1 [0, 2, 3, 4, 5, 7, 11, 15, 27] c_S_l01Num [(.give, 2, none)] [none] rcs Tryd.func88 rfl rfl (by kernel_rfl) k_S_l01Num rfl rfl hN hret hW
def c_S_l04Key_0 : ACode := .reg [⟨.var 2, .mv (.const (.d (.bool false))), none, []⟩] false
def c_S_l04Key_1 : ACode := .reg [⟨.loc 3, .mv (.var 0), none, []⟩,
  ⟨.loc 4, .call (.fn 64) [(.loc 3), (.const (.d (.int .i64 0))), (.const (.d (.int .i64 1099511627776)))] [.borrow, .borrow, .borrow], none, []⟩,
  ⟨.var 2, .mv (.loc 4), none, []⟩] false
def c_S_l04Key : ACode := (.seq c_S_l04Key_0 (.seq c_S_l04Key_1 .ret))
abbrev F_S_l04Key : FuncId := 95
theorem k_S_l04Key : comp PP (Tryd.f95.ntmps, pinOf 0 [none]) [0, 2] (Tryd.f95.body.getD .skip) = some c_S_l04Key.erase := by kernel_rfl
theorem v_S_l04Key {GG : GV} (rcs : List C) {cs : List C} {r : C} {os : List (Option C)} (hN : (cs.length == 1 && rcs.length == 1) = true) (hret : retOf rcs = r)
    (hW : W PP [0, 2] (Tryd.f95.ntmps, pinOf 0 [none]) (Valid PP GG) c_S_l04Key (entry cs) (Fin (Valid PP GG) [(.give, 2, none)] [none] rcs os) (fun _ _ => False) (Fin (Valid PP GG) [(.give, 2, none)] [none] rcs os)) : Valid PP GG F_S_l04Key cs r os :=
  fn_valid_n 1 1 [0, 2] c_S_l04Key [(.give, 2, none)] [none] rcs Tryd.func95 rfl rfl (by kernel_rfl) k_S_l04Key rfl rfl hN hret hW
def c_S_l01Name_0 : ACode := .reg [⟨.var 2, .mv (.const (.d (.bool false))), none, []⟩] false
def c_S_l01Name_1 : ACode := .reg [⟨.var 3, .mv (.const (.d (.int .i64 0))), none, []⟩] false
def c_S_l01Name_2 : ACode := .reg [⟨.loc 5, .mv (.var 3), none, []⟩,
  ⟨.loc 6, .mv (.var 0), none, []⟩,
  ⟨.loc 7, .len true (.loc 6), none, []⟩,
  ⟨.var 8, .bin .int .lss (.loc 5) (.loc 7), none, []⟩] false
def c_S_l01Name_3 : ACode := .reg [⟨.loc 11, .mv (.var 0), none, []⟩,
  ⟨.loc 12, .mv (.var 3), none, []⟩,
  ⟨.loc 13, .idxS (.loc 11) (.loc 12), none, []⟩,
  ⟨.var 4, .mv (.loc 13), none, []⟩] false
def c_S_l01Name_4 : ACode := .reg [⟨.loc 14, .mv (.var 4), none, []⟩,
  ⟨.loc 15, .bin .int .geq (.loc 14) (.const (.d (.int .u8 97))), none, []⟩,
  ⟨.loc 16, .split (.loc 15), none, []⟩,
  ⟨.loc 17, .mv (.var 4), some ((.loc 16), true), []⟩,
  ⟨.loc 18, .bin .int .leq (.loc 17) (.const (.d (.int .u8 122))), some ((.loc 16), true), []⟩,
  ⟨.loc 19, .pick (.loc 16) (.loc 18) (.const (.d (.bool false))), none, []⟩,
  ⟨.loc 20, .un .not (.loc 19), none, []⟩,
  ⟨.loc 21, .split (.loc 20), none, []⟩,
  ⟨.loc 22, .mv (.var 4), some ((.loc 21), true), []⟩,
  ⟨.loc 23, .bin .int .geq (.loc 22) (.const (.d (.int .u8 48))), some ((.loc 21), true), []⟩,
  ⟨.loc 24, .split (.loc 23), some ((.loc 21), true), []⟩,
  ⟨.loc 25, .mv (.var 4), some ((.loc 24), true), []⟩,
  ⟨.loc 26, .bin .int .leq (.loc 25) (.const (.d (.int .u8 57))), some ((.loc 24), true), []⟩,
  ⟨.loc 27, .pick (.loc 24) (.loc 26) (.const (.d (.bool false))), some ((.loc 21), true), []⟩,
  ⟨.loc 28, .un .not (.loc 27), some ((.loc 21), true), []⟩,
  ⟨.var 29, .pick (.loc 21) (.loc 28) (.const (.d (.bool false))), none, []⟩] false
def c_S_l01Name_5 : ACode := .reg [⟨.var 2, .mv (.const (.d (.bool false))), none, []⟩] false
def c_S_l01Name_6 : ACode := .reg [⟨.loc 9, .mv (.var 3), none, []⟩,
  ⟨.loc 10, .bin .int .add (.loc 9) (.const (.d (.int .i64 1))), none, []⟩,
  ⟨.var 3, .mv (.loc 10), none, []⟩] false
def c_S_l01Name_7 : ACode := (.seq (.seq c_S_l01Name_2 (.cond (.var 8) .skip (.exit 0))) (.seq (.block 1 (.seq c_S_l01Name_3 (.seq c_S_l01Name_4 (.cond (.var 29) (.seq c_S_l01Name_5 .ret) .skip)))) c_S_l01Name_6))
def c_S_l01Name_8 : ACode := .reg [⟨.loc 30, .mv (.var 0), none, []⟩,
  ⟨.loc 31, .len true (.loc 30), none, []⟩,
  ⟨.loc 32, .call (.fn 64) [(.loc 31), (.const (.d (.int .i64 1))), (.const (.d (.int .i64 12)))] [.borrow, .borrow, .borrow], none, []⟩,
  ⟨.var 2, .mv (.loc 32), none, []⟩] false
def c_S_l01Name : ACode := (.seq c_S_l01Name_0 (.seq (.seq c_S_l01Name_1 (.block 0 (.loop [0, 3] c_S_l01Name_7))) (.seq c_S_l01Name_8 .ret)))
abbrev F_S_l01Name : FuncId := 96
theorem k_S_l01Name : comp PP (Tryd.f96.ntmps, pinOf 0 [none]) [0, 2, 3, 4, 8, 29] (Tryd.f96.body.getD .skip) = some c_S_l01Name.erase := by kernel_rfl
theorem v_S_l01Name {GG : GV} (rcs : List C) {cs : List C} {r : C} {os : List (Option C)} (hN : (cs.length == 1 && rcs.length == 1) = true) (hret : retOf rcs = r)
    (hW : W PP [0, 2, 3, 4, 8, 29] (Tryd.f96.ntmps, pinOf 0 [none]) (Valid PP GG) c_S_l01Name (entry cs) (Fin (Valid PP GG) [(.give, 2, none)] [none] rcs os) (fun _ _ => False) (Fin (Valid PP GG) [(.give, 2, none)] [none] rcs os)) : Valid PP GG F_S_l01Name cs r os :=
  fn_valid_n 1 1 [0, 2, 3, 4, 8, 29] c_S_l01Name [(.give, 2, none)] [none] rcs Tryd.func96 rfl rfl (by kernel_rfl) k_S_l01Name rfl rfl hN hret hW
def c_S_PathOk_0 : ACode := .reg [⟨.var 2, .mv (.const (.d (.bool false))), none, []⟩] false
def c_S_PathOk_1 : ACode := .reg [⟨.loc 4, .mv (.var 0), none, []⟩,
  ⟨.loc 5, .call (.fn 128) [(.loc 4)] [.borrow], none, []⟩,
  ⟨.var 6, .un .not (.loc 5), none, []⟩] false
def c_S_PathOk_2 : ACode := .reg [⟨.var 2, .mv (.const (.d (.bool false))), none, []⟩] false
def c_S_PathOk_3 : ACode := .reg [⟨.var 3, .mv (.const (.d (.int .i64 0))), none, []⟩] false
def c_S_PathOk_4 : ACode := .reg [⟨.loc 7, .mv (.var 3), none, []⟩,
  ⟨.loc 8, .mv (.var 0), none, []⟩,
  ⟨.loc 9, .len true (.loc 8), none, []⟩,
  ⟨.var 10, .bin .int .lss (.loc 7) (.loc 9), none, []⟩] false
def c_S_PathOk_5 : ACode := .reg [⟨.loc 13, .mv (.var 0), none, []⟩,
  ⟨.loc 14, .mv (.var 3), none, []⟩,
  ⟨.loc 15, .idxS (.loc 13) (.loc 14), none, []⟩,
  ⟨.loc 16, .bin .int .eql (.loc 15) (.const (.d (.int .u8 43))), none, []⟩,
  ⟨.loc 17, .split (.loc 16), none, []⟩,
  ⟨.loc 18, .mv (.var 0), some ((.loc 17), false), []⟩,
  ⟨.loc 19, .mv (.var 3), some ((.loc 17), false), []⟩,
  ⟨.loc 20, .idxS (.loc 18) (.loc 19), some ((.loc 17), false), []⟩,
  ⟨.loc 21, .bin .int .eql (.loc 20) (.const (.d (.int .u8 42))), some ((.loc 17), false), []⟩,
  ⟨.var 22, .pick (.loc 17) (.const (.d (.bool true))) (.loc 21), none, []⟩] false
def c_S_PathOk_6 : ACode := .reg [⟨.var 2, .mv (.const (.d (.bool false))), none, []⟩] false
def c_S_PathOk_7 : ACode := .reg [⟨.loc 11, .mv (.var 3), none, []⟩,
  ⟨.loc 12, .bin .int .add (.loc 11) (.const (.d (.int .i64 1))), none, []⟩,
  ⟨.var 3, .mv (.loc 12), none, []⟩] false
def c_S_PathOk_8 : ACode := (.seq (.seq c_S_PathOk_4 (.cond (.var 10) .skip (.exit 0))) (.seq (.block 1 (.seq c_S_PathOk_5 (.cond (.var 22) (.seq c_S_PathOk_6 .ret) .skip))) c_S_PathOk_7))
def c_S_PathOk_9 : ACode := .reg [⟨.var 2, .mv (.const (.d (.bool true))), none, []⟩] false
def c_S_PathOk : ACode := (.seq c_S_PathOk_0 (.seq (.seq c_S_PathOk_1 (.cond (.var 6) (.seq c_S_PathOk_2 .ret) .skip)) (.seq (.seq c_S_PathOk_3 (.block 0 (.loop [0, 3] c_S_PathOk_8))) (.seq c_S_PathOk_9 .ret))))
abbrev F_S_PathOk : FuncId := 97
theorem k_S_PathOk : comp PP (Tryd.f97.ntmps, pinOf 0 [none]) [0, 2, 3, 6, 10, 22] (Tryd.f97.body.getD .skip) = some c_S_PathOk.erase := by kernel_rfl
theorem v_S_PathOk {GG : GV} (rcs : List C) {cs : List C} {r : C} {os : List (Option C)} (hN : (cs.length == 1 && rcs.length == 1) = true) (hret : retOf rcs = r)
    (hW : W PP [0, 2, 3, 6, 10, 22] (Tryd.f97.ntmps, pinOf 0 [none]) (Valid PP GG) c_S_PathOk (entry cs) (Fin (Valid PP GG) [(.give, 2, none)] [none] rcs os) (fun _ _ => False) (Fin (Valid PP GG) [(.give, 2, none)] [none] rcs os)) : Valid PP GG F_S_PathOk cs r os :=
  fn_valid_n 1 1 [0, 2, 3, 6, 10, 22] c_S_PathOk [(.give, 2, none)] [none] rcs Tryd.func97 rfl rfl (by kernel_rfl) k_S_PathOk rfl rfl hN hret hW
def c_S_Digest_0 : ACode := .reg [⟨.var 2, .mv (.const (.d (.int .i64 0))), none, []⟩] false
def c_S_Digest_1 : ACode := .reg [⟨.var 3, .mv (.const (.d (.int .i64 7))), none, []⟩] false
def c_S_Digest_2 : ACode := .reg [⟨.var 4, .mv (.const (.d (.int .i64 11))), none, []⟩] false
def c_S_Digest_3 : ACode := .reg [⟨.var 5, .mv (.const (.d (.int .i64 0))), none, []⟩] false
def c_S_Digest_4 : ACode := .reg [⟨.loc 6, .mv (.var 5), none, []⟩,
  ⟨.loc 7, .mv (.var 0), none, []⟩,
  ⟨.loc 8, .len false (.loc 7), none, []⟩,
  ⟨.var 9, .bin .int .lss (.loc 6) (.loc 8), none, []⟩] false
def c_S_Digest_5 : ACode := .reg [⟨.loc 12, .mv (.var 3), none, []⟩,
  ⟨.loc 13, .bin .int .mul (.const (.d (.int .i64 131))) (.loc 12), none, []⟩,
  ⟨.loc 14, .mv (.var 0), none, []⟩,
  ⟨.loc 15, .mv (.var 5), none, []⟩,
  ⟨.loc 16, .idxA 1 (.loc 14) (.loc 15), none, []⟩,
  ⟨.loc 17, .load false 1 (.loc 16), none, []⟩,
  ⟨.loc 18, .conv .i64 (.loc 17), none, []⟩,
  ⟨.loc 19, .bin .int .add (.loc 13) (.loc 18), none, []⟩,
  ⟨.loc 20, .bin .int .add (.loc 19) (.const (.d (.int .i64 1))), none, []⟩,
  ⟨.loc 21, .bin .int .rem (.loc 20) (.const (.d (.int .i64 2147483647))), none, []⟩,
  ⟨.var 3, .mv (.loc 21), none, []⟩] false
def c_S_Digest_6 : ACode := .reg [⟨.loc 22, .mv (.var 4), none, []⟩,
  ⟨.loc 23, .bin .int .mul (.const (.d (.int .i64 137))) (.loc 22), none, []⟩,
  ⟨.loc 24, .mv (.var 0), none, []⟩,
  ⟨.loc 25, .mv (.var 5), none, []⟩,
  ⟨.loc 26, .idxA 1 (.loc 24) (.loc 25), none, []⟩,
  ⟨.loc 27, .load false 1 (.loc 26), none, []⟩,
  ⟨.loc 28, .conv .i64 (.loc 27), none, []⟩,
  ⟨.loc 29, .bin .int .add (.loc 23) (.loc 28), none, []⟩,
  ⟨.loc 30, .bin .int .add (.loc 29) (.const (.d (.int .i64 3))), none, []⟩,
  ⟨.loc 31, .bin .int .rem (.loc 30) (.const (.d (.int .i64 2147483629))), none, []⟩,
  ⟨.var 4, .mv (.loc 31), none, []⟩] false
def c_S_Digest_7 : ACode := .reg [⟨.loc 10, .mv (.var 5), none, []⟩,
  ⟨.loc 11, .bin .int .add (.loc 10) (.const (.d (.int .i64 1))), none, []⟩,
  ⟨.var 5, .mv (.loc 11), none, []⟩] false
def c_S_Digest_8 : ACode := (.seq (.seq c_S_Digest_4 (.cond (.var 9) .skip (.exit 0))) (.seq (.block 1 (.seq c_S_Digest_5 c_S_Digest_6)) c_S_Digest_7))
def c_S_Digest_9 : ACode := .reg [⟨.loc 32, .mv (.var 3), none, []⟩,
  ⟨.loc 33, .bin .int .mul (.const (.d (.int .i64 2147483648))) (.loc 32), none, []⟩,
  ⟨.loc 34, .mv (.var 4), none, []⟩,
  ⟨.loc 35, .bin .int .add (.loc 33) (.loc 34), none, []⟩,
  ⟨.var 2, .mv (.loc 35), none, []⟩] false
def c_S_Digest : ACode := (.seq c_S_Digest_0 (.seq c_S_Digest_1 (.seq c_S_Digest_2 (.seq (.seq c_S_Digest_3 (.block 0 (.loop [0, 3, 4, 5] c_S_Digest_8))) (.seq c_S_Digest_9 .ret)))))
abbrev F_S_Digest : FuncId := 98
theorem k_S_Digest : comp PP (Tryd.f98.ntmps, pinOf 0 [none]) [0, 2, 3, 4, 5, 9] (Tryd.f98.body.getD .skip) = some c_S_Digest.erase := by kernel_rfl
theorem v_S_Digest {GG : GV} (rcs : List C) {cs : List C} {r : C} {os : List (Option C)} (hN : (cs.length == 1 && rcs.length == 1) = true) (hret : retOf rcs = r)
    (hW : W PP [0, 2, 3, 4, 5, 9] (Tryd.f98.ntmps, pinOf 0 [none]) (Valid PP GG) c_S_Digest (entry cs) (Fin (Valid PP GG) [(.give, 2, none)] [none] rcs os) (fun _ _ => False) (Fin (Valid PP GG) [(.give, 2, none)] [none] rcs os)) : Valid PP GG F_S_Digest cs r os :=
  fn_valid_n 1 1 [0, 2, 3, 4, 5, 9] c_S_Digest [(.give, 2, none)] [none] rcs Tryd.func98 rfl rfl (by kernel_rfl) k_S_Digest rfl rfl hN hret hW
def c_I_isNote_0 : ACode := .reg [⟨.var 1, .box (.var 0), none, []⟩,
  ⟨.var 2, .mv (.const (.d (.bool false))), none, []⟩] false
def c_I_isNote_1 : ACode := .reg [⟨.loc 3, .fld 0 (.var 1), none, []⟩,
  ⟨.loc 4, .load false 1 (.loc 3), none, []⟩,
  ⟨.loc 5, .call (.fn 71) [(.loc 4), (.const (.d (.int .i64 1))), (.const (.d (.int .i64 1000000000)))] [.borrow, .borrow, .borrow], none, []⟩,
  ⟨.loc 6, .split (.loc 5), none, []⟩,
  ⟨.loc 7, .fld 1 (.var 1), some ((.loc 6), true), []⟩,
  ⟨.loc 8, .load false 1 (.loc 7), some ((.loc 6), true), []⟩,
  ⟨.loc 9, .call (.fn 71) [(.loc 8), (.const (.d (.int .i64 0))), (.const (.d (.int .i64 1000000000)))] [.borrow, .borrow, .borrow], some ((.loc 6), true), []⟩,
  ⟨.loc 10, .pick (.loc 6) (.loc 9) (.const (.d (.bool false))), none, []⟩,
  ⟨.loc 11, .split (.loc 10), none, []⟩,
  ⟨.loc 12, .fld 2 (.var 1), some ((.loc 11), true), []⟩,
  ⟨.loc 13, .load false 1 (.loc 12), some ((.loc 11), true), []⟩,
  ⟨.loc 14, .call (.fn 71) [(.loc 13), (.const (.d (.int .i64 0))), (.const (.d (.int .i64 1000000000)))] [.borrow, .borrow, .borrow], some ((.loc 11), true), []⟩,
  ⟨.loc 15, .pick (.loc 11) (.loc 14) (.const (.d (.bool false))), none, []⟩,
  ⟨.loc 16, .split (.loc 15), none, []⟩,
  ⟨.loc 17, .fld 3 (.var 1), some ((.loc 16), true), []⟩,
  ⟨.loc 18, .load false 1 (.loc 17), some ((.loc 16), true), []⟩,
  ⟨.loc 19, .call (.fn 129) [(.loc 18)] [.borrow], some ((.loc 16), true), []⟩,
  ⟨.loc 20, .pick (.loc 16) (.loc 19) (.const (.d (.bool false))), none, []⟩,
  ⟨.loc 21, .split (.loc 20), none, []⟩,
  ⟨.loc 22, .fld 4 (.var 1), some ((.loc 21), true), []⟩,
  ⟨.loc 23, .load false 1 (.loc 22), some ((.loc 21), true), []⟩,
  ⟨.loc 24, .call (.fn 110) [(.loc 23)] [.borrow], some ((.loc 21), true), []⟩,
  ⟨.loc 25, .pick (.loc 21) (.loc 24) (.const (.d (.bool false))), none, []⟩,
  ⟨.loc 26, .split (.loc 25), none, []⟩,
  ⟨.loc 27, .fld 5 (.var 1), some ((.loc 26), true), []⟩,
  ⟨.loc 28, .load false 1 (.loc 27), some ((.loc 26), true), []⟩,
  ⟨.loc 29, .call (.fn 71) [(.loc 28), (.const (.d (.int .i64 0))), (.const (.d (.int .i64 99)))] [.borrow, .borrow, .borrow], some ((.loc 26), true), []⟩,
  ⟨.loc 30, .pick (.loc 26) (.loc 29) (.const (.d (.bool false))), none, []⟩,
  ⟨.var 2, .mv (.loc 30), none, []⟩] false
def c_I_isNote : ACode := (.seq c_I_isNote_0 (.seq c_I_isNote_1 .ret))
abbrev F_I_isNote : FuncId := 99
theorem k_I_isNote : comp PP (Tryd.f99.ntmps, pinOf 0 [none]) [0, 1, 2] (Tryd.f99.body.getD .skip) = some c_I_isNote.erase := by kernel_rfl
theorem v_I_isNote {GG : GV} (rcs : List C) {cs : List C} {r : C} {os : List (Option C)} (hN : (cs.length == 1 && rcs.length == 1) = true) (hret : retOf rcs = r)
    (hW : W PP [0, 1, 2] (Tryd.f99.ntmps, pinOf 0 [none]) (Valid PP GG) c_I_isNote (entry cs) (Fin (Valid PP GG) [(.give, 2, none)] [none] rcs os) (fun _ _ => False) (Fin (Valid PP GG) [(.give, 2, none)] [none] rcs os)) : Valid PP GG F_I_isNote cs r os :=
  fn_valid_n 1 1 [0, 1, 2] c_I_isNote [(.give, 2, none)] [none] rcs Tryd.func99 rfl rfl (by kernel_rfl) k_I_isNote rfl rfl hN hret hW
def c_I_isKey_0 : ACode := .reg [⟨.var 2, .mv (.const (.d (.bool false))), none, []⟩] false
def c_I_isKey_1 : ACode := .reg [⟨.loc 3, .mv (.var 0), none, []⟩,
  ⟨.loc 4, .call (.fn 71) [(.loc 3), (.const (.d (.int .i64 0))), (.const (.d (.int .i64 1099511627776)))] [.borrow, .borrow, .borrow], none, []⟩,
  ⟨.var 2, .mv (.loc 4), none, []⟩] false
def c_I_isKey : ACode := (.seq c_I_isKey_0 (.seq c_I_isKey_1 .ret))
abbrev F_I_isKey : FuncId := 100
theorem k_I_isKey : comp PP (Tryd.f100.ntmps, pinOf 0 [none]) [0, 2] (Tryd.f100.body.getD .skip) = some c_I_isKey.erase := by kernel_rfl
theorem v_I_isKey {GG : GV} (rcs : List C) {cs : List C} {r : C} {os : List (Option C)} (hN : (cs.length == 1 && rcs.length == 1) = true) (hret : retOf rcs = r)
    (hW : W PP [0, 2] (Tryd.f100.ntmps, pinOf 0 [none]) (Valid PP GG) c_I_isKey (entry cs) (Fin (Valid PP GG) [(.give, 2, none)] [none] rcs os) (fun _ _ => False) (Fin (Valid PP GG) [(.give, 2, none)] [none] rcs os)) : Valid PP GG F_I_isKey cs r os :=
  fn_valid_n 1 1 [0, 2] c_I_isKey [(.give, 2, none)] [none] rcs Tryd.func100 rfl rfl (by kernel_rfl) k_I_isKey rfl rfl hN hret hW
def c_I_sumOf_0 : ACode := .reg [⟨.var 3, .box (.var 1), none, []⟩,
  ⟨.var 4, .mv (.const (.d (.int .i64 0))), none, []⟩] false
def c_I_sumOf_1 : ACode := .reg [⟨.loc 6, .mv (.var 0), none, []⟩,
  ⟨.loc 7, .call (.fn 123) [(.loc 6)] [.borrow], none, [0]⟩,
  ⟨.loc 8, .fld 0 (.var 3), none, []⟩,
  ⟨.loc 9, .load false 1 (.loc 8), none, [2]⟩,
  ⟨.loc 10, .call (.fn 123) [(.loc 9)] [.borrow], none, [3, 2, 1, 0]⟩,
  ⟨.loc 11, .fld 1 (.var 3), none, []⟩,
  ⟨.loc 12, .load false 1 (.loc 11), none, [5]⟩,
  ⟨.loc 13, .call (.fn 123) [(.loc 12)] [.borrow], none, [6, 5, 4, 3, 2, 1, 0]⟩,
  ⟨.loc 14, .fld 2 (.var 3), none, []⟩,
  ⟨.loc 15, .load false 1 (.loc 14), none, [8]⟩,
  ⟨.loc 16, .call (.fn 123) [(.loc 15)] [.borrow], none, [9, 8, 7, 6, 5, 4, 3, 2, 1, 0]⟩,
  ⟨.loc 17, .fld 3 (.var 3), none, []⟩,
  ⟨.loc 18, .load false 1 (.loc 17), none, [11]⟩,
  ⟨.loc 19, .fld 4 (.var 3), none, []⟩,
  ⟨.loc 20, .load false 1 (.loc 19), none, [13]⟩,
  ⟨.loc 21, .fld 5 (.var 3), none, []⟩,
  ⟨.loc 22, .load false 1 (.loc 21), none, [15]⟩,
  ⟨.loc 23, .call (.fn 123) [(.loc 22)] [.borrow], none, [16, 15, 10, 9, 8, 7, 6, 5, 4, 3, 2, 1, 0]⟩,
  ⟨.loc 24, .lit 0 1 7 [.str []] [(0, (.loc 7)), (1, (.loc 10)), (2, (.loc 13)), (3, (.loc 16)), (4, (.loc 18)), (5, (.loc 20)), (6, (.loc 23))], none, [12, 11, 14, 13, 17, 16, 15, 10, 9, 8, 7, 6, 5, 4, 3, 2, 1, 0]⟩,
  ⟨.var 5, .mv (.loc 24), none, [18, 12, 11, 14, 13, 17, 16, 15, 10, 9, 8, 7, 6, 5, 4, 3, 2, 1, 0]⟩] true
def c_I_sumOf_2 : ACode := .reg [⟨.loc 25, .mv (.var 5), none, []⟩,
  ⟨.loc 26, .call (.fn 131) [(.loc 25), (.const (.d (.str [10])))] [.borrow, .borrow], none, []⟩,
  ⟨.loc 27, .s2b (.loc 26), none, []⟩,
  ⟨.loc 28, .call (.fn 130) [(.loc 27)] [.borrow], none, []⟩,
  ⟨.var 4, .mv (.loc 28), none, []⟩] false
def c_I_sumOf : ACode := (.seq c_I_sumOf_0 (.seq c_I_sumOf_1 (.seq c_I_sumOf_2 .ret)))
abbrev F_I_sumOf : FuncId := 101
theorem k_I_sumOf : comp PP (Tryd.f101.ntmps, pinOf 0 [none, none]) [0, 1, 3, 4, 5] (Tryd.f101.body.getD .skip) = some c_I_sumOf.erase := by kernel_rfl
theorem v_I_sumOf {GG : GV} (rcs : List C) {cs : List C} {r : C} {os : List (Option C)} (hN : (cs.length == 2 && rcs.length == 1) = true) (hret : retOf rcs = r)
    (hW : W PP [0, 1, 3, 4, 5] (Tryd.f101.ntmps, pinOf 0 [none, none]) (Valid PP GG) c_I_sumOf (entry cs) (Fin (Valid PP GG) [(.give, 4, none)] [none, none] rcs os) (fun _ _ => False) (Fin (Valid PP GG) [(.give, 4, none)] [none, none] rcs os)) : Valid PP GG F_I_sumOf cs r os :=
  fn_valid_n 2 1 [0, 1, 3, 4, 5] c_I_sumOf [(.give, 4, none)] [none, none] rcs Tryd.func101 rfl rfl (by kernel_rfl) k_I_sumOf rfl rfl hN hret hW
def c_L_eqNote_0 : ACode := .reg [⟨.var 2, .box (.var 0), none, []⟩,
  ⟨.var 3, .box (.var 1), none, []⟩,
  ⟨.var 4, .mv (.const (.d (.bool false))), none, []⟩] false
def c_L_eqNote_1 : ACode := .reg [⟨.loc 5, .fld 0 (.var 2), none, []⟩,
  ⟨.loc 6, .load false 1 (.loc 5), none, []⟩,
  ⟨.loc 7, .fld 0 (.var 3), none, []⟩,
  ⟨.loc 8, .load false 1 (.loc 7), none, []⟩,
  ⟨.var 9, .bin .int .neq (.loc 6) (.loc 8), none, []⟩] false
def c_L_eqNote_2 : ACode := .reg [⟨.var 4, .mv (.const (.d (.bool false))), none, []⟩] false
def c_L_eqNote_3 : ACode := .reg [⟨.loc 10, .fld 1 (.var 2), none, []⟩,
  ⟨.loc 11, .load false 1 (.loc 10), none, []⟩,
  ⟨.loc 12, .fld 1 (.var 3), none, []⟩,
  ⟨.loc 13, .load false 1 (.loc 12), none, []⟩,
  ⟨.var 14, .bin .int .neq (.loc 11) (.loc 13), none, []⟩] false
def c_L_eqNote_4 : ACode := .reg [⟨.var 4, .mv (.const (.d (.bool false))), none, []⟩] false
def c_L_eqNote_5 : ACode := .reg [⟨.loc 15, .fld 2 (.var 2), none, []⟩,
  ⟨.loc 16, .load false 1 (.loc 15), none, []⟩,
  ⟨.loc 17, .fld 2 (.var 3), none, []⟩,
  ⟨.loc 18, .load false 1 (.loc 17), none, []⟩,
  ⟨.var 19, .bin .int .neq (.loc 16) (.loc 18), none, []⟩] false
def c_L_eqNote_6 : ACode := .reg [⟨.var 4, .mv (.const (.d (.bool false))), none, []⟩] false
def c_L_eqNote_7 : ACode := .reg [⟨.loc 20, .fld 3 (.var 2), none, []⟩,
  ⟨.loc 21, .load false 1 (.loc 20), none, []⟩,
  ⟨.loc 22, .fld 3 (.var 3), none, []⟩,
  ⟨.loc 23, .load false 1 (.loc 22), none, []⟩,
  ⟨.var 24, .bin .str .neq (.loc 21) (.loc 23), none, []⟩] false
def c_L_eqNote_8 : ACode := .reg [⟨.var 4, .mv (.const (.d (.bool false))), none, []⟩] false
def c_L_eqNote_9 : ACode := .reg [⟨.loc 25, .fld 4 (.var 2), none, []⟩,
  ⟨.loc 26, .load false 1 (.loc 25), none, []⟩,
  ⟨.loc 27, .fld 4 (.var 3), none, []⟩,
  ⟨.loc 28, .load false 1 (.loc 27), none, []⟩,
  ⟨.var 29, .bin .str .neq (.loc 26) (.loc 28), none, []⟩] false
def c_L_eqNote_10 : ACode := .reg [⟨.var 4, .mv (.const (.d (.bool false))), none, []⟩] false
def c_L_eqNote_11 : ACode := .reg [⟨.loc 30, .fld 5 (.var 2), none, []⟩,
  ⟨.loc 31, .load false 1 (.loc 30), none, []⟩,
  ⟨.loc 32, .fld 5 (.var 3), none, []⟩,
  ⟨.loc 33, .load false 1 (.loc 32), none, []⟩,
  ⟨.var 34, .bin .int .neq (.loc 31) (.loc 33), none, []⟩] false
def c_L_eqNote_12 : ACode := .reg [⟨.var 4, .mv (.const (.d (.bool false))), none, []⟩] false
def c_L_eqNote_13 : ACode := .reg [⟨.loc 35, .fld 6 (.var 2), none, []⟩,
  ⟨.loc 36, .load false 1 (.loc 35), none, []⟩,
  ⟨.loc 37, .fld 6 (.var 3), none, []⟩,
  ⟨.loc 38, .load false 1 (.loc 37), none, []⟩,
  ⟨.var 39, .bin .int .neq (.loc 36) (.loc 38), none, []⟩] false
def c_L_eqNote_14 : ACode := .reg [⟨.var 4, .mv (.const (.d (.bool false))), none, []⟩] false
def c_L_eqNote_15 : ACode := .reg [⟨.var 4, .mv (.const (.d (.bool true))), none, []⟩] false
def c_L_eqNote : ACode := (.seq c_L_eqNote_0 (.seq (.seq c_L_eqNote_1 (.cond (.var 9) (.seq c_L_eqNote_2 .ret) .skip)) (.seq (.seq c_L_eqNote_3 (.cond (.var 14) (.seq c_L_eqNote_4 .ret) .skip)) (.seq (.seq c_L_eqNote_5 (.cond (.var 19) (.seq c_L_eqNote_6 .ret) .skip)) (.seq (.seq c_L_eqNote_7 (.cond (.var 24) (.seq c_L_eqNote_8 .ret) .skip)) (.seq (.seq c_L_eqNote_9 (.cond (.var 29) (.seq c_L_eqNote_10 .ret) .skip)) (.seq (.seq c_L_eqNote_11 (.cond (.var 34) (.seq c_L_eqNote_12 .ret) .skip)) (.seq (.seq c_L_eqNote_13 (.cond (.var 39) (.seq c_L_eqNote_14 .ret) .skip)) (.seq c_L_eqNote_15 .ret)))))))))
abbrev F_L_eqNote : FuncId := 102
theorem k_L_eqNote : comp PP (Tryd.f102.ntmps, pinOf 0 [none, none]) [0, 1, 2, 3, 4, 9, 14, 19, 24, 29, 34, 39] (Tryd.f102.body.getD .skip) = some c_L_eqNote.erase := by kernel_rfl
theorem v_L_eqNote {GG : GV} (rcs : List C) {cs : List C} {r : C} {os : List (Option C)} (hN : (cs.length == 2 && rcs.length == 1) = true) (hret : retOf rcs = r)
    (hW : W PP [0, 1, 2, 3, 4, 9, 14, 19, 24, 29, 34, 39] (Tryd.f102.ntmps, pinOf 0 [none, none]) (Valid PP GG) c_L_eqNote (entry cs) (Fin (Valid PP GG) [(.give, 4, none)] [none, none] rcs os) (fun _ _ => False) (Fin (Valid PP GG) [(.give, 4, none)] [none, none] rcs os)) : Valid PP GG F_L_eqNote cs r os :=
  fn_valid_n 2 1 [0, 1, 2, 3, 4, 9, 14, 19, 24, 29, 34, 39] c_L_eqNote [(.give, 4, none)] [none, none] rcs Tryd.func102 rfl rfl (by kernel_rfl) k_L_eqNote rfl rfl hN hret hW
def c_L_markText_0 : ACode := .reg [⟨.var 2, .mv (.const (.d (.str []))), none, []⟩] false
def c_L_markText_1 : ACode := .reg [⟨.loc 4, .mv (.var 0), none, []⟩,
  ⟨.var 5, .bin .int .leq (.loc 4) (.const (.d (.int .i64 0))), none, []⟩] false
def c_L_markText_2 : ACode := .reg [⟨.var 2, .mv (.const (.d (.str [109, 48]))), none, []⟩] false
def c_L_markText_3 : ACode := .reg [⟨.var 3, .mv (.const (.d (.str []))), none, []⟩] false
def c_L_markText_4 : ACode := .reg [⟨.loc 6, .mv (.var 0), none, []⟩,
  ⟨.var 7, .bin .int .gtr (.loc 6) (.const (.d (.int .i64 0))), none, []⟩] false
def c_L_markText_5 : ACode := .reg [⟨.loc 8, .mv (.var 0), none, []⟩,
  ⟨.loc 9, .bin .int .rem (.loc 8) (.const (.d (.int .i64 10))), none, []⟩,
  ⟨.loc 10, .bin .int .add (.const (.d (.int .i64 48))) (.loc 9), none, []⟩,
  ⟨.loc 11, .conv .u8 (.loc 10), none, []⟩,
  ⟨.loc 12, .lit 0 1 1 [.int .u8 0] [(0, (.loc 11))], none, []⟩,
  ⟨.loc 13, .b2s (.loc 12), none, []⟩,
  ⟨.loc 14, .mv (.var 3), none, []⟩,
  ⟨.loc 15, .bin .str .add (.loc 13) (.loc 14), none, []⟩,
  ⟨.var 3, .mv (.loc 15), none, []⟩] false
def c_L_markText_6 : ACode := .reg [⟨.loc 16, .mv (.var 0), none, []⟩,
  ⟨.loc 17, .bin .int .quo (.loc 16) (.const (.d (.int .i64 10))), none, []⟩,
  ⟨.var 0, .mv (.loc 17), none, []⟩] false
def c_L_markText_7 : ACode := (.seq (.seq c_L_markText_4 (.cond (.var 7) .skip (.exit 0))) (.block 1 (.seq c_L_markText_5 c_L_markText_6)))
def c_L_markText_8 : ACode := .reg [⟨.loc 18, .mv (.var 3), none, []⟩,
  ⟨.loc 19, .bin .str .add (.const (.d (.str [109]))) (.loc 18), none, []⟩,
  ⟨.var 2, .mv (.loc 19), none, []⟩] false
def c_L_markText : ACode := (.seq c_L_markText_0 (.seq (.seq c_L_markText_1 (.cond (.var 5) (.seq c_L_markText_2 .ret) .skip)) (.seq c_L_markText_3 (.seq (.block 0 (.loop [0, 3] c_L_markText_7)) (.seq c_L_markText_8 .ret)))))
abbrev F_L_markText : FuncId := 104
theorem k_L_markText : comp PP (Tryd.f104.ntmps, pinOf 0 [none]) [0, 2, 3, 5, 7] (Tryd.f104.body.getD .skip) = some c_L_markText.erase := by kernel_rfl
theorem v_L_markText {GG : GV} (rcs : List C) {cs : List C} {r : C} {os : List (Option C)} (hN : (cs.length == 1 && rcs.length == 1) = true) (hret : retOf rcs = r)
    (hW : W PP [0, 2, 3, 5, 7] (Tryd.f104.ntmps, pinOf 0 [none]) (Valid PP GG) c_L_markText (entry cs) (Fin (Valid PP GG) [(.give, 2, none)] [none] rcs os) (fun _ _ => False) (Fin (Valid PP GG) [(.give, 2, none)] [none] rcs os)) : Valid PP GG F_L_markText cs r os :=
  fn_valid_n 1 1 [0, 2, 3, 5, 7] c_L_markText [(.give, 2, none)] [none] rcs Tryd.func104 rfl rfl (by kernel_rfl) k_L_markText rfl rfl hN hret hW
def c_I_isPath_0 : ACode := .reg [⟨.var 2, .mv (.const (.d (.bool false))), none, []⟩] false
def c_I_isPath_1 : ACode := .reg [⟨.loc 3, .mv (.var 0), none, []⟩,
  ⟨.loc 4, .call (.fn 138) [(.loc 3)] [.borrow], none, []⟩,
  ⟨.loc 5, .split (.loc 4), none, []⟩,
  ⟨.loc 6, .mv (.var 0), some ((.loc 5), true), []⟩,
  ⟨.loc 7, .call (.fn 139) [(.loc 6), (.const (.d (.str [43, 42])))] [.borrow, .borrow], some ((.loc 5), true), []⟩,
  ⟨.loc 8, .un .not (.loc 7), some ((.loc 5), true), []⟩,
  ⟨.loc 9, .pick (.loc 5) (.loc 8) (.const (.d (.bool false))), none, []⟩,
  ⟨.var 2, .mv (.loc 9), none, []⟩] false
def c_I_isPath : ACode := (.seq c_I_isPath_0 (.seq c_I_isPath_1 .ret))
abbrev F_I_isPath : FuncId := 110
theorem k_I_isPath : comp PP (Tryd.f110.ntmps, pinOf 0 [none]) [0, 2] (Tryd.f110.body.getD .skip) = some c_I_isPath.erase := by kernel_rfl
theorem v_I_isPath {GG : GV} (rcs : List C) {cs : List C} {r : C} {os : List (Option C)} (hN : (cs.length == 1 && rcs.length == 1) = true) (hret : retOf rcs = r)
    (hW : W PP [0, 2] (Tryd.f110.ntmps, pinOf 0 [none]) (Valid PP GG) c_I_isPath (entry cs) (Fin (Valid PP GG) [(.give, 2, none)] [none] rcs os) (fun _ _ => False) (Fin (Valid PP GG) [(.give, 2, none)] [none] rcs os)) : Valid PP GG F_I_isPath cs r os :=
  fn_valid_n 1 1 [0, 2] c_I_isPath [(.give, 2, none)] [none] rcs Tryd.func110 rfl rfl (by kernel_rfl) k_I_isPath rfl rfl hN hret hW
def c_S_GlobOk_0 : ACode := .reg [⟨.var 2, .mv (.const (.d (.bool false))), none, []⟩] false
def c_S_GlobOk_1 : ACode := .reg [⟨.loc 5, .mv (.var 0), none, []⟩,
  ⟨.loc 6, .len true (.loc 5), none, []⟩,
  ⟨.var 7, .bin .int .gtr (.loc 6) (.const (.d (.int .i64 120))), none, []⟩] false
def c_S_GlobOk_2 : ACode := .reg [⟨.var 2, .mv (.const (.d (.bool false))), none, []⟩] false
def c_S_GlobOk_3 : ACode := .reg [⟨.loc 8, .mv (.var 0), none, []⟩,
  ⟨.loc 9, .call (.fn 81) [(.loc 8), (.const (.d (.int .u8 47)))] [.borrow, .borrow], none, []⟩,
  ⟨.var 3, .mv (.loc 9), none, []⟩] false
def c_S_GlobOk_4 : ACode := .reg [⟨.var 4, .mv (.const (.d (.int .i64 0))), none, []⟩] false
def c_S_GlobOk_5 : ACode := .reg [⟨.loc 10, .mv (.var 4), none, []⟩,
  ⟨.loc 11, .mv (.var 3), none, []⟩,
  ⟨.loc 12, .len false (.loc 11), none, []⟩,
  ⟨.var 13, .bin .int .lss (.loc 10) (.loc 12), none, []⟩] false
def c_S_GlobOk_6 : ACode := .reg [⟨.loc 16, .mv (.var 3), none, []⟩,
  ⟨.loc 17, .mv (.var 4), none, []⟩,
  ⟨.loc 18, .idxA 1 (.loc 16) (.loc 17), none, []⟩,
  ⟨.loc 19, .load false 1 (.loc 18), none, []⟩,
  ⟨.loc 20, .call (.fn 151) [(.loc 19)] [.borrow], none, []⟩,
  ⟨.loc 21, .un .not (.loc 20), none, []⟩,
  ⟨.loc 22, .split (.loc 21), none, []⟩,
  ⟨.loc 23, .mv (.var 3), some ((.loc 22), true), []⟩,
  ⟨.loc 24, .mv (.var 4), some ((.loc 22), true), []⟩,
  ⟨.loc 25, .idxA 1 (.loc 23) (.loc 24), some ((.loc 22), true), []⟩,
  ⟨.loc 26, .load false 1 (.loc 25), some ((.loc 22), true), []⟩,
  ⟨.loc 27, .bin .str .neq (.loc 26) (.const (.d (.str [43]))), some ((.loc 22), true), []⟩,
  ⟨.loc 28, .pick (.loc 22) (.loc 27) (.const (.d (.bool false))), none, []⟩,
  ⟨.loc 29, .split (.loc 28), none, []⟩,
  ⟨.loc 30, .mv (.var 3), some ((.loc 29), true), []⟩,
  ⟨.loc 31, .mv (.var 4), some ((.loc 29), true), []⟩,
  ⟨.loc 32, .idxA 1 (.loc 30) (.loc 31), some ((.loc 29), true), []⟩,
  ⟨.loc 33, .load false 1 (.loc 32), some ((.loc 29), true), []⟩,
  ⟨.loc 34, .bin .str .eql (.loc 33) (.const (.d (.str [42]))), some ((.loc 29), true), []⟩,
  ⟨.loc 35, .split (.loc 34), some ((.loc 29), true), []⟩,
  ⟨.loc 36, .mv (.var 4), some ((.loc 35), true), []⟩,
  ⟨.loc 37, .mv (.var 3), some ((.loc 35), true), []⟩,
  ⟨.loc 38, .len false (.loc 37), some ((.loc 35), true), []⟩,
  ⟨.loc 39, .bin .int .sub (.loc 38) (.const (.d (.int .i64 1))), some ((.loc 35), true), []⟩,
  ⟨.loc 40, .bin .int .eql (.loc 36) (.loc 39), some ((.loc 35), true), []⟩,
  ⟨.loc 41, .pick (.loc 35) (.loc 40) (.const (.d (.bool false))), some ((.loc 29), true), []⟩,
  ⟨.loc 42, .un .not (.loc 41), some ((.loc 29), true), []⟩,
  ⟨.var 43, .pick (.loc 29) (.loc 42) (.const (.d (.bool false))), none, []⟩] false
def c_S_GlobOk_7 : ACode := .reg [⟨.var 2, .mv (.const (.d (.bool false))), none, []⟩] false
def c_S_GlobOk_8 : ACode := .reg [⟨.loc 14, .mv (.var 4), none, []⟩,
  ⟨.loc 15, .bin .int .add (.loc 14) (.const (.d (.int .i64 1))), none, []⟩,
  ⟨.var 4, .mv (.loc 15), none, []⟩] false
def c_S_GlobOk_9 : ACode := (.seq (.seq c_S_GlobOk_5 (.cond (.var 13) .skip (.exit 0))) (.seq (.block 1 (.seq c_S_GlobOk_6 (.cond (.var 43) (.seq c_S_GlobOk_7 .ret) .skip))) c_S_GlobOk_8))
def c_S_GlobOk_10 : ACode := .reg [⟨.loc 44, .mv (.var 3), none, []⟩,
  ⟨.loc 45, .len false (.loc 44), none, []⟩,
  ⟨.loc 46, .bin .int .leq (.loc 45) (.const (.d (.int .i64 8))), none, []⟩,
  ⟨.var 2, .mv (.loc 46), none, []⟩] false
def c_S_GlobOk : ACode := (.seq c_S_GlobOk_0 (.seq (.seq c_S_GlobOk_1 (.cond (.var 7) (.seq c_S_GlobOk_2 .ret) .skip)) (.seq c_S_GlobOk_3 (.seq (.seq c_S_GlobOk_4 (.block 0 (.loop [3, 4] c_S_GlobOk_9))) (.seq c_S_GlobOk_10 .ret)))))
abbrev F_S_GlobOk : FuncId := 128
theorem k_S_GlobOk : comp PP (Tryd.f128.ntmps, pinOf 0 [none]) [0, 2, 3, 4, 7, 13, 43] (Tryd.f128.body.getD .skip) = some c_S_GlobOk.erase := by kernel_rfl
theorem v_S_GlobOk {GG : GV} (rcs : List C) {cs : List C} {r : C} {os : List (Option C)} (hN : (cs.length == 1 && rcs.length == 1) = true) (hret : retOf rcs = r)
    (hW : W PP [0, 2, 3, 4, 7, 13, 43] (Tryd.f128.ntmps, pinOf 0 [none]) (Valid PP GG) c_S_GlobOk (entry cs) (Fin (Valid PP GG) [(.give, 2, none)] [none] rcs os) (fun _ _ => False) (Fin (Valid PP GG) [(.give, 2, none)] [none] rcs os)) : Valid PP GG F_S_GlobOk cs r os :=
  fn_valid_n 1 1 [0, 2, 3, 4, 7, 13, 43] c_S_GlobOk [(.give, 2, none)] [none] rcs Tryd.func128 rfl rfl (by kernel_rfl) k_S_GlobOk rfl rfl hN hret hW
def c_I_isName_0 : ACode := .reg [⟨.var 2, .mv (.const (.d (.bool false))), none, []⟩] false
def c_I_isName_1 : ACode := .reg [⟨.loc 3, .mv (.var 0), none, []⟩,
  ⟨.loc 4, .len true (.loc 3), none, []⟩,
  ⟨.loc 5, .call (.fn 71) [(.loc 4), (.const (.d (.int .i64 1))), (.const (.d (.int .i64 12)))] [.borrow, .borrow, .borrow], none, []⟩,
  ⟨.loc 6, .split (.loc 5), none, []⟩,
  ⟨.loc 7, .mv (.var 0), some ((.loc 6), true), []⟩,
  ⟨.loc 8, .call (.fn 152) [(.loc 7), (.const (.d (.str [97, 98, 99, 100, 101, 102, 103, 104, 105, 106, 107, 108, 109, 110, 111, 112, 113, 114, 115, 116, 117, 118, 119, 120, 121, 122, 48, 49, 50, 51, 52, 53, 54, 55, 56, 57])))] [.borrow, .borrow], some ((.loc 6), true), []⟩,
  ⟨.loc 9, .pick (.loc 6) (.loc 8) (.const (.d (.bool false))), none, []⟩,
  ⟨.var 2, .mv (.loc 9), none, []⟩] false
def c_I_isName : ACode := (.seq c_I_isName_0 (.seq c_I_isName_1 .ret))
abbrev F_I_isName : FuncId := 129
theorem k_I_isName : comp PP (Tryd.f129.ntmps, pinOf 0 [none]) [0, 2] (Tryd.f129.body.getD .skip) = some c_I_isName.erase := by kernel_rfl
theorem v_I_isName {GG : GV} (rcs : List C) {cs : List C} {r : C} {os : List (Option C)} (hN : (cs.length == 1 && rcs.length == 1) = true) (hret : retOf rcs = r)
    (hW : W PP [0, 2] (Tryd.f129.ntmps, pinOf 0 [none]) (Valid PP GG) c_I_isName (entry cs) (Fin (Valid PP GG) [(.give, 2, none)] [none] rcs os) (fun _ _ => False) (Fin (Valid PP GG) [(.give, 2, none)] [none] rcs os)) : Valid PP GG F_I_isName cs r os :=
  fn_valid_n 1 1 [0, 2] c_I_isName [(.give, 2, none)] [none] rcs Tryd.func129 rfl rfl (by kernel_rfl) k_I_isName rfl rfl hN hret hW
def c_I_digest_0 : ACode := .reg [⟨.var 2, .mv (.const (.d (.int .i64 0))), none, []⟩] false
def c_I_digest_1 : ACode := .reg [⟨.var 3, .mv (.const (.d (.int .i64 7))), none, []⟩,
  ⟨.var 4, .mv (.const (.d (.int .i64 11))), none, []⟩] false
def c_I_digest_2 : ACode := .reg [⟨.var 7, .mv (.var 0), none, []⟩,
  ⟨.var 8, .len false (.var 7), none, []⟩,
  ⟨.var 9, .mv (.const (.d (.int .i64 0))), none, []⟩] false
def c_I_digest_3 : ACode := .reg [⟨.var 10, .bin .int .lss (.var 9) (.var 8), none, []⟩] false
def c_I_digest_4 : ACode := .reg [⟨.loc 11, .idxA 1 (.var 7) (.var 9), none, []⟩,
  ⟨.loc 12, .load false 1 (.loc 11), none, []⟩,
  ⟨.var 6, .mv (.loc 12), none, []⟩] false
def c_I_digest_5 : ACode := .reg [⟨.loc 13, .mv (.var 3), none, []⟩,
  ⟨.loc 14, .bin .int .mul (.const (.d (.int .i64 131))) (.loc 13), none, []⟩,
  ⟨.loc 15, .mv (.var 6), none, []⟩,
  ⟨.loc 16, .conv .i64 (.loc 15), none, []⟩,
  ⟨.loc 17, .bin .int .add (.loc 14) (.loc 16), none, []⟩,
  ⟨.loc 18, .bin .int .add (.loc 17) (.const (.d (.int .i64 1))), none, []⟩,
  ⟨.loc 19, .bin .int .rem (.loc 18) (.const (.d (.int .i64 2147483647))), none, []⟩,
  ⟨.var 3, .mv (.loc 19), none, []⟩] false
def c_I_digest_6 : ACode := .reg [⟨.loc 20, .mv (.var 4), none, []⟩,
  ⟨.loc 21, .bin .int .mul (.const (.d (.int .i64 137))) (.loc 20), none, []⟩,
  ⟨.loc 22, .mv (.var 6), none, []⟩,
  ⟨.loc 23, .conv .i64 (.loc 22), none, []⟩,
  ⟨.loc 24, .bin .int .add (.loc 21) (.loc 23), none, []⟩,
  ⟨.loc 25, .bin .int .add (.loc 24) (.const (.d (.int .i64 3))), none, []⟩,
  ⟨.loc 26, .bin .int .rem (.loc 25) (.const (.d (.int .i64 2147483629))), none, []⟩,
  ⟨.var 4, .mv (.loc 26), none, []⟩] false
def c_I_digest_7 : ACode := .reg [⟨.loc 27, .bin .int .add (.var 9) (.const (.d (.int .i64 1))), none, []⟩,
  ⟨.var 9, .mv (.loc 27), none, []⟩] false
def c_I_digest_8 : ACode := (.seq c_I_digest_3 (.seq (.cond (.var 10) .skip (.exit 0)) (.seq (.block 1 (.seq c_I_digest_4 (.seq c_I_digest_5 c_I_digest_6))) c_I_digest_7)))
def c_I_digest_9 : ACode := .reg [⟨.loc 28, .mv (.var 3), none, []⟩,
  ⟨.loc 29, .bin .int .mul (.const (.d (.int .i64 2147483648))) (.loc 28), none, []⟩,
  ⟨.loc 30, .mv (.var 4), none, []⟩,
  ⟨.loc 31, .bin .int .add (.loc 29) (.loc 30), none, []⟩,
  ⟨.var 2, .mv (.loc 31), none, []⟩] false
def c_I_digest : ACode := (.seq c_I_digest_0 (.seq c_I_digest_1 (.seq (.seq c_I_digest_2 (.block 0 (.loop [3, 4, 7, 8, 9] c_I_digest_8))) (.seq c_I_digest_9 .ret))))
abbrev F_I_digest : FuncId := 130
theorem k_I_digest : comp PP (Tryd.f130.ntmps, pinOf 0 [none]) [0, 2, 3, 4, 6, 7, 8, 9, 10] (Tryd.f130.body.getD .skip) = some c_I_digest.erase := by kernel_rfl
theorem v_I_digest {GG : GV} (rcs : List C) {cs : List C} {r : C} {os : List (Option C)} (hN : (cs.length == 1 && rcs.length == 1) = true) (hret : retOf rcs = r)
    (hW : W PP [0, 2, 3, 4, 6, 7, 8, 9, 10] (Tryd.f130.ntmps, pinOf 0 [none]) (Valid PP GG) c_I_digest (entry cs) (Fin (Valid PP GG) [(.give, 2, none)] [none] rcs os) (fun _ _ => False) (Fin (Valid PP GG) [(.give, 2, none)] [none] rcs os)) : Valid PP GG F_I_digest cs r os :=
  fn_valid_n 1 1 [0, 2, 3, 4, 6, 7, 8, 9, 10] c_I_digest [(.give, 2, none)] [none] rcs Tryd.func130 rfl rfl (by kernel_rfl) k_I_digest rfl rfl hN hret hW
def c_I_isGlob_0 : ACode := .reg [⟨.var 2, .mv (.const (.d (.bool false))), none, []⟩] false
def c_I_isGlob_1 : ACode := .reg [⟨.loc 6, .mv (.var 0), none, []⟩,
  ⟨.loc 7, .len true (.loc 6), none, []⟩,
  ⟨.var 8, .bin .int .gtr (.loc 7) (.const (.d (.int .i64 120))), none, []⟩] false
def c_I_isGlob_2 : ACode := .reg [⟨.var 2, .mv (.const (.d (.bool false))), none, []⟩] false
def c_I_isGlob_3 : ACode := .reg [⟨.loc 9, .mv (.var 0), none, []⟩,
  ⟨.loc 10, .call (.fn 119) [(.loc 9), (.const (.d (.str [47])))] [.borrow, .borrow], none, []⟩,
  ⟨.var 3, .mv (.loc 10), none, []⟩] false
def c_I_isGlob_4 : ACode := .reg [⟨.var 11, .mv (.var 3), none, []⟩,
  ⟨.var 12, .len false (.var 11), none, []⟩,
  ⟨.var 13, .mv (.const (.d (.int .i64 0))), none, []⟩] false
def c_I_isGlob_5 : ACode := .reg [⟨.var 14, .bin .int .lss (.var 13) (.var 12), none, []⟩] false
def c_I_isGlob_6 : ACode := .reg [⟨.loc 15, .mv (.var 13), none, []⟩,
  ⟨.loc 16, .idxA 1 (.var 11) (.var 13), none, []⟩,
  ⟨.loc 17, .load false 1 (.loc 16), none, []⟩,
  ⟨.var 4, .mv (.loc 15), none, []⟩,
  ⟨.var 5, .mv (.loc 17), none, []⟩] false
def c_I_isGlob_7 : ACode := .reg [⟨.loc 18, .mv (.var 5), none, []⟩,
  ⟨.loc 19, .bin .str .eql (.loc 18) (.const (.d (.str [43]))), none, []⟩,
  ⟨.loc 20, .split (.loc 19), none, []⟩,
  ⟨.loc 21, .mv (.var 5), some ((.loc 20), false), []⟩,
  ⟨.loc 22, .bin .str .eql (.loc 21) (.const (.d (.str [42]))), some ((.loc 20), false), []⟩,
  ⟨.loc 23, .split (.loc 22), some ((.loc 20), false), []⟩,
  ⟨.loc 24, .mv (.var 4), some ((.loc 23), true), []⟩,
  ⟨.loc 25, .mv (.var 3), some ((.loc 23), true), []⟩,
  ⟨.loc 26, .len false (.loc 25), some ((.loc 23), true), []⟩,
  ⟨.loc 27, .bin .int .sub (.loc 26) (.const (.d (.int .i64 1))), some ((.loc 23), true), []⟩,
  ⟨.loc 28, .bin .int .eql (.loc 24) (.loc 27), some ((.loc 23), true), []⟩,
  ⟨.loc 29, .pick (.loc 23) (.loc 28) (.const (.d (.bool false))), some ((.loc 20), false), []⟩,
  ⟨.var 30, .pick (.loc 20) (.const (.d (.bool true))) (.loc 29), none, []⟩] false
def c_I_isGlob_8 : ACode := .reg [⟨.loc 31, .mv (.var 5), none, []⟩,
  ⟨.loc 32, .len true (.loc 31), none, []⟩,
  ⟨.loc 33, .call (.fn 71) [(.loc 32), (.const (.d (.int .i64 1))), (.const (.d (.int .i64 16)))] [.borrow, .borrow, .borrow], none, []⟩,
  ⟨.loc 34, .un .not (.loc 33), none, []⟩,
  ⟨.loc 35, .split (.loc 34), none, []⟩,
  ⟨.loc 36, .mv (.var 5), some ((.loc 35), false), []⟩,
  ⟨.loc 37, .call (.fn 152) [(.loc 36), (.const (.d (.str [97, 98, 99, 100, 101, 102, 103, 104, 105, 106, 107, 108, 109, 110, 111, 112, 113, 114, 115, 116, 117, 118, 119, 120, 121, 122, 48, 49, 50, 51, 52, 53, 54, 55, 56, 57, 45])))] [.borrow, .borrow], some ((.loc 35), false), []⟩,
  ⟨.loc 38, .un .not (.loc 37), some ((.loc 35), false), []⟩,
  ⟨.var 39, .pick (.loc 35) (.const (.d (.bool true))) (.loc 38), none, []⟩] false
def c_I_isGlob_9 : ACode := .reg [⟨.var 2, .mv (.const (.d (.bool false))), none, []⟩] false
def c_I_isGlob_10 : ACode := .reg [⟨.loc 40, .bin .int .add (.var 13) (.const (.d (.int .i64 1))), none, []⟩,
  ⟨.var 13, .mv (.loc 40), none, []⟩] false
def c_I_isGlob_11 : ACode := (.seq c_I_isGlob_5 (.seq (.cond (.var 14) .skip (.exit 0)) (.seq (.block 1 (.seq c_I_isGlob_6 (.seq (.seq c_I_isGlob_7 (.cond (.var 30) (.exit 1) .skip)) (.seq c_I_isGlob_8 (.cond (.var 39) (.seq c_I_isGlob_9 .ret) .skip))))) c_I_isGlob_10)))
def c_I_isGlob_12 : ACode := .reg [⟨.loc 41, .mv (.var 3), none, []⟩,
  ⟨.loc 42, .len false (.loc 41), none, []⟩,
  ⟨.loc 43, .bin .int .leq (.loc 42) (.const (.d (.int .i64 8))), none, []⟩,
  ⟨.var 2, .mv (.loc 43), none, []⟩] false
def c_I_isGlob : ACode := (.seq c_I_isGlob_0 (.seq (.seq c_I_isGlob_1 (.cond (.var 8) (.seq c_I_isGlob_2 .ret) .skip)) (.seq c_I_isGlob_3 (.seq (.seq c_I_isGlob_4 (.block 0 (.loop [3, 11, 12, 13] c_I_isGlob_11))) (.seq c_I_isGlob_12 .ret)))))
abbrev F_I_isGlob : FuncId := 138
theorem k_I_isGlob : comp PP (Tryd.f138.ntmps, pinOf 0 [none]) [0, 2, 3, 4, 5, 8, 11, 12, 13, 14, 30, 39] (Tryd.f138.body.getD .skip) = some c_I_isGlob.erase := by kernel_rfl
theorem v_I_isGlob {GG : GV} (rcs : List C) {cs : List C} {r : C} {os : List (Option C)} (hN : (cs.length == 1 && rcs.length == 1) = true) (hret : retOf rcs = r)
    (hW : W PP [0, 2, 3, 4, 5, 8, 11, 12, 13, 14, 30, 39] (Tryd.f138.ntmps, pinOf 0 [none]) (Valid PP GG) c_I_isGlob (entry cs) (Fin (Valid PP GG) [(.give, 2, none)] [none] rcs os) (fun _ _ => False) (Fin (Valid PP GG) [(.give, 2, none)] [none] rcs os)) : Valid PP GG F_I_isGlob cs r os :=
  fn_valid_n 1 1 [0, 2, 3, 4, 5, 8, 11, 12, 13, 14, 30, 39] c_I_isGlob [(.give, 2, none)] [none] rcs Tryd.func138 rfl rfl (by kernel_rfl) k_I_isGlob rfl rfl hN hret hW
def c_S_l01Segment_0 : ACode := .reg [⟨.var 2, .mv (.const (.d (.bool false))), none, []⟩] false
def c_S_l01Segment_1 : ACode := .reg [⟨.loc 5, .mv (.var 0), none, []⟩,
  ⟨.loc 6, .len true (.loc 5), none, []⟩,
  ⟨.loc 7, .call (.fn 64) [(.loc 6), (.const (.d (.int .i64 1))), (.const (.d (.int .i64 16)))] [.borrow, .borrow, .borrow], none, []⟩,
  ⟨.var 8, .un .not (.loc 7), none, []⟩] false
def c_S_l01Segment_2 : ACode := .reg [⟨.var 2, .mv (.const (.d (.bool false))), none, []⟩] false
def c_S_l01Segment_3 : ACode := .reg [⟨.var 3, .mv (.const (.d (.int .i64 0))), none, []⟩] false
def c_S_l01Segment_4 : ACode := .reg [⟨.loc 9, .mv (.var 3), none, []⟩,
  ⟨.loc 10, .mv (.var 0), none, []⟩,
  ⟨.loc 11, .len true (.loc 10), none, []⟩,
  ⟨.var 12, .bin .int .lss (.loc 9) (.loc 11), none, []⟩] false
def c_S_l01Segment_5 : ACode := .reg [⟨.loc 15, .mv (.var 0), none, []⟩,
  ⟨.loc 16, .mv (.var 3), none, []⟩,
  ⟨.loc 17, .idxS (.loc 15) (.loc 16), none, []⟩,
  ⟨.var 4, .mv (.loc 17), none, []⟩] false
def c_S_l01Segment_6 : ACode := .reg [⟨.loc 18, .mv (.var 4), none, []⟩,
  ⟨.loc 19, .bin .int .geq (.loc 18) (.const (.d (.int .u8 97))), none, []⟩,
  ⟨.loc 20, .split (.loc 19), none, []⟩,
  ⟨.loc 21, .mv (.var 4), some ((.loc 20), true), []⟩,
  ⟨.loc 22, .bin .int .leq (.loc 21) (.const (.d (.int .u8 122))), some ((.loc 20), true), []⟩,
  ⟨.loc 23, .pick (.loc 20) (.loc 22) (.const (.d (.bool false))), none, []⟩,
  ⟨.loc 24, .un .not (.loc 23), none, []⟩,
  ⟨.loc 25, .split (.loc 24), none, []⟩,
  ⟨.loc 26, .mv (.var 4), some ((.loc 25), true), []⟩,
  ⟨.loc 27, .bin .int .geq (.loc 26) (.const (.d (.int .u8 48))), some ((.loc 25), true), []⟩,
  ⟨.loc 28, .split (.loc 27), some ((.loc 25), true), []⟩,
  ⟨.loc 29, .mv (.var 4), some ((.loc 28), true), []⟩,
  ⟨.loc 30, .bin .int .leq (.loc 29) (.const (.d (.int .u8 57))), some ((.loc 28), true), []⟩,
  ⟨.loc 31, .pick (.loc 28) (.loc 30) (.const (.d (.bool false))), some ((.loc 25), true), []⟩,
  ⟨.loc 32, .un .not (.loc 31), some ((.loc 25), true), []⟩,
  ⟨.loc 33, .pick (.loc 25) (.loc 32) (.const (.d (.bool false))), none, []⟩,
  ⟨.loc 34, .split (.loc 33), none, []⟩,
  ⟨.loc 35, .mv (.var 4), some ((.loc 34), true), []⟩,
  ⟨.loc 36, .bin .int .neq (.loc 35) (.const (.d (.int .u8 45))), some ((.loc 34), true), []⟩,
  ⟨.var 37, .pick (.loc 34) (.loc 36) (.const (.d (.bool false))), none, []⟩] false
def c_S_l01Segment_7 : ACode := .reg [⟨.var 2, .mv (.const (.d (.bool false))), none, []⟩] false
def c_S_l01Segment_8 : ACode := .reg [⟨.loc 13, .mv (.var 3), none, []⟩,
  ⟨.loc 14, .bin .int .add (.loc 13) (.const (.d (.int .i64 1))), none, []⟩,
  ⟨.var 3, .mv (.loc 14), none, []⟩] false
def c_S_l01Segment_9 : ACode := (.seq (.seq c_S_l01Segment_4 (.cond (.var 12) .skip (.exit 0))) (.seq (.block 1 (.seq c_S_l01Segment_5 (.seq c_S_l01Segment_6 (.cond (.var 37) (.seq c_S_l01Segment_7 .ret) .skip)))) c_S_l01Segment_8))
def c_S_l01Segment_10 : ACode := .reg [⟨.var 2, .mv (.const (.d (.bool true))), none, []⟩] false
def c_S_l01Segment : ACode := (.seq c_S_l01Segment_0 (.seq (.seq c_S_l01Segment_1 (.cond (.var 8) (.seq c_S_l01Segment_2 .ret) .skip)) (.seq (.seq c_S_l01Segment_3 (.block 0 (.loop [0, 3] c_S_l01Segment_9))) (.seq c_S_l01Segment_10 .ret))))
abbrev F_S_l01Segment : FuncId := 151
theorem k_S_l01Segment : comp PP (Tryd.f151.ntmps, pinOf 0 [none]) [0, 2, 3, 4, 8, 12, 37] (Tryd.f151.body.getD .skip) = some c_S_l01Segment.erase := by kernel_rfl
theorem v_S_l01Segment {GG : GV} (rcs : List C) {cs : List C} {r : C} {os : List (Option C)} (hN : (cs.length == 1 && rcs.length == 1) = true) (hret : retOf rcs = r)
    (hW : W PP [0, 2, 3, 4, 8, 12, 37] (Tryd.f151.ntmps, pinOf 0 [none]) (Valid PP GG) c_S_l01Segment (entry cs) (Fin (Valid PP GG) [(.give, 2, none)] [none] rcs os) (fun _ _ => False) (Fin (Valid PP GG) [(.give, 2, none)] [none] rcs os)) : Valid PP GG F_S_l01Segment cs r os :=
  fn_valid_n 1 1 [0, 2, 3, 4, 8, 12, 37] c_S_l01Segment [(.give, 2, none)] [none] rcs Tryd.func151 rfl rfl (by kernel_rfl) k_S_l01Segment rfl rfl hN hret hW
def c_I_onlyOf_0 : ACode := .reg [⟨.var 4, .mv (.const (.d (.bool false))), none, []⟩] false
def c_I_onlyOf_1 : ACode := .reg [⟨.loc 6, .mv (.var 0), none, []⟩,
  ⟨.var 7, .len true (.loc 6), none, []⟩,
  ⟨.var 8, .mv (.const (.d (.int .i64 0))), none, []⟩] false
def c_I_onlyOf_2 : ACode := .reg [⟨.var 9, .bin .int .lss (.var 8) (.var 7), none, []⟩] false
def c_I_onlyOf_3 : ACode := .reg [⟨.loc 10, .mv (.var 8), none, []⟩,
  ⟨.var 5, .mv (.loc 10), none, []⟩] false
def c_I_onlyOf_4 : ACode := .reg [⟨.loc 11, .mv (.var 1), none, []⟩,
  ⟨.loc 12, .mv (.var 0), none, []⟩,
  ⟨.loc 13, .mv (.var 5), none, []⟩,
  ⟨.loc 14, .idxS (.loc 12) (.loc 13), none, []⟩,
  ⟨.loc 15, .call (.fn 169) [(.loc 11), (.loc 14)] [.borrow, .borrow], none, []⟩,
  ⟨.var 16, .bin .int .lss (.loc 15) (.const (.d (.int .i64 0))), none, []⟩] false
def c_I_onlyOf_5 : ACode := .reg [⟨.var 4, .mv (.const (.d (.bool false))), none, []⟩] false
def c_I_onlyOf_6 : ACode := .reg [⟨.loc 17, .bin .int .add (.var 8) (.const (.d (.int .i64 1))), none, []⟩,
  ⟨.var 8, .mv (.loc 17), none, []⟩] false
def c_I_onlyOf_7 : ACode := (.seq c_I_onlyOf_2 (.seq (.cond (.var 9) .skip (.exit 0)) (.seq (.block 1 (.seq c_I_onlyOf_3 (.seq c_I_onlyOf_4 (.cond (.var 16) (.seq c_I_onlyOf_5 .ret) .skip)))) c_I_onlyOf_6)))
def c_I_onlyOf_8 : ACode := .reg [⟨.var 4, .mv (.const (.d (.bool true))), none, []⟩] false
def c_I_onlyOf : ACode := (.seq c_I_onlyOf_0 (.seq (.seq c_I_onlyOf_1 (.block 0 (.loop [0, 1, 7, 8] c_I_onlyOf_7))) (.seq c_I_onlyOf_8 .ret)))
abbrev F_I_onlyOf : FuncId := 152
theorem k_I_onlyOf : comp PP (Tryd.f152.ntmps, pinOf 0 [none, none]) [0, 1, 4, 5, 7, 8, 9, 16] (Tryd.f152.body.getD .skip) = some c_I_onlyOf.erase := by kernel_rfl
theorem v_I_onlyOf {GG : GV} (rcs : List C) {cs : List C} {r : C} {os : List (Option C)} (hN : (cs.length == 2 && rcs.length == 1) = true) (hret : retOf rcs = r)
    (hW : W PP [0, 1, 4, 5, 7, 8, 9, 16] (Tryd.f152.ntmps, pinOf 0 [none, none]) (Valid PP GG) c_I_onlyOf (entry cs) (Fin (Valid PP GG) [(.give, 4, none)] [none, none] rcs os) (fun _ _ => False) (Fin (Valid PP GG) [(.give, 4, none)] [none, none] rcs os)) : Valid PP GG F_I_onlyOf cs r os :=
  fn_valid_n 2 1 [0, 1, 4, 5, 7, 8, 9, 16] c_I_onlyOf [(.give, 4, none)] [none, none] rcs Tryd.func152 rfl rfl (by kernel_rfl) k_I_onlyOf rfl rfl hN hret hW
end Go.Proofs.YtpboimnecoakiaaDoor.Ab
