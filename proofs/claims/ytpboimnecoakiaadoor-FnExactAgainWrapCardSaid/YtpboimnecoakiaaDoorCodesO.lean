/-
  A part of a proof about the given program; what is proved is said where each theorem stands.
-/
import Derived.Lib.LaidTab
import Derived.Lib.ItoaLen
import Derived.Shelf.Strconv.Itoa3
import Derived.KernelRfl
import Derived.Test.YtpboimnecoakiaaDoorProg
import Derived.Test.YtpboimnecoakiaaDoorFrameA
import Derived.Test.YtpboimnecoakiaaDoorFrameB
import Derived.Test.YtpboimnecoakiaaDoorFrameC
import Derived.Test.YtpboimnecoakiaaDoorFrameD
import Derived.Test.YtpboimnecoakiaaDoorFrameE
import Derived.Test.YtpboimnecoakiaaDoorShelf
namespace Go.Proofs.YtpboimnecoakiaaDoor.Ab
open Go.Proofs
noncomputable abbrev PP : Program := Tryd.prog
/-- The table of powers of ten that the library's number texts lean on. -/
def pow10Cells : Obj → Prop
  | .cells cs _ _ => cs = (Lib.pow10Tab.map fun z => Value.int .u64 z).toArray
  | _ => False
class P10 (GG : GV) : Prop where
  h : GG 3 = some pow10Cells
/-- An error variable: nil or an error. -/
def errCell : Obj → Prop
  | .cells cs _ _ => ∃ ev, cs[0]? = some ev ∧ (ev = .nilIface ∨ ∃ te pe, ev = .iface te pe)
  | _ => False
/-- A number variable. -/
def intCell : Obj → Prop
  | .cells cs _ _ => ∃ m : Int, cs[0]? = some (.int .i64 m)
  | _ => False
class ESyn (GG : GV) : Prop where
  h : GG 1 = some errCell
class MaxL (GG : GV) : Prop where
  h : GG 0 = some intCell
class ERng (GG : GV) : Prop where
  h : GG 2 = some errCell
def c_L_FnExactOpenWrap_0 : ACode := .reg [⟨.var 3, .box (.var 0), none, []⟩,
  ⟨.var 6, .mv (.const (.d (.bool false))), none, []⟩] false
def c_L_FnExactOpenWrap_1 : ACode := .reg [⟨.var 7, .mv (.const (.d (.int .i64 1048576))), none, []⟩] false
def c_L_FnExactOpenWrap_2 : ACode := .reg [⟨.loc 21, .load true 3 (.var 3), none, []⟩,
  ⟨.loc 22, .mv (.var 7), none, []⟩,
  ⟨.loc 23, .call (.fn 24) [(.loc 21), (.loc 22)] [.borrow, .borrow], none, []⟩,
  ⟨.var 7, .mv (.loc 23), none, []⟩] false
def c_L_FnExactOpenWrap_3 : ACode := .reg [⟨.loc 24, .mv (.var 7), none, []⟩,
  ⟨.var 25, .bin .int .lss (.loc 24) (.const (.d (.int .i64 0))), none, []⟩] false
def c_L_FnExactOpenWrap_4 : ACode := .reg [⟨.var 6, .mv (.const (.d (.bool true))), none, []⟩] false
def c_L_FnExactOpenWrap_5 : ACode := .reg [⟨.loc 27, .load true 3 (.var 3), none, []⟩,
  ⟨.loc 28, .call (.fn 26) [(.loc 27)] [.borrow], none, []⟩,
  ⟨.loc 29, .mv (.var 1), none, []⟩,
  ⟨.loc 30, .mv (.var 2), none, []⟩,
  ⟨.loc 31, .call (.fn 25) [(.loc 28), (.loc 29), (.loc 30)] [.borrow, .borrow, .borrow], none, []⟩,
  ⟨.loc 26, .mv (.loc 31), none, []⟩,
  ⟨.loc 32, .ext (.loc 26) 0, none, []⟩,
  ⟨.loc 33, .ext (.loc 26) 1, none, []⟩,
  ⟨.loc 34, .ext (.loc 26) 2, none, []⟩,
  ⟨.var 8, .alloc [.d (.int .i64 0), .d (.int .i64 0), .nil 1 6], none, []⟩,
  ⟨.none, .store 3 (.var 8) (.loc 32), none, []⟩,
  ⟨.var 9, .mv (.loc 33), none, []⟩,
  ⟨.var 10, .mv (.loc 34), none, []⟩] false
def c_L_FnExactOpenWrap_6 : ACode := .reg [⟨.loc 35, .load true 3 (.var 3), none, []⟩,
  ⟨.loc 36, .call (.fn 26) [(.loc 35)] [.borrow], none, []⟩,
  ⟨.var 11, .alloc [.d (.int .i64 0), .d (.int .i64 0), .nil 1 6], none, []⟩,
  ⟨.none, .store 3 (.var 11) (.loc 36), none, []⟩] false
def c_L_FnExactOpenWrap_7 : ACode := .reg [⟨.loc 38, .load true 3 (.var 11), none, []⟩,
  ⟨.loc 39, .mv (.var 1), none, []⟩,
  ⟨.loc 40, .mv (.var 2), none, []⟩,
  ⟨.loc 41, .call (.fn 27) [(.loc 38), (.loc 39), (.loc 40)] [.borrow, .borrow, .borrow], none, []⟩,
  ⟨.loc 37, .mv (.loc 41), none, []⟩,
  ⟨.loc 42, .ext (.loc 37) 0, none, []⟩,
  ⟨.loc 43, .ext (.loc 37) 1, none, []⟩,
  ⟨.loc 44, .ext (.loc 37) 2, none, []⟩,
  ⟨.var 12, .alloc [.d (.int .i64 0), .d (.int .i64 0), .nil 1 6], none, []⟩,
  ⟨.none, .store 3 (.var 12) (.loc 42), none, []⟩,
  ⟨.var 13, .mv (.loc 43), none, []⟩,
  ⟨.var 14, .mv (.loc 44), none, []⟩] false
def c_L_FnExactOpenWrap_8 : ACode := .reg [⟨.loc 45, .load true 3 (.var 12), none, []⟩,
  ⟨.loc 46, .load true 3 (.var 8), none, []⟩,
  ⟨.loc 47, .call (.fn 28) [(.loc 45), (.loc 46)] [.borrow, .borrow], none, []⟩,
  ⟨.loc 48, .un .not (.loc 47), none, []⟩,
  ⟨.loc 49, .split (.loc 48), none, []⟩,
  ⟨.loc 50, .mv (.var 13), some ((.loc 49), false), []⟩,
  ⟨.loc 51, .mv (.var 9), some ((.loc 49), false), []⟩,
  ⟨.loc 52, .call (.fn 29) [(.loc 50), (.loc 51)] [.borrow, .borrow], some ((.loc 49), false), []⟩,
  ⟨.loc 53, .un .not (.loc 52), some ((.loc 49), false), []⟩,
  ⟨.loc 54, .pick (.loc 49) (.const (.d (.bool true))) (.loc 53), none, []⟩,
  ⟨.loc 55, .split (.loc 54), none, []⟩,
  ⟨.loc 56, .mv (.var 14), some ((.loc 55), false), []⟩,
  ⟨.loc 57, .mv (.var 10), some ((.loc 55), false), []⟩,
  ⟨.loc 58, .bin .int .neq (.loc 56) (.loc 57), some ((.loc 55), false), []⟩,
  ⟨.var 59, .pick (.loc 55) (.const (.d (.bool true))) (.loc 58), none, []⟩] false
def c_L_FnExactOpenWrap_9 : ACode := .reg [⟨.var 6, .mv (.const (.d (.bool false))), none, []⟩] false
def c_L_FnExactOpenWrap_10 : ACode := .reg [⟨.loc 60, .load true 3 (.var 11), none, []⟩,
  ⟨.loc 61, .load true 3 (.var 3), none, []⟩,
  ⟨.loc 62, .call (.fn 26) [(.loc 61)] [.borrow], none, [1]⟩,
  ⟨.loc 63, .call (.fn 28) [(.loc 60), (.loc 62)] [.borrow, .borrow], none, [0, 2, 1]⟩,
  ⟨.var 64, .un .not (.loc 63), none, [3, 0, 2, 1]⟩] true
def c_L_FnExactOpenWrap_11 : ACode := .reg [⟨.var 6, .mv (.const (.d (.bool false))), none, []⟩] false
def c_L_FnExactOpenWrap_12 : ACode := .reg [⟨.var 15, .mv (.const (.d (.int .i64 1))), none, []⟩] false
def c_L_FnExactOpenWrap_13 : ACode := .reg [⟨.loc 65, .load true 3 (.var 11), none, []⟩,
  ⟨.loc 66, .mv (.var 15), none, []⟩,
  ⟨.loc 67, .call (.fn 30) [(.loc 65), (.loc 66)] [.lend, .borrow], none, []⟩,
  ⟨.var 15, .mv (.loc 67), none, []⟩] false
def c_L_FnExactOpenWrap_14 : ACode := .reg [⟨.loc 68, .mv (.var 15), none, []⟩,
  ⟨.loc 69, .bin .int .lss (.loc 68) (.const (.d (.int .i64 0))), none, []⟩,
  ⟨.loc 70, .split (.loc 69), none, []⟩,
  ⟨.loc 71, .load true 3 (.var 12), some ((.loc 70), false), []⟩,
  ⟨.loc 72, .load true 3 (.var 8), some ((.loc 70), false), []⟩,
  ⟨.loc 73, .call (.fn 28) [(.loc 71), (.loc 72)] [.borrow, .borrow], some ((.loc 70), false), []⟩,
  ⟨.loc 74, .un .not (.loc 73), some ((.loc 70), false), []⟩,
  ⟨.loc 75, .pick (.loc 70) (.const (.d (.bool true))) (.loc 74), none, []⟩,
  ⟨.loc 76, .split (.loc 75), none, []⟩,
  ⟨.loc 77, .mv (.var 13), some ((.loc 76), false), []⟩,
  ⟨.loc 78, .mv (.var 9), some ((.loc 76), false), []⟩,
  ⟨.loc 79, .call (.fn 29) [(.loc 77), (.loc 78)] [.borrow, .borrow], some ((.loc 76), false), []⟩,
  ⟨.loc 80, .un .not (.loc 79), some ((.loc 76), false), []⟩,
  ⟨.loc 81, .pick (.loc 76) (.const (.d (.bool true))) (.loc 80), none, []⟩,
  ⟨.loc 82, .split (.loc 81), none, []⟩,
  ⟨.loc 83, .mv (.var 14), some ((.loc 82), false), []⟩,
  ⟨.loc 84, .mv (.var 10), some ((.loc 82), false), []⟩,
  ⟨.loc 85, .bin .int .neq (.loc 83) (.loc 84), some ((.loc 82), false), []⟩,
  ⟨.var 86, .pick (.loc 82) (.const (.d (.bool true))) (.loc 85), none, []⟩] false
def c_L_FnExactOpenWrap_15 : ACode := .reg [⟨.var 6, .mv (.const (.d (.bool false))), none, []⟩] false
def c_L_FnExactOpenWrap_16 : ACode := .reg [⟨.var 16, .mv (.const (.d (.int .i64 1))), none, []⟩] false
def c_L_FnExactOpenWrap_17 : ACode := .reg [⟨.loc 87, .load true 3 (.var 12), none, []⟩,
  ⟨.loc 88, .mv (.var 16), none, []⟩,
  ⟨.loc 89, .call (.fn 30) [(.loc 87), (.loc 88)] [.lend, .borrow], none, []⟩,
  ⟨.var 16, .mv (.loc 89), none, []⟩] false
def c_L_FnExactOpenWrap_18 : ACode := .reg [⟨.loc 90, .mv (.var 13), none, []⟩,
  ⟨.loc 91, .mv (.var 16), none, []⟩,
  ⟨.loc 92, .call (.fn 31) [(.loc 90), (.loc 91)] [.lend, .borrow], none, []⟩,
  ⟨.var 16, .mv (.loc 92), none, []⟩] false
def c_L_FnExactOpenWrap_19 : ACode := .reg [⟨.var 17, .mv (.const (.d (.int .i64 1))), none, []⟩] false
def c_L_FnExactOpenWrap_20 : ACode := .reg [⟨.loc 93, .load true 3 (.var 12), none, []⟩,
  ⟨.loc 94, .mv (.var 17), none, []⟩,
  ⟨.loc 95, .call (.fn 32) [(.loc 93), (.loc 94)] [.borrow, .borrow], none, []⟩,
  ⟨.var 17, .mv (.loc 95), none, []⟩] false
def c_L_FnExactOpenWrap_21 : ACode := .reg [⟨.loc 96, .mv (.var 17), none, []⟩,
  ⟨.var 97, .bin .int .lss (.loc 96) (.const (.d (.int .i64 0))), none, []⟩] false
def c_L_FnExactOpenWrap_22 : ACode := .reg [⟨.var 6, .mv (.const (.d (.bool false))), none, []⟩] false
def c_L_FnExactOpenWrap_23 : ACode := .reg [⟨.loc 98, .mv (.var 13), none, []⟩,
  ⟨.loc 99, .mv (.var 17), none, []⟩,
  ⟨.loc 100, .call (.fn 33) [(.loc 98), (.loc 99)] [.borrow, .borrow], none, []⟩,
  ⟨.var 17, .mv (.loc 100), none, []⟩] false
def c_L_FnExactOpenWrap_24 : ACode := .reg [⟨.loc 101, .mv (.var 17), none, []⟩,
  ⟨.var 102, .bin .int .lss (.loc 101) (.const (.d (.int .i64 0))), none, []⟩] false
def c_L_FnExactOpenWrap_25 : ACode := .reg [⟨.var 6, .mv (.const (.d (.bool false))), none, []⟩] false
def c_L_FnExactOpenWrap_26 : ACode := .reg [⟨.loc 103, .mv (.var 17), none, []⟩,
  ⟨.loc 104, .mv (.var 16), none, []⟩,
  ⟨.var 105, .bin .int .neq (.loc 103) (.loc 104), none, []⟩] false
def c_L_FnExactOpenWrap_27 : ACode := .reg [⟨.var 6, .mv (.const (.d (.bool false))), none, []⟩] false
def c_L_FnExactOpenWrap_28 : ACode := .reg [⟨.loc 107, .load true 3 (.var 3), none, []⟩,
  ⟨.loc 108, .call (.fn 26) [(.loc 107)] [.borrow], none, []⟩,
  ⟨.loc 109, .mv (.var 1), none, []⟩,
  ⟨.loc 110, .mv (.var 2), none, []⟩,
  ⟨.loc 111, .call (.fn 27) [(.loc 108), (.loc 109), (.loc 110)] [.borrow, .borrow, .borrow], none, []⟩,
  ⟨.loc 106, .mv (.loc 111), none, []⟩,
  ⟨.loc 112, .ext (.loc 106) 0, none, []⟩,
  ⟨.loc 113, .ext (.loc 106) 1, none, []⟩,
  ⟨.loc 114, .ext (.loc 106) 2, none, []⟩,
  ⟨.var 18, .alloc [.d (.int .i64 0), .d (.int .i64 0), .nil 1 6], none, []⟩,
  ⟨.none, .store 3 (.var 18) (.loc 112), none, []⟩,
  ⟨.var 19, .mv (.loc 113), none, []⟩,
  ⟨.var 20, .mv (.loc 114), none, []⟩] false
def c_L_FnExactOpenWrap_29 : ACode := .reg [⟨.loc 115, .load true 3 (.var 18), none, []⟩,
  ⟨.loc 116, .load true 3 (.var 8), none, []⟩,
  ⟨.loc 117, .call (.fn 28) [(.loc 115), (.loc 116)] [.borrow, .borrow], none, []⟩,
  ⟨.loc 118, .un .not (.loc 117), none, []⟩,
  ⟨.loc 119, .split (.loc 118), none, []⟩,
  ⟨.loc 120, .mv (.var 19), some ((.loc 119), false), []⟩,
  ⟨.loc 121, .mv (.var 9), some ((.loc 119), false), []⟩,
  ⟨.loc 122, .call (.fn 29) [(.loc 120), (.loc 121)] [.borrow, .borrow], some ((.loc 119), false), []⟩,
  ⟨.loc 123, .un .not (.loc 122), some ((.loc 119), false), []⟩,
  ⟨.loc 124, .pick (.loc 119) (.const (.d (.bool true))) (.loc 123), none, []⟩,
  ⟨.loc 125, .split (.loc 124), none, []⟩,
  ⟨.loc 126, .mv (.var 20), some ((.loc 125), false), []⟩,
  ⟨.loc 127, .mv (.var 10), some ((.loc 125), false), []⟩,
  ⟨.loc 128, .bin .int .neq (.loc 126) (.loc 127), some ((.loc 125), false), []⟩,
  ⟨.var 129, .pick (.loc 125) (.const (.d (.bool true))) (.loc 128), none, []⟩] false
def c_L_FnExactOpenWrap_30 : ACode := .reg [⟨.var 6, .mv (.const (.d (.bool false))), none, []⟩] false
def c_L_FnExactOpenWrap_31 : ACode := .reg [⟨.var 17, .mv (.const (.d (.int .i64 1))), none, []⟩] false
def c_L_FnExactOpenWrap_32 : ACode := .reg [⟨.loc 130, .load true 3 (.var 12), none, []⟩,
  ⟨.loc 131, .mv (.var 17), none, []⟩,
  ⟨.loc 132, .call (.fn 32) [(.loc 130), (.loc 131)] [.borrow, .borrow], none, []⟩,
  ⟨.var 17, .mv (.loc 132), none, []⟩] false
def c_L_FnExactOpenWrap_33 : ACode := .reg [⟨.loc 133, .mv (.var 17), none, []⟩,
  ⟨.var 134, .bin .int .lss (.loc 133) (.const (.d (.int .i64 0))), none, []⟩] false
def c_L_FnExactOpenWrap_34 : ACode := .reg [⟨.var 6, .mv (.const (.d (.bool false))), none, []⟩] false
def c_L_FnExactOpenWrap_35 : ACode := .reg [⟨.loc 135, .mv (.var 13), none, []⟩,
  ⟨.loc 136, .mv (.var 17), none, []⟩,
  ⟨.loc 137, .call (.fn 33) [(.loc 135), (.loc 136)] [.borrow, .borrow], none, []⟩,
  ⟨.var 17, .mv (.loc 137), none, []⟩] false
def c_L_FnExactOpenWrap_36 : ACode := .reg [⟨.loc 138, .mv (.var 17), none, []⟩,
  ⟨.var 139, .bin .int .lss (.loc 138) (.const (.d (.int .i64 0))), none, []⟩] false
def c_L_FnExactOpenWrap_37 : ACode := .reg [⟨.var 6, .mv (.const (.d (.bool false))), none, []⟩] false
def c_L_FnExactOpenWrap_38 : ACode := .reg [⟨.loc 140, .mv (.var 17), none, []⟩,
  ⟨.loc 141, .mv (.var 16), none, []⟩,
  ⟨.var 142, .bin .int .neq (.loc 140) (.loc 141), none, []⟩] false
def c_L_FnExactOpenWrap_39 : ACode := .reg [⟨.var 6, .mv (.const (.d (.bool false))), none, []⟩] false
def c_L_FnExactOpenWrap_40 : ACode := .reg [⟨.var 6, .mv (.const (.d (.bool true))), none, []⟩] false
def c_L_FnExactOpenWrap : ACode := (.seq c_L_FnExactOpenWrap_0 (.seq c_L_FnExactOpenWrap_1 (.seq c_L_FnExactOpenWrap_2 (.seq (.seq c_L_FnExactOpenWrap_3 (.cond (.var 25) (.seq c_L_FnExactOpenWrap_4 .ret) .skip)) (.seq c_L_FnExactOpenWrap_5 (.seq c_L_FnExactOpenWrap_6 (.seq c_L_FnExactOpenWrap_7 (.seq (.seq c_L_FnExactOpenWrap_8 (.cond (.var 59) (.seq c_L_FnExactOpenWrap_9 .ret) .skip)) (.seq (.seq c_L_FnExactOpenWrap_10 (.cond (.var 64) (.seq c_L_FnExactOpenWrap_11 .ret) .skip)) (.seq c_L_FnExactOpenWrap_12 (.seq c_L_FnExactOpenWrap_13 (.seq (.seq c_L_FnExactOpenWrap_14 (.cond (.var 86) (.seq c_L_FnExactOpenWrap_15 .ret) .skip)) (.seq c_L_FnExactOpenWrap_16 (.seq c_L_FnExactOpenWrap_17 (.seq c_L_FnExactOpenWrap_18 (.seq c_L_FnExactOpenWrap_19 (.seq c_L_FnExactOpenWrap_20 (.seq (.seq c_L_FnExactOpenWrap_21 (.cond (.var 97) (.seq c_L_FnExactOpenWrap_22 .ret) .skip)) (.seq c_L_FnExactOpenWrap_23 (.seq (.seq c_L_FnExactOpenWrap_24 (.cond (.var 102) (.seq c_L_FnExactOpenWrap_25 .ret) .skip)) (.seq (.seq c_L_FnExactOpenWrap_26 (.cond (.var 105) (.seq c_L_FnExactOpenWrap_27 .ret) .skip)) (.seq c_L_FnExactOpenWrap_28 (.seq (.seq c_L_FnExactOpenWrap_29 (.cond (.var 129) (.seq c_L_FnExactOpenWrap_30 .ret) .skip)) (.seq c_L_FnExactOpenWrap_31 (.seq c_L_FnExactOpenWrap_32 (.seq (.seq c_L_FnExactOpenWrap_33 (.cond (.var 134) (.seq c_L_FnExactOpenWrap_34 .ret) .skip)) (.seq c_L_FnExactOpenWrap_35 (.seq (.seq c_L_FnExactOpenWrap_36 (.cond (.var 139) (.seq c_L_FnExactOpenWrap_37 .ret) .skip)) (.seq (.seq c_L_FnExactOpenWrap_38 (.cond (.var 142) (.seq c_L_FnExactOpenWrap_39 .ret) .skip)) (.seq c_L_FnExactOpenWrap_40 .ret))))))))))))))))))))))))))))))
abbrev F_L_FnExactOpenWrap : FuncId := 6
theorem k_L_FnExactOpenWrap : comp PP (Tryd.f6.ntmps, pinOf 0 [none, none, none]) [0, 1, 2, 3, 6, 7, 8, 9, 10, 11, 12, 13, 14, 15, 16, 17, 18, 19, 20, 25, 59, 64, 86, 97, 102, 105, 129, 134, 139, 142] (Tryd.f6.body.getD .skip) = some c_L_FnExactOpenWrap.erase := by kernel_rfl
theorem v_L_FnExactOpenWrap {GG : GV} (rcs : List C) {cs : List C} {r : C} {os : List (Option C)} (hN : (cs.length == 3 && rcs.length == 1) = true) (hret : retOf rcs = r)
    (hW : W PP [0, 1, 2, 3, 6, 7, 8, 9, 10, 11, 12, 13, 14, 15, 16, 17, 18, 19, 20, 25, 59, 64, 86, 97, 102, 105, 129, 134, 139, 142] (Tryd.f6.ntmps, pinOf 0 [none, none, none]) (Valid PP GG) c_L_FnExactOpenWrap (entry cs) (Fin (Valid PP GG) [(.give, 6, none)] [none, none, none] rcs os) (fun _ _ => False) (Fin (Valid PP GG) [(.give, 6, none)] [none, none, none] rcs os)) : Valid PP GG F_L_FnExactOpenWrap cs r os :=
  fn_valid_n 3 1 [0, 1, 2, 3, 6, 7, 8, 9, 10, 11, 12, 13, 14, 15, 16, 17, 18, 19, 20, 25, 59, 64, 86, 97, 102, 105, 129, 134, 139, 142] c_L_FnExactOpenWrap [(.give, 6, none)] [none, none, none] rcs Tryd.func6 rfl rfl (by kernel_rfl) k_L_FnExactOpenWrap rfl rfl hN hret hW
def c_L_FnExactAgainWrap_0 : ACode := .reg [⟨.var 3, .box (.var 0), none, []⟩,
  ⟨.var 6, .mv (.const (.d (.bool false))), none, []⟩] false
def c_L_FnExactAgainWrap_1 : ACode := .reg [⟨.var 7, .mv (.const (.d (.int .i64 1048576))), none, []⟩] false
def c_L_FnExactAgainWrap_2 : ACode := .reg [⟨.loc 21, .load true 3 (.var 3), none, []⟩,
  ⟨.loc 22, .mv (.var 7), none, []⟩,
  ⟨.loc 23, .call (.fn 24) [(.loc 21), (.loc 22)] [.borrow, .borrow], none, []⟩,
  ⟨.var 7, .mv (.loc 23), none, []⟩] false
def c_L_FnExactAgainWrap_3 : ACode := .reg [⟨.loc 24, .mv (.var 7), none, []⟩,
  ⟨.var 25, .bin .int .lss (.loc 24) (.const (.d (.int .i64 0))), none, []⟩] false
def c_L_FnExactAgainWrap_4 : ACode := .reg [⟨.var 6, .mv (.const (.d (.bool true))), none, []⟩] false
def c_L_FnExactAgainWrap_5 : ACode := .reg [⟨.loc 27, .load true 3 (.var 3), none, []⟩,
  ⟨.loc 28, .call (.fn 26) [(.loc 27)] [.borrow], none, []⟩,
  ⟨.loc 29, .mv (.var 1), none, []⟩,
  ⟨.loc 30, .mv (.var 2), none, []⟩,
  ⟨.loc 31, .call (.fn 34) [(.loc 28), (.loc 29), (.loc 30)] [.borrow, .borrow, .borrow], none, []⟩,
  ⟨.loc 26, .mv (.loc 31), none, []⟩,
  ⟨.loc 32, .ext (.loc 26) 0, none, []⟩,
  ⟨.loc 33, .ext (.loc 26) 1, none, []⟩,
  ⟨.loc 34, .ext (.loc 26) 2, none, []⟩,
  ⟨.var 8, .alloc [.d (.int .i64 0), .d (.int .i64 0), .nil 1 6], none, []⟩,
  ⟨.none, .store 3 (.var 8) (.loc 32), none, []⟩,
  ⟨.var 9, .mv (.loc 33), none, []⟩,
  ⟨.var 10, .mv (.loc 34), none, []⟩] false
def c_L_FnExactAgainWrap_6 : ACode := .reg [⟨.loc 35, .load true 3 (.var 3), none, []⟩,
  ⟨.loc 36, .call (.fn 26) [(.loc 35)] [.borrow], none, []⟩,
  ⟨.var 11, .alloc [.d (.int .i64 0), .d (.int .i64 0), .nil 1 6], none, []⟩,
  ⟨.none, .store 3 (.var 11) (.loc 36), none, []⟩] false
def c_L_FnExactAgainWrap_7 : ACode := .reg [⟨.loc 38, .load true 3 (.var 11), none, []⟩,
  ⟨.loc 39, .mv (.var 1), none, []⟩,
  ⟨.loc 40, .mv (.var 2), none, []⟩,
  ⟨.loc 41, .call (.fn 35) [(.loc 38), (.loc 39), (.loc 40)] [.borrow, .borrow, .borrow], none, []⟩,
  ⟨.loc 37, .mv (.loc 41), none, []⟩,
  ⟨.loc 42, .ext (.loc 37) 0, none, []⟩,
  ⟨.loc 43, .ext (.loc 37) 1, none, []⟩,
  ⟨.loc 44, .ext (.loc 37) 2, none, []⟩,
  ⟨.var 12, .alloc [.d (.int .i64 0), .d (.int .i64 0), .nil 1 6], none, []⟩,
  ⟨.none, .store 3 (.var 12) (.loc 42), none, []⟩,
  ⟨.var 13, .mv (.loc 43), none, []⟩,
  ⟨.var 14, .mv (.loc 44), none, []⟩] false
def c_L_FnExactAgainWrap_8 : ACode := .reg [⟨.loc 45, .load true 3 (.var 12), none, []⟩,
  ⟨.loc 46, .load true 3 (.var 8), none, []⟩,
  ⟨.loc 47, .call (.fn 28) [(.loc 45), (.loc 46)] [.borrow, .borrow], none, []⟩,
  ⟨.loc 48, .un .not (.loc 47), none, []⟩,
  ⟨.loc 49, .split (.loc 48), none, []⟩,
  ⟨.loc 50, .mv (.var 13), some ((.loc 49), false), []⟩,
  ⟨.loc 51, .mv (.var 9), some ((.loc 49), false), []⟩,
  ⟨.loc 52, .bin .int .neq (.loc 50) (.loc 51), some ((.loc 49), false), []⟩,
  ⟨.loc 53, .pick (.loc 49) (.const (.d (.bool true))) (.loc 52), none, []⟩,
  ⟨.loc 54, .split (.loc 53), none, []⟩,
  ⟨.loc 55, .mv (.var 14), some ((.loc 54), false), []⟩,
  ⟨.loc 56, .mv (.var 10), some ((.loc 54), false), []⟩,
  ⟨.loc 57, .bin .int .neq (.loc 55) (.loc 56), some ((.loc 54), false), []⟩,
  ⟨.var 58, .pick (.loc 54) (.const (.d (.bool true))) (.loc 57), none, []⟩] false
def c_L_FnExactAgainWrap_9 : ACode := .reg [⟨.var 6, .mv (.const (.d (.bool false))), none, []⟩] false
def c_L_FnExactAgainWrap_10 : ACode := .reg [⟨.loc 59, .load true 3 (.var 11), none, []⟩,
  ⟨.loc 60, .load true 3 (.var 3), none, []⟩,
  ⟨.loc 61, .call (.fn 26) [(.loc 60)] [.borrow], none, [1]⟩,
  ⟨.loc 62, .call (.fn 28) [(.loc 59), (.loc 61)] [.borrow, .borrow], none, [0, 2, 1]⟩,
  ⟨.var 63, .un .not (.loc 62), none, [3, 0, 2, 1]⟩] true
def c_L_FnExactAgainWrap_11 : ACode := .reg [⟨.var 6, .mv (.const (.d (.bool false))), none, []⟩] false
def c_L_FnExactAgainWrap_12 : ACode := .reg [⟨.var 15, .mv (.const (.d (.int .i64 1))), none, []⟩] false
def c_L_FnExactAgainWrap_13 : ACode := .reg [⟨.loc 64, .load true 3 (.var 11), none, []⟩,
  ⟨.loc 65, .mv (.var 15), none, []⟩,
  ⟨.loc 66, .call (.fn 30) [(.loc 64), (.loc 65)] [.lend, .borrow], none, []⟩,
  ⟨.var 15, .mv (.loc 66), none, []⟩] false
def c_L_FnExactAgainWrap_14 : ACode := .reg [⟨.loc 67, .mv (.var 15), none, []⟩,
  ⟨.loc 68, .bin .int .lss (.loc 67) (.const (.d (.int .i64 0))), none, []⟩,
  ⟨.loc 69, .split (.loc 68), none, []⟩,
  ⟨.loc 70, .load true 3 (.var 12), some ((.loc 69), false), []⟩,
  ⟨.loc 71, .load true 3 (.var 8), some ((.loc 69), false), []⟩,
  ⟨.loc 72, .call (.fn 28) [(.loc 70), (.loc 71)] [.borrow, .borrow], some ((.loc 69), false), []⟩,
  ⟨.loc 73, .un .not (.loc 72), some ((.loc 69), false), []⟩,
  ⟨.loc 74, .pick (.loc 69) (.const (.d (.bool true))) (.loc 73), none, []⟩,
  ⟨.loc 75, .split (.loc 74), none, []⟩,
  ⟨.loc 76, .mv (.var 13), some ((.loc 75), false), []⟩,
  ⟨.loc 77, .mv (.var 9), some ((.loc 75), false), []⟩,
  ⟨.loc 78, .bin .int .neq (.loc 76) (.loc 77), some ((.loc 75), false), []⟩,
  ⟨.loc 79, .pick (.loc 75) (.const (.d (.bool true))) (.loc 78), none, []⟩,
  ⟨.loc 80, .split (.loc 79), none, []⟩,
  ⟨.loc 81, .mv (.var 14), some ((.loc 80), false), []⟩,
  ⟨.loc 82, .mv (.var 10), some ((.loc 80), false), []⟩,
  ⟨.loc 83, .bin .int .neq (.loc 81) (.loc 82), some ((.loc 80), false), []⟩,
  ⟨.var 84, .pick (.loc 80) (.const (.d (.bool true))) (.loc 83), none, []⟩] false
def c_L_FnExactAgainWrap_15 : ACode := .reg [⟨.var 6, .mv (.const (.d (.bool false))), none, []⟩] false
def c_L_FnExactAgainWrap_16 : ACode := .reg [⟨.var 16, .mv (.const (.d (.int .i64 1))), none, []⟩] false
def c_L_FnExactAgainWrap_17 : ACode := .reg [⟨.loc 85, .load true 3 (.var 12), none, []⟩,
  ⟨.loc 86, .mv (.var 16), none, []⟩,
  ⟨.loc 87, .call (.fn 30) [(.loc 85), (.loc 86)] [.lend, .borrow], none, []⟩,
  ⟨.var 16, .mv (.loc 87), none, []⟩] false
def c_L_FnExactAgainWrap_18 : ACode := .reg [⟨.var 17, .mv (.const (.d (.int .i64 1))), none, []⟩] false
def c_L_FnExactAgainWrap_19 : ACode := .reg [⟨.loc 88, .load true 3 (.var 12), none, []⟩,
  ⟨.loc 89, .mv (.var 17), none, []⟩,
  ⟨.loc 90, .call (.fn 32) [(.loc 88), (.loc 89)] [.borrow, .borrow], none, []⟩,
  ⟨.var 17, .mv (.loc 90), none, []⟩] false
def c_L_FnExactAgainWrap_20 : ACode := .reg [⟨.loc 91, .mv (.var 17), none, []⟩,
  ⟨.var 92, .bin .int .lss (.loc 91) (.const (.d (.int .i64 0))), none, []⟩] false
def c_L_FnExactAgainWrap_21 : ACode := .reg [⟨.var 6, .mv (.const (.d (.bool false))), none, []⟩] false
def c_L_FnExactAgainWrap_22 : ACode := .reg [⟨.loc 93, .mv (.var 17), none, []⟩,
  ⟨.loc 94, .mv (.var 16), none, []⟩,
  ⟨.var 95, .bin .int .neq (.loc 93) (.loc 94), none, []⟩] false
def c_L_FnExactAgainWrap_23 : ACode := .reg [⟨.var 6, .mv (.const (.d (.bool false))), none, []⟩] false
def c_L_FnExactAgainWrap_24 : ACode := .reg [⟨.loc 97, .load true 3 (.var 3), none, []⟩,
  ⟨.loc 98, .call (.fn 26) [(.loc 97)] [.borrow], none, []⟩,
  ⟨.loc 99, .mv (.var 1), none, []⟩,
  ⟨.loc 100, .mv (.var 2), none, []⟩,
  ⟨.loc 101, .call (.fn 35) [(.loc 98), (.loc 99), (.loc 100)] [.borrow, .borrow, .borrow], none, []⟩,
  ⟨.loc 96, .mv (.loc 101), none, []⟩,
  ⟨.loc 102, .ext (.loc 96) 0, none, []⟩,
  ⟨.loc 103, .ext (.loc 96) 1, none, []⟩,
  ⟨.loc 104, .ext (.loc 96) 2, none, []⟩,
  ⟨.var 18, .alloc [.d (.int .i64 0), .d (.int .i64 0), .nil 1 6], none, []⟩,
  ⟨.none, .store 3 (.var 18) (.loc 102), none, []⟩,
  ⟨.var 19, .mv (.loc 103), none, []⟩,
  ⟨.var 20, .mv (.loc 104), none, []⟩] false
def c_L_FnExactAgainWrap_25 : ACode := .reg [⟨.loc 105, .load true 3 (.var 18), none, []⟩,
  ⟨.loc 106, .load true 3 (.var 8), none, []⟩,
  ⟨.loc 107, .call (.fn 28) [(.loc 105), (.loc 106)] [.borrow, .borrow], none, []⟩,
  ⟨.loc 108, .un .not (.loc 107), none, []⟩,
  ⟨.loc 109, .split (.loc 108), none, []⟩,
  ⟨.loc 110, .mv (.var 19), some ((.loc 109), false), []⟩,
  ⟨.loc 111, .mv (.var 9), some ((.loc 109), false), []⟩,
  ⟨.loc 112, .bin .int .neq (.loc 110) (.loc 111), some ((.loc 109), false), []⟩,
  ⟨.loc 113, .pick (.loc 109) (.const (.d (.bool true))) (.loc 112), none, []⟩,
  ⟨.loc 114, .split (.loc 113), none, []⟩,
  ⟨.loc 115, .mv (.var 20), some ((.loc 114), false), []⟩,
  ⟨.loc 116, .mv (.var 10), some ((.loc 114), false), []⟩,
  ⟨.loc 117, .bin .int .neq (.loc 115) (.loc 116), some ((.loc 114), false), []⟩,
  ⟨.var 118, .pick (.loc 114) (.const (.d (.bool true))) (.loc 117), none, []⟩] false
def c_L_FnExactAgainWrap_26 : ACode := .reg [⟨.var 6, .mv (.const (.d (.bool false))), none, []⟩] false
def c_L_FnExactAgainWrap_27 : ACode := .reg [⟨.var 17, .mv (.const (.d (.int .i64 1))), none, []⟩] false
def c_L_FnExactAgainWrap_28 : ACode := .reg [⟨.loc 119, .load true 3 (.var 12), none, []⟩,
  ⟨.loc 120, .mv (.var 17), none, []⟩,
  ⟨.loc 121, .call (.fn 32) [(.loc 119), (.loc 120)] [.borrow, .borrow], none, []⟩,
  ⟨.var 17, .mv (.loc 121), none, []⟩] false
def c_L_FnExactAgainWrap_29 : ACode := .reg [⟨.loc 122, .mv (.var 17), none, []⟩,
  ⟨.var 123, .bin .int .lss (.loc 122) (.const (.d (.int .i64 0))), none, []⟩] false
def c_L_FnExactAgainWrap_30 : ACode := .reg [⟨.var 6, .mv (.const (.d (.bool false))), none, []⟩] false
def c_L_FnExactAgainWrap_31 : ACode := .reg [⟨.loc 124, .mv (.var 17), none, []⟩,
  ⟨.loc 125, .mv (.var 16), none, []⟩,
  ⟨.var 126, .bin .int .neq (.loc 124) (.loc 125), none, []⟩] false
def c_L_FnExactAgainWrap_32 : ACode := .reg [⟨.var 6, .mv (.const (.d (.bool false))), none, []⟩] false
def c_L_FnExactAgainWrap_33 : ACode := .reg [⟨.var 6, .mv (.const (.d (.bool true))), none, []⟩] false
def c_L_FnExactAgainWrap : ACode := (.seq c_L_FnExactAgainWrap_0 (.seq c_L_FnExactAgainWrap_1 (.seq c_L_FnExactAgainWrap_2 (.seq (.seq c_L_FnExactAgainWrap_3 (.cond (.var 25) (.seq c_L_FnExactAgainWrap_4 .ret) .skip)) (.seq c_L_FnExactAgainWrap_5 (.seq c_L_FnExactAgainWrap_6 (.seq c_L_FnExactAgainWrap_7 (.seq (.seq c_L_FnExactAgainWrap_8 (.cond (.var 58) (.seq c_L_FnExactAgainWrap_9 .ret) .skip)) (.seq (.seq c_L_FnExactAgainWrap_10 (.cond (.var 63) (.seq c_L_FnExactAgainWrap_11 .ret) .skip)) (.seq c_L_FnExactAgainWrap_12 (.seq c_L_FnExactAgainWrap_13 (.seq (.seq c_L_FnExactAgainWrap_14 (.cond (.var 84) (.seq c_L_FnExactAgainWrap_15 .ret) .skip)) (.seq c_L_FnExactAgainWrap_16 (.seq c_L_FnExactAgainWrap_17 (.seq c_L_FnExactAgainWrap_18 (.seq c_L_FnExactAgainWrap_19 (.seq (.seq c_L_FnExactAgainWrap_20 (.cond (.var 92) (.seq c_L_FnExactAgainWrap_21 .ret) .skip)) (.seq (.seq c_L_FnExactAgainWrap_22 (.cond (.var 95) (.seq c_L_FnExactAgainWrap_23 .ret) .skip)) (.seq c_L_FnExactAgainWrap_24 (.seq (.seq c_L_FnExactAgainWrap_25 (.cond (.var 118) (.seq c_L_FnExactAgainWrap_26 .ret) .skip)) (.seq c_L_FnExactAgainWrap_27 (.seq c_L_FnExactAgainWrap_28 (.seq (.seq c_L_FnExactAgainWrap_29 (.cond (.var 123) (.seq c_L_FnExactAgainWrap_30 .ret) .skip)) (.seq (.seq c_L_FnExactAgainWrap_31 (.cond (.var 126) (.seq c_L_FnExactAgainWrap_32 .ret) .skip)) (.seq c_L_FnExactAgainWrap_33 .ret)))))))))))))))))))))))))
abbrev F_L_FnExactAgainWrap : FuncId := 7
theorem k_L_FnExactAgainWrap : comp PP (Tryd.f7.ntmps, pinOf 0 [none, none, none]) [0, 1, 2, 3, 6, 7, 8, 9, 10, 11, 12, 13, 14, 15, 16, 17, 18, 19, 20, 25, 58, 63, 84, 92, 95, 118, 123, 126] (Tryd.f7.body.getD .skip) = some c_L_FnExactAgainWrap.erase := by kernel_rfl
theorem v_L_FnExactAgainWrap {GG : GV} (rcs : List C) {cs : List C} {r : C} {os : List (Option C)} (hN : (cs.length == 3 && rcs.length == 1) = true) (hret : retOf rcs = r)
    (hW : W PP [0, 1, 2, 3, 6, 7, 8, 9, 10, 11, 12, 13, 14, 15, 16, 17, 18, 19, 20, 25, 58, 63, 84, 92, 95, 118, 123, 126] (Tryd.f7.ntmps, pinOf 0 [none, none, none]) (Valid PP GG) c_L_FnExactAgainWrap (entry cs) (Fin (Valid PP GG) [(.give, 6, none)] [none, none, none] rcs os) (fun _ _ => False) (Fin (Valid PP GG) [(.give, 6, none)] [none, none, none] rcs os)) : Valid PP GG F_L_FnExactAgainWrap cs r os :=
  fn_valid_n 3 1 [0, 1, 2, 3, 6, 7, 8, 9, 10, 11, 12, 13, 14, 15, 16, 17, 18, 19, 20, 25, 58, 63, 84, 92, 95, 118, 123, 126] c_L_FnExactAgainWrap [(.give, 6, none)] [none, none, none] rcs Tryd.func7 rfl rfl (by kernel_rfl) k_L_FnExactAgainWrap rfl rfl hN hret hW
def c_L_szRack_0 : ACode := .reg [⟨.var 2, .box (.var 0), none, []⟩,
  ⟨.var 4, .mv (.const (.d (.int .i64 0))), none, []⟩] false
def c_L_szRack_1 : ACode := .reg [⟨.loc 5, .fld 2 (.var 2), none, []⟩,
  ⟨.loc 6, .load false 1 (.loc 5), none, []⟩,
  ⟨.loc 7, .mv (.var 1), none, []⟩,
  ⟨.loc 8, .call (.fn 62) [(.loc 6), (.loc 7)] [.borrow, .borrow], none, []⟩,
  ⟨.var 1, .mv (.loc 8), none, []⟩] false
def c_L_szRack_2 : ACode := .reg [⟨.loc 9, .mv (.var 1), none, []⟩,
  ⟨.var 10, .bin .int .lss (.loc 9) (.const (.d (.int .i64 0))), none, []⟩] false
def c_L_szRack_3 : ACode := .reg [⟨.var 4, .mv (.const (.d (.int .i64 (-1)))), none, []⟩] false
def c_L_szRack_4 : ACode := .reg [⟨.loc 11, .mv (.var 1), none, []⟩,
  ⟨.var 4, .mv (.loc 11), none, []⟩] false
def c_L_szRack : ACode := (.seq c_L_szRack_0 (.seq c_L_szRack_1 (.seq (.seq c_L_szRack_2 (.cond (.var 10) (.seq c_L_szRack_3 .ret) .skip)) (.seq c_L_szRack_4 .ret))))
abbrev F_L_szRack : FuncId := 24
theorem k_L_szRack : comp PP (Tryd.f24.ntmps, pinOf 0 [none, none]) [0, 1, 2, 4, 10] (Tryd.f24.body.getD .skip) = some c_L_szRack.erase := by kernel_rfl
theorem v_L_szRack {GG : GV} (rcs : List C) {cs : List C} {r : C} {os : List (Option C)} (hN : (cs.length == 2 && rcs.length == 1) = true) (hret : retOf rcs = r)
    (hW : W PP [0, 1, 2, 4, 10] (Tryd.f24.ntmps, pinOf 0 [none, none]) (Valid PP GG) c_L_szRack (entry cs) (Fin (Valid PP GG) [(.give, 4, none)] [none, none] rcs os) (fun _ _ => False) (Fin (Valid PP GG) [(.give, 4, none)] [none, none] rcs os)) : Valid PP GG F_L_szRack cs r os :=
  fn_valid_n 2 1 [0, 1, 2, 4, 10] c_L_szRack [(.give, 4, none)] [none, none] rcs Tryd.func24 rfl rfl (by kernel_rfl) k_L_szRack rfl rfl hN hret hW
def c_S_OpenWrap_0 : ACode := .reg [⟨.var 3, .box (.var 0), none, []⟩,
  ⟨.var 6, .alloc [.d (.int .i64 0), .d (.int .i64 0), .nil 1 6], none, []⟩,
  ⟨.var 7, .mv (.const (.nil 0 1)), none, []⟩,
  ⟨.var 8, .mv (.const (.d (.int .i64 0))), none, []⟩] false
def c_S_OpenWrap_1 : ACode := .reg [⟨.loc 12, .load true 3 (.var 3), none, []⟩,
  ⟨.loc 13, .call (.fn 63) [(.loc 12)] [.borrow], none, []⟩,
  ⟨.loc 14, .un .not (.loc 13), none, []⟩,
  ⟨.loc 15, .split (.loc 14), none, []⟩,
  ⟨.loc 16, .mv (.var 2), some ((.loc 15), false), []⟩,
  ⟨.loc 17, .call (.fn 64) [(.loc 16), (.const (.d (.int .i64 0))), (.const (.d (.int .i64 1000000000)))] [.borrow, .borrow, .borrow], some ((.loc 15), false), []⟩,
  ⟨.loc 18, .un .not (.loc 17), some ((.loc 15), false), []⟩,
  ⟨.var 19, .pick (.loc 15) (.const (.d (.bool true))) (.loc 18), none, []⟩] false
def c_S_OpenWrap_2 : ACode := .reg [⟨.loc 20, .load true 3 (.var 3), none, []⟩,
  ⟨.loc 21, .call (.fn 65) [(.loc 20)] [.borrow], none, []⟩,
  ⟨.none, .store 3 (.var 6) (.loc 21), none, []⟩,
  ⟨.var 7, .mv (.const (.nil 0 1)), none, []⟩,
  ⟨.var 8, .mv (.const (.d (.int .i64 1))), none, []⟩] false
def c_S_OpenWrap_3 : ACode := .reg [⟨.loc 22, .load true 3 (.var 3), none, []⟩,
  ⟨.loc 23, .mv (.var 1), none, []⟩,
  ⟨.loc 24, .call (.fn 66) [(.loc 22), (.loc 23)] [.borrow, .borrow], none, []⟩,
  ⟨.var 9, .mv (.loc 24), none, []⟩] false
def c_S_OpenWrap_4 : ACode := .reg [⟨.loc 25, .mv (.var 9), none, []⟩,
  ⟨.var 26, .bin .int .lss (.loc 25) (.const (.d (.int .i64 0))), none, []⟩] false
def c_S_OpenWrap_5 : ACode := .reg [⟨.loc 27, .load true 3 (.var 3), none, []⟩,
  ⟨.loc 28, .call (.fn 65) [(.loc 27)] [.borrow], none, []⟩,
  ⟨.none, .store 3 (.var 6) (.loc 28), none, []⟩,
  ⟨.var 7, .mv (.const (.nil 0 1)), none, []⟩,
  ⟨.var 8, .mv (.const (.d (.int .i64 2))), none, []⟩] false
def c_S_OpenWrap_6 : ACode := .reg [⟨.loc 29, .fld 2 (.var 3), none, []⟩,
  ⟨.loc 30, .load false 1 (.loc 29), none, []⟩,
  ⟨.loc 31, .mv (.var 9), none, []⟩,
  ⟨.loc 32, .idxA 6 (.loc 30) (.loc 31), none, []⟩,
  ⟨.loc 33, .fld 1 (.loc 32), none, []⟩,
  ⟨.loc 34, .load false 1 (.loc 33), none, []⟩,
  ⟨.loc 35, .mv (.var 2), none, []⟩,
  ⟨.var 36, .bin .int .leq (.loc 34) (.loc 35), none, []⟩] false
def c_S_OpenWrap_7 : ACode := .reg [⟨.loc 37, .load true 3 (.var 3), none, []⟩,
  ⟨.loc 38, .mv (.var 1), none, []⟩,
  ⟨.loc 39, .call (.fn 67) [(.loc 37), (.loc 38)] [.borrow, .borrow], none, []⟩,
  ⟨.none, .store 3 (.var 6) (.loc 39), none, []⟩,
  ⟨.var 7, .mv (.const (.nil 0 1)), none, []⟩,
  ⟨.var 8, .mv (.const (.d (.int .i64 3))), none, []⟩] false
def c_S_OpenWrap_8 : ACode := .reg [⟨.loc 41, .fld 0 (.var 3), none, []⟩,
  ⟨.loc 42, .load false 1 (.loc 41), none, [0]⟩,
  ⟨.loc 43, .fld 2 (.var 3), none, []⟩,
  ⟨.loc 44, .load false 1 (.loc 43), none, [2]⟩,
  ⟨.loc 45, .mv (.var 9), none, []⟩,
  ⟨.loc 46, .idxA 6 (.loc 44) (.loc 45), none, [3, 2, 4]⟩,
  ⟨.loc 47, .fld 3 (.loc 46), none, [5, 3, 2, 4]⟩,
  ⟨.loc 48, .load true 3 (.loc 47), none, [6, 5, 3, 2, 4]⟩,
  ⟨.loc 49, .call (.fn 68) [(.loc 42), (.loc 48)] [.borrow, .borrow], none, [1, 0, 7, 6, 5, 3, 2, 4]⟩,
  ⟨.loc 40, .mv (.loc 49), none, [8, 1, 0, 7, 6, 5, 3, 2, 4]⟩,
  ⟨.loc 50, .ext (.loc 40) 0, none, [9, 8, 1, 0, 7, 6, 5, 3, 2, 4]⟩,
  ⟨.loc 51, .ext (.loc 40) 1, none, [9, 8, 1, 0, 7, 6, 5, 3, 2, 4]⟩,
  ⟨.var 10, .mv (.loc 50), none, [10, 9, 8, 1, 0, 7, 6, 5, 3, 2, 4]⟩,
  ⟨.var 11, .mv (.loc 51), none, [11, 12, 10, 9, 8, 1, 0, 7, 6, 5, 3, 2, 4]⟩] true
def c_S_OpenWrap_9 : ACode := .reg [⟨.loc 52, .mv (.var 11), none, []⟩,
  ⟨.var 53, .un .not (.loc 52), none, []⟩] false
def c_S_OpenWrap_10 : ACode := .reg [⟨.loc 54, .load true 3 (.var 3), none, []⟩,
  ⟨.loc 55, .mv (.var 1), none, []⟩,
  ⟨.loc 56, .call (.fn 67) [(.loc 54), (.loc 55)] [.borrow, .borrow], none, []⟩,
  ⟨.none, .store 3 (.var 6) (.loc 56), none, []⟩,
  ⟨.var 7, .mv (.const (.nil 0 1)), none, []⟩,
  ⟨.var 8, .mv (.const (.d (.int .i64 4))), none, []⟩] false
def c_S_OpenWrap_11 : ACode := .reg [⟨.loc 57, .load true 3 (.var 3), none, []⟩,
  ⟨.loc 58, .mv (.var 1), none, []⟩,
  ⟨.loc 59, .call (.fn 67) [(.loc 57), (.loc 58)] [.borrow, .borrow], none, []⟩,
  ⟨.loc 60, .mv (.var 10), none, []⟩,
  ⟨.none, .store 3 (.var 6) (.loc 59), none, []⟩,
  ⟨.var 7, .mv (.loc 60), none, []⟩,
  ⟨.var 8, .mv (.const (.d (.int .i64 0))), none, []⟩] false
def c_S_OpenWrap : ACode := (.seq c_S_OpenWrap_0 (.seq (.seq c_S_OpenWrap_1 (.cond (.var 19) (.seq c_S_OpenWrap_2 .ret) .skip)) (.seq c_S_OpenWrap_3 (.seq (.seq c_S_OpenWrap_4 (.cond (.var 26) (.seq c_S_OpenWrap_5 .ret) .skip)) (.seq (.seq c_S_OpenWrap_6 (.cond (.var 36) (.seq c_S_OpenWrap_7 .ret) .skip)) (.seq c_S_OpenWrap_8 (.seq (.seq c_S_OpenWrap_9 (.cond (.var 53) (.seq c_S_OpenWrap_10 .ret) .skip)) (.seq c_S_OpenWrap_11 .ret))))))))
abbrev F_S_OpenWrap : FuncId := 25
theorem k_S_OpenWrap : comp PP (Tryd.f25.ntmps, pinOf 0 [none, none, none]) [0, 1, 2, 3, 6, 7, 8, 9, 10, 11, 19, 26, 36, 53] (Tryd.f25.body.getD .skip) = some c_S_OpenWrap.erase := by kernel_rfl
theorem v_S_OpenWrap {GG : GV} (rcs : List C) {cs : List C} {r : C} {os : List (Option C)} (hN : (cs.length == 3 && rcs.length == 3) = true) (hret : retOf rcs = r)
    (hW : W PP [0, 1, 2, 3, 6, 7, 8, 9, 10, 11, 19, 26, 36, 53] (Tryd.f25.ntmps, pinOf 0 [none, none, none]) (Valid PP GG) c_S_OpenWrap (entry cs) (Fin (Valid PP GG) [(.give, 6, some (true, 3)), (.give, 7, none), (.give, 8, none)] [none, none, none] rcs os) (fun _ _ => False) (Fin (Valid PP GG) [(.give, 6, some (true, 3)), (.give, 7, none), (.give, 8, none)] [none, none, none] rcs os)) : Valid PP GG F_S_OpenWrap cs r os :=
  fn_valid_n 3 3 [0, 1, 2, 3, 6, 7, 8, 9, 10, 11, 19, 26, 36, 53] c_S_OpenWrap [(.give, 6, some (true, 3)), (.give, 7, none), (.give, 8, none)] [none, none, none] rcs Tryd.func25 rfl rfl (by kernel_rfl) k_S_OpenWrap rfl rfl hN hret hW
def c_L_toRack_0 : ACode := .reg [⟨.var 1, .box (.var 0), none, []⟩,
  ⟨.var 2, .alloc [.d (.int .i64 0), .d (.int .i64 0), .nil 1 6], none, []⟩] false
def c_L_toRack_1 : ACode := .reg [⟨.var 3, .alloc [.d (.int .i64 0), .d (.int .i64 0), .nil 1 6], none, []⟩] false
def c_L_toRack_2 : ACode := .reg [⟨.loc 4, .fld 0 (.var 1), none, []⟩,
  ⟨.loc 5, .load false 1 (.loc 4), none, []⟩,
  ⟨.loc 6, .fld 0 (.var 3), none, []⟩,
  ⟨.none, .store 1 (.loc 6) (.loc 5), none, []⟩] false
def c_L_toRack_3 : ACode := .reg [⟨.loc 7, .fld 1 (.var 1), none, []⟩,
  ⟨.loc 8, .load false 1 (.loc 7), none, []⟩,
  ⟨.loc 9, .fld 1 (.var 3), none, []⟩,
  ⟨.none, .store 1 (.loc 9) (.loc 8), none, []⟩] false
def c_L_toRack_4 : ACode := .reg [⟨.loc 10, .fld 2 (.var 1), none, []⟩,
  ⟨.loc 11, .load false 1 (.loc 10), none, []⟩,
  ⟨.loc 12, .call (.fn 69) [(.loc 11)] [.borrow], none, []⟩,
  ⟨.loc 13, .fld 2 (.var 3), none, []⟩,
  ⟨.none, .store 1 (.loc 13) (.loc 12), none, []⟩] false
def c_L_toRack_5 : ACode := .reg [⟨.loc 14, .load true 3 (.var 3), none, []⟩,
  ⟨.none, .store 3 (.var 2) (.loc 14), none, []⟩] false
def c_L_toRack : ACode := (.seq c_L_toRack_0 (.seq c_L_toRack_1 (.seq c_L_toRack_2 (.seq c_L_toRack_3 (.seq c_L_toRack_4 (.seq c_L_toRack_5 .ret))))))
abbrev F_L_toRack : FuncId := 26
theorem k_L_toRack : comp PP (Tryd.f26.ntmps, pinOf 0 [none]) [0, 1, 2, 3] (Tryd.f26.body.getD .skip) = some c_L_toRack.erase := by kernel_rfl
theorem v_L_toRack {GG : GV} (rcs : List C) {cs : List C} {r : C} {os : List (Option C)} (hN : (cs.length == 1 && rcs.length == 1) = true) (hret : retOf rcs = r)
    (hW : W PP [0, 1, 2, 3] (Tryd.f26.ntmps, pinOf 0 [none]) (Valid PP GG) c_L_toRack (entry cs) (Fin (Valid PP GG) [(.give, 2, some (true, 3))] [none] rcs os) (fun _ _ => False) (Fin (Valid PP GG) [(.give, 2, some (true, 3))] [none] rcs os)) : Valid PP GG F_L_toRack cs r os :=
  fn_valid_n 1 1 [0, 1, 2, 3] c_L_toRack [(.give, 2, some (true, 3))] [none] rcs Tryd.func26 rfl rfl (by kernel_rfl) k_L_toRack rfl rfl hN hret hW
def c_I_OpenWrap_0 : ACode := .reg [⟨.var 3, .box (.var 0), none, []⟩,
  ⟨.var 6, .alloc [.d (.int .i64 0), .d (.int .i64 0), .nil 1 6], none, []⟩,
  ⟨.var 7, .mv (.const (.nil 0 1)), none, []⟩,
  ⟨.var 8, .mv (.const (.d (.int .i64 0))), none, []⟩] false
def c_I_OpenWrap_1 : ACode := .reg [⟨.loc 9, .load true 3 (.var 3), none, []⟩,
  ⟨.loc 10, .call (.fn 70) [(.loc 9)] [.borrow], none, []⟩,
  ⟨.loc 11, .un .not (.loc 10), none, []⟩,
  ⟨.loc 12, .split (.loc 11), none, []⟩,
  ⟨.loc 13, .mv (.var 2), some ((.loc 12), false), []⟩,
  ⟨.loc 14, .call (.fn 71) [(.loc 13), (.const (.d (.int .i64 0))), (.const (.d (.int .i64 1000000000)))] [.borrow, .borrow, .borrow], some ((.loc 12), false), []⟩,
  ⟨.loc 15, .un .not (.loc 14), some ((.loc 12), false), []⟩,
  ⟨.var 16, .pick (.loc 12) (.const (.d (.bool true))) (.loc 15), none, []⟩] false
def c_I_OpenWrap_2 : ACode := .reg [⟨.loc 17, .load true 3 (.var 3), none, []⟩,
  ⟨.loc 18, .call (.fn 72) [(.loc 17)] [.borrow], none, []⟩,
  ⟨.none, .store 3 (.var 6) (.loc 18), none, []⟩,
  ⟨.var 7, .mv (.const (.nil 0 1)), none, []⟩,
  ⟨.var 8, .mv (.const (.d (.int .i64 1))), none, []⟩] false
def c_I_OpenWrap_3 : ACode := .reg [⟨.loc 19, .load true 3 (.var 3), none, []⟩,
  ⟨.loc 20, .mv (.var 1), none, []⟩,
  ⟨.loc 21, .mv (.var 2), none, []⟩,
  ⟨.loc 22, .call (.fn 73) [(.loc 19), (.loc 20), (.loc 21)] [.borrow, .borrow, .borrow], none, []⟩,
  ⟨.loc 23, .ext (.loc 22) 0, none, []⟩,
  ⟨.loc 24, .ext (.loc 22) 1, none, []⟩,
  ⟨.loc 25, .ext (.loc 22) 2, none, []⟩,
  ⟨.none, .store 3 (.var 6) (.loc 23), none, []⟩,
  ⟨.var 7, .mv (.loc 24), none, []⟩,
  ⟨.var 8, .mv (.loc 25), none, []⟩] false
def c_I_OpenWrap : ACode := (.seq c_I_OpenWrap_0 (.seq (.seq c_I_OpenWrap_1 (.cond (.var 16) (.seq c_I_OpenWrap_2 .ret) .skip)) (.seq c_I_OpenWrap_3 .ret)))
abbrev F_I_OpenWrap : FuncId := 27
theorem k_I_OpenWrap : comp PP (Tryd.f27.ntmps, pinOf 0 [none, none, none]) [0, 1, 2, 3, 6, 7, 8, 16] (Tryd.f27.body.getD .skip) = some c_I_OpenWrap.erase := by kernel_rfl
theorem v_I_OpenWrap {GG : GV} (rcs : List C) {cs : List C} {r : C} {os : List (Option C)} (hN : (cs.length == 3 && rcs.length == 3) = true) (hret : retOf rcs = r)
    (hW : W PP [0, 1, 2, 3, 6, 7, 8, 16] (Tryd.f27.ntmps, pinOf 0 [none, none, none]) (Valid PP GG) c_I_OpenWrap (entry cs) (Fin (Valid PP GG) [(.give, 6, some (true, 3)), (.give, 7, none), (.give, 8, none)] [none, none, none] rcs os) (fun _ _ => False) (Fin (Valid PP GG) [(.give, 6, some (true, 3)), (.give, 7, none), (.give, 8, none)] [none, none, none] rcs os)) : Valid PP GG F_I_OpenWrap cs r os :=
  fn_valid_n 3 3 [0, 1, 2, 3, 6, 7, 8, 16] c_I_OpenWrap [(.give, 6, some (true, 3)), (.give, 7, none), (.give, 8, none)] [none, none, none] rcs Tryd.func27 rfl rfl (by kernel_rfl) k_I_OpenWrap rfl rfl hN hret hW
def c_L_eqRack_0 : ACode := .reg [⟨.var 2, .box (.var 0), none, []⟩,
  ⟨.var 3, .box (.var 1), none, []⟩,
  ⟨.var 4, .mv (.const (.d (.bool false))), none, []⟩] false
def c_L_eqRack_1 : ACode := .reg [⟨.loc 5, .fld 0 (.var 2), none, []⟩,
  ⟨.loc 6, .load false 1 (.loc 5), none, []⟩,
  ⟨.loc 7, .fld 0 (.var 3), none, []⟩,
  ⟨.loc 8, .load false 1 (.loc 7), none, []⟩,
  ⟨.var 9, .bin .int .neq (.loc 6) (.loc 8), none, []⟩] false
def c_L_eqRack_2 : ACode := .reg [⟨.var 4, .mv (.const (.d (.bool false))), none, []⟩] false
def c_L_eqRack_3 : ACode := .reg [⟨.loc 10, .fld 1 (.var 2), none, []⟩,
  ⟨.loc 11, .load false 1 (.loc 10), none, []⟩,
  ⟨.loc 12, .fld 1 (.var 3), none, []⟩,
  ⟨.loc 13, .load false 1 (.loc 12), none, []⟩,
  ⟨.var 14, .bin .int .neq (.loc 11) (.loc 13), none, []⟩] false
def c_L_eqRack_4 : ACode := .reg [⟨.var 4, .mv (.const (.d (.bool false))), none, []⟩] false
def c_L_eqRack_5 : ACode := .reg [⟨.loc 15, .fld 2 (.var 2), none, []⟩,
  ⟨.loc 16, .load false 1 (.loc 15), none, []⟩,
  ⟨.loc 17, .fld 2 (.var 3), none, []⟩,
  ⟨.loc 18, .load false 1 (.loc 17), none, []⟩,
  ⟨.loc 19, .call (.fn 74) [(.loc 16), (.loc 18)] [.borrow, .borrow], none, []⟩,
  ⟨.var 20, .un .not (.loc 19), none, []⟩] false
def c_L_eqRack_6 : ACode := .reg [⟨.var 4, .mv (.const (.d (.bool false))), none, []⟩] false
def c_L_eqRack_7 : ACode := .reg [⟨.var 4, .mv (.const (.d (.bool true))), none, []⟩] false
def c_L_eqRack : ACode := (.seq c_L_eqRack_0 (.seq (.seq c_L_eqRack_1 (.cond (.var 9) (.seq c_L_eqRack_2 .ret) .skip)) (.seq (.seq c_L_eqRack_3 (.cond (.var 14) (.seq c_L_eqRack_4 .ret) .skip)) (.seq (.seq c_L_eqRack_5 (.cond (.var 20) (.seq c_L_eqRack_6 .ret) .skip)) (.seq c_L_eqRack_7 .ret)))))
abbrev F_L_eqRack : FuncId := 28
theorem k_L_eqRack : comp PP (Tryd.f28.ntmps, pinOf 0 [none, none]) [0, 1, 2, 3, 4, 9, 14, 20] (Tryd.f28.body.getD .skip) = some c_L_eqRack.erase := by kernel_rfl
theorem v_L_eqRack {GG : GV} (rcs : List C) {cs : List C} {r : C} {os : List (Option C)} (hN : (cs.length == 2 && rcs.length == 1) = true) (hret : retOf rcs = r)
    (hW : W PP [0, 1, 2, 3, 4, 9, 14, 20] (Tryd.f28.ntmps, pinOf 0 [none, none]) (Valid PP GG) c_L_eqRack (entry cs) (Fin (Valid PP GG) [(.give, 4, none)] [none, none] rcs os) (fun _ _ => False) (Fin (Valid PP GG) [(.give, 4, none)] [none, none] rcs os)) : Valid PP GG F_L_eqRack cs r os :=
  fn_valid_n 2 1 [0, 1, 2, 3, 4, 9, 14, 20] c_L_eqRack [(.give, 4, none)] [none, none] rcs Tryd.func28 rfl rfl (by kernel_rfl) k_L_eqRack rfl rfl hN hret hW
def c_L_eqByteS_0 : ACode := .reg [⟨.var 4, .mv (.const (.d (.bool false))), none, []⟩] false
def c_L_eqByteS_1 : ACode := .reg [⟨.loc 6, .mv (.var 0), none, []⟩,
  ⟨.loc 7, .len false (.loc 6), none, []⟩,
  ⟨.loc 8, .mv (.var 1), none, []⟩,
  ⟨.loc 9, .len false (.loc 8), none, []⟩,
  ⟨.var 10, .bin .int .neq (.loc 7) (.loc 9), none, []⟩] false
def c_L_eqByteS_2 : ACode := .reg [⟨.var 4, .mv (.const (.d (.bool false))), none, []⟩] false
def c_L_eqByteS_3 : ACode := .reg [⟨.var 5, .mv (.const (.d (.int .i64 0))), none, []⟩] false
def c_L_eqByteS_4 : ACode := .reg [⟨.loc 11, .mv (.var 5), none, []⟩,
  ⟨.loc 12, .mv (.var 0), none, []⟩,
  ⟨.loc 13, .len false (.loc 12), none, []⟩,
  ⟨.var 14, .bin .int .lss (.loc 11) (.loc 13), none, []⟩] false
def c_L_eqByteS_5 : ACode := .reg [⟨.loc 17, .mv (.var 0), none, []⟩,
  ⟨.loc 18, .mv (.var 5), none, []⟩,
  ⟨.loc 19, .idxA 1 (.loc 17) (.loc 18), none, [0, 1]⟩,
  ⟨.loc 20, .load false 1 (.loc 19), none, [2, 0, 1]⟩,
  ⟨.loc 21, .mv (.var 1), none, []⟩,
  ⟨.loc 22, .mv (.var 5), none, []⟩,
  ⟨.loc 23, .idxA 1 (.loc 21) (.loc 22), none, [4, 5]⟩,
  ⟨.loc 24, .load false 1 (.loc 23), none, [6, 4, 5]⟩,
  ⟨.var 25, .bin .int .neq (.loc 20) (.loc 24), none, [3, 2, 0, 1, 7, 6, 4, 5]⟩] true
def c_L_eqByteS_6 : ACode := .reg [⟨.var 4, .mv (.const (.d (.bool false))), none, []⟩] false
def c_L_eqByteS_7 : ACode := .reg [⟨.loc 15, .mv (.var 5), none, []⟩,
  ⟨.loc 16, .bin .int .add (.loc 15) (.const (.d (.int .i64 1))), none, []⟩,
  ⟨.var 5, .mv (.loc 16), none, []⟩] false
def c_L_eqByteS_8 : ACode := (.seq (.seq c_L_eqByteS_4 (.cond (.var 14) .skip (.exit 0))) (.seq (.block 1 (.seq c_L_eqByteS_5 (.cond (.var 25) (.seq c_L_eqByteS_6 .ret) .skip))) c_L_eqByteS_7))
def c_L_eqByteS_9 : ACode := .reg [⟨.var 4, .mv (.const (.d (.bool true))), none, []⟩] false
def c_L_eqByteS : ACode := (.seq c_L_eqByteS_0 (.seq (.seq c_L_eqByteS_1 (.cond (.var 10) (.seq c_L_eqByteS_2 .ret) .skip)) (.seq (.seq c_L_eqByteS_3 (.block 0 (.loop [0, 1, 5] c_L_eqByteS_8))) (.seq c_L_eqByteS_9 .ret))))
abbrev F_L_eqByteS : FuncId := 29
theorem k_L_eqByteS : comp PP (Tryd.f29.ntmps, pinOf 0 [none, none]) [0, 1, 4, 5, 10, 14, 25] (Tryd.f29.body.getD .skip) = some c_L_eqByteS.erase := by kernel_rfl
theorem v_L_eqByteS {GG : GV} (rcs : List C) {cs : List C} {r : C} {os : List (Option C)} (hN : (cs.length == 2 && rcs.length == 1) = true) (hret : retOf rcs = r)
    (hW : W PP [0, 1, 4, 5, 10, 14, 25] (Tryd.f29.ntmps, pinOf 0 [none, none]) (Valid PP GG) c_L_eqByteS (entry cs) (Fin (Valid PP GG) [(.give, 4, none)] [none, none] rcs os) (fun _ _ => False) (Fin (Valid PP GG) [(.give, 4, none)] [none, none] rcs os)) : Valid PP GG F_L_eqByteS cs r os :=
  fn_valid_n 2 1 [0, 1, 4, 5, 10, 14, 25] c_L_eqByteS [(.give, 4, none)] [none, none] rcs Tryd.func29 rfl rfl (by kernel_rfl) k_L_eqByteS rfl rfl hN hret hW
def c_L_markRack_0 : ACode := .reg [⟨.var 2, .box (.var 0), none, []⟩,
  ⟨.var 4, .mv (.const (.d (.int .i64 0))), none, []⟩] false
def c_L_markRack_1 : ACode := .reg [⟨.loc 5, .fld 2 (.var 2), none, []⟩,
  ⟨.loc 6, .load false 1 (.loc 5), none, []⟩,
  ⟨.loc 7, .mv (.var 1), none, []⟩,
  ⟨.loc 8, .call (.fn 75) [(.loc 6), (.loc 7)] [.lend, .borrow], none, []⟩,
  ⟨.var 1, .mv (.loc 8), none, []⟩] false
def c_L_markRack_2 : ACode := .reg [⟨.loc 9, .mv (.var 1), none, []⟩,
  ⟨.var 4, .mv (.loc 9), none, []⟩] false
def c_L_markRack : ACode := (.seq c_L_markRack_0 (.seq c_L_markRack_1 (.seq c_L_markRack_2 .ret)))
abbrev F_L_markRack : FuncId := 30
theorem k_L_markRack : comp PP (Tryd.f30.ntmps, pinOf 0 [some .give, none]) [0, 1, 2, 4] (Tryd.f30.body.getD .skip) = some c_L_markRack.erase := by kernel_rfl
theorem v_L_markRack {GG : GV} (rcs : List C) {cs : List C} {r : C} {os : List (Option C)} (hN : (cs.length == 2 && rcs.length == 1) = true) (hret : retOf rcs = r)
    (hW : W PP [0, 1, 2, 4] (Tryd.f30.ntmps, pinOf 0 [some .give, none]) (Valid PP GG) c_L_markRack (entry cs) (Fin (Valid PP GG) [(.give, 4, none)] [some .give, none] rcs os) (fun _ _ => False) (Fin (Valid PP GG) [(.give, 4, none)] [some .give, none] rcs os)) : Valid PP GG F_L_markRack cs r os :=
  fn_valid_n 2 1 [0, 1, 2, 4] c_L_markRack [(.give, 4, none)] [some .give, none] rcs Tryd.func30 rfl rfl (by kernel_rfl) k_L_markRack rfl rfl hN hret hW
def c_L_markByteS_0 : ACode := .reg [⟨.var 4, .mv (.const (.d (.int .i64 0))), none, []⟩] false
def c_L_markByteS_1 : ACode := .reg [⟨.var 5, .mv (.const (.d (.int .i64 0))), none, []⟩] false
def c_L_markByteS_2 : ACode := .reg [⟨.loc 6, .mv (.var 5), none, []⟩,
  ⟨.loc 7, .mv (.var 0), none, []⟩,
  ⟨.loc 8, .len false (.loc 7), none, []⟩,
  ⟨.var 9, .bin .int .lss (.loc 6) (.loc 8), none, []⟩] false
def c_L_markByteS_3 : ACode := .reg [⟨.loc 12, .mv (.var 0), none, []⟩,
  ⟨.loc 13, .mv (.var 5), none, []⟩,
  ⟨.loc 14, .mv (.var 1), none, []⟩,
  ⟨.loc 15, .conv .u8 (.loc 14), none, []⟩,
  ⟨.loc 16, .idxA 1 (.loc 12) (.loc 13), none, []⟩,
  ⟨.none, .store 1 (.loc 16) (.loc 15), none, []⟩] false
def c_L_markByteS_4 : ACode := .reg [⟨.loc 17, .mv (.var 1), none, []⟩,
  ⟨.loc 18, .bin .int .add (.loc 17) (.const (.d (.int .i64 1))), none, []⟩,
  ⟨.var 1, .mv (.loc 18), none, []⟩] false
def c_L_markByteS_5 : ACode := .reg [⟨.loc 10, .mv (.var 5), none, []⟩,
  ⟨.loc 11, .bin .int .add (.loc 10) (.const (.d (.int .i64 1))), none, []⟩,
  ⟨.var 5, .mv (.loc 11), none, []⟩] false
def c_L_markByteS_6 : ACode := (.seq (.seq c_L_markByteS_2 (.cond (.var 9) .skip (.exit 0))) (.seq (.block 1 (.seq c_L_markByteS_3 c_L_markByteS_4)) c_L_markByteS_5))
def c_L_markByteS_7 : ACode := .reg [⟨.loc 19, .mv (.var 1), none, []⟩,
  ⟨.var 4, .mv (.loc 19), none, []⟩] false
def c_L_markByteS : ACode := (.seq c_L_markByteS_0 (.seq (.seq c_L_markByteS_1 (.block 0 (.loop [0, 1, 5] c_L_markByteS_6))) (.seq c_L_markByteS_7 .ret)))
abbrev F_L_markByteS : FuncId := 31
theorem k_L_markByteS : comp PP (Tryd.f31.ntmps, pinOf 0 [some .give, none]) [0, 1, 4, 5, 9] (Tryd.f31.body.getD .skip) = some c_L_markByteS.erase := by kernel_rfl
theorem v_L_markByteS {GG : GV} (rcs : List C) {cs : List C} {r : C} {os : List (Option C)} (hN : (cs.length == 2 && rcs.length == 1) = true) (hret : retOf rcs = r)
    (hW : W PP [0, 1, 4, 5, 9] (Tryd.f31.ntmps, pinOf 0 [some .give, none]) (Valid PP GG) c_L_markByteS (entry cs) (Fin (Valid PP GG) [(.give, 4, none)] [some .give, none] rcs os) (fun _ _ => False) (Fin (Valid PP GG) [(.give, 4, none)] [some .give, none] rcs os)) : Valid PP GG F_L_markByteS cs r os :=
  fn_valid_n 2 1 [0, 1, 4, 5, 9] c_L_markByteS [(.give, 4, none)] [some .give, none] rcs Tryd.func31 rfl rfl (by kernel_rfl) k_L_markByteS rfl rfl hN hret hW
def c_L_heldRack_0 : ACode := .reg [⟨.var 2, .box (.var 0), none, []⟩,
  ⟨.var 4, .mv (.const (.d (.int .i64 0))), none, []⟩] false
def c_L_heldRack_1 : ACode := .reg [⟨.loc 5, .fld 2 (.var 2), none, []⟩,
  ⟨.loc 6, .load false 1 (.loc 5), none, []⟩,
  ⟨.loc 7, .mv (.var 1), none, []⟩,
  ⟨.loc 8, .call (.fn 76) [(.loc 6), (.loc 7)] [.borrow, .borrow], none, []⟩,
  ⟨.var 1, .mv (.loc 8), none, []⟩] false
def c_L_heldRack_2 : ACode := .reg [⟨.loc 9, .mv (.var 1), none, []⟩,
  ⟨.var 10, .bin .int .lss (.loc 9) (.const (.d (.int .i64 0))), none, []⟩] false
def c_L_heldRack_3 : ACode := .reg [⟨.var 4, .mv (.const (.d (.int .i64 (-1)))), none, []⟩] false
def c_L_heldRack_4 : ACode := .reg [⟨.loc 11, .mv (.var 1), none, []⟩,
  ⟨.var 4, .mv (.loc 11), none, []⟩] false
def c_L_heldRack : ACode := (.seq c_L_heldRack_0 (.seq c_L_heldRack_1 (.seq (.seq c_L_heldRack_2 (.cond (.var 10) (.seq c_L_heldRack_3 .ret) .skip)) (.seq c_L_heldRack_4 .ret))))
abbrev F_L_heldRack : FuncId := 32
theorem k_L_heldRack : comp PP (Tryd.f32.ntmps, pinOf 0 [none, none]) [0, 1, 2, 4, 10] (Tryd.f32.body.getD .skip) = some c_L_heldRack.erase := by kernel_rfl
theorem v_L_heldRack {GG : GV} (rcs : List C) {cs : List C} {r : C} {os : List (Option C)} (hN : (cs.length == 2 && rcs.length == 1) = true) (hret : retOf rcs = r)
    (hW : W PP [0, 1, 2, 4, 10] (Tryd.f32.ntmps, pinOf 0 [none, none]) (Valid PP GG) c_L_heldRack (entry cs) (Fin (Valid PP GG) [(.give, 4, none)] [none, none] rcs os) (fun _ _ => False) (Fin (Valid PP GG) [(.give, 4, none)] [none, none] rcs os)) : Valid PP GG F_L_heldRack cs r os :=
  fn_valid_n 2 1 [0, 1, 2, 4, 10] c_L_heldRack [(.give, 4, none)] [none, none] rcs Tryd.func32 rfl rfl (by kernel_rfl) k_L_heldRack rfl rfl hN hret hW
def c_L_heldByteS_0 : ACode := .reg [⟨.var 4, .mv (.const (.d (.int .i64 0))), none, []⟩] false
def c_L_heldByteS_1 : ACode := .reg [⟨.var 5, .mv (.const (.d (.int .i64 0))), none, []⟩] false
def c_L_heldByteS_2 : ACode := .reg [⟨.loc 6, .mv (.var 5), none, []⟩,
  ⟨.loc 7, .mv (.var 0), none, []⟩,
  ⟨.loc 8, .len false (.loc 7), none, []⟩,
  ⟨.var 9, .bin .int .lss (.loc 6) (.loc 8), none, []⟩] false
def c_L_heldByteS_3 : ACode := .reg [⟨.loc 12, .mv (.var 0), none, []⟩,
  ⟨.loc 13, .mv (.var 5), none, []⟩,
  ⟨.loc 14, .idxA 1 (.loc 12) (.loc 13), none, []⟩,
  ⟨.loc 15, .load false 1 (.loc 14), none, []⟩,
  ⟨.loc 16, .mv (.var 1), none, []⟩,
  ⟨.loc 17, .conv .u8 (.loc 16), none, []⟩,
  ⟨.var 18, .bin .int .neq (.loc 15) (.loc 17), none, []⟩] false
def c_L_heldByteS_4 : ACode := .reg [⟨.var 4, .mv (.const (.d (.int .i64 (-1)))), none, []⟩] false
def c_L_heldByteS_5 : ACode := .reg [⟨.loc 19, .mv (.var 1), none, []⟩,
  ⟨.loc 20, .bin .int .add (.loc 19) (.const (.d (.int .i64 1))), none, []⟩,
  ⟨.var 1, .mv (.loc 20), none, []⟩] false
def c_L_heldByteS_6 : ACode := .reg [⟨.loc 10, .mv (.var 5), none, []⟩,
  ⟨.loc 11, .bin .int .add (.loc 10) (.const (.d (.int .i64 1))), none, []⟩,
  ⟨.var 5, .mv (.loc 11), none, []⟩] false
def c_L_heldByteS_7 : ACode := (.seq (.seq c_L_heldByteS_2 (.cond (.var 9) .skip (.exit 0))) (.seq (.block 1 (.seq (.seq c_L_heldByteS_3 (.cond (.var 18) (.seq c_L_heldByteS_4 .ret) .skip)) c_L_heldByteS_5)) c_L_heldByteS_6))
def c_L_heldByteS_8 : ACode := .reg [⟨.loc 21, .mv (.var 1), none, []⟩,
  ⟨.var 4, .mv (.loc 21), none, []⟩] false
def c_L_heldByteS : ACode := (.seq c_L_heldByteS_0 (.seq (.seq c_L_heldByteS_1 (.block 0 (.loop [0, 1, 5] c_L_heldByteS_7))) (.seq c_L_heldByteS_8 .ret)))
abbrev F_L_heldByteS : FuncId := 33
theorem k_L_heldByteS : comp PP (Tryd.f33.ntmps, pinOf 0 [none, none]) [0, 1, 4, 5, 9, 18] (Tryd.f33.body.getD .skip) = some c_L_heldByteS.erase := by kernel_rfl
theorem v_L_heldByteS {GG : GV} (rcs : List C) {cs : List C} {r : C} {os : List (Option C)} (hN : (cs.length == 2 && rcs.length == 1) = true) (hret : retOf rcs = r)
    (hW : W PP [0, 1, 4, 5, 9, 18] (Tryd.f33.ntmps, pinOf 0 [none, none]) (Valid PP GG) c_L_heldByteS (entry cs) (Fin (Valid PP GG) [(.give, 4, none)] [none, none] rcs os) (fun _ _ => False) (Fin (Valid PP GG) [(.give, 4, none)] [none, none] rcs os)) : Valid PP GG F_L_heldByteS cs r os :=
  fn_valid_n 2 1 [0, 1, 4, 5, 9, 18] c_L_heldByteS [(.give, 4, none)] [none, none] rcs Tryd.func33 rfl rfl (by kernel_rfl) k_L_heldByteS rfl rfl hN hret hW
def c_S_AgainWrap_0 : ACode := .reg [⟨.var 3, .box (.var 0), none, []⟩,
  ⟨.var 6, .alloc [.d (.int .i64 0), .d (.int .i64 0), .nil 1 6], none, []⟩,
  ⟨.var 7, .mv (.const (.d (.int .i64 0))), none, []⟩,
  ⟨.var 8, .mv (.const (.d (.int .i64 0))), none, []⟩] false
def c_S_AgainWrap_1 : ACode := .reg [⟨.loc 16, .load true 3 (.var 3), none, []⟩,
  ⟨.loc 17, .mv (.var 1), none, []⟩,
  ⟨.loc 18, .call (.fn 77) [(.loc 16), (.loc 17)] [.borrow, .borrow], none, []⟩,
  ⟨.loc 15, .mv (.loc 18), none, []⟩,
  ⟨.loc 19, .ext (.loc 15) 0, none, []⟩,
  ⟨.loc 20, .ext (.loc 15) 1, none, []⟩,
  ⟨.loc 21, .ext (.loc 15) 2, none, []⟩,
  ⟨.var 9, .mv (.loc 19), none, []⟩,
  ⟨.var 10, .mv (.loc 20), none, []⟩,
  ⟨.loc 11, .mv (.loc 21), none, []⟩] false
def c_S_AgainWrap_2 : ACode := .reg [⟨.loc 23, .load true 3 (.var 3), none, []⟩,
  ⟨.loc 24, .mv (.var 1), none, []⟩,
  ⟨.loc 25, .mv (.var 2), none, []⟩,
  ⟨.loc 26, .call (.fn 25) [(.loc 23), (.loc 24), (.loc 25)] [.borrow, .borrow, .borrow], none, []⟩,
  ⟨.loc 22, .mv (.loc 26), none, []⟩,
  ⟨.loc 27, .ext (.loc 22) 0, none, []⟩,
  ⟨.loc 28, .ext (.loc 22) 1, none, []⟩,
  ⟨.loc 29, .ext (.loc 22) 2, none, []⟩,
  ⟨.var 12, .alloc [.d (.int .i64 0), .d (.int .i64 0), .nil 1 6], none, []⟩,
  ⟨.none, .store 3 (.var 12) (.loc 27), none, []⟩,
  ⟨.var 13, .mv (.loc 28), none, []⟩,
  ⟨.var 14, .mv (.loc 29), none, []⟩] false
def c_S_AgainWrap_3 : ACode := .reg [⟨.loc 30, .mv (.var 14), none, []⟩,
  ⟨.var 31, .bin .int .neq (.loc 30) (.const (.d (.int .i64 0))), none, []⟩] false
def c_S_AgainWrap_4 : ACode := .reg [⟨.loc 32, .load true 3 (.var 12), none, []⟩,
  ⟨.loc 33, .mv (.var 14), none, []⟩,
  ⟨.none, .store 3 (.var 6) (.loc 32), none, []⟩,
  ⟨.var 7, .mv (.const (.d (.int .i64 0))), none, []⟩,
  ⟨.var 8, .mv (.loc 33), none, []⟩] false
def c_S_AgainWrap_5 : ACode := .reg [⟨.loc 34, .load true 3 (.var 12), none, []⟩,
  ⟨.loc 35, .mv (.var 9), none, []⟩,
  ⟨.loc 36, .mv (.var 13), none, []⟩,
  ⟨.loc 37, .mv (.var 2), none, []⟩,
  ⟨.loc 38, .mv (.var 10), none, []⟩,
  ⟨.loc 39, .mv (.var 2), none, []⟩,
  ⟨.loc 40, .bin .int .sub (.loc 38) (.loc 39), none, []⟩,
  ⟨.loc 41, .call (.fn 78) [(.loc 34), (.loc 35), (.loc 36), (.loc 37), (.loc 40)] [.borrow, .borrow, .borrow, .borrow, .borrow], none, []⟩,
  ⟨.loc 42, .ext (.loc 41) 0, none, []⟩,
  ⟨.loc 43, .ext (.loc 41) 1, none, []⟩,
  ⟨.loc 44, .ext (.loc 41) 2, none, []⟩,
  ⟨.none, .store 3 (.var 6) (.loc 42), none, []⟩,
  ⟨.var 7, .mv (.loc 43), none, []⟩,
  ⟨.var 8, .mv (.loc 44), none, []⟩] false
def c_S_AgainWrap : ACode := (.seq c_S_AgainWrap_0 (.seq c_S_AgainWrap_1 (.seq c_S_AgainWrap_2 (.seq (.seq c_S_AgainWrap_3 (.cond (.var 31) (.seq c_S_AgainWrap_4 .ret) .skip)) (.seq c_S_AgainWrap_5 .ret)))))
abbrev F_S_AgainWrap : FuncId := 34
theorem k_S_AgainWrap : comp PP (Tryd.f34.ntmps, pinOf 0 [none, none, none]) [0, 1, 2, 3, 6, 7, 8, 9, 10, 12, 13, 14, 31] (Tryd.f34.body.getD .skip) = some c_S_AgainWrap.erase := by kernel_rfl
theorem v_S_AgainWrap {GG : GV} (rcs : List C) {cs : List C} {r : C} {os : List (Option C)} (hN : (cs.length == 3 && rcs.length == 3) = true) (hret : retOf rcs = r)
    (hW : W PP [0, 1, 2, 3, 6, 7, 8, 9, 10, 12, 13, 14, 31] (Tryd.f34.ntmps, pinOf 0 [none, none, none]) (Valid PP GG) c_S_AgainWrap (entry cs) (Fin (Valid PP GG) [(.give, 6, some (true, 3)), (.give, 7, none), (.give, 8, none)] [none, none, none] rcs os) (fun _ _ => False) (Fin (Valid PP GG) [(.give, 6, some (true, 3)), (.give, 7, none), (.give, 8, none)] [none, none, none] rcs os)) : Valid PP GG F_S_AgainWrap cs r os :=
  fn_valid_n 3 3 [0, 1, 2, 3, 6, 7, 8, 9, 10, 12, 13, 14, 31] c_S_AgainWrap [(.give, 6, some (true, 3)), (.give, 7, none), (.give, 8, none)] [none, none, none] rcs Tryd.func34 rfl rfl (by kernel_rfl) k_S_AgainWrap rfl rfl hN hret hW
def c_I_AgainWrap_0 : ACode := .reg [⟨.var 3, .box (.var 0), none, []⟩,
  ⟨.var 6, .alloc [.d (.int .i64 0), .d (.int .i64 0), .nil 1 6], none, []⟩,
  ⟨.var 7, .mv (.const (.d (.int .i64 0))), none, []⟩,
  ⟨.var 8, .mv (.const (.d (.int .i64 0))), none, []⟩] false
def c_I_AgainWrap_1 : ACode := .reg [⟨.loc 13, .load true 3 (.var 3), none, []⟩,
  ⟨.loc 14, .call (.fn 70) [(.loc 13)] [.borrow], none, []⟩,
  ⟨.loc 15, .un .not (.loc 14), none, []⟩,
  ⟨.loc 16, .split (.loc 15), none, []⟩,
  ⟨.loc 17, .mv (.var 2), some ((.loc 16), false), []⟩,
  ⟨.loc 18, .call (.fn 71) [(.loc 17), (.const (.d (.int .i64 0))), (.const (.d (.int .i64 1000000000)))] [.borrow, .borrow, .borrow], some ((.loc 16), false), []⟩,
  ⟨.loc 19, .un .not (.loc 18), some ((.loc 16), false), []⟩,
  ⟨.var 20, .pick (.loc 16) (.const (.d (.bool true))) (.loc 19), none, []⟩] false
def c_I_AgainWrap_2 : ACode := .reg [⟨.loc 21, .load true 3 (.var 3), none, []⟩,
  ⟨.loc 22, .call (.fn 72) [(.loc 21)] [.borrow], none, []⟩,
  ⟨.none, .store 3 (.var 6) (.loc 22), none, []⟩,
  ⟨.var 7, .mv (.const (.d (.int .i64 0))), none, []⟩,
  ⟨.var 8, .mv (.const (.d (.int .i64 1))), none, []⟩] false
def c_I_AgainWrap_3 : ACode := .reg [⟨.loc 24, .load true 3 (.var 3), none, []⟩,
  ⟨.loc 25, .mv (.var 1), none, []⟩,
  ⟨.loc 26, .mv (.var 2), none, []⟩,
  ⟨.loc 27, .call (.fn 73) [(.loc 24), (.loc 25), (.loc 26)] [.borrow, .borrow, .borrow], none, []⟩,
  ⟨.loc 23, .mv (.loc 27), none, []⟩,
  ⟨.loc 28, .ext (.loc 23) 0, none, []⟩,
  ⟨.loc 29, .ext (.loc 23) 1, none, []⟩,
  ⟨.loc 30, .ext (.loc 23) 2, none, []⟩,
  ⟨.var 9, .alloc [.d (.int .i64 0), .d (.int .i64 0), .nil 1 6], none, []⟩,
  ⟨.none, .store 3 (.var 9) (.loc 28), none, []⟩,
  ⟨.var 10, .mv (.loc 29), none, []⟩,
  ⟨.var 11, .mv (.loc 30), none, []⟩] false
def c_I_AgainWrap_4 : ACode := .reg [⟨.loc 31, .mv (.var 11), none, []⟩,
  ⟨.var 32, .bin .int .neq (.loc 31) (.const (.d (.int .i64 0))), none, []⟩] false
def c_I_AgainWrap_5 : ACode := .reg [⟨.loc 33, .load true 3 (.var 9), none, []⟩,
  ⟨.loc 34, .mv (.var 11), none, []⟩,
  ⟨.none, .store 3 (.var 6) (.loc 33), none, []⟩,
  ⟨.var 7, .mv (.const (.d (.int .i64 0))), none, []⟩,
  ⟨.var 8, .mv (.loc 34), none, []⟩] false
def c_I_AgainWrap_6 : ACode := .reg [⟨.loc 35, .fld 2 (.var 3), none, []⟩,
  ⟨.loc 36, .load false 1 (.loc 35), none, [0]⟩,
  ⟨.loc 37, .load true 3 (.var 3), none, []⟩,
  ⟨.loc 38, .mv (.var 1), none, []⟩,
  ⟨.loc 39, .call (.fn 79) [(.loc 37), (.loc 38)] [.borrow, .borrow], none, [2, 3]⟩,
  ⟨.loc 40, .idxA 6 (.loc 36) (.loc 39), none, [1, 0, 4, 2, 3]⟩,
  ⟨.loc 41, .load true 6 (.loc 40), none, [5, 1, 0, 4, 2, 3]⟩,
  ⟨.var 12, .alloc [.d (.int .i64 0), .d (.int .i64 0), .d (.str []), .d (.int .i64 0), .nil 0 1, .d (.int .i64 0)], none, []⟩,
  ⟨.none, .store 6 (.var 12) (.loc 41), none, [6, 5, 1, 0, 4, 2, 3, 7]⟩] true
def c_I_AgainWrap_7 : ACode := .reg [⟨.loc 42, .load true 3 (.var 9), none, []⟩,
  ⟨.loc 43, .fld 2 (.var 12), none, []⟩,
  ⟨.loc 44, .load false 1 (.loc 43), none, []⟩,
  ⟨.loc 45, .mv (.var 10), none, []⟩,
  ⟨.loc 46, .mv (.var 2), none, []⟩,
  ⟨.loc 47, .fld 1 (.var 12), none, []⟩,
  ⟨.loc 48, .load false 1 (.loc 47), none, []⟩,
  ⟨.loc 49, .mv (.var 2), none, []⟩,
  ⟨.loc 50, .bin .int .sub (.loc 48) (.loc 49), none, []⟩,
  ⟨.loc 51, .call (.fn 80) [(.loc 42), (.loc 44), (.loc 45), (.loc 46), (.loc 50)] [.borrow, .borrow, .borrow, .borrow, .borrow], none, []⟩,
  ⟨.loc 52, .ext (.loc 51) 0, none, []⟩,
  ⟨.loc 53, .ext (.loc 51) 1, none, []⟩,
  ⟨.loc 54, .ext (.loc 51) 2, none, []⟩,
  ⟨.none, .store 3 (.var 6) (.loc 52), none, []⟩,
  ⟨.var 7, .mv (.loc 53), none, []⟩,
  ⟨.var 8, .mv (.loc 54), none, []⟩] false
def c_I_AgainWrap : ACode := (.seq c_I_AgainWrap_0 (.seq (.seq c_I_AgainWrap_1 (.cond (.var 20) (.seq c_I_AgainWrap_2 .ret) .skip)) (.seq c_I_AgainWrap_3 (.seq (.seq c_I_AgainWrap_4 (.cond (.var 32) (.seq c_I_AgainWrap_5 .ret) .skip)) (.seq c_I_AgainWrap_6 (.seq c_I_AgainWrap_7 .ret))))))
abbrev F_I_AgainWrap : FuncId := 35
theorem k_I_AgainWrap : comp PP (Tryd.f35.ntmps, pinOf 0 [none, none, none]) [0, 1, 2, 3, 6, 7, 8, 9, 10, 11, 12, 20, 32] (Tryd.f35.body.getD .skip) = some c_I_AgainWrap.erase := by kernel_rfl
theorem v_I_AgainWrap {GG : GV} (rcs : List C) {cs : List C} {r : C} {os : List (Option C)} (hN : (cs.length == 3 && rcs.length == 3) = true) (hret : retOf rcs = r)
    (hW : W PP [0, 1, 2, 3, 6, 7, 8, 9, 10, 11, 12, 20, 32] (Tryd.f35.ntmps, pinOf 0 [none, none, none]) (Valid PP GG) c_I_AgainWrap (entry cs) (Fin (Valid PP GG) [(.give, 6, some (true, 3)), (.give, 7, none), (.give, 8, none)] [none, none, none] rcs os) (fun _ _ => False) (Fin (Valid PP GG) [(.give, 6, some (true, 3)), (.give, 7, none), (.give, 8, none)] [none, none, none] rcs os)) : Valid PP GG F_I_AgainWrap cs r os :=
  fn_valid_n 3 3 [0, 1, 2, 3, 6, 7, 8, 9, 10, 11, 12, 20, 32] c_I_AgainWrap [(.give, 6, some (true, 3)), (.give, 7, none), (.give, 8, none)] [none, none, none] rcs Tryd.func35 rfl rfl (by kernel_rfl) k_I_AgainWrap rfl rfl hN hret hW
def c_L_szWrapS_0 : ACode := .reg [⟨.var 4, .mv (.const (.d (.int .i64 0))), none, []⟩] false
def c_L_szWrapS_1 : ACode := .reg [⟨.loc 6, .mv (.var 1), none, []⟩,
  ⟨.loc 7, .mv (.var 0), none, []⟩,
  ⟨.loc 8, .len false (.loc 7), none, []⟩,
  ⟨.loc 9, .bin .int .sub (.loc 6) (.loc 8), none, []⟩,
  ⟨.var 1, .mv (.loc 9), none, []⟩] false
def c_L_szWrapS_2 : ACode := .reg [⟨.loc 10, .mv (.var 1), none, []⟩,
  ⟨.var 11, .bin .int .lss (.loc 10) (.const (.d (.int .i64 0))), none, []⟩] false
def c_L_szWrapS_3 : ACode := .reg [⟨.var 4, .mv (.const (.d (.int .i64 (-1)))), none, []⟩] false
def c_L_szWrapS_4 : ACode := .reg [⟨.var 5, .mv (.const (.d (.int .i64 0))), none, []⟩] false
def c_L_szWrapS_5 : ACode := .reg [⟨.loc 12, .mv (.var 5), none, []⟩,
  ⟨.loc 13, .mv (.var 0), none, []⟩,
  ⟨.loc 14, .len false (.loc 13), none, []⟩,
  ⟨.var 15, .bin .int .lss (.loc 12) (.loc 14), none, []⟩] false
def c_L_szWrapS_6 : ACode := .reg [⟨.loc 18, .mv (.var 0), none, []⟩,
  ⟨.loc 19, .mv (.var 5), none, []⟩,
  ⟨.loc 20, .idxA 6 (.loc 18) (.loc 19), none, []⟩,
  ⟨.loc 21, .load true 6 (.loc 20), none, []⟩,
  ⟨.loc 22, .mv (.var 1), none, []⟩,
  ⟨.loc 23, .call (.fn 105) [(.loc 21), (.loc 22)] [.borrow, .borrow], none, []⟩,
  ⟨.var 1, .mv (.loc 23), none, []⟩] false
def c_L_szWrapS_7 : ACode := .reg [⟨.loc 24, .mv (.var 1), none, []⟩,
  ⟨.var 25, .bin .int .lss (.loc 24) (.const (.d (.int .i64 0))), none, []⟩] false
def c_L_szWrapS_8 : ACode := .reg [⟨.var 4, .mv (.const (.d (.int .i64 (-1)))), none, []⟩] false
def c_L_szWrapS_9 : ACode := .reg [⟨.loc 16, .mv (.var 5), none, []⟩,
  ⟨.loc 17, .bin .int .add (.loc 16) (.const (.d (.int .i64 1))), none, []⟩,
  ⟨.var 5, .mv (.loc 17), none, []⟩] false
def c_L_szWrapS_10 : ACode := (.seq (.seq c_L_szWrapS_5 (.cond (.var 15) .skip (.exit 0))) (.seq (.block 1 (.seq c_L_szWrapS_6 (.seq c_L_szWrapS_7 (.cond (.var 25) (.seq c_L_szWrapS_8 .ret) .skip)))) c_L_szWrapS_9))
def c_L_szWrapS_11 : ACode := .reg [⟨.loc 26, .mv (.var 1), none, []⟩,
  ⟨.var 4, .mv (.loc 26), none, []⟩] false
def c_L_szWrapS : ACode := (.seq c_L_szWrapS_0 (.seq c_L_szWrapS_1 (.seq (.seq c_L_szWrapS_2 (.cond (.var 11) (.seq c_L_szWrapS_3 .ret) .skip)) (.seq (.seq c_L_szWrapS_4 (.block 0 (.loop [0, 1, 5] c_L_szWrapS_10))) (.seq c_L_szWrapS_11 .ret)))))
abbrev F_L_szWrapS : FuncId := 62
theorem k_L_szWrapS : comp PP (Tryd.f62.ntmps, pinOf 0 [none, none]) [0, 1, 4, 5, 11, 15, 25] (Tryd.f62.body.getD .skip) = some c_L_szWrapS.erase := by kernel_rfl
theorem v_L_szWrapS {GG : GV} (rcs : List C) {cs : List C} {r : C} {os : List (Option C)} (hN : (cs.length == 2 && rcs.length == 1) = true) (hret : retOf rcs = r)
    (hW : W PP [0, 1, 4, 5, 11, 15, 25] (Tryd.f62.ntmps, pinOf 0 [none, none]) (Valid PP GG) c_L_szWrapS (entry cs) (Fin (Valid PP GG) [(.give, 4, none)] [none, none] rcs os) (fun _ _ => False) (Fin (Valid PP GG) [(.give, 4, none)] [none, none] rcs os)) : Valid PP GG F_L_szWrapS cs r os :=
  fn_valid_n 2 1 [0, 1, 4, 5, 11, 15, 25] c_L_szWrapS [(.give, 4, none)] [none, none] rcs Tryd.func62 rfl rfl (by kernel_rfl) k_L_szWrapS rfl rfl hN hret hW
def c_S_RackOk_0 : ACode := .reg [⟨.var 1, .box (.var 0), none, []⟩,
  ⟨.var 2, .mv (.const (.d (.bool false))), none, []⟩] false
def c_S_RackOk_1 : ACode := .reg [⟨.loc 5, .fld 0 (.var 1), none, []⟩,
  ⟨.loc 6, .load false 1 (.loc 5), none, []⟩,
  ⟨.loc 7, .call (.fn 95) [(.loc 6)] [.borrow], none, []⟩,
  ⟨.loc 8, .un .not (.loc 7), none, []⟩,
  ⟨.loc 9, .split (.loc 8), none, []⟩,
  ⟨.loc 10, .fld 1 (.var 1), some ((.loc 9), false), []⟩,
  ⟨.loc 11, .load false 1 (.loc 10), some ((.loc 9), false), []⟩,
  ⟨.loc 12, .call (.fn 64) [(.loc 11), (.const (.d (.int .i64 1))), (.const (.d (.int .i64 1000000000)))] [.borrow, .borrow, .borrow], some ((.loc 9), false), []⟩,
  ⟨.loc 13, .un .not (.loc 12), some ((.loc 9), false), []⟩,
  ⟨.loc 14, .pick (.loc 9) (.const (.d (.bool true))) (.loc 13), none, []⟩,
  ⟨.loc 15, .split (.loc 14), none, []⟩,
  ⟨.loc 16, .fld 2 (.var 1), some ((.loc 15), false), []⟩,
  ⟨.loc 17, .load false 1 (.loc 16), some ((.loc 15), false), []⟩,
  ⟨.loc 18, .len false (.loc 17), some ((.loc 15), false), []⟩,
  ⟨.loc 19, .bin .int .gtr (.loc 18) (.const (.d (.int .i64 60))), some ((.loc 15), false), []⟩,
  ⟨.var 20, .pick (.loc 15) (.const (.d (.bool true))) (.loc 19), none, []⟩] false
def c_S_RackOk_2 : ACode := .reg [⟨.var 2, .mv (.const (.d (.bool false))), none, []⟩] false
def c_S_RackOk_3 : ACode := .reg [⟨.var 3, .mv (.const (.d (.int .i64 0))), none, []⟩] false
def c_S_RackOk_4 : ACode := .reg [⟨.loc 21, .mv (.var 3), none, []⟩,
  ⟨.loc 22, .fld 2 (.var 1), none, []⟩,
  ⟨.loc 23, .load false 1 (.loc 22), none, []⟩,
  ⟨.loc 24, .len false (.loc 23), none, []⟩,
  ⟨.var 25, .bin .int .lss (.loc 21) (.loc 24), none, []⟩] false
def c_S_RackOk_5 : ACode := .reg [⟨.loc 28, .fld 2 (.var 1), none, []⟩,
  ⟨.loc 29, .load false 1 (.loc 28), none, []⟩,
  ⟨.loc 30, .mv (.var 3), none, []⟩,
  ⟨.loc 31, .idxA 6 (.loc 29) (.loc 30), none, []⟩,
  ⟨.loc 32, .load true 6 (.loc 31), none, []⟩,
  ⟨.var 4, .alloc [.d (.int .i64 0), .d (.int .i64 0), .d (.str []), .d (.int .i64 0), .nil 0 1, .d (.int .i64 0)], none, []⟩,
  ⟨.none, .store 6 (.var 4) (.loc 32), none, []⟩] false
def c_S_RackOk_6 : ACode := .reg [⟨.loc 33, .fld 0 (.var 4), none, []⟩,
  ⟨.loc 34, .load false 1 (.loc 33), none, [0]⟩,
  ⟨.loc 35, .fld 1 (.var 1), none, []⟩,
  ⟨.loc 36, .load false 1 (.loc 35), none, [2]⟩,
  ⟨.loc 37, .bin .int .sub (.loc 36) (.const (.d (.int .i64 1))), none, [3, 2]⟩,
  ⟨.loc 38, .call (.fn 64) [(.loc 34), (.const (.d (.int .i64 1))), (.loc 37)] [.borrow, .borrow, .borrow], none, [1, 0, 4, 3, 2]⟩,
  ⟨.loc 39, .un .not (.loc 38), none, [5, 1, 0, 4, 3, 2]⟩,
  ⟨.loc 40, .split (.loc 39), none, [6, 5, 1, 0, 4, 3, 2]⟩,
  ⟨.loc 41, .fld 1 (.var 4), some ((.loc 40), false), [7, 6, 5, 1, 0, 4, 3, 2]⟩,
  ⟨.loc 42, .load false 1 (.loc 41), some ((.loc 40), false), [8, 7, 6, 5, 1, 0, 4, 3, 2]⟩,
  ⟨.loc 43, .call (.fn 64) [(.loc 42), (.const (.d (.int .i64 1))), (.const (.d (.int .i64 1000000000)))] [.borrow, .borrow, .borrow], some ((.loc 40), false), [9, 8, 7, 6, 5, 1, 0, 4, 3, 2]⟩,
  ⟨.loc 44, .un .not (.loc 43), some ((.loc 40), false), [10, 9, 8, 7, 6, 5, 1, 0, 4, 3, 2]⟩,
  ⟨.loc 45, .pick (.loc 40) (.const (.d (.bool true))) (.loc 44), none, [11, 10, 9, 8, 7, 6, 5, 1, 0, 4, 3, 2]⟩,
  ⟨.loc 46, .split (.loc 45), none, [12, 11, 10, 9, 8, 7, 6, 5, 1, 0, 4, 3, 2]⟩,
  ⟨.loc 47, .fld 2 (.var 4), some ((.loc 46), false), [13, 12, 11, 10, 9, 8, 7, 6, 5, 1, 0, 4, 3, 2]⟩,
  ⟨.loc 48, .load false 1 (.loc 47), some ((.loc 46), false), [14, 13, 12, 11, 10, 9, 8, 7, 6, 5, 1, 0, 4, 3, 2]⟩,
  ⟨.loc 49, .call (.fn 97) [(.loc 48)] [.borrow], some ((.loc 46), false), [15, 14, 13, 12, 11, 10, 9, 8, 7, 6, 5, 1, 0, 4, 3, 2]⟩,
  ⟨.loc 50, .un .not (.loc 49), some ((.loc 46), false), [16, 15, 14, 13, 12, 11, 10, 9, 8, 7, 6, 5, 1, 0, 4, 3, 2]⟩,
  ⟨.loc 51, .pick (.loc 46) (.const (.d (.bool true))) (.loc 50), none, [17, 16, 15, 14, 13, 12, 11, 10, 9, 8, 7, 6, 5, 1, 0, 4, 3, 2]⟩,
  ⟨.loc 52, .split (.loc 51), none, [18, 17, 16, 15, 14, 13, 12, 11, 10, 9, 8, 7, 6, 5, 1, 0, 4, 3, 2]⟩,
  ⟨.loc 53, .mv (.var 3), some ((.loc 52), false), [19, 18, 17, 16, 15, 14, 13, 12, 11, 10, 9, 8, 7, 6, 5, 1, 0, 4, 3, 2]⟩,
  ⟨.loc 54, .bin .int .gtr (.loc 53) (.const (.d (.int .i64 0))), some ((.loc 52), false), [20, 19, 18, 17, 16, 15, 14, 13, 12, 11, 10, 9, 8, 7, 6, 5, 1, 0, 4, 3, 2]⟩,
  ⟨.loc 55, .split (.loc 54), some ((.loc 52), false), [21, 20, 19, 18, 17, 16, 15, 14, 13, 12, 11, 10, 9, 8, 7, 6, 5, 1, 0, 4, 3, 2]⟩,
  ⟨.loc 56, .fld 2 (.var 1), some ((.loc 55), true), [22, 21, 20, 19, 18, 17, 16, 15, 14, 13, 12, 11, 10, 9, 8, 7, 6, 5, 1, 0, 4, 3, 2]⟩,
  ⟨.loc 57, .load false 1 (.loc 56), some ((.loc 55), true), [23, 22, 21, 20, 19, 18, 17, 16, 15, 14, 13, 12, 11, 10, 9, 8, 7, 6, 5, 1, 0, 4, 3, 2]⟩,
  ⟨.loc 58, .mv (.var 3), some ((.loc 55), true), [22, 21, 20, 19, 18, 17, 16, 15, 14, 13, 12, 11, 10, 9, 8, 7, 6, 5, 1, 0, 4, 3, 2]⟩,
  ⟨.loc 59, .bin .int .sub (.loc 58) (.const (.d (.int .i64 1))), some ((.loc 55), true), [25, 22, 21, 20, 19, 18, 17, 16, 15, 14, 13, 12, 11, 10, 9, 8, 7, 6, 5, 1, 0, 4, 3, 2]⟩,
  ⟨.loc 60, .idxA 6 (.loc 57) (.loc 59), some ((.loc 55), true), [24, 23, 26, 25, 22, 21, 20, 19, 18, 17, 16, 15, 14, 13, 12, 11, 10, 9, 8, 7, 6, 5, 1, 0, 4, 3, 2]⟩,
  ⟨.loc 61, .fld 0 (.loc 60), some ((.loc 55), true), [27, 24, 23, 26, 25, 22, 21, 20, 19, 18, 17, 16, 15, 14, 13, 12, 11, 10, 9, 8, 7, 6, 5, 1, 0, 4, 3, 2]⟩,
  ⟨.loc 62, .load false 1 (.loc 61), some ((.loc 55), true), [28, 27, 24, 23, 26, 25, 22, 21, 20, 19, 18, 17, 16, 15, 14, 13, 12, 11, 10, 9, 8, 7, 6, 5, 1, 0, 4, 3, 2]⟩,
  ⟨.loc 63, .fld 0 (.var 4), some ((.loc 55), true), [22, 21, 20, 19, 18, 17, 16, 15, 14, 13, 12, 11, 10, 9, 8, 7, 6, 5, 1, 0, 4, 3, 2]⟩,
  ⟨.loc 64, .load false 1 (.loc 63), some ((.loc 55), true), [30, 22, 21, 20, 19, 18, 17, 16, 15, 14, 13, 12, 11, 10, 9, 8, 7, 6, 5, 1, 0, 4, 3, 2]⟩,
  ⟨.loc 65, .bin .int .geq (.loc 62) (.loc 64), some ((.loc 55), true), [29, 28, 27, 24, 23, 26, 25, 31, 30, 22, 21, 20, 19, 18, 17, 16, 15, 14, 13, 12, 11, 10, 9, 8, 7, 6, 5, 1, 0, 4, 3, 2]⟩,
  ⟨.loc 66, .pick (.loc 55) (.loc 65) (.const (.d (.bool false))), some ((.loc 52), false), [32, 29, 28, 27, 24, 23, 26, 25, 31, 30, 22, 21, 20, 19, 18, 17, 16, 15, 14, 13, 12, 11, 10, 9, 8, 7, 6, 5, 1, 0, 4, 3, 2]⟩,
  ⟨.var 67, .pick (.loc 52) (.const (.d (.bool true))) (.loc 66), none, [33, 32, 29, 28, 27, 24, 23, 26, 25, 31, 30, 22, 21, 20, 19, 18, 17, 16, 15, 14, 13, 12, 11, 10, 9, 8, 7, 6, 5, 1, 0, 4, 3, 2]⟩] true
def c_S_RackOk_7 : ACode := .reg [⟨.var 2, .mv (.const (.d (.bool false))), none, []⟩] false
def c_S_RackOk_8 : ACode := .reg [⟨.loc 26, .mv (.var 3), none, []⟩,
  ⟨.loc 27, .bin .int .add (.loc 26) (.const (.d (.int .i64 1))), none, []⟩,
  ⟨.var 3, .mv (.loc 27), none, []⟩] false
def c_S_RackOk_9 : ACode := (.seq (.seq c_S_RackOk_4 (.cond (.var 25) .skip (.exit 0))) (.seq (.block 1 (.seq c_S_RackOk_5 (.seq c_S_RackOk_6 (.cond (.var 67) (.seq c_S_RackOk_7 .ret) .skip)))) c_S_RackOk_8))
def c_S_RackOk_10 : ACode := .reg [⟨.var 2, .mv (.const (.d (.bool true))), none, []⟩] false
def c_S_RackOk : ACode := (.seq c_S_RackOk_0 (.seq (.seq c_S_RackOk_1 (.cond (.var 20) (.seq c_S_RackOk_2 .ret) .skip)) (.seq (.seq c_S_RackOk_3 (.block 0 (.loop [1, 3] c_S_RackOk_9))) (.seq c_S_RackOk_10 .ret))))
abbrev F_S_RackOk : FuncId := 63
theorem k_S_RackOk : comp PP (Tryd.f63.ntmps, pinOf 0 [none]) [0, 1, 2, 3, 4, 20, 25, 67] (Tryd.f63.body.getD .skip) = some c_S_RackOk.erase := by kernel_rfl
theorem v_S_RackOk {GG : GV} (rcs : List C) {cs : List C} {r : C} {os : List (Option C)} (hN : (cs.length == 1 && rcs.length == 1) = true) (hret : retOf rcs = r)
    (hW : W PP [0, 1, 2, 3, 4, 20, 25, 67] (Tryd.f63.ntmps, pinOf 0 [none]) (Valid PP GG) c_S_RackOk (entry cs) (Fin (Valid PP GG) [(.give, 2, none)] [none] rcs os) (fun _ _ => False) (Fin (Valid PP GG) [(.give, 2, none)] [none] rcs os)) : Valid PP GG F_S_RackOk cs r os :=
  fn_valid_n 1 1 [0, 1, 2, 3, 4, 20, 25, 67] c_S_RackOk [(.give, 2, none)] [none] rcs Tryd.func63 rfl rfl (by kernel_rfl) k_S_RackOk rfl rfl hN hret hW
def c_S_l01In_0 : ACode := .reg [⟨.var 6, .mv (.const (.d (.bool false))), none, []⟩] false
def c_S_l01In_1 : ACode := .reg [⟨.loc 7, .mv (.var 1), none, []⟩,
  ⟨.loc 8, .mv (.var 0), none, []⟩,
  ⟨.loc 9, .bin .int .leq (.loc 7) (.loc 8), none, []⟩,
  ⟨.loc 10, .split (.loc 9), none, []⟩,
  ⟨.loc 11, .mv (.var 0), some ((.loc 10), true), []⟩,
  ⟨.loc 12, .mv (.var 2), some ((.loc 10), true), []⟩,
  ⟨.loc 13, .bin .int .leq (.loc 11) (.loc 12), some ((.loc 10), true), []⟩,
  ⟨.loc 14, .pick (.loc 10) (.loc 13) (.const (.d (.bool false))), none, []⟩,
  ⟨.var 6, .mv (.loc 14), none, []⟩] false
def c_S_l01In : ACode := (.seq c_S_l01In_0 (.seq c_S_l01In_1 .ret))
abbrev F_S_l01In : FuncId := 64
theorem k_S_l01In : comp PP (Tryd.f64.ntmps, pinOf 0 [none, none, none]) [0, 1, 2, 6] (Tryd.f64.body.getD .skip) = some c_S_l01In.erase := by kernel_rfl
theorem v_S_l01In {GG : GV} (rcs : List C) {cs : List C} {r : C} {os : List (Option C)} (hN : (cs.length == 3 && rcs.length == 1) = true) (hret : retOf rcs = r)
    (hW : W PP [0, 1, 2, 6] (Tryd.f64.ntmps, pinOf 0 [none, none, none]) (Valid PP GG) c_S_l01In (entry cs) (Fin (Valid PP GG) [(.give, 6, none)] [none, none, none] rcs os) (fun _ _ => False) (Fin (Valid PP GG) [(.give, 6, none)] [none, none, none] rcs os)) : Valid PP GG F_S_l01In cs r os :=
  fn_valid_n 3 1 [0, 1, 2, 6] c_S_l01In [(.give, 6, none)] [none, none, none] rcs Tryd.func64 rfl rfl (by kernel_rfl) k_S_l01In rfl rfl hN hret hW
def c_S_l14Copy_0 : ACode := .reg [⟨.var 1, .box (.var 0), none, []⟩,
  ⟨.var 2, .alloc [.d (.int .i64 0), .d (.int .i64 0), .nil 1 6], none, []⟩] false
def c_S_l14Copy_1 : ACode := .reg [⟨.loc 5, .fld 0 (.var 1), none, []⟩,
  ⟨.loc 6, .load false 1 (.loc 5), none, []⟩,
  ⟨.loc 7, .fld 1 (.var 1), none, []⟩,
  ⟨.loc 8, .load false 1 (.loc 7), none, []⟩,
  ⟨.loc 9, .build [.d (.int .i64 0), .d (.int .i64 0), .nil 1 6] [(0, 1, (.loc 6)), (1, 1, (.loc 8))], none, []⟩,
  ⟨.var 3, .alloc [.d (.int .i64 0), .d (.int .i64 0), .nil 1 6], none, []⟩,
  ⟨.none, .store 3 (.var 3) (.loc 9), none, []⟩] false
def c_S_l14Copy_2 : ACode := .reg [⟨.var 4, .mv (.const (.d (.int .i64 0))), none, []⟩] false
def c_S_l14Copy_3 : ACode := .reg [⟨.loc 10, .mv (.var 4), none, []⟩,
  ⟨.loc 11, .fld 2 (.var 1), none, []⟩,
  ⟨.loc 12, .load false 1 (.loc 11), none, []⟩,
  ⟨.loc 13, .len false (.loc 12), none, []⟩,
  ⟨.var 14, .bin .int .lss (.loc 10) (.loc 13), none, []⟩] false
def c_S_l14Copy_4 : ACode := .reg [⟨.loc 17, .fld 2 (.var 3), none, []⟩,
  ⟨.loc 18, .load false 1 (.loc 17), none, [0]⟩,
  ⟨.loc 19, .fld 2 (.var 1), none, []⟩,
  ⟨.loc 20, .load false 1 (.loc 19), none, [2]⟩,
  ⟨.loc 21, .mv (.var 4), none, []⟩,
  ⟨.loc 22, .idxA 6 (.loc 20) (.loc 21), none, [3, 2, 4]⟩,
  ⟨.loc 23, .load true 6 (.loc 22), none, [5, 3, 2, 4]⟩,
  ⟨.loc 24, .call (.fn 106) [(.loc 23)] [.borrow], none, [6, 5, 3, 2, 4]⟩,
  ⟨.loc 25, .lit 1 6 1 [.int .i64 0, .int .i64 0, .str [], .int .i64 0, .slc 1 [], .int .i64 0] [(0, (.loc 24))], none, [7, 6, 5, 3, 2, 4]⟩,
  ⟨.loc 26, .app 6 72 (.loc 18) (.loc 25), none, [1, 0, 8, 7, 6, 5, 3, 2, 4]⟩,
  ⟨.loc 27, .fld 2 (.var 3), none, [9, 1, 0, 8, 7, 6, 5, 3, 2, 4]⟩,
  ⟨.none, .store 1 (.loc 27) (.loc 26), none, [10, 9, 1, 0, 8, 7, 6, 5, 3, 2, 4]⟩] true
def c_S_l14Copy_5 : ACode := .reg [⟨.loc 15, .mv (.var 4), none, []⟩,
  ⟨.loc 16, .bin .int .add (.loc 15) (.const (.d (.int .i64 1))), none, []⟩,
  ⟨.var 4, .mv (.loc 16), none, []⟩] false
def c_S_l14Copy_6 : ACode := (.seq (.seq c_S_l14Copy_3 (.cond (.var 14) .skip (.exit 0))) (.seq (.block 1 c_S_l14Copy_4) c_S_l14Copy_5))
def c_S_l14Copy_7 : ACode := .reg [⟨.loc 28, .load true 3 (.var 3), none, []⟩,
  ⟨.none, .store 3 (.var 2) (.loc 28), none, []⟩] false
def c_S_l14Copy : ACode := (.seq c_S_l14Copy_0 (.seq c_S_l14Copy_1 (.seq (.seq c_S_l14Copy_2 (.block 0 (.loop [1, 2, 3, 4] c_S_l14Copy_6))) (.seq c_S_l14Copy_7 .ret))))
abbrev F_S_l14Copy : FuncId := 65
theorem k_S_l14Copy : comp PP (Tryd.f65.ntmps, pinOf 0 [none]) [0, 1, 2, 3, 4, 14] (Tryd.f65.body.getD .skip) = some c_S_l14Copy.erase := by kernel_rfl
theorem v_S_l14Copy {GG : GV} (rcs : List C) {cs : List C} {r : C} {os : List (Option C)} (hN : (cs.length == 1 && rcs.length == 1) = true) (hret : retOf rcs = r)
    (hW : W PP [0, 1, 2, 3, 4, 14] (Tryd.f65.ntmps, pinOf 0 [none]) (Valid PP GG) c_S_l14Copy (entry cs) (Fin (Valid PP GG) [(.give, 2, some (true, 3))] [none] rcs os) (fun _ _ => False) (Fin (Valid PP GG) [(.give, 2, some (true, 3))] [none] rcs os)) : Valid PP GG F_S_l14Copy cs r os :=
  fn_valid_n 1 1 [0, 1, 2, 3, 4, 14] c_S_l14Copy [(.give, 2, some (true, 3))] [none] rcs Tryd.func65 rfl rfl (by kernel_rfl) k_S_l14Copy rfl rfl hN hret hW
def c_S_l14At_0 : ACode := .reg [⟨.var 2, .box (.var 0), none, []⟩,
  ⟨.var 4, .mv (.const (.d (.int .i64 0))), none, []⟩] false
def c_S_l14At_1 : ACode := .reg [⟨.var 5, .mv (.const (.d (.int .i64 0))), none, []⟩] false
def c_S_l14At_2 : ACode := .reg [⟨.loc 6, .mv (.var 5), none, []⟩,
  ⟨.loc 7, .fld 2 (.var 2), none, []⟩,
  ⟨.loc 8, .load false 1 (.loc 7), none, []⟩,
  ⟨.loc 9, .len false (.loc 8), none, []⟩,
  ⟨.var 10, .bin .int .lss (.loc 6) (.loc 9), none, []⟩] false
def c_S_l14At_3 : ACode := .reg [⟨.loc 13, .fld 2 (.var 2), none, []⟩,
  ⟨.loc 14, .load false 1 (.loc 13), none, []⟩,
  ⟨.loc 15, .mv (.var 5), none, []⟩,
  ⟨.loc 16, .idxA 6 (.loc 14) (.loc 15), none, []⟩,
  ⟨.loc 17, .fld 0 (.loc 16), none, []⟩,
  ⟨.loc 18, .load false 1 (.loc 17), none, []⟩,
  ⟨.loc 19, .mv (.var 1), none, []⟩,
  ⟨.var 20, .bin .int .eql (.loc 18) (.loc 19), none, []⟩] false
def c_S_l14At_4 : ACode := .reg [⟨.loc 21, .mv (.var 5), none, []⟩,
  ⟨.var 4, .mv (.loc 21), none, []⟩] false
def c_S_l14At_5 : ACode := .reg [⟨.loc 11, .mv (.var 5), none, []⟩,
  ⟨.loc 12, .bin .int .add (.loc 11) (.const (.d (.int .i64 1))), none, []⟩,
  ⟨.var 5, .mv (.loc 12), none, []⟩] false
def c_S_l14At_6 : ACode := (.seq (.seq c_S_l14At_2 (.cond (.var 10) .skip (.exit 0))) (.seq (.block 1 (.seq c_S_l14At_3 (.cond (.var 20) (.seq c_S_l14At_4 .ret) .skip))) c_S_l14At_5))
def c_S_l14At_7 : ACode := .reg [⟨.var 4, .mv (.const (.d (.int .i64 (-1)))), none, []⟩] false
def c_S_l14At : ACode := (.seq c_S_l14At_0 (.seq (.seq c_S_l14At_1 (.block 0 (.loop [1, 2, 5] c_S_l14At_6))) (.seq c_S_l14At_7 .ret)))
abbrev F_S_l14At : FuncId := 66
theorem k_S_l14At : comp PP (Tryd.f66.ntmps, pinOf 0 [none, none]) [0, 1, 2, 4, 5, 10, 20] (Tryd.f66.body.getD .skip) = some c_S_l14At.erase := by kernel_rfl
theorem v_S_l14At {GG : GV} (rcs : List C) {cs : List C} {r : C} {os : List (Option C)} (hN : (cs.length == 2 && rcs.length == 1) = true) (hret : retOf rcs = r)
    (hW : W PP [0, 1, 2, 4, 5, 10, 20] (Tryd.f66.ntmps, pinOf 0 [none, none]) (Valid PP GG) c_S_l14At (entry cs) (Fin (Valid PP GG) [(.give, 4, none)] [none, none] rcs os) (fun _ _ => False) (Fin (Valid PP GG) [(.give, 4, none)] [none, none] rcs os)) : Valid PP GG F_S_l14At cs r os :=
  fn_valid_n 2 1 [0, 1, 2, 4, 5, 10, 20] c_S_l14At [(.give, 4, none)] [none, none] rcs Tryd.func66 rfl rfl (by kernel_rfl) k_S_l14At rfl rfl hN hret hW
def c_S_l14Less_0 : ACode := .reg [⟨.var 2, .box (.var 0), none, []⟩,
  ⟨.var 4, .alloc [.d (.int .i64 0), .d (.int .i64 0), .nil 1 6], none, []⟩] false
def c_S_l14Less_1 : ACode := .reg [⟨.loc 7, .fld 0 (.var 2), none, []⟩,
  ⟨.loc 8, .load false 1 (.loc 7), none, []⟩,
  ⟨.loc 9, .fld 1 (.var 2), none, []⟩,
  ⟨.loc 10, .load false 1 (.loc 9), none, []⟩,
  ⟨.loc 11, .build [.d (.int .i64 0), .d (.int .i64 0), .nil 1 6] [(0, 1, (.loc 8)), (1, 1, (.loc 10))], none, []⟩,
  ⟨.var 5, .alloc [.d (.int .i64 0), .d (.int .i64 0), .nil 1 6], none, []⟩,
  ⟨.none, .store 3 (.var 5) (.loc 11), none, []⟩] false
def c_S_l14Less_2 : ACode := .reg [⟨.var 6, .mv (.const (.d (.int .i64 0))), none, []⟩] false
def c_S_l14Less_3 : ACode := .reg [⟨.loc 12, .mv (.var 6), none, []⟩,
  ⟨.loc 13, .fld 2 (.var 2), none, []⟩,
  ⟨.loc 14, .load false 1 (.loc 13), none, []⟩,
  ⟨.loc 15, .len false (.loc 14), none, []⟩,
  ⟨.var 16, .bin .int .lss (.loc 12) (.loc 15), none, []⟩] false
def c_S_l14Less_4 : ACode := .reg [⟨.loc 19, .fld 2 (.var 2), none, []⟩,
  ⟨.loc 20, .load false 1 (.loc 19), none, []⟩,
  ⟨.loc 21, .mv (.var 6), none, []⟩,
  ⟨.loc 22, .idxA 6 (.loc 20) (.loc 21), none, []⟩,
  ⟨.loc 23, .fld 0 (.loc 22), none, []⟩,
  ⟨.loc 24, .load false 1 (.loc 23), none, []⟩,
  ⟨.loc 25, .mv (.var 1), none, []⟩,
  ⟨.var 26, .bin .int .neq (.loc 24) (.loc 25), none, []⟩] false
def c_S_l14Less_5 : ACode := .reg [⟨.loc 27, .fld 2 (.var 5), none, []⟩,
  ⟨.loc 28, .load false 1 (.loc 27), none, [0]⟩,
  ⟨.loc 29, .fld 2 (.var 2), none, []⟩,
  ⟨.loc 30, .load false 1 (.loc 29), none, [2]⟩,
  ⟨.loc 31, .mv (.var 6), none, []⟩,
  ⟨.loc 32, .idxA 6 (.loc 30) (.loc 31), none, [3, 2, 4]⟩,
  ⟨.loc 33, .load true 6 (.loc 32), none, [5, 3, 2, 4]⟩,
  ⟨.loc 34, .call (.fn 106) [(.loc 33)] [.borrow], none, [6, 5, 3, 2, 4]⟩,
  ⟨.loc 35, .lit 1 6 1 [.int .i64 0, .int .i64 0, .str [], .int .i64 0, .slc 1 [], .int .i64 0] [(0, (.loc 34))], none, [7, 6, 5, 3, 2, 4]⟩,
  ⟨.loc 36, .app 6 72 (.loc 28) (.loc 35), none, [1, 0, 8, 7, 6, 5, 3, 2, 4]⟩,
  ⟨.loc 37, .fld 2 (.var 5), none, [9, 1, 0, 8, 7, 6, 5, 3, 2, 4]⟩,
  ⟨.none, .store 1 (.loc 37) (.loc 36), none, [10, 9, 1, 0, 8, 7, 6, 5, 3, 2, 4]⟩] true
def c_S_l14Less_6 : ACode := .reg [⟨.loc 17, .mv (.var 6), none, []⟩,
  ⟨.loc 18, .bin .int .add (.loc 17) (.const (.d (.int .i64 1))), none, []⟩,
  ⟨.var 6, .mv (.loc 18), none, []⟩] false
def c_S_l14Less_7 : ACode := (.seq (.seq c_S_l14Less_3 (.cond (.var 16) .skip (.exit 0))) (.seq (.block 1 (.seq c_S_l14Less_4 (.cond (.var 26) c_S_l14Less_5 .skip))) c_S_l14Less_6))
def c_S_l14Less_8 : ACode := .reg [⟨.loc 38, .load true 3 (.var 5), none, []⟩,
  ⟨.none, .store 3 (.var 4) (.loc 38), none, []⟩] false
def c_S_l14Less : ACode := (.seq c_S_l14Less_0 (.seq c_S_l14Less_1 (.seq (.seq c_S_l14Less_2 (.block 0 (.loop [1, 2, 4, 5, 6] c_S_l14Less_7))) (.seq c_S_l14Less_8 .ret))))
abbrev F_S_l14Less : FuncId := 67
theorem k_S_l14Less : comp PP (Tryd.f67.ntmps, pinOf 0 [none, none]) [0, 1, 2, 4, 5, 6, 16, 26] (Tryd.f67.body.getD .skip) = some c_S_l14Less.erase := by kernel_rfl
theorem v_S_l14Less {GG : GV} (rcs : List C) {cs : List C} {r : C} {os : List (Option C)} (hN : (cs.length == 2 && rcs.length == 1) = true) (hret : retOf rcs = r)
    (hW : W PP [0, 1, 2, 4, 5, 6, 16, 26] (Tryd.f67.ntmps, pinOf 0 [none, none]) (Valid PP GG) c_S_l14Less (entry cs) (Fin (Valid PP GG) [(.give, 4, some (true, 3))] [none, none] rcs os) (fun _ _ => False) (Fin (Valid PP GG) [(.give, 4, some (true, 3))] [none, none] rcs os)) : Valid PP GG F_S_l14Less cs r os :=
  fn_valid_n 2 1 [0, 1, 2, 4, 5, 6, 16, 26] c_S_l14Less [(.give, 4, some (true, 3))] [none, none] rcs Tryd.func67 rfl rfl (by kernel_rfl) k_S_l14Less rfl rfl hN hret hW
def c_S_OpenBox_0 : ACode := .reg [⟨.var 3, .box (.var 1), none, []⟩,
  ⟨.var 4, .mv (.const (.nil 0 1)), none, []⟩,
  ⟨.var 5, .mv (.const (.d (.bool false))), none, []⟩] false
def c_S_OpenBox_1 : ACode := .reg [⟨.loc 6, .mv (.var 0), none, []⟩,
  ⟨.loc 7, .call (.fn 95) [(.loc 6)] [.borrow], none, [0]⟩,
  ⟨.loc 8, .un .not (.loc 7), none, [1, 0]⟩,
  ⟨.loc 9, .split (.loc 8), none, [2, 1, 0]⟩,
  ⟨.loc 10, .fld 0 (.var 3), some ((.loc 9), false), [3, 2, 1, 0]⟩,
  ⟨.loc 11, .load false 1 (.loc 10), some ((.loc 9), false), [4, 3, 2, 1, 0]⟩,
  ⟨.loc 12, .call (.fn 95) [(.loc 11)] [.borrow], some ((.loc 9), false), [5, 4, 3, 2, 1, 0]⟩,
  ⟨.loc 13, .un .not (.loc 12), some ((.loc 9), false), [6, 5, 4, 3, 2, 1, 0]⟩,
  ⟨.loc 14, .pick (.loc 9) (.const (.d (.bool true))) (.loc 13), none, [7, 6, 5, 4, 3, 2, 1, 0]⟩,
  ⟨.loc 15, .split (.loc 14), none, [8, 7, 6, 5, 4, 3, 2, 1, 0]⟩,
  ⟨.loc 16, .fld 1 (.var 3), some ((.loc 15), false), [9, 8, 7, 6, 5, 4, 3, 2, 1, 0]⟩,
  ⟨.loc 17, .load false 1 (.loc 16), some ((.loc 15), false), [10, 9, 8, 7, 6, 5, 4, 3, 2, 1, 0]⟩,
  ⟨.loc 18, .len false (.loc 17), some ((.loc 15), false), [11, 10, 9, 8, 7, 6, 5, 4, 3, 2, 1, 0]⟩,
  ⟨.loc 19, .bin .int .gtr (.loc 18) (.const (.d (.int .i64 2000))), some ((.loc 15), false), [12, 11, 10, 9, 8, 7, 6, 5, 4, 3, 2, 1, 0]⟩,
  ⟨.loc 20, .pick (.loc 15) (.const (.d (.bool true))) (.loc 19), none, [13, 12, 11, 10, 9, 8, 7, 6, 5, 4, 3, 2, 1, 0]⟩,
  ⟨.loc 21, .split (.loc 20), none, [14, 13, 12, 11, 10, 9, 8, 7, 6, 5, 4, 3, 2, 1, 0]⟩,
  ⟨.loc 22, .mv (.var 0), some ((.loc 21), false), [15, 14, 13, 12, 11, 10, 9, 8, 7, 6, 5, 4, 3, 2, 1, 0]⟩,
  ⟨.loc 23, .fld 0 (.var 3), some ((.loc 21), false), [15, 14, 13, 12, 11, 10, 9, 8, 7, 6, 5, 4, 3, 2, 1, 0]⟩,
  ⟨.loc 24, .load false 1 (.loc 23), some ((.loc 21), false), [17, 15, 14, 13, 12, 11, 10, 9, 8, 7, 6, 5, 4, 3, 2, 1, 0]⟩,
  ⟨.loc 25, .fld 1 (.var 3), some ((.loc 21), false), [15, 14, 13, 12, 11, 10, 9, 8, 7, 6, 5, 4, 3, 2, 1, 0]⟩,
  ⟨.loc 26, .load false 1 (.loc 25), some ((.loc 21), false), [19, 15, 14, 13, 12, 11, 10, 9, 8, 7, 6, 5, 4, 3, 2, 1, 0]⟩,
  ⟨.loc 27, .call (.fn 107) [(.loc 22), (.loc 24), (.loc 26)] [.borrow, .borrow, .borrow], some ((.loc 21), false), [16, 18, 17, 20, 19, 15, 14, 13, 12, 11, 10, 9, 8, 7, 6, 5, 4, 3, 2, 1, 0]⟩,
  ⟨.loc 28, .fld 2 (.var 3), some ((.loc 21), false), [15, 14, 13, 12, 11, 10, 9, 8, 7, 6, 5, 4, 3, 2, 1, 0]⟩,
  ⟨.loc 29, .load false 1 (.loc 28), some ((.loc 21), false), [22, 15, 14, 13, 12, 11, 10, 9, 8, 7, 6, 5, 4, 3, 2, 1, 0]⟩,
  ⟨.loc 30, .bin .int .neq (.loc 27) (.loc 29), some ((.loc 21), false), [21, 16, 18, 17, 20, 19, 23, 22, 15, 14, 13, 12, 11, 10, 9, 8, 7, 6, 5, 4, 3, 2, 1, 0]⟩,
  ⟨.var 31, .pick (.loc 21) (.const (.d (.bool true))) (.loc 30), none, [24, 21, 16, 18, 17, 20, 19, 23, 22, 15, 14, 13, 12, 11, 10, 9, 8, 7, 6, 5, 4, 3, 2, 1, 0]⟩] true
def c_S_OpenBox_2 : ACode := .reg [⟨.var 4, .mv (.const (.nil 0 1)), none, []⟩,
  ⟨.var 5, .mv (.const (.d (.bool false))), none, []⟩] false
def c_S_OpenBox_3 : ACode := .reg [⟨.loc 32, .mv (.var 0), none, []⟩,
  ⟨.loc 33, .fld 0 (.var 3), none, []⟩,
  ⟨.loc 34, .load false 1 (.loc 33), none, []⟩,
  ⟨.loc 35, .fld 1 (.var 3), none, []⟩,
  ⟨.loc 36, .load false 1 (.loc 35), none, []⟩,
  ⟨.loc 37, .call (.fn 108) [(.loc 32), (.loc 34), (.loc 36)] [.borrow, .borrow, .borrow], none, []⟩,
  ⟨.var 4, .mv (.loc 37), none, []⟩,
  ⟨.var 5, .mv (.const (.d (.bool true))), none, []⟩] false
def c_S_OpenBox : ACode := (.seq c_S_OpenBox_0 (.seq (.seq c_S_OpenBox_1 (.cond (.var 31) (.seq c_S_OpenBox_2 .ret) .skip)) (.seq c_S_OpenBox_3 .ret)))
abbrev F_S_OpenBox : FuncId := 68
theorem k_S_OpenBox : comp PP (Tryd.f68.ntmps, pinOf 0 [none, none]) [0, 1, 3, 4, 5, 31] (Tryd.f68.body.getD .skip) = some c_S_OpenBox.erase := by kernel_rfl
theorem v_S_OpenBox {GG : GV} (rcs : List C) {cs : List C} {r : C} {os : List (Option C)} (hN : (cs.length == 2 && rcs.length == 2) = true) (hret : retOf rcs = r)
    (hW : W PP [0, 1, 3, 4, 5, 31] (Tryd.f68.ntmps, pinOf 0 [none, none]) (Valid PP GG) c_S_OpenBox (entry cs) (Fin (Valid PP GG) [(.give, 4, none), (.give, 5, none)] [none, none] rcs os) (fun _ _ => False) (Fin (Valid PP GG) [(.give, 4, none), (.give, 5, none)] [none, none] rcs os)) : Valid PP GG F_S_OpenBox cs r os :=
  fn_valid_n 2 2 [0, 1, 3, 4, 5, 31] c_S_OpenBox [(.give, 4, none), (.give, 5, none)] [none, none] rcs Tryd.func68 rfl rfl (by kernel_rfl) k_S_OpenBox rfl rfl hN hret hW
def c_L_toWrapS_0 : ACode := .reg [⟨.var 2, .mv (.const (.nil 1 6)), none, []⟩] false
def c_L_toWrapS_1 : ACode := .reg [⟨.loc 5, .mv (.var 0), none, []⟩,
  ⟨.loc 6, .len false (.loc 5), none, []⟩,
  ⟨.loc 7, .mkslice 1 6 72 [.int .i64 0, .int .i64 0, .str [], .int .i64 0, .slc 1 [], .int .i64 0] (.loc 6) (.loc 6), none, []⟩,
  ⟨.var 3, .mv (.loc 7), none, []⟩] false
def c_L_toWrapS_2 : ACode := .reg [⟨.var 4, .mv (.const (.d (.int .i64 0))), none, []⟩] false
def c_L_toWrapS_3 : ACode := .reg [⟨.loc 8, .mv (.var 4), none, []⟩,
  ⟨.loc 9, .mv (.var 0), none, []⟩,
  ⟨.loc 10, .len false (.loc 9), none, []⟩,
  ⟨.var 11, .bin .int .lss (.loc 8) (.loc 10), none, []⟩] false
def c_L_toWrapS_4 : ACode := .reg [⟨.loc 14, .mv (.var 3), none, []⟩,
  ⟨.loc 15, .mv (.var 4), none, []⟩,
  ⟨.loc 16, .mv (.var 0), none, []⟩,
  ⟨.loc 17, .mv (.var 4), none, []⟩,
  ⟨.loc 18, .idxA 6 (.loc 16) (.loc 17), none, []⟩,
  ⟨.loc 19, .load true 6 (.loc 18), none, []⟩,
  ⟨.loc 20, .call (.fn 109) [(.loc 19)] [.borrow], none, []⟩,
  ⟨.loc 21, .idxA 6 (.loc 14) (.loc 15), none, []⟩,
  ⟨.none, .store 6 (.loc 21) (.loc 20), none, []⟩] false
def c_L_toWrapS_5 : ACode := .reg [⟨.loc 12, .mv (.var 4), none, []⟩,
  ⟨.loc 13, .bin .int .add (.loc 12) (.const (.d (.int .i64 1))), none, []⟩,
  ⟨.var 4, .mv (.loc 13), none, []⟩] false
def c_L_toWrapS_6 : ACode := (.seq (.seq c_L_toWrapS_3 (.cond (.var 11) .skip (.exit 0))) (.seq (.block 1 c_L_toWrapS_4) c_L_toWrapS_5))
def c_L_toWrapS_7 : ACode := .reg [⟨.loc 22, .mv (.var 3), none, []⟩,
  ⟨.var 2, .mv (.loc 22), none, []⟩] false
def c_L_toWrapS : ACode := (.seq c_L_toWrapS_0 (.seq c_L_toWrapS_1 (.seq (.seq c_L_toWrapS_2 (.block 0 (.loop [0, 3, 4] c_L_toWrapS_6))) (.seq c_L_toWrapS_7 .ret))))
abbrev F_L_toWrapS : FuncId := 69
theorem k_L_toWrapS : comp PP (Tryd.f69.ntmps, pinOf 0 [none]) [0, 2, 3, 4, 11] (Tryd.f69.body.getD .skip) = some c_L_toWrapS.erase := by kernel_rfl
theorem v_L_toWrapS {GG : GV} (rcs : List C) {cs : List C} {r : C} {os : List (Option C)} (hN : (cs.length == 1 && rcs.length == 1) = true) (hret : retOf rcs = r)
    (hW : W PP [0, 2, 3, 4, 11] (Tryd.f69.ntmps, pinOf 0 [none]) (Valid PP GG) c_L_toWrapS (entry cs) (Fin (Valid PP GG) [(.give, 2, none)] [none] rcs os) (fun _ _ => False) (Fin (Valid PP GG) [(.give, 2, none)] [none] rcs os)) : Valid PP GG F_L_toWrapS cs r os :=
  fn_valid_n 1 1 [0, 2, 3, 4, 11] c_L_toWrapS [(.give, 2, none)] [none] rcs Tryd.func69 rfl rfl (by kernel_rfl) k_L_toWrapS rfl rfl hN hret hW
def c_I_isRack_0 : ACode := .reg [⟨.var 1, .box (.var 0), none, []⟩,
  ⟨.var 2, .mv (.const (.d (.bool false))), none, []⟩] false
def c_I_isRack_1 : ACode := .reg [⟨.loc 5, .fld 0 (.var 1), none, []⟩,
  ⟨.loc 6, .load false 1 (.loc 5), none, []⟩,
  ⟨.loc 7, .call (.fn 100) [(.loc 6)] [.borrow], none, []⟩,
  ⟨.loc 8, .un .not (.loc 7), none, []⟩,
  ⟨.loc 9, .split (.loc 8), none, []⟩,
  ⟨.loc 10, .fld 1 (.var 1), some ((.loc 9), false), []⟩,
  ⟨.loc 11, .load false 1 (.loc 10), some ((.loc 9), false), []⟩,
  ⟨.loc 12, .call (.fn 71) [(.loc 11), (.const (.d (.int .i64 1))), (.const (.d (.int .i64 1000000000)))] [.borrow, .borrow, .borrow], some ((.loc 9), false), []⟩,
  ⟨.loc 13, .un .not (.loc 12), some ((.loc 9), false), []⟩,
  ⟨.loc 14, .pick (.loc 9) (.const (.d (.bool true))) (.loc 13), none, []⟩,
  ⟨.loc 15, .split (.loc 14), none, []⟩,
  ⟨.loc 16, .fld 2 (.var 1), some ((.loc 15), false), []⟩,
  ⟨.loc 17, .load false 1 (.loc 16), some ((.loc 15), false), []⟩,
  ⟨.loc 18, .len false (.loc 17), some ((.loc 15), false), []⟩,
  ⟨.loc 19, .bin .int .gtr (.loc 18) (.const (.d (.int .i64 60))), some ((.loc 15), false), []⟩,
  ⟨.var 20, .pick (.loc 15) (.const (.d (.bool true))) (.loc 19), none, []⟩] false
def c_I_isRack_2 : ACode := .reg [⟨.var 2, .mv (.const (.d (.bool false))), none, []⟩] false
def c_I_isRack_3 : ACode := .reg [⟨.loc 21, .fld 2 (.var 1), none, []⟩,
  ⟨.var 22, .load false 1 (.loc 21), none, []⟩,
  ⟨.var 23, .len false (.var 22), none, []⟩,
  ⟨.var 24, .mv (.const (.d (.int .i64 0))), none, []⟩] false
def c_I_isRack_4 : ACode := .reg [⟨.var 25, .bin .int .lss (.var 24) (.var 23), none, []⟩] false
def c_I_isRack_5 : ACode := .reg [⟨.loc 26, .mv (.var 24), none, []⟩,
  ⟨.loc 27, .idxA 6 (.var 22) (.var 24), none, []⟩,
  ⟨.loc 28, .load true 6 (.loc 27), none, []⟩,
  ⟨.var 4, .alloc [.d (.int .i64 0), .d (.int .i64 0), .d (.str []), .d (.int .i64 0), .nil 0 1, .d (.int .i64 0)], none, []⟩,
  ⟨.var 3, .mv (.loc 26), none, []⟩,
  ⟨.none, .store 6 (.var 4) (.loc 28), none, []⟩] false
def c_I_isRack_6 : ACode := .reg [⟨.loc 29, .fld 0 (.var 4), none, []⟩,
  ⟨.loc 30, .load false 1 (.loc 29), none, [0]⟩,
  ⟨.loc 31, .fld 1 (.var 1), none, []⟩,
  ⟨.loc 32, .load false 1 (.loc 31), none, [2]⟩,
  ⟨.loc 33, .bin .int .sub (.loc 32) (.const (.d (.int .i64 1))), none, [3, 2]⟩,
  ⟨.loc 34, .call (.fn 71) [(.loc 30), (.const (.d (.int .i64 1))), (.loc 33)] [.borrow, .borrow, .borrow], none, [1, 0, 4, 3, 2]⟩,
  ⟨.loc 35, .un .not (.loc 34), none, [5, 1, 0, 4, 3, 2]⟩,
  ⟨.loc 36, .split (.loc 35), none, [6, 5, 1, 0, 4, 3, 2]⟩,
  ⟨.loc 37, .fld 1 (.var 4), some ((.loc 36), false), [7, 6, 5, 1, 0, 4, 3, 2]⟩,
  ⟨.loc 38, .load false 1 (.loc 37), some ((.loc 36), false), [8, 7, 6, 5, 1, 0, 4, 3, 2]⟩,
  ⟨.loc 39, .call (.fn 71) [(.loc 38), (.const (.d (.int .i64 1))), (.const (.d (.int .i64 1000000000)))] [.borrow, .borrow, .borrow], some ((.loc 36), false), [9, 8, 7, 6, 5, 1, 0, 4, 3, 2]⟩,
  ⟨.loc 40, .un .not (.loc 39), some ((.loc 36), false), [10, 9, 8, 7, 6, 5, 1, 0, 4, 3, 2]⟩,
  ⟨.loc 41, .pick (.loc 36) (.const (.d (.bool true))) (.loc 40), none, [11, 10, 9, 8, 7, 6, 5, 1, 0, 4, 3, 2]⟩,
  ⟨.loc 42, .split (.loc 41), none, [12, 11, 10, 9, 8, 7, 6, 5, 1, 0, 4, 3, 2]⟩,
  ⟨.loc 43, .fld 2 (.var 4), some ((.loc 42), false), [13, 12, 11, 10, 9, 8, 7, 6, 5, 1, 0, 4, 3, 2]⟩,
  ⟨.loc 44, .load false 1 (.loc 43), some ((.loc 42), false), [14, 13, 12, 11, 10, 9, 8, 7, 6, 5, 1, 0, 4, 3, 2]⟩,
  ⟨.loc 45, .call (.fn 110) [(.loc 44)] [.borrow], some ((.loc 42), false), [15, 14, 13, 12, 11, 10, 9, 8, 7, 6, 5, 1, 0, 4, 3, 2]⟩,
  ⟨.loc 46, .un .not (.loc 45), some ((.loc 42), false), [16, 15, 14, 13, 12, 11, 10, 9, 8, 7, 6, 5, 1, 0, 4, 3, 2]⟩,
  ⟨.loc 47, .pick (.loc 42) (.const (.d (.bool true))) (.loc 46), none, [17, 16, 15, 14, 13, 12, 11, 10, 9, 8, 7, 6, 5, 1, 0, 4, 3, 2]⟩,
  ⟨.loc 48, .split (.loc 47), none, [18, 17, 16, 15, 14, 13, 12, 11, 10, 9, 8, 7, 6, 5, 1, 0, 4, 3, 2]⟩,
  ⟨.loc 49, .mv (.var 3), some ((.loc 48), false), [19, 18, 17, 16, 15, 14, 13, 12, 11, 10, 9, 8, 7, 6, 5, 1, 0, 4, 3, 2]⟩,
  ⟨.loc 50, .bin .int .gtr (.loc 49) (.const (.d (.int .i64 0))), some ((.loc 48), false), [20, 19, 18, 17, 16, 15, 14, 13, 12, 11, 10, 9, 8, 7, 6, 5, 1, 0, 4, 3, 2]⟩,
  ⟨.loc 51, .split (.loc 50), some ((.loc 48), false), [21, 20, 19, 18, 17, 16, 15, 14, 13, 12, 11, 10, 9, 8, 7, 6, 5, 1, 0, 4, 3, 2]⟩,
  ⟨.loc 52, .fld 2 (.var 1), some ((.loc 51), true), [22, 21, 20, 19, 18, 17, 16, 15, 14, 13, 12, 11, 10, 9, 8, 7, 6, 5, 1, 0, 4, 3, 2]⟩,
  ⟨.loc 53, .load false 1 (.loc 52), some ((.loc 51), true), [23, 22, 21, 20, 19, 18, 17, 16, 15, 14, 13, 12, 11, 10, 9, 8, 7, 6, 5, 1, 0, 4, 3, 2]⟩,
  ⟨.loc 54, .mv (.var 3), some ((.loc 51), true), [22, 21, 20, 19, 18, 17, 16, 15, 14, 13, 12, 11, 10, 9, 8, 7, 6, 5, 1, 0, 4, 3, 2]⟩,
  ⟨.loc 55, .bin .int .sub (.loc 54) (.const (.d (.int .i64 1))), some ((.loc 51), true), [25, 22, 21, 20, 19, 18, 17, 16, 15, 14, 13, 12, 11, 10, 9, 8, 7, 6, 5, 1, 0, 4, 3, 2]⟩,
  ⟨.loc 56, .idxA 6 (.loc 53) (.loc 55), some ((.loc 51), true), [24, 23, 26, 25, 22, 21, 20, 19, 18, 17, 16, 15, 14, 13, 12, 11, 10, 9, 8, 7, 6, 5, 1, 0, 4, 3, 2]⟩,
  ⟨.loc 57, .fld 0 (.loc 56), some ((.loc 51), true), [27, 24, 23, 26, 25, 22, 21, 20, 19, 18, 17, 16, 15, 14, 13, 12, 11, 10, 9, 8, 7, 6, 5, 1, 0, 4, 3, 2]⟩,
  ⟨.loc 58, .load false 1 (.loc 57), some ((.loc 51), true), [28, 27, 24, 23, 26, 25, 22, 21, 20, 19, 18, 17, 16, 15, 14, 13, 12, 11, 10, 9, 8, 7, 6, 5, 1, 0, 4, 3, 2]⟩,
  ⟨.loc 59, .fld 0 (.var 4), some ((.loc 51), true), [22, 21, 20, 19, 18, 17, 16, 15, 14, 13, 12, 11, 10, 9, 8, 7, 6, 5, 1, 0, 4, 3, 2]⟩,
  ⟨.loc 60, .load false 1 (.loc 59), some ((.loc 51), true), [30, 22, 21, 20, 19, 18, 17, 16, 15, 14, 13, 12, 11, 10, 9, 8, 7, 6, 5, 1, 0, 4, 3, 2]⟩,
  ⟨.loc 61, .bin .int .geq (.loc 58) (.loc 60), some ((.loc 51), true), [29, 28, 27, 24, 23, 26, 25, 31, 30, 22, 21, 20, 19, 18, 17, 16, 15, 14, 13, 12, 11, 10, 9, 8, 7, 6, 5, 1, 0, 4, 3, 2]⟩,
  ⟨.loc 62, .pick (.loc 51) (.loc 61) (.const (.d (.bool false))), some ((.loc 48), false), [32, 29, 28, 27, 24, 23, 26, 25, 31, 30, 22, 21, 20, 19, 18, 17, 16, 15, 14, 13, 12, 11, 10, 9, 8, 7, 6, 5, 1, 0, 4, 3, 2]⟩,
  ⟨.var 63, .pick (.loc 48) (.const (.d (.bool true))) (.loc 62), none, [33, 32, 29, 28, 27, 24, 23, 26, 25, 31, 30, 22, 21, 20, 19, 18, 17, 16, 15, 14, 13, 12, 11, 10, 9, 8, 7, 6, 5, 1, 0, 4, 3, 2]⟩] true
def c_I_isRack_7 : ACode := .reg [⟨.var 2, .mv (.const (.d (.bool false))), none, []⟩] false
def c_I_isRack_8 : ACode := .reg [⟨.loc 64, .bin .int .add (.var 24) (.const (.d (.int .i64 1))), none, []⟩,
  ⟨.var 24, .mv (.loc 64), none, []⟩] false
def c_I_isRack_9 : ACode := (.seq c_I_isRack_4 (.seq (.cond (.var 25) .skip (.exit 0)) (.seq (.block 1 (.seq c_I_isRack_5 (.seq c_I_isRack_6 (.cond (.var 63) (.seq c_I_isRack_7 .ret) .skip)))) c_I_isRack_8)))
def c_I_isRack_10 : ACode := .reg [⟨.var 2, .mv (.const (.d (.bool true))), none, []⟩] false
def c_I_isRack : ACode := (.seq c_I_isRack_0 (.seq (.seq c_I_isRack_1 (.cond (.var 20) (.seq c_I_isRack_2 .ret) .skip)) (.seq (.seq c_I_isRack_3 (.block 0 (.loop [1, 22, 23, 24] c_I_isRack_9))) (.seq c_I_isRack_10 .ret))))
abbrev F_I_isRack : FuncId := 70
theorem k_I_isRack : comp PP (Tryd.f70.ntmps, pinOf 0 [none]) [0, 1, 2, 3, 4, 20, 22, 23, 24, 25, 63] (Tryd.f70.body.getD .skip) = some c_I_isRack.erase := by kernel_rfl
theorem v_I_isRack {GG : GV} (rcs : List C) {cs : List C} {r : C} {os : List (Option C)} (hN : (cs.length == 1 && rcs.length == 1) = true) (hret : retOf rcs = r)
    (hW : W PP [0, 1, 2, 3, 4, 20, 22, 23, 24, 25, 63] (Tryd.f70.ntmps, pinOf 0 [none]) (Valid PP GG) c_I_isRack (entry cs) (Fin (Valid PP GG) [(.give, 2, none)] [none] rcs os) (fun _ _ => False) (Fin (Valid PP GG) [(.give, 2, none)] [none] rcs os)) : Valid PP GG F_I_isRack cs r os :=
  fn_valid_n 1 1 [0, 1, 2, 3, 4, 20, 22, 23, 24, 25, 63] c_I_isRack [(.give, 2, none)] [none] rcs Tryd.func70 rfl rfl (by kernel_rfl) k_I_isRack rfl rfl hN hret hW
def c_I_within_0 : ACode := .reg [⟨.var 6, .mv (.const (.d (.bool false))), none, []⟩] false
def c_I_within_1 : ACode := .reg [⟨.loc 7, .mv (.var 0), none, []⟩,
  ⟨.loc 8, .mv (.var 1), none, []⟩,
  ⟨.loc 9, .bin .int .geq (.loc 7) (.loc 8), none, []⟩,
  ⟨.loc 10, .split (.loc 9), none, []⟩,
  ⟨.loc 11, .mv (.var 0), some ((.loc 10), true), []⟩,
  ⟨.loc 12, .mv (.var 2), some ((.loc 10), true), []⟩,
  ⟨.loc 13, .bin .int .leq (.loc 11) (.loc 12), some ((.loc 10), true), []⟩,
  ⟨.loc 14, .pick (.loc 10) (.loc 13) (.const (.d (.bool false))), none, []⟩,
  ⟨.var 6, .mv (.loc 14), none, []⟩] false
def c_I_within : ACode := (.seq c_I_within_0 (.seq c_I_within_1 .ret))
abbrev F_I_within : FuncId := 71
theorem k_I_within : comp PP (Tryd.f71.ntmps, pinOf 0 [none, none, none]) [0, 1, 2, 6] (Tryd.f71.body.getD .skip) = some c_I_within.erase := by kernel_rfl
theorem v_I_within {GG : GV} (rcs : List C) {cs : List C} {r : C} {os : List (Option C)} (hN : (cs.length == 3 && rcs.length == 1) = true) (hret : retOf rcs = r)
    (hW : W PP [0, 1, 2, 6] (Tryd.f71.ntmps, pinOf 0 [none, none, none]) (Valid PP GG) c_I_within (entry cs) (Fin (Valid PP GG) [(.give, 6, none)] [none, none, none] rcs os) (fun _ _ => False) (Fin (Valid PP GG) [(.give, 6, none)] [none, none, none] rcs os)) : Valid PP GG F_I_within cs r os :=
  fn_valid_n 3 1 [0, 1, 2, 6] c_I_within [(.give, 6, none)] [none, none, none] rcs Tryd.func71 rfl rfl (by kernel_rfl) k_I_within rfl rfl hN hret hW
def c_I_cloneRack_0 : ACode := .reg [⟨.var 1, .box (.var 0), none, []⟩,
  ⟨.var 2, .alloc [.d (.int .i64 0), .d (.int .i64 0), .nil 1 6], none, []⟩] false
def c_I_cloneRack_1 : ACode := .reg [⟨.loc 6, .fld 0 (.var 1), none, []⟩,
  ⟨.loc 7, .load false 1 (.loc 6), none, []⟩,
  ⟨.loc 8, .fld 1 (.var 1), none, []⟩,
  ⟨.loc 9, .load false 1 (.loc 8), none, []⟩,
  ⟨.loc 10, .build [.d (.int .i64 0), .d (.int .i64 0), .nil 1 6] [(0, 1, (.loc 7)), (1, 1, (.loc 9))], none, []⟩,
  ⟨.var 3, .alloc [.d (.int .i64 0), .d (.int .i64 0), .nil 1 6], none, []⟩,
  ⟨.none, .store 3 (.var 3) (.loc 10), none, []⟩] false
def c_I_cloneRack_2 : ACode := .reg [⟨.loc 11, .fld 2 (.var 1), none, []⟩,
  ⟨.var 12, .load false 1 (.loc 11), none, []⟩,
  ⟨.var 13, .len false (.var 12), none, []⟩,
  ⟨.var 14, .mv (.const (.d (.int .i64 0))), none, []⟩] false
def c_I_cloneRack_3 : ACode := .reg [⟨.var 15, .bin .int .lss (.var 14) (.var 13), none, []⟩] false
def c_I_cloneRack_4 : ACode := .reg [⟨.loc 16, .idxA 6 (.var 12) (.var 14), none, []⟩,
  ⟨.loc 17, .load true 6 (.loc 16), none, []⟩,
  ⟨.var 5, .alloc [.d (.int .i64 0), .d (.int .i64 0), .d (.str []), .d (.int .i64 0), .nil 0 1, .d (.int .i64 0)], none, []⟩,
  ⟨.none, .store 6 (.var 5) (.loc 17), none, []⟩] false
def c_I_cloneRack_5 : ACode := .reg [⟨.loc 18, .fld 3 (.var 5), none, []⟩,
  ⟨.loc 19, .fld 1 (.loc 18), none, []⟩,
  ⟨.loc 20, .load false 1 (.loc 19), none, []⟩,
  ⟨.loc 21, .call (.fn 111) [(.loc 20)] [.borrow], none, []⟩,
  ⟨.loc 22, .fld 3 (.var 5), none, []⟩,
  ⟨.loc 23, .fld 1 (.loc 22), none, []⟩,
  ⟨.none, .store 1 (.loc 23) (.loc 21), none, []⟩] false
def c_I_cloneRack_6 : ACode := .reg [⟨.loc 24, .fld 2 (.var 3), none, []⟩,
  ⟨.loc 25, .load false 1 (.loc 24), none, []⟩,
  ⟨.loc 26, .load true 6 (.var 5), none, []⟩,
  ⟨.loc 27, .lit 1 6 1 [.int .i64 0, .int .i64 0, .str [], .int .i64 0, .slc 1 [], .int .i64 0] [(0, (.loc 26))], none, []⟩,
  ⟨.loc 28, .app 6 72 (.loc 25) (.loc 27), none, []⟩,
  ⟨.loc 29, .fld 2 (.var 3), none, []⟩,
  ⟨.none, .store 1 (.loc 29) (.loc 28), none, []⟩] false
def c_I_cloneRack_7 : ACode := .reg [⟨.loc 30, .bin .int .add (.var 14) (.const (.d (.int .i64 1))), none, []⟩,
  ⟨.var 14, .mv (.loc 30), none, []⟩] false
def c_I_cloneRack_8 : ACode := (.seq c_I_cloneRack_3 (.seq (.cond (.var 15) .skip (.exit 0)) (.seq (.block 1 (.seq c_I_cloneRack_4 (.seq c_I_cloneRack_5 c_I_cloneRack_6))) c_I_cloneRack_7)))
def c_I_cloneRack_9 : ACode := .reg [⟨.loc 31, .load true 3 (.var 3), none, []⟩,
  ⟨.none, .store 3 (.var 2) (.loc 31), none, []⟩] false
def c_I_cloneRack : ACode := (.seq c_I_cloneRack_0 (.seq c_I_cloneRack_1 (.seq (.seq c_I_cloneRack_2 (.block 0 (.loop [2, 3, 12, 13, 14] c_I_cloneRack_8))) (.seq c_I_cloneRack_9 .ret))))
abbrev F_I_cloneRack : FuncId := 72
theorem k_I_cloneRack : comp PP (Tryd.f72.ntmps, pinOf 0 [none]) [0, 1, 2, 3, 5, 12, 13, 14, 15] (Tryd.f72.body.getD .skip) = some c_I_cloneRack.erase := by kernel_rfl
theorem v_I_cloneRack {GG : GV} (rcs : List C) {cs : List C} {r : C} {os : List (Option C)} (hN : (cs.length == 1 && rcs.length == 1) = true) (hret : retOf rcs = r)
    (hW : W PP [0, 1, 2, 3, 5, 12, 13, 14, 15] (Tryd.f72.ntmps, pinOf 0 [none]) (Valid PP GG) c_I_cloneRack (entry cs) (Fin (Valid PP GG) [(.give, 2, some (true, 3))] [none] rcs os) (fun _ _ => False) (Fin (Valid PP GG) [(.give, 2, some (true, 3))] [none] rcs os)) : Valid PP GG F_I_cloneRack cs r os :=
  fn_valid_n 1 1 [0, 1, 2, 3, 5, 12, 13, 14, 15] c_I_cloneRack [(.give, 2, some (true, 3))] [none] rcs Tryd.func72 rfl rfl (by kernel_rfl) k_I_cloneRack rfl rfl hN hret hW
def c_I_openWrap_0 : ACode := .reg [⟨.var 3, .box (.var 0), none, []⟩,
  ⟨.var 6, .alloc [.d (.int .i64 0), .d (.int .i64 0), .nil 1 6], none, []⟩,
  ⟨.var 7, .mv (.const (.nil 0 1)), none, []⟩,
  ⟨.var 8, .mv (.const (.d (.int .i64 0))), none, []⟩] false
def c_I_openWrap_1 : ACode := .reg [⟨.loc 14, .load true 3 (.var 3), none, []⟩,
  ⟨.loc 15, .call (.fn 72) [(.loc 14)] [.borrow], none, []⟩,
  ⟨.var 9, .alloc [.d (.int .i64 0), .d (.int .i64 0), .nil 1 6], none, []⟩,
  ⟨.none, .store 3 (.var 9) (.loc 15), none, []⟩] false
def c_I_openWrap_2 : ACode := .reg [⟨.loc 16, .load true 3 (.var 3), none, []⟩,
  ⟨.loc 17, .mv (.var 1), none, []⟩,
  ⟨.loc 18, .call (.fn 79) [(.loc 16), (.loc 17)] [.borrow, .borrow], none, []⟩,
  ⟨.var 10, .mv (.loc 18), none, []⟩] false
def c_I_openWrap_3 : ACode := .reg [⟨.loc 19, .mv (.var 10), none, []⟩,
  ⟨.var 20, .bin .int .lss (.loc 19) (.const (.d (.int .i64 0))), none, []⟩] false
def c_I_openWrap_4 : ACode := .reg [⟨.loc 21, .load true 3 (.var 9), none, []⟩,
  ⟨.none, .store 3 (.var 6) (.loc 21), none, []⟩,
  ⟨.var 7, .mv (.const (.nil 0 1)), none, []⟩,
  ⟨.var 8, .mv (.const (.d (.int .i64 2))), none, []⟩] false
def c_I_openWrap_5 : ACode := .reg [⟨.loc 22, .fld 2 (.var 3), none, []⟩,
  ⟨.loc 23, .load false 1 (.loc 22), none, []⟩,
  ⟨.loc 24, .mv (.var 10), none, []⟩,
  ⟨.loc 25, .idxA 6 (.loc 23) (.loc 24), none, []⟩,
  ⟨.loc 26, .load true 6 (.loc 25), none, []⟩,
  ⟨.var 11, .alloc [.d (.int .i64 0), .d (.int .i64 0), .d (.str []), .d (.int .i64 0), .nil 0 1, .d (.int .i64 0)], none, []⟩,
  ⟨.none, .store 6 (.var 11) (.loc 26), none, []⟩] false
def c_I_openWrap_6 : ACode := .reg [⟨.loc 27, .fld 2 (.var 9), none, []⟩,
  ⟨.loc 28, .load false 1 (.loc 27), none, []⟩,
  ⟨.loc 29, .mv (.var 10), none, []⟩,
  ⟨.loc 30, .mv (.var 10), none, []⟩,
  ⟨.loc 31, .bin .int .add (.loc 30) (.const (.d (.int .i64 1))), none, []⟩,
  ⟨.loc 32, .call (.fn 112) [(.loc 28), (.loc 29), (.loc 31)] [.give, .borrow, .borrow], none, []⟩,
  ⟨.loc 33, .fld 2 (.var 9), none, []⟩,
  ⟨.none, .store 1 (.loc 33) (.loc 32), none, []⟩] false
def c_I_openWrap_7 : ACode := .reg [⟨.loc 34, .fld 1 (.var 11), none, []⟩,
  ⟨.loc 35, .load false 1 (.loc 34), none, []⟩,
  ⟨.loc 36, .mv (.var 2), none, []⟩,
  ⟨.var 37, .bin .int .leq (.loc 35) (.loc 36), none, []⟩] false
def c_I_openWrap_8 : ACode := .reg [⟨.loc 38, .load true 3 (.var 9), none, []⟩,
  ⟨.none, .store 3 (.var 6) (.loc 38), none, []⟩,
  ⟨.var 7, .mv (.const (.nil 0 1)), none, []⟩,
  ⟨.var 8, .mv (.const (.d (.int .i64 3))), none, []⟩] false
def c_I_openWrap_9 : ACode := .reg [⟨.loc 40, .fld 0 (.var 3), none, []⟩,
  ⟨.loc 41, .load false 1 (.loc 40), none, []⟩,
  ⟨.loc 42, .fld 3 (.var 11), none, []⟩,
  ⟨.loc 43, .load true 3 (.loc 42), none, []⟩,
  ⟨.loc 44, .call (.fn 113) [(.loc 41), (.loc 43)] [.borrow, .borrow], none, []⟩,
  ⟨.loc 39, .mv (.loc 44), none, []⟩,
  ⟨.loc 45, .ext (.loc 39) 0, none, []⟩,
  ⟨.loc 46, .ext (.loc 39) 1, none, []⟩,
  ⟨.var 12, .mv (.loc 45), none, []⟩,
  ⟨.var 13, .mv (.loc 46), none, []⟩] false
def c_I_openWrap_10 : ACode := .reg [⟨.loc 47, .mv (.var 13), none, []⟩,
  ⟨.var 48, .un .not (.loc 47), none, []⟩] false
def c_I_openWrap_11 : ACode := .reg [⟨.loc 49, .load true 3 (.var 9), none, []⟩,
  ⟨.none, .store 3 (.var 6) (.loc 49), none, []⟩,
  ⟨.var 7, .mv (.const (.nil 0 1)), none, []⟩,
  ⟨.var 8, .mv (.const (.d (.int .i64 4))), none, []⟩] false
def c_I_openWrap_12 : ACode := .reg [⟨.loc 50, .load true 3 (.var 9), none, []⟩,
  ⟨.loc 51, .mv (.var 12), none, []⟩,
  ⟨.none, .store 3 (.var 6) (.loc 50), none, []⟩,
  ⟨.var 7, .mv (.loc 51), none, []⟩,
  ⟨.var 8, .mv (.const (.d (.int .i64 0))), none, []⟩] false
def c_I_openWrap : ACode := (.seq c_I_openWrap_0 (.seq c_I_openWrap_1 (.seq c_I_openWrap_2 (.seq (.seq c_I_openWrap_3 (.cond (.var 20) (.seq c_I_openWrap_4 .ret) .skip)) (.seq c_I_openWrap_5 (.seq c_I_openWrap_6 (.seq (.seq c_I_openWrap_7 (.cond (.var 37) (.seq c_I_openWrap_8 .ret) .skip)) (.seq c_I_openWrap_9 (.seq (.seq c_I_openWrap_10 (.cond (.var 48) (.seq c_I_openWrap_11 .ret) .skip)) (.seq c_I_openWrap_12 .ret))))))))))
abbrev F_I_openWrap : FuncId := 73
theorem k_I_openWrap : comp PP (Tryd.f73.ntmps, pinOf 0 [none, none, none]) [0, 1, 2, 3, 6, 7, 8, 9, 10, 11, 12, 13, 20, 37, 48] (Tryd.f73.body.getD .skip) = some c_I_openWrap.erase := by kernel_rfl
theorem v_I_openWrap {GG : GV} (rcs : List C) {cs : List C} {r : C} {os : List (Option C)} (hN : (cs.length == 3 && rcs.length == 3) = true) (hret : retOf rcs = r)
    (hW : W PP [0, 1, 2, 3, 6, 7, 8, 9, 10, 11, 12, 13, 20, 37, 48] (Tryd.f73.ntmps, pinOf 0 [none, none, none]) (Valid PP GG) c_I_openWrap (entry cs) (Fin (Valid PP GG) [(.give, 6, some (true, 3)), (.give, 7, none), (.give, 8, none)] [none, none, none] rcs os) (fun _ _ => False) (Fin (Valid PP GG) [(.give, 6, some (true, 3)), (.give, 7, none), (.give, 8, none)] [none, none, none] rcs os)) : Valid PP GG F_I_openWrap cs r os :=
  fn_valid_n 3 3 [0, 1, 2, 3, 6, 7, 8, 9, 10, 11, 12, 13, 20, 37, 48] c_I_openWrap [(.give, 6, some (true, 3)), (.give, 7, none), (.give, 8, none)] [none, none, none] rcs Tryd.func73 rfl rfl (by kernel_rfl) k_I_openWrap rfl rfl hN hret hW
def c_L_eqWrapS_0 : ACode := .reg [⟨.var 4, .mv (.const (.d (.bool false))), none, []⟩] false
def c_L_eqWrapS_1 : ACode := .reg [⟨.loc 6, .mv (.var 0), none, []⟩,
  ⟨.loc 7, .len false (.loc 6), none, []⟩,
  ⟨.loc 8, .mv (.var 1), none, []⟩,
  ⟨.loc 9, .len false (.loc 8), none, []⟩,
  ⟨.var 10, .bin .int .neq (.loc 7) (.loc 9), none, []⟩] false
def c_L_eqWrapS_2 : ACode := .reg [⟨.var 4, .mv (.const (.d (.bool false))), none, []⟩] false
def c_L_eqWrapS_3 : ACode := .reg [⟨.var 5, .mv (.const (.d (.int .i64 0))), none, []⟩] false
def c_L_eqWrapS_4 : ACode := .reg [⟨.loc 11, .mv (.var 5), none, []⟩,
  ⟨.loc 12, .mv (.var 0), none, []⟩,
  ⟨.loc 13, .len false (.loc 12), none, []⟩,
  ⟨.var 14, .bin .int .lss (.loc 11) (.loc 13), none, []⟩] false
def c_L_eqWrapS_5 : ACode := .reg [⟨.loc 17, .mv (.var 0), none, []⟩,
  ⟨.loc 18, .mv (.var 5), none, []⟩,
  ⟨.loc 19, .idxA 6 (.loc 17) (.loc 18), none, [0, 1]⟩,
  ⟨.loc 20, .load true 6 (.loc 19), none, [2, 0, 1]⟩,
  ⟨.loc 21, .mv (.var 1), none, []⟩,
  ⟨.loc 22, .mv (.var 5), none, []⟩,
  ⟨.loc 23, .idxA 6 (.loc 21) (.loc 22), none, [4, 5]⟩,
  ⟨.loc 24, .load true 6 (.loc 23), none, [6, 4, 5]⟩,
  ⟨.loc 25, .call (.fn 114) [(.loc 20), (.loc 24)] [.borrow, .borrow], none, [3, 2, 0, 1, 7, 6, 4, 5]⟩,
  ⟨.var 26, .un .not (.loc 25), none, [8, 3, 2, 0, 1, 7, 6, 4, 5]⟩] true
def c_L_eqWrapS_6 : ACode := .reg [⟨.var 4, .mv (.const (.d (.bool false))), none, []⟩] false
def c_L_eqWrapS_7 : ACode := .reg [⟨.loc 15, .mv (.var 5), none, []⟩,
  ⟨.loc 16, .bin .int .add (.loc 15) (.const (.d (.int .i64 1))), none, []⟩,
  ⟨.var 5, .mv (.loc 16), none, []⟩] false
def c_L_eqWrapS_8 : ACode := (.seq (.seq c_L_eqWrapS_4 (.cond (.var 14) .skip (.exit 0))) (.seq (.block 1 (.seq c_L_eqWrapS_5 (.cond (.var 26) (.seq c_L_eqWrapS_6 .ret) .skip))) c_L_eqWrapS_7))
def c_L_eqWrapS_9 : ACode := .reg [⟨.var 4, .mv (.const (.d (.bool true))), none, []⟩] false
def c_L_eqWrapS : ACode := (.seq c_L_eqWrapS_0 (.seq (.seq c_L_eqWrapS_1 (.cond (.var 10) (.seq c_L_eqWrapS_2 .ret) .skip)) (.seq (.seq c_L_eqWrapS_3 (.block 0 (.loop [0, 1, 5] c_L_eqWrapS_8))) (.seq c_L_eqWrapS_9 .ret))))
abbrev F_L_eqWrapS : FuncId := 74
theorem k_L_eqWrapS : comp PP (Tryd.f74.ntmps, pinOf 0 [none, none]) [0, 1, 4, 5, 10, 14, 26] (Tryd.f74.body.getD .skip) = some c_L_eqWrapS.erase := by kernel_rfl
theorem v_L_eqWrapS {GG : GV} (rcs : List C) {cs : List C} {r : C} {os : List (Option C)} (hN : (cs.length == 2 && rcs.length == 1) = true) (hret : retOf rcs = r)
    (hW : W PP [0, 1, 4, 5, 10, 14, 26] (Tryd.f74.ntmps, pinOf 0 [none, none]) (Valid PP GG) c_L_eqWrapS (entry cs) (Fin (Valid PP GG) [(.give, 4, none)] [none, none] rcs os) (fun _ _ => False) (Fin (Valid PP GG) [(.give, 4, none)] [none, none] rcs os)) : Valid PP GG F_L_eqWrapS cs r os :=
  fn_valid_n 2 1 [0, 1, 4, 5, 10, 14, 26] c_L_eqWrapS [(.give, 4, none)] [none, none] rcs Tryd.func74 rfl rfl (by kernel_rfl) k_L_eqWrapS rfl rfl hN hret hW
def c_L_markWrapS_0 : ACode := .reg [⟨.var 4, .mv (.const (.d (.int .i64 0))), none, []⟩] false
def c_L_markWrapS_1 : ACode := .reg [⟨.var 5, .mv (.const (.d (.int .i64 0))), none, []⟩] false
def c_L_markWrapS_2 : ACode := .reg [⟨.loc 6, .mv (.var 5), none, []⟩,
  ⟨.loc 7, .mv (.var 0), none, []⟩,
  ⟨.loc 8, .len false (.loc 7), none, []⟩,
  ⟨.var 9, .bin .int .lss (.loc 6) (.loc 8), none, []⟩] false
def c_L_markWrapS_3 : ACode := .reg [⟨.loc 12, .mv (.var 0), none, []⟩,
  ⟨.loc 13, .mv (.var 5), none, []⟩,
  ⟨.loc 14, .mv (.var 1), none, []⟩,
  ⟨.loc 15, .idxA 6 (.loc 12) (.loc 13), none, []⟩,
  ⟨.loc 16, .fld 0 (.loc 15), none, []⟩,
  ⟨.none, .store 1 (.loc 16) (.loc 14), none, []⟩] false
def c_L_markWrapS_4 : ACode := .reg [⟨.loc 17, .mv (.var 1), none, []⟩,
  ⟨.loc 18, .bin .int .add (.loc 17) (.const (.d (.int .i64 1))), none, []⟩,
  ⟨.var 1, .mv (.loc 18), none, []⟩] false
def c_L_markWrapS_5 : ACode := .reg [⟨.loc 19, .mv (.var 0), none, []⟩,
  ⟨.loc 20, .mv (.var 5), none, []⟩,
  ⟨.loc 21, .mv (.var 1), none, []⟩,
  ⟨.loc 22, .idxA 6 (.loc 19) (.loc 20), none, []⟩,
  ⟨.loc 23, .fld 1 (.loc 22), none, []⟩,
  ⟨.none, .store 1 (.loc 23) (.loc 21), none, []⟩] false
def c_L_markWrapS_6 : ACode := .reg [⟨.loc 24, .mv (.var 1), none, []⟩,
  ⟨.loc 25, .bin .int .add (.loc 24) (.const (.d (.int .i64 1))), none, []⟩,
  ⟨.var 1, .mv (.loc 25), none, []⟩] false
def c_L_markWrapS_7 : ACode := .reg [⟨.loc 26, .mv (.var 0), none, []⟩,
  ⟨.loc 27, .mv (.var 5), none, []⟩,
  ⟨.loc 28, .mv (.var 1), none, []⟩,
  ⟨.loc 29, .call (.fn 104) [(.loc 28)] [.borrow], none, []⟩,
  ⟨.loc 30, .idxA 6 (.loc 26) (.loc 27), none, []⟩,
  ⟨.loc 31, .fld 2 (.loc 30), none, []⟩,
  ⟨.none, .store 1 (.loc 31) (.loc 29), none, []⟩] false
def c_L_markWrapS_8 : ACode := .reg [⟨.loc 32, .mv (.var 1), none, []⟩,
  ⟨.loc 33, .bin .int .add (.loc 32) (.const (.d (.int .i64 1))), none, []⟩,
  ⟨.var 1, .mv (.loc 33), none, []⟩] false
def c_L_markWrapS_9 : ACode := .reg [⟨.loc 34, .mv (.var 0), none, []⟩,
  ⟨.loc 35, .mv (.var 5), none, []⟩,
  ⟨.loc 36, .mv (.var 1), none, []⟩,
  ⟨.loc 37, .idxA 6 (.loc 34) (.loc 35), none, []⟩,
  ⟨.loc 38, .fld 3 (.loc 37), none, []⟩,
  ⟨.loc 39, .fld 0 (.loc 38), none, []⟩,
  ⟨.none, .store 1 (.loc 39) (.loc 36), none, []⟩] false
def c_L_markWrapS_10 : ACode := .reg [⟨.loc 40, .mv (.var 1), none, []⟩,
  ⟨.loc 41, .bin .int .add (.loc 40) (.const (.d (.int .i64 1))), none, []⟩,
  ⟨.var 1, .mv (.loc 41), none, []⟩] false
def c_L_markWrapS_11 : ACode := .reg [⟨.loc 42, .mv (.var 0), none, []⟩,
  ⟨.loc 43, .mv (.var 5), none, []⟩,
  ⟨.loc 44, .idxA 6 (.loc 42) (.loc 43), none, []⟩,
  ⟨.loc 45, .fld 3 (.loc 44), none, []⟩,
  ⟨.loc 46, .fld 1 (.loc 45), none, []⟩,
  ⟨.loc 47, .load false 1 (.loc 46), none, []⟩,
  ⟨.loc 48, .mv (.var 1), none, []⟩,
  ⟨.loc 49, .call (.fn 31) [(.loc 47), (.loc 48)] [.lend, .borrow], none, []⟩,
  ⟨.var 1, .mv (.loc 49), none, []⟩] false
def c_L_markWrapS_12 : ACode := .reg [⟨.loc 50, .mv (.var 0), none, []⟩,
  ⟨.loc 51, .mv (.var 5), none, []⟩,
  ⟨.loc 52, .mv (.var 1), none, []⟩,
  ⟨.loc 53, .idxA 6 (.loc 50) (.loc 51), none, []⟩,
  ⟨.loc 54, .fld 3 (.loc 53), none, []⟩,
  ⟨.loc 55, .fld 2 (.loc 54), none, []⟩,
  ⟨.none, .store 1 (.loc 55) (.loc 52), none, []⟩] false
def c_L_markWrapS_13 : ACode := .reg [⟨.loc 56, .mv (.var 1), none, []⟩,
  ⟨.loc 57, .bin .int .add (.loc 56) (.const (.d (.int .i64 1))), none, []⟩,
  ⟨.var 1, .mv (.loc 57), none, []⟩] false
def c_L_markWrapS_14 : ACode := .reg [⟨.loc 10, .mv (.var 5), none, []⟩,
  ⟨.loc 11, .bin .int .add (.loc 10) (.const (.d (.int .i64 1))), none, []⟩,
  ⟨.var 5, .mv (.loc 11), none, []⟩] false
def c_L_markWrapS_15 : ACode := (.seq (.seq c_L_markWrapS_2 (.cond (.var 9) .skip (.exit 0))) (.seq (.block 1 (.seq c_L_markWrapS_3 (.seq c_L_markWrapS_4 (.seq c_L_markWrapS_5 (.seq c_L_markWrapS_6 (.seq c_L_markWrapS_7 (.seq c_L_markWrapS_8 (.seq c_L_markWrapS_9 (.seq c_L_markWrapS_10 (.seq c_L_markWrapS_11 (.seq c_L_markWrapS_12 c_L_markWrapS_13))))))))))) c_L_markWrapS_14))
def c_L_markWrapS_16 : ACode := .reg [⟨.loc 58, .mv (.var 1), none, []⟩,
  ⟨.var 4, .mv (.loc 58), none, []⟩] false
def c_L_markWrapS : ACode := (.seq c_L_markWrapS_0 (.seq (.seq c_L_markWrapS_1 (.block 0 (.loop [0, 1, 5] c_L_markWrapS_15))) (.seq c_L_markWrapS_16 .ret)))
abbrev F_L_markWrapS : FuncId := 75
theorem k_L_markWrapS : comp PP (Tryd.f75.ntmps, pinOf 0 [some .give, none]) [0, 1, 4, 5, 9] (Tryd.f75.body.getD .skip) = some c_L_markWrapS.erase := by kernel_rfl
theorem v_L_markWrapS {GG : GV} (rcs : List C) {cs : List C} {r : C} {os : List (Option C)} (hN : (cs.length == 2 && rcs.length == 1) = true) (hret : retOf rcs = r)
    (hW : W PP [0, 1, 4, 5, 9] (Tryd.f75.ntmps, pinOf 0 [some .give, none]) (Valid PP GG) c_L_markWrapS (entry cs) (Fin (Valid PP GG) [(.give, 4, none)] [some .give, none] rcs os) (fun _ _ => False) (Fin (Valid PP GG) [(.give, 4, none)] [some .give, none] rcs os)) : Valid PP GG F_L_markWrapS cs r os :=
  fn_valid_n 2 1 [0, 1, 4, 5, 9] c_L_markWrapS [(.give, 4, none)] [some .give, none] rcs Tryd.func75 rfl rfl (by kernel_rfl) k_L_markWrapS rfl rfl hN hret hW
def c_L_heldWrapS_0 : ACode := .reg [⟨.var 4, .mv (.const (.d (.int .i64 0))), none, []⟩] false
def c_L_heldWrapS_1 : ACode := .reg [⟨.var 5, .mv (.const (.d (.int .i64 0))), none, []⟩] false
def c_L_heldWrapS_2 : ACode := .reg [⟨.loc 6, .mv (.var 5), none, []⟩,
  ⟨.loc 7, .mv (.var 0), none, []⟩,
  ⟨.loc 8, .len false (.loc 7), none, []⟩,
  ⟨.var 9, .bin .int .lss (.loc 6) (.loc 8), none, []⟩] false
def c_L_heldWrapS_3 : ACode := .reg [⟨.loc 12, .mv (.var 0), none, []⟩,
  ⟨.loc 13, .mv (.var 5), none, []⟩,
  ⟨.loc 14, .idxA 6 (.loc 12) (.loc 13), none, []⟩,
  ⟨.loc 15, .fld 0 (.loc 14), none, []⟩,
  ⟨.loc 16, .load false 1 (.loc 15), none, []⟩,
  ⟨.loc 17, .mv (.var 1), none, []⟩,
  ⟨.var 18, .bin .int .neq (.loc 16) (.loc 17), none, []⟩] false
def c_L_heldWrapS_4 : ACode := .reg [⟨.var 4, .mv (.const (.d (.int .i64 (-1)))), none, []⟩] false
def c_L_heldWrapS_5 : ACode := .reg [⟨.loc 19, .mv (.var 1), none, []⟩,
  ⟨.loc 20, .bin .int .add (.loc 19) (.const (.d (.int .i64 1))), none, []⟩,
  ⟨.var 1, .mv (.loc 20), none, []⟩] false
def c_L_heldWrapS_6 : ACode := .reg [⟨.loc 21, .mv (.var 0), none, []⟩,
  ⟨.loc 22, .mv (.var 5), none, []⟩,
  ⟨.loc 23, .idxA 6 (.loc 21) (.loc 22), none, []⟩,
  ⟨.loc 24, .fld 1 (.loc 23), none, []⟩,
  ⟨.loc 25, .load false 1 (.loc 24), none, []⟩,
  ⟨.loc 26, .mv (.var 1), none, []⟩,
  ⟨.var 27, .bin .int .neq (.loc 25) (.loc 26), none, []⟩] false
def c_L_heldWrapS_7 : ACode := .reg [⟨.var 4, .mv (.const (.d (.int .i64 (-1)))), none, []⟩] false
def c_L_heldWrapS_8 : ACode := .reg [⟨.loc 28, .mv (.var 1), none, []⟩,
  ⟨.loc 29, .bin .int .add (.loc 28) (.const (.d (.int .i64 1))), none, []⟩,
  ⟨.var 1, .mv (.loc 29), none, []⟩] false
def c_L_heldWrapS_9 : ACode := .reg [⟨.loc 30, .mv (.var 0), none, []⟩,
  ⟨.loc 31, .mv (.var 5), none, []⟩,
  ⟨.loc 32, .idxA 6 (.loc 30) (.loc 31), none, [0, 1]⟩,
  ⟨.loc 33, .fld 2 (.loc 32), none, [2, 0, 1]⟩,
  ⟨.loc 34, .load false 1 (.loc 33), none, [3, 2, 0, 1]⟩,
  ⟨.loc 35, .mv (.var 1), none, []⟩,
  ⟨.loc 36, .call (.fn 104) [(.loc 35)] [.borrow], none, [5]⟩,
  ⟨.var 37, .bin .str .neq (.loc 34) (.loc 36), none, [4, 3, 2, 0, 1, 6, 5]⟩] true
def c_L_heldWrapS_10 : ACode := .reg [⟨.var 4, .mv (.const (.d (.int .i64 (-1)))), none, []⟩] false
def c_L_heldWrapS_11 : ACode := .reg [⟨.loc 38, .mv (.var 1), none, []⟩,
  ⟨.loc 39, .bin .int .add (.loc 38) (.const (.d (.int .i64 1))), none, []⟩,
  ⟨.var 1, .mv (.loc 39), none, []⟩] false
def c_L_heldWrapS_12 : ACode := .reg [⟨.loc 40, .mv (.var 0), none, []⟩,
  ⟨.loc 41, .mv (.var 5), none, []⟩,
  ⟨.loc 42, .idxA 6 (.loc 40) (.loc 41), none, []⟩,
  ⟨.loc 43, .fld 3 (.loc 42), none, []⟩,
  ⟨.loc 44, .fld 0 (.loc 43), none, []⟩,
  ⟨.loc 45, .load false 1 (.loc 44), none, []⟩,
  ⟨.loc 46, .mv (.var 1), none, []⟩,
  ⟨.var 47, .bin .int .neq (.loc 45) (.loc 46), none, []⟩] false
def c_L_heldWrapS_13 : ACode := .reg [⟨.var 4, .mv (.const (.d (.int .i64 (-1)))), none, []⟩] false
def c_L_heldWrapS_14 : ACode := .reg [⟨.loc 48, .mv (.var 1), none, []⟩,
  ⟨.loc 49, .bin .int .add (.loc 48) (.const (.d (.int .i64 1))), none, []⟩,
  ⟨.var 1, .mv (.loc 49), none, []⟩] false
def c_L_heldWrapS_15 : ACode := .reg [⟨.loc 50, .mv (.var 0), none, []⟩,
  ⟨.loc 51, .mv (.var 5), none, []⟩,
  ⟨.loc 52, .idxA 6 (.loc 50) (.loc 51), none, []⟩,
  ⟨.loc 53, .fld 3 (.loc 52), none, []⟩,
  ⟨.loc 54, .fld 1 (.loc 53), none, []⟩,
  ⟨.loc 55, .load false 1 (.loc 54), none, []⟩,
  ⟨.loc 56, .mv (.var 1), none, []⟩,
  ⟨.loc 57, .call (.fn 33) [(.loc 55), (.loc 56)] [.borrow, .borrow], none, []⟩,
  ⟨.var 1, .mv (.loc 57), none, []⟩] false
def c_L_heldWrapS_16 : ACode := .reg [⟨.loc 58, .mv (.var 1), none, []⟩,
  ⟨.var 59, .bin .int .lss (.loc 58) (.const (.d (.int .i64 0))), none, []⟩] false
def c_L_heldWrapS_17 : ACode := .reg [⟨.var 4, .mv (.const (.d (.int .i64 (-1)))), none, []⟩] false
def c_L_heldWrapS_18 : ACode := .reg [⟨.loc 60, .mv (.var 0), none, []⟩,
  ⟨.loc 61, .mv (.var 5), none, []⟩,
  ⟨.loc 62, .idxA 6 (.loc 60) (.loc 61), none, []⟩,
  ⟨.loc 63, .fld 3 (.loc 62), none, []⟩,
  ⟨.loc 64, .fld 2 (.loc 63), none, []⟩,
  ⟨.loc 65, .load false 1 (.loc 64), none, []⟩,
  ⟨.loc 66, .mv (.var 1), none, []⟩,
  ⟨.var 67, .bin .int .neq (.loc 65) (.loc 66), none, []⟩] false
def c_L_heldWrapS_19 : ACode := .reg [⟨.var 4, .mv (.const (.d (.int .i64 (-1)))), none, []⟩] false
def c_L_heldWrapS_20 : ACode := .reg [⟨.loc 68, .mv (.var 1), none, []⟩,
  ⟨.loc 69, .bin .int .add (.loc 68) (.const (.d (.int .i64 1))), none, []⟩,
  ⟨.var 1, .mv (.loc 69), none, []⟩] false
def c_L_heldWrapS_21 : ACode := .reg [⟨.loc 10, .mv (.var 5), none, []⟩,
  ⟨.loc 11, .bin .int .add (.loc 10) (.const (.d (.int .i64 1))), none, []⟩,
  ⟨.var 5, .mv (.loc 11), none, []⟩] false
def c_L_heldWrapS_22 : ACode := (.seq (.seq c_L_heldWrapS_2 (.cond (.var 9) .skip (.exit 0))) (.seq (.block 1 (.seq (.seq c_L_heldWrapS_3 (.cond (.var 18) (.seq c_L_heldWrapS_4 .ret) .skip)) (.seq c_L_heldWrapS_5 (.seq (.seq c_L_heldWrapS_6 (.cond (.var 27) (.seq c_L_heldWrapS_7 .ret) .skip)) (.seq c_L_heldWrapS_8 (.seq (.seq c_L_heldWrapS_9 (.cond (.var 37) (.seq c_L_heldWrapS_10 .ret) .skip)) (.seq c_L_heldWrapS_11 (.seq (.seq c_L_heldWrapS_12 (.cond (.var 47) (.seq c_L_heldWrapS_13 .ret) .skip)) (.seq c_L_heldWrapS_14 (.seq c_L_heldWrapS_15 (.seq (.seq c_L_heldWrapS_16 (.cond (.var 59) (.seq c_L_heldWrapS_17 .ret) .skip)) (.seq (.seq c_L_heldWrapS_18 (.cond (.var 67) (.seq c_L_heldWrapS_19 .ret) .skip)) c_L_heldWrapS_20)))))))))))) c_L_heldWrapS_21))
def c_L_heldWrapS_23 : ACode := .reg [⟨.loc 70, .mv (.var 1), none, []⟩,
  ⟨.var 4, .mv (.loc 70), none, []⟩] false
def c_L_heldWrapS : ACode := (.seq c_L_heldWrapS_0 (.seq (.seq c_L_heldWrapS_1 (.block 0 (.loop [0, 1, 5] c_L_heldWrapS_22))) (.seq c_L_heldWrapS_23 .ret)))
abbrev F_L_heldWrapS : FuncId := 76
theorem k_L_heldWrapS : comp PP (Tryd.f76.ntmps, pinOf 0 [none, none]) [0, 1, 4, 5, 9, 18, 27, 37, 47, 59, 67] (Tryd.f76.body.getD .skip) = some c_L_heldWrapS.erase := by kernel_rfl
theorem v_L_heldWrapS {GG : GV} (rcs : List C) {cs : List C} {r : C} {os : List (Option C)} (hN : (cs.length == 2 && rcs.length == 1) = true) (hret : retOf rcs = r)
    (hW : W PP [0, 1, 4, 5, 9, 18, 27, 37, 47, 59, 67] (Tryd.f76.ntmps, pinOf 0 [none, none]) (Valid PP GG) c_L_heldWrapS (entry cs) (Fin (Valid PP GG) [(.give, 4, none)] [none, none] rcs os) (fun _ _ => False) (Fin (Valid PP GG) [(.give, 4, none)] [none, none] rcs os)) : Valid PP GG F_L_heldWrapS cs r os :=
  fn_valid_n 2 1 [0, 1, 4, 5, 9, 18, 27, 37, 47, 59, 67] c_L_heldWrapS [(.give, 4, none)] [none, none] rcs Tryd.func76 rfl rfl (by kernel_rfl) k_L_heldWrapS rfl rfl hN hret hW
def c_S_PeekWrap_0 : ACode := .reg [⟨.var 2, .box (.var 0), none, []⟩,
  ⟨.var 4, .mv (.const (.d (.str []))), none, []⟩,
  ⟨.var 5, .mv (.const (.d (.int .i64 0))), none, []⟩,
  ⟨.var 6, .mv (.const (.d (.int .i64 0))), none, []⟩] false
def c_S_PeekWrap_1 : ACode := .reg [⟨.loc 8, .load true 3 (.var 2), none, []⟩,
  ⟨.loc 9, .call (.fn 63) [(.loc 8)] [.borrow], none, []⟩,
  ⟨.var 10, .un .not (.loc 9), none, []⟩] false
def c_S_PeekWrap_2 : ACode := .reg [⟨.var 4, .mv (.const (.d (.str []))), none, []⟩,
  ⟨.var 5, .mv (.const (.d (.int .i64 0))), none, []⟩,
  ⟨.var 6, .mv (.const (.d (.int .i64 1))), none, []⟩] false
def c_S_PeekWrap_3 : ACode := .reg [⟨.loc 11, .load true 3 (.var 2), none, []⟩,
  ⟨.loc 12, .mv (.var 1), none, []⟩,
  ⟨.loc 13, .call (.fn 66) [(.loc 11), (.loc 12)] [.borrow, .borrow], none, []⟩,
  ⟨.var 7, .mv (.loc 13), none, []⟩] false
def c_S_PeekWrap_4 : ACode := .reg [⟨.loc 14, .mv (.var 7), none, []⟩,
  ⟨.var 15, .bin .int .lss (.loc 14) (.const (.d (.int .i64 0))), none, []⟩] false
def c_S_PeekWrap_5 : ACode := .reg [⟨.var 4, .mv (.const (.d (.str []))), none, []⟩,
  ⟨.var 5, .mv (.const (.d (.int .i64 0))), none, []⟩,
  ⟨.var 6, .mv (.const (.d (.int .i64 2))), none, []⟩] false
def c_S_PeekWrap_6 : ACode := .reg [⟨.loc 16, .fld 2 (.var 2), none, []⟩,
  ⟨.loc 17, .load false 1 (.loc 16), none, [0]⟩,
  ⟨.loc 18, .mv (.var 7), none, []⟩,
  ⟨.loc 19, .idxA 6 (.loc 17) (.loc 18), none, [1, 0, 2]⟩,
  ⟨.loc 20, .fld 2 (.loc 19), none, [3, 1, 0, 2]⟩,
  ⟨.loc 21, .load false 1 (.loc 20), none, [4, 3, 1, 0, 2]⟩,
  ⟨.loc 22, .fld 2 (.var 2), none, []⟩,
  ⟨.loc 23, .load false 1 (.loc 22), none, [6]⟩,
  ⟨.loc 24, .mv (.var 7), none, []⟩,
  ⟨.loc 25, .idxA 6 (.loc 23) (.loc 24), none, [7, 6, 8]⟩,
  ⟨.loc 26, .fld 1 (.loc 25), none, [9, 7, 6, 8]⟩,
  ⟨.loc 27, .load false 1 (.loc 26), none, [10, 9, 7, 6, 8]⟩,
  ⟨.var 4, .mv (.loc 21), none, [5, 4, 3, 1, 0, 2]⟩,
  ⟨.var 5, .mv (.loc 27), none, [11, 10, 9, 7, 6, 8, 12, 5, 4, 3, 1, 0, 2]⟩,
  ⟨.var 6, .mv (.const (.d (.int .i64 0))), none, [13, 11, 10, 9, 7, 6, 8, 12, 5, 4, 3, 1, 0, 2]⟩] true
def c_S_PeekWrap : ACode := (.seq c_S_PeekWrap_0 (.seq (.seq c_S_PeekWrap_1 (.cond (.var 10) (.seq c_S_PeekWrap_2 .ret) .skip)) (.seq c_S_PeekWrap_3 (.seq (.seq c_S_PeekWrap_4 (.cond (.var 15) (.seq c_S_PeekWrap_5 .ret) .skip)) (.seq c_S_PeekWrap_6 .ret)))))
abbrev F_S_PeekWrap : FuncId := 77
theorem k_S_PeekWrap : comp PP (Tryd.f77.ntmps, pinOf 0 [none, none]) [0, 1, 2, 4, 5, 6, 7, 10, 15] (Tryd.f77.body.getD .skip) = some c_S_PeekWrap.erase := by kernel_rfl
theorem v_S_PeekWrap {GG : GV} (rcs : List C) {cs : List C} {r : C} {os : List (Option C)} (hN : (cs.length == 2 && rcs.length == 3) = true) (hret : retOf rcs = r)
    (hW : W PP [0, 1, 2, 4, 5, 6, 7, 10, 15] (Tryd.f77.ntmps, pinOf 0 [none, none]) (Valid PP GG) c_S_PeekWrap (entry cs) (Fin (Valid PP GG) [(.give, 4, none), (.give, 5, none), (.give, 6, none)] [none, none] rcs os) (fun _ _ => False) (Fin (Valid PP GG) [(.give, 4, none), (.give, 5, none), (.give, 6, none)] [none, none] rcs os)) : Valid PP GG F_S_PeekWrap cs r os :=
  fn_valid_n 2 3 [0, 1, 2, 4, 5, 6, 7, 10, 15] c_S_PeekWrap [(.give, 4, none), (.give, 5, none), (.give, 6, none)] [none, none] rcs Tryd.func77 rfl rfl (by kernel_rfl) k_S_PeekWrap rfl rfl hN hret hW
def c_S_PutWrap_0 : ACode := .reg [⟨.var 5, .box (.var 0), none, []⟩,
  ⟨.var 10, .alloc [.d (.int .i64 0), .d (.int .i64 0), .nil 1 6], none, []⟩,
  ⟨.var 11, .mv (.const (.d (.int .i64 0))), none, []⟩,
  ⟨.var 12, .mv (.const (.d (.int .i64 0))), none, []⟩] false
def c_S_PutWrap_1 : ACode := .reg [⟨.loc 16, .load true 3 (.var 5), none, []⟩,
  ⟨.loc 17, .call (.fn 63) [(.loc 16)] [.borrow], none, []⟩,
  ⟨.loc 18, .un .not (.loc 17), none, []⟩,
  ⟨.loc 19, .split (.loc 18), none, []⟩,
  ⟨.loc 20, .mv (.var 1), some ((.loc 19), false), []⟩,
  ⟨.loc 21, .call (.fn 97) [(.loc 20)] [.borrow], some ((.loc 19), false), []⟩,
  ⟨.loc 22, .un .not (.loc 21), some ((.loc 19), false), []⟩,
  ⟨.loc 23, .pick (.loc 19) (.const (.d (.bool true))) (.loc 22), none, []⟩,
  ⟨.loc 24, .split (.loc 23), none, []⟩,
  ⟨.loc 25, .mv (.var 2), some ((.loc 24), false), []⟩,
  ⟨.loc 26, .len false (.loc 25), some ((.loc 24), false), []⟩,
  ⟨.loc 27, .bin .int .gtr (.loc 26) (.const (.d (.int .i64 2000))), some ((.loc 24), false), []⟩,
  ⟨.loc 28, .pick (.loc 24) (.const (.d (.bool true))) (.loc 27), none, []⟩,
  ⟨.loc 29, .split (.loc 28), none, []⟩,
  ⟨.loc 30, .mv (.var 3), some ((.loc 29), false), []⟩,
  ⟨.loc 31, .call (.fn 64) [(.loc 30), (.const (.d (.int .i64 0))), (.const (.d (.int .i64 1000000000)))] [.borrow, .borrow, .borrow], some ((.loc 29), false), []⟩,
  ⟨.loc 32, .un .not (.loc 31), some ((.loc 29), false), []⟩,
  ⟨.loc 33, .pick (.loc 29) (.const (.d (.bool true))) (.loc 32), none, []⟩,
  ⟨.loc 34, .split (.loc 33), none, []⟩,
  ⟨.loc 35, .mv (.var 4), some ((.loc 34), false), []⟩,
  ⟨.loc 36, .call (.fn 64) [(.loc 35), (.const (.d (.int .i64 1))), (.const (.d (.int .i64 1000000000)))] [.borrow, .borrow, .borrow], some ((.loc 34), false), []⟩,
  ⟨.loc 37, .un .not (.loc 36), some ((.loc 34), false), []⟩,
  ⟨.loc 38, .pick (.loc 34) (.const (.d (.bool true))) (.loc 37), none, []⟩,
  ⟨.loc 39, .split (.loc 38), none, []⟩,
  ⟨.loc 40, .mv (.var 3), some ((.loc 39), false), []⟩,
  ⟨.loc 41, .mv (.var 4), some ((.loc 39), false), []⟩,
  ⟨.loc 42, .bin .int .add (.loc 40) (.loc 41), some ((.loc 39), false), []⟩,
  ⟨.loc 43, .bin .int .gtr (.loc 42) (.const (.d (.int .i64 1000000000))), some ((.loc 39), false), []⟩,
  ⟨.loc 44, .pick (.loc 39) (.const (.d (.bool true))) (.loc 43), none, []⟩,
  ⟨.loc 45, .split (.loc 44), none, []⟩,
  ⟨.loc 46, .fld 1 (.var 5), some ((.loc 45), false), []⟩,
  ⟨.loc 47, .load false 1 (.loc 46), some ((.loc 45), false), []⟩,
  ⟨.loc 48, .bin .int .eql (.loc 47) (.const (.d (.int .i64 1000000000))), some ((.loc 45), false), []⟩,
  ⟨.var 49, .pick (.loc 45) (.const (.d (.bool true))) (.loc 48), none, []⟩] false
def c_S_PutWrap_2 : ACode := .reg [⟨.loc 50, .load true 3 (.var 5), none, []⟩,
  ⟨.loc 51, .call (.fn 65) [(.loc 50)] [.borrow], none, []⟩,
  ⟨.none, .store 3 (.var 10) (.loc 51), none, []⟩,
  ⟨.var 11, .mv (.const (.d (.int .i64 0))), none, []⟩,
  ⟨.var 12, .mv (.const (.d (.int .i64 1))), none, []⟩] false
def c_S_PutWrap_3 : ACode := .reg [⟨.loc 52, .fld 2 (.var 5), none, []⟩,
  ⟨.loc 53, .load false 1 (.loc 52), none, []⟩,
  ⟨.loc 54, .len false (.loc 53), none, []⟩,
  ⟨.var 55, .bin .int .eql (.loc 54) (.const (.d (.int .i64 60))), none, []⟩] false
def c_S_PutWrap_4 : ACode := .reg [⟨.loc 56, .load true 3 (.var 5), none, []⟩,
  ⟨.loc 57, .call (.fn 65) [(.loc 56)] [.borrow], none, []⟩,
  ⟨.none, .store 3 (.var 10) (.loc 57), none, []⟩,
  ⟨.var 11, .mv (.const (.d (.int .i64 0))), none, []⟩,
  ⟨.var 12, .mv (.const (.d (.int .i64 5))), none, []⟩] false
def c_S_PutWrap_5 : ACode := .reg [⟨.loc 58, .load true 3 (.var 5), none, []⟩,
  ⟨.loc 59, .call (.fn 65) [(.loc 58)] [.borrow], none, []⟩,
  ⟨.var 13, .alloc [.d (.int .i64 0), .d (.int .i64 0), .nil 1 6], none, []⟩,
  ⟨.none, .store 3 (.var 13) (.loc 59), none, []⟩] false
def c_S_PutWrap_6 : ACode := .reg [⟨.loc 61, .fld 0 (.var 5), none, []⟩,
  ⟨.loc 62, .load false 1 (.loc 61), none, []⟩,
  ⟨.loc 63, .fld 1 (.var 5), none, []⟩,
  ⟨.loc 64, .load false 1 (.loc 63), none, []⟩,
  ⟨.loc 65, .mv (.var 2), none, []⟩,
  ⟨.loc 66, .call (.fn 115) [(.loc 62), (.loc 64), (.loc 65)] [.borrow, .borrow, .borrow], none, []⟩,
  ⟨.loc 60, .mv (.loc 66), none, []⟩,
  ⟨.loc 67, .ext (.loc 60) 0, none, []⟩,
  ⟨.loc 68, .ext (.loc 60) 1, none, []⟩,
  ⟨.var 14, .alloc [.d (.int .i64 0), .nil 0 1, .d (.int .i64 0)], none, []⟩,
  ⟨.none, .store 3 (.var 14) (.loc 67), none, []⟩,
  ⟨.loc 15, .mv (.loc 68), none, []⟩] false
def c_S_PutWrap_7 : ACode := .reg [⟨.loc 69, .fld 2 (.var 13), none, []⟩,
  ⟨.loc 70, .load false 1 (.loc 69), none, []⟩,
  ⟨.loc 71, .fld 1 (.var 5), none, []⟩,
  ⟨.loc 72, .load false 1 (.loc 71), none, []⟩,
  ⟨.loc 73, .mv (.var 3), none, []⟩,
  ⟨.loc 74, .mv (.var 4), none, []⟩,
  ⟨.loc 75, .bin .int .add (.loc 73) (.loc 74), none, []⟩,
  ⟨.loc 76, .mv (.var 1), none, []⟩,
  ⟨.loc 77, .load true 3 (.var 14), none, []⟩,
  ⟨.loc 78, .build [.d (.int .i64 0), .d (.int .i64 0), .d (.str []), .d (.int .i64 0), .nil 0 1, .d (.int .i64 0)] [(0, 1, (.loc 72)), (1, 1, (.loc 75)), (2, 1, (.loc 76)), (3, 3, (.loc 77))], none, []⟩,
  ⟨.loc 79, .lit 1 6 1 [.int .i64 0, .int .i64 0, .str [], .int .i64 0, .slc 1 [], .int .i64 0] [(0, (.loc 78))], none, []⟩,
  ⟨.loc 80, .app 6 72 (.loc 70) (.loc 79), none, []⟩,
  ⟨.loc 81, .fld 2 (.var 13), none, []⟩,
  ⟨.none, .store 1 (.loc 81) (.loc 80), none, []⟩] false
def c_S_PutWrap_8 : ACode := .reg [⟨.loc 82, .fld 1 (.var 5), none, []⟩,
  ⟨.loc 83, .load false 1 (.loc 82), none, []⟩,
  ⟨.loc 84, .bin .int .add (.loc 83) (.const (.d (.int .i64 1))), none, []⟩,
  ⟨.loc 85, .fld 1 (.var 13), none, []⟩,
  ⟨.none, .store 1 (.loc 85) (.loc 84), none, []⟩] false
def c_S_PutWrap_9 : ACode := .reg [⟨.loc 86, .load true 3 (.var 13), none, []⟩,
  ⟨.loc 87, .fld 1 (.var 5), none, []⟩,
  ⟨.loc 88, .load false 1 (.loc 87), none, [1]⟩,
  ⟨.none, .store 3 (.var 10) (.loc 86), none, [0]⟩,
  ⟨.var 11, .mv (.loc 88), none, [2, 1, 3, 0]⟩,
  ⟨.var 12, .mv (.const (.d (.int .i64 0))), none, [4, 2, 1, 3, 0]⟩] true
def c_S_PutWrap : ACode := (.seq c_S_PutWrap_0 (.seq (.seq c_S_PutWrap_1 (.cond (.var 49) (.seq c_S_PutWrap_2 .ret) .skip)) (.seq (.seq c_S_PutWrap_3 (.cond (.var 55) (.seq c_S_PutWrap_4 .ret) .skip)) (.seq c_S_PutWrap_5 (.seq c_S_PutWrap_6 (.seq c_S_PutWrap_7 (.seq c_S_PutWrap_8 (.seq c_S_PutWrap_9 .ret))))))))
abbrev F_S_PutWrap : FuncId := 78
theorem k_S_PutWrap : comp PP (Tryd.f78.ntmps, pinOf 0 [none, none, none, none, none]) [0, 1, 2, 3, 4, 5, 10, 11, 12, 13, 14, 49, 55] (Tryd.f78.body.getD .skip) = some c_S_PutWrap.erase := by kernel_rfl
theorem v_S_PutWrap {GG : GV} (rcs : List C) {cs : List C} {r : C} {os : List (Option C)} (hN : (cs.length == 5 && rcs.length == 3) = true) (hret : retOf rcs = r)
    (hW : W PP [0, 1, 2, 3, 4, 5, 10, 11, 12, 13, 14, 49, 55] (Tryd.f78.ntmps, pinOf 0 [none, none, none, none, none]) (Valid PP GG) c_S_PutWrap (entry cs) (Fin (Valid PP GG) [(.give, 10, some (true, 3)), (.give, 11, none), (.give, 12, none)] [none, none, none, none, none] rcs os) (fun _ _ => False) (Fin (Valid PP GG) [(.give, 10, some (true, 3)), (.give, 11, none), (.give, 12, none)] [none, none, none, none, none] rcs os)) : Valid PP GG F_S_PutWrap cs r os :=
  fn_valid_n 5 3 [0, 1, 2, 3, 4, 5, 10, 11, 12, 13, 14, 49, 55] c_S_PutWrap [(.give, 10, some (true, 3)), (.give, 11, none), (.give, 12, none)] [none, none, none, none, none] rcs Tryd.func78 rfl rfl (by kernel_rfl) k_S_PutWrap rfl rfl hN hret hW
def c_I_wrapIndex_0 : ACode := .reg [⟨.var 2, .box (.var 0), none, []⟩,
  ⟨.var 3, .box (.var 1), none, []⟩,
  ⟨.var 4, .mv (.const (.d (.int .i64 0))), none, []⟩] false
def c_I_wrapIndex_1 : ACode := .reg [⟨.loc 5, .fld 2 (.var 2), none, []⟩,
  ⟨.loc 6, .load false 1 (.loc 5), none, []⟩,
  ⟨.loc 7, .clo 117 [(.var 3)], none, []⟩,
  ⟨.loc 8, .call (.fn 116) [(.loc 6), (.loc 7)] [.borrow, .borrow], none, []⟩,
  ⟨.var 4, .mv (.loc 8), none, []⟩] false
def c_I_wrapIndex : ACode := (.seq c_I_wrapIndex_0 (.seq c_I_wrapIndex_1 .ret))
abbrev F_I_wrapIndex : FuncId := 79
theorem k_I_wrapIndex : comp PP (Tryd.f79.ntmps, pinOf 0 [none, none]) [0, 1, 2, 3, 4] (Tryd.f79.body.getD .skip) = some c_I_wrapIndex.erase := by kernel_rfl
theorem v_I_wrapIndex {GG : GV} (rcs : List C) {cs : List C} {r : C} {os : List (Option C)} (hN : (cs.length == 2 && rcs.length == 1) = true) (hret : retOf rcs = r)
    (hW : W PP [0, 1, 2, 3, 4] (Tryd.f79.ntmps, pinOf 0 [none, none]) (Valid PP GG) c_I_wrapIndex (entry cs) (Fin (Valid PP GG) [(.give, 4, none)] [none, none] rcs os) (fun _ _ => False) (Fin (Valid PP GG) [(.give, 4, none)] [none, none] rcs os)) : Valid PP GG F_I_wrapIndex cs r os :=
  fn_valid_n 2 1 [0, 1, 2, 3, 4] c_I_wrapIndex [(.give, 4, none)] [none, none] rcs Tryd.func79 rfl rfl (by kernel_rfl) k_I_wrapIndex rfl rfl hN hret hW
def c_I_putWrap_0 : ACode := .reg [⟨.var 5, .box (.var 0), none, []⟩,
  ⟨.var 10, .alloc [.d (.int .i64 0), .d (.int .i64 0), .nil 1 6], none, []⟩,
  ⟨.var 11, .mv (.const (.d (.int .i64 0))), none, []⟩,
  ⟨.var 12, .mv (.const (.d (.int .i64 0))), none, []⟩] false
def c_I_putWrap_1 : ACode := .reg [⟨.loc 14, .load true 3 (.var 5), none, []⟩,
  ⟨.loc 15, .call (.fn 72) [(.loc 14)] [.borrow], none, []⟩,
  ⟨.var 13, .alloc [.d (.int .i64 0), .d (.int .i64 0), .nil 1 6], none, []⟩,
  ⟨.none, .store 3 (.var 13) (.loc 15), none, []⟩] false
def c_I_putWrap_2 : ACode := .reg [⟨.loc 16, .mv (.var 1), none, []⟩,
  ⟨.loc 17, .call (.fn 110) [(.loc 16)] [.borrow], none, []⟩,
  ⟨.loc 18, .un .not (.loc 17), none, []⟩,
  ⟨.loc 19, .split (.loc 18), none, []⟩,
  ⟨.loc 20, .mv (.var 2), some ((.loc 19), false), []⟩,
  ⟨.loc 21, .len false (.loc 20), some ((.loc 19), false), []⟩,
  ⟨.loc 22, .bin .int .gtr (.loc 21) (.const (.d (.int .i64 2000))), some ((.loc 19), false), []⟩,
  ⟨.loc 23, .pick (.loc 19) (.const (.d (.bool true))) (.loc 22), none, []⟩,
  ⟨.loc 24, .split (.loc 23), none, []⟩,
  ⟨.loc 25, .mv (.var 3), some ((.loc 24), false), []⟩,
  ⟨.loc 26, .call (.fn 71) [(.loc 25), (.const (.d (.int .i64 0))), (.const (.d (.int .i64 1000000000)))] [.borrow, .borrow, .borrow], some ((.loc 24), false), []⟩,
  ⟨.loc 27, .un .not (.loc 26), some ((.loc 24), false), []⟩,
  ⟨.loc 28, .pick (.loc 24) (.const (.d (.bool true))) (.loc 27), none, []⟩,
  ⟨.loc 29, .split (.loc 28), none, []⟩,
  ⟨.loc 30, .mv (.var 4), some ((.loc 29), false), []⟩,
  ⟨.loc 31, .call (.fn 71) [(.loc 30), (.const (.d (.int .i64 1))), (.const (.d (.int .i64 1000000000)))] [.borrow, .borrow, .borrow], some ((.loc 29), false), []⟩,
  ⟨.loc 32, .un .not (.loc 31), some ((.loc 29), false), []⟩,
  ⟨.loc 33, .pick (.loc 29) (.const (.d (.bool true))) (.loc 32), none, []⟩,
  ⟨.loc 34, .split (.loc 33), none, []⟩,
  ⟨.loc 35, .mv (.var 3), some ((.loc 34), false), []⟩,
  ⟨.loc 36, .mv (.var 4), some ((.loc 34), false), []⟩,
  ⟨.loc 37, .bin .int .add (.loc 35) (.loc 36), some ((.loc 34), false), []⟩,
  ⟨.loc 38, .bin .int .gtr (.loc 37) (.const (.d (.int .i64 1000000000))), some ((.loc 34), false), []⟩,
  ⟨.loc 39, .pick (.loc 34) (.const (.d (.bool true))) (.loc 38), none, []⟩,
  ⟨.loc 40, .split (.loc 39), none, []⟩,
  ⟨.loc 41, .fld 1 (.var 5), some ((.loc 40), false), []⟩,
  ⟨.loc 42, .load false 1 (.loc 41), some ((.loc 40), false), []⟩,
  ⟨.loc 43, .bin .int .eql (.loc 42) (.const (.d (.int .i64 1000000000))), some ((.loc 40), false), []⟩,
  ⟨.var 44, .pick (.loc 40) (.const (.d (.bool true))) (.loc 43), none, []⟩] false
def c_I_putWrap_3 : ACode := .reg [⟨.loc 45, .load true 3 (.var 13), none, []⟩,
  ⟨.none, .store 3 (.var 10) (.loc 45), none, []⟩,
  ⟨.var 11, .mv (.const (.d (.int .i64 0))), none, []⟩,
  ⟨.var 12, .mv (.const (.d (.int .i64 1))), none, []⟩] false
def c_I_putWrap_4 : ACode := .reg [⟨.loc 46, .fld 2 (.var 5), none, []⟩,
  ⟨.loc 47, .load false 1 (.loc 46), none, []⟩,
  ⟨.loc 48, .len false (.loc 47), none, []⟩,
  ⟨.var 49, .bin .int .eql (.loc 48) (.const (.d (.int .i64 60))), none, []⟩] false
def c_I_putWrap_5 : ACode := .reg [⟨.loc 50, .load true 3 (.var 13), none, []⟩,
  ⟨.none, .store 3 (.var 10) (.loc 50), none, []⟩,
  ⟨.var 11, .mv (.const (.d (.int .i64 0))), none, []⟩,
  ⟨.var 12, .mv (.const (.d (.int .i64 5))), none, []⟩] false
def c_I_putWrap_6 : ACode := .reg [⟨.loc 51, .fld 2 (.var 13), none, []⟩,
  ⟨.loc 52, .load false 1 (.loc 51), none, [0]⟩,
  ⟨.loc 53, .fld 1 (.var 5), none, []⟩,
  ⟨.loc 54, .load false 1 (.loc 53), none, [2]⟩,
  ⟨.loc 55, .mv (.var 3), none, []⟩,
  ⟨.loc 56, .mv (.var 4), none, []⟩,
  ⟨.loc 57, .bin .int .add (.loc 55) (.loc 56), none, [4, 5]⟩,
  ⟨.loc 58, .mv (.var 1), none, []⟩,
  ⟨.loc 59, .fld 0 (.var 5), none, []⟩,
  ⟨.loc 60, .load false 1 (.loc 59), none, [8]⟩,
  ⟨.loc 61, .fld 1 (.var 5), none, []⟩,
  ⟨.loc 62, .load false 1 (.loc 61), none, [10]⟩,
  ⟨.loc 63, .mv (.var 2), none, []⟩,
  ⟨.loc 64, .call (.fn 118) [(.loc 60), (.loc 62), (.loc 63)] [.borrow, .borrow, .borrow], none, [9, 8, 11, 10, 12]⟩,
  ⟨.loc 65, .build [.d (.int .i64 0), .d (.int .i64 0), .d (.str []), .d (.int .i64 0), .nil 0 1, .d (.int .i64 0)] [(0, 1, (.loc 54)), (1, 1, (.loc 57)), (2, 1, (.loc 58)), (3, 3, (.loc 64))], none, [3, 2, 6, 4, 5, 7, 13, 9, 8, 11, 10, 12]⟩,
  ⟨.loc 66, .lit 1 6 1 [.int .i64 0, .int .i64 0, .str [], .int .i64 0, .slc 1 [], .int .i64 0] [(0, (.loc 65))], none, [14, 3, 2, 6, 4, 5, 7, 13, 9, 8, 11, 10, 12]⟩,
  ⟨.loc 67, .app 6 72 (.loc 52) (.loc 66), none, [1, 0, 15, 14, 3, 2, 6, 4, 5, 7, 13, 9, 8, 11, 10, 12]⟩,
  ⟨.loc 68, .fld 2 (.var 13), none, [16, 1, 0, 15, 14, 3, 2, 6, 4, 5, 7, 13, 9, 8, 11, 10, 12]⟩,
  ⟨.none, .store 1 (.loc 68) (.loc 67), none, [17, 16, 1, 0, 15, 14, 3, 2, 6, 4, 5, 7, 13, 9, 8, 11, 10, 12]⟩] true
def c_I_putWrap_7 : ACode := .reg [⟨.loc 69, .fld 1 (.var 13), none, []⟩,
  ⟨.loc 70, .load false 1 (.loc 69), none, []⟩,
  ⟨.loc 71, .bin .int .add (.loc 70) (.const (.d (.int .i64 1))), none, []⟩,
  ⟨.loc 72, .fld 1 (.var 13), none, []⟩,
  ⟨.none, .store 1 (.loc 72) (.loc 71), none, []⟩] false
def c_I_putWrap_8 : ACode := .reg [⟨.loc 73, .load true 3 (.var 13), none, []⟩,
  ⟨.loc 74, .fld 1 (.var 5), none, []⟩,
  ⟨.loc 75, .load false 1 (.loc 74), none, [1]⟩,
  ⟨.none, .store 3 (.var 10) (.loc 73), none, [0]⟩,
  ⟨.var 11, .mv (.loc 75), none, [2, 1, 3, 0]⟩,
  ⟨.var 12, .mv (.const (.d (.int .i64 0))), none, [4, 2, 1, 3, 0]⟩] true
def c_I_putWrap : ACode := (.seq c_I_putWrap_0 (.seq c_I_putWrap_1 (.seq (.seq c_I_putWrap_2 (.cond (.var 44) (.seq c_I_putWrap_3 .ret) .skip)) (.seq (.seq c_I_putWrap_4 (.cond (.var 49) (.seq c_I_putWrap_5 .ret) .skip)) (.seq c_I_putWrap_6 (.seq c_I_putWrap_7 (.seq c_I_putWrap_8 .ret)))))))
abbrev F_I_putWrap : FuncId := 80
theorem k_I_putWrap : comp PP (Tryd.f80.ntmps, pinOf 0 [none, none, none, none, none]) [0, 1, 2, 3, 4, 5, 10, 11, 12, 13, 44, 49] (Tryd.f80.body.getD .skip) = some c_I_putWrap.erase := by kernel_rfl
theorem v_I_putWrap {GG : GV} (rcs : List C) {cs : List C} {r : C} {os : List (Option C)} (hN : (cs.length == 5 && rcs.length == 3) = true) (hret : retOf rcs = r)
    (hW : W PP [0, 1, 2, 3, 4, 5, 10, 11, 12, 13, 44, 49] (Tryd.f80.ntmps, pinOf 0 [none, none, none, none, none]) (Valid PP GG) c_I_putWrap (entry cs) (Fin (Valid PP GG) [(.give, 10, some (true, 3)), (.give, 11, none), (.give, 12, none)] [none, none, none, none, none] rcs os) (fun _ _ => False) (Fin (Valid PP GG) [(.give, 10, some (true, 3)), (.give, 11, none), (.give, 12, none)] [none, none, none, none, none] rcs os)) : Valid PP GG F_I_putWrap cs r os :=
  fn_valid_n 5 3 [0, 1, 2, 3, 4, 5, 10, 11, 12, 13, 44, 49] c_I_putWrap [(.give, 10, some (true, 3)), (.give, 11, none), (.give, 12, none)] [none, none, none, none, none] rcs Tryd.func80 rfl rfl (by kernel_rfl) k_I_putWrap rfl rfl hN hret hW
def c_S_l01Parts_0 : ACode := .reg [⟨.var 4, .mv (.const (.nil 0 1)), none, []⟩] false
def c_S_l01Parts_1 : ACode := .reg [⟨.loc 8, .lit 0 1 0 [.str []] [], none, []⟩,
  ⟨.var 5, .mv (.loc 8), none, []⟩] false
def c_S_l01Parts_2 : ACode := .reg [⟨.var 6, .mv (.const (.d (.int .i64 0))), none, []⟩] false
def c_S_l01Parts_3 : ACode := .reg [⟨.var 7, .mv (.const (.d (.int .i64 0))), none, []⟩] false
def c_S_l01Parts_4 : ACode := .reg [⟨.loc 9, .mv (.var 7), none, []⟩,
  ⟨.loc 10, .mv (.var 0), none, []⟩,
  ⟨.loc 11, .len true (.loc 10), none, []⟩,
  ⟨.var 12, .bin .int .leq (.loc 9) (.loc 11), none, []⟩] false
def c_S_l01Parts_5 : ACode := .reg [⟨.loc 15, .mv (.var 7), none, []⟩,
  ⟨.loc 16, .mv (.var 0), none, []⟩,
  ⟨.loc 17, .len true (.loc 16), none, []⟩,
  ⟨.loc 18, .bin .int .eql (.loc 15) (.loc 17), none, []⟩,
  ⟨.loc 19, .split (.loc 18), none, []⟩,
  ⟨.loc 20, .mv (.var 0), some ((.loc 19), false), []⟩,
  ⟨.loc 21, .mv (.var 7), some ((.loc 19), false), []⟩,
  ⟨.loc 22, .idxS (.loc 20) (.loc 21), some ((.loc 19), false), []⟩,
  ⟨.loc 23, .mv (.var 1), some ((.loc 19), false), []⟩,
  ⟨.loc 24, .bin .int .eql (.loc 22) (.loc 23), some ((.loc 19), false), []⟩,
  ⟨.var 25, .pick (.loc 19) (.const (.d (.bool true))) (.loc 24), none, []⟩] false
def c_S_l01Parts_6 : ACode := .reg [⟨.loc 26, .mv (.var 5), none, []⟩,
  ⟨.loc 27, .mv (.var 0), none, []⟩,
  ⟨.loc 28, .mv (.var 6), none, []⟩,
  ⟨.loc 29, .mv (.var 7), none, []⟩,
  ⟨.loc 30, .sliceS (.loc 27) (some (.loc 28)) (some (.loc 29)), none, []⟩,
  ⟨.loc 31, .lit 0 1 1 [.str []] [(0, (.loc 30))], none, []⟩,
  ⟨.loc 32, .app 1 16 (.loc 26) (.loc 31), none, []⟩,
  ⟨.var 5, .mv (.loc 32), none, []⟩] false
def c_S_l01Parts_7 : ACode := .reg [⟨.loc 33, .mv (.var 7), none, []⟩,
  ⟨.loc 34, .bin .int .add (.loc 33) (.const (.d (.int .i64 1))), none, []⟩,
  ⟨.var 6, .mv (.loc 34), none, []⟩] false
def c_S_l01Parts_8 : ACode := .reg [⟨.loc 13, .mv (.var 7), none, []⟩,
  ⟨.loc 14, .bin .int .add (.loc 13) (.const (.d (.int .i64 1))), none, []⟩,
  ⟨.var 7, .mv (.loc 14), none, []⟩] false
def c_S_l01Parts_9 : ACode := (.seq (.seq c_S_l01Parts_4 (.cond (.var 12) .skip (.exit 0))) (.seq (.block 1 (.seq c_S_l01Parts_5 (.cond (.var 25) (.seq c_S_l01Parts_6 c_S_l01Parts_7) .skip))) c_S_l01Parts_8))
def c_S_l01Parts_10 : ACode := .reg [⟨.loc 35, .mv (.var 5), none, []⟩,
  ⟨.var 4, .mv (.loc 35), none, []⟩] false
def c_S_l01Parts : ACode := (.seq c_S_l01Parts_0 (.seq c_S_l01Parts_1 (.seq c_S_l01Parts_2 (.seq (.seq c_S_l01Parts_3 (.block 0 (.loop [0, 1, 5, 6, 7] c_S_l01Parts_9))) (.seq c_S_l01Parts_10 .ret)))))
abbrev F_S_l01Parts : FuncId := 81
theorem k_S_l01Parts : comp PP (Tryd.f81.ntmps, pinOf 0 [none, none]) [0, 1, 4, 5, 6, 7, 12, 25] (Tryd.f81.body.getD .skip) = some c_S_l01Parts.erase := by kernel_rfl
theorem v_S_l01Parts {GG : GV} (rcs : List C) {cs : List C} {r : C} {os : List (Option C)} (hN : (cs.length == 2 && rcs.length == 1) = true) (hret : retOf rcs = r)
    (hW : W PP [0, 1, 4, 5, 6, 7, 12, 25] (Tryd.f81.ntmps, pinOf 0 [none, none]) (Valid PP GG) c_S_l01Parts (entry cs) (Fin (Valid PP GG) [(.give, 4, none)] [none, none] rcs os) (fun _ _ => False) (Fin (Valid PP GG) [(.give, 4, none)] [none, none] rcs os)) : Valid PP GG F_S_l01Parts cs r os :=
  fn_valid_n 2 1 [0, 1, 4, 5, 6, 7, 12, 25] c_S_l01Parts [(.give, 4, none)] [none, none] rcs Tryd.func81 rfl rfl (by kernel_rfl) k_S_l01Parts rfl rfl hN hret hW
def c_S_l04Key_0 : ACode := .reg [⟨.var 2, .mv (.const (.d (.bool false))), none, []⟩] false
def c_S_l04Key_1 : ACode := .reg [⟨.loc 3, .mv (.var 0), none, []⟩,
  ⟨.loc 4, .call (.fn 64) [(.loc 3), (.const (.d (.int .i64 0))), (.const (.d (.int .i64 1099511627776)))] [.borrow, .borrow, .borrow], none, []⟩,
  ⟨.var 2, .mv (.loc 4), none, []⟩] false
def c_S_l04Key : ACode := (.seq c_S_l04Key_0 (.seq c_S_l04Key_1 .ret))
abbrev F_S_l04Key : FuncId := 95
theorem k_S_l04Key : comp PP (Tryd.f95.ntmps, pinOf 0 [none]) [0, 2] (Tryd.f95.body.getD .skip) = some c_S_l04Key.erase := by kernel_rfl
theorem v_S_l04Key {GG : GV} (rcs : List C) {cs : List C} {r : C} {os : List (Option C)} (hN : (cs.length == 1 && rcs.length == 1) = true) (hret : retOf rcs = r)
    (hW : W PP [0, 2] (Tryd.f95.ntmps, pinOf 0 [none]) (Valid PP GG) c_S_l04Key (entry cs) (Fin (Valid PP GG) [(.give, 2, none)] [none] rcs os) (fun _ _ => False) (Fin (Valid PP GG) [(.give, 2, none)] [none] rcs os)) : Valid PP GG F_S_l04Key cs r os :=
  fn_valid_n 1 1 [0, 2] c_S_l04Key [(.give, 2, none)] [none] rcs Tryd.func95 rfl rfl (by kernel_rfl) k_S_l04Key rfl rfl hN hret hW
def c_S_PathOk_0 : ACode := .reg [⟨.var 2, .mv (.const (.d (.bool false))), none, []⟩] false
def c_S_PathOk_1 : ACode := .reg [⟨.loc 4, .mv (.var 0), none, []⟩,
  ⟨.loc 5, .call (.fn 128) [(.loc 4)] [.borrow], none, []⟩,
  ⟨.var 6, .un .not (.loc 5), none, []⟩] false
def c_S_PathOk_2 : ACode := .reg [⟨.var 2, .mv (.const (.d (.bool false))), none, []⟩] false
def c_S_PathOk_3 : ACode := .reg [⟨.var 3, .mv (.const (.d (.int .i64 0))), none, []⟩] false
def c_S_PathOk_4 : ACode := .reg [⟨.loc 7, .mv (.var 3), none, []⟩,
  ⟨.loc 8, .mv (.var 0), none, []⟩,
  ⟨.loc 9, .len true (.loc 8), none, []⟩,
  ⟨.var 10, .bin .int .lss (.loc 7) (.loc 9), none, []⟩] false
def c_S_PathOk_5 : ACode := .reg [⟨.loc 13, .mv (.var 0), none, []⟩,
  ⟨.loc 14, .mv (.var 3), none, []⟩,
  ⟨.loc 15, .idxS (.loc 13) (.loc 14), none, []⟩,
  ⟨.loc 16, .bin .int .eql (.loc 15) (.const (.d (.int .u8 43))), none, []⟩,
  ⟨.loc 17, .split (.loc 16), none, []⟩,
  ⟨.loc 18, .mv (.var 0), some ((.loc 17), false), []⟩,
  ⟨.loc 19, .mv (.var 3), some ((.loc 17), false), []⟩,
  ⟨.loc 20, .idxS (.loc 18) (.loc 19), some ((.loc 17), false), []⟩,
  ⟨.loc 21, .bin .int .eql (.loc 20) (.const (.d (.int .u8 42))), some ((.loc 17), false), []⟩,
  ⟨.var 22, .pick (.loc 17) (.const (.d (.bool true))) (.loc 21), none, []⟩] false
def c_S_PathOk_6 : ACode := .reg [⟨.var 2, .mv (.const (.d (.bool false))), none, []⟩] false
def c_S_PathOk_7 : ACode := .reg [⟨.loc 11, .mv (.var 3), none, []⟩,
  ⟨.loc 12, .bin .int .add (.loc 11) (.const (.d (.int .i64 1))), none, []⟩,
  ⟨.var 3, .mv (.loc 12), none, []⟩] false
def c_S_PathOk_8 : ACode := (.seq (.seq c_S_PathOk_4 (.cond (.var 10) .skip (.exit 0))) (.seq (.block 1 (.seq c_S_PathOk_5 (.cond (.var 22) (.seq c_S_PathOk_6 .ret) .skip))) c_S_PathOk_7))
def c_S_PathOk_9 : ACode := .reg [⟨.var 2, .mv (.const (.d (.bool true))), none, []⟩] false
def c_S_PathOk : ACode := (.seq c_S_PathOk_0 (.seq (.seq c_S_PathOk_1 (.cond (.var 6) (.seq c_S_PathOk_2 .ret) .skip)) (.seq (.seq c_S_PathOk_3 (.block 0 (.loop [0, 3] c_S_PathOk_8))) (.seq c_S_PathOk_9 .ret))))
abbrev F_S_PathOk : FuncId := 97
theorem k_S_PathOk : comp PP (Tryd.f97.ntmps, pinOf 0 [none]) [0, 2, 3, 6, 10, 22] (Tryd.f97.body.getD .skip) = some c_S_PathOk.erase := by kernel_rfl
theorem v_S_PathOk {GG : GV} (rcs : List C) {cs : List C} {r : C} {os : List (Option C)} (hN : (cs.length == 1 && rcs.length == 1) = true) (hret : retOf rcs = r)
    (hW : W PP [0, 2, 3, 6, 10, 22] (Tryd.f97.ntmps, pinOf 0 [none]) (Valid PP GG) c_S_PathOk (entry cs) (Fin (Valid PP GG) [(.give, 2, none)] [none] rcs os) (fun _ _ => False) (Fin (Valid PP GG) [(.give, 2, none)] [none] rcs os)) : Valid PP GG F_S_PathOk cs r os :=
  fn_valid_n 1 1 [0, 2, 3, 6, 10, 22] c_S_PathOk [(.give, 2, none)] [none] rcs Tryd.func97 rfl rfl (by kernel_rfl) k_S_PathOk rfl rfl hN hret hW
def c_S_Digest_0 : ACode := .reg [⟨.var 2, .mv (.const (.d (.int .i64 0))), none, []⟩] false
def c_S_Digest_1 : ACode := .reg [⟨.var 3, .mv (.const (.d (.int .i64 7))), none, []⟩] false
def c_S_Digest_2 : ACode := .reg [⟨.var 4, .mv (.const (.d (.int .i64 11))), none, []⟩] false
def c_S_Digest_3 : ACode := .reg [⟨.var 5, .mv (.const (.d (.int .i64 0))), none, []⟩] false
def c_S_Digest_4 : ACode := .reg [⟨.loc 6, .mv (.var 5), none, []⟩,
  ⟨.loc 7, .mv (.var 0), none, []⟩,
  ⟨.loc 8, .len false (.loc 7), none, []⟩,
  ⟨.var 9, .bin .int .lss (.loc 6) (.loc 8), none, []⟩] false
def c_S_Digest_5 : ACode := .reg [⟨.loc 12, .mv (.var 3), none, []⟩,
  ⟨.loc 13, .bin .int .mul (.const (.d (.int .i64 131))) (.loc 12), none, []⟩,
  ⟨.loc 14, .mv (.var 0), none, []⟩,
  ⟨.loc 15, .mv (.var 5), none, []⟩,
  ⟨.loc 16, .idxA 1 (.loc 14) (.loc 15), none, []⟩,
  ⟨.loc 17, .load false 1 (.loc 16), none, []⟩,
  ⟨.loc 18, .conv .i64 (.loc 17), none, []⟩,
  ⟨.loc 19, .bin .int .add (.loc 13) (.loc 18), none, []⟩,
  ⟨.loc 20, .bin .int .add (.loc 19) (.const (.d (.int .i64 1))), none, []⟩,
  ⟨.loc 21, .bin .int .rem (.loc 20) (.const (.d (.int .i64 2147483647))), none, []⟩,
  ⟨.var 3, .mv (.loc 21), none, []⟩] false
def c_S_Digest_6 : ACode := .reg [⟨.loc 22, .mv (.var 4), none, []⟩,
  ⟨.loc 23, .bin .int .mul (.const (.d (.int .i64 137))) (.loc 22), none, []⟩,
  ⟨.loc 24, .mv (.var 0), none, []⟩,
  ⟨.loc 25, .mv (.var 5), none, []⟩,
  ⟨.loc 26, .idxA 1 (.loc 24) (.loc 25), none, []⟩,
  ⟨.loc 27, .load false 1 (.loc 26), none, []⟩,
  ⟨.loc 28, .conv .i64 (.loc 27), none, []⟩,
  ⟨.loc 29, .bin .int .add (.loc 23) (.loc 28), none, []⟩,
  ⟨.loc 30, .bin .int .add (.loc 29) (.const (.d (.int .i64 3))), none, []⟩,
  ⟨.loc 31, .bin .int .rem (.loc 30) (.const (.d (.int .i64 2147483629))), none, []⟩,
  ⟨.var 4, .mv (.loc 31), none, []⟩] false
def c_S_Digest_7 : ACode := .reg [⟨.loc 10, .mv (.var 5), none, []⟩,
  ⟨.loc 11, .bin .int .add (.loc 10) (.const (.d (.int .i64 1))), none, []⟩,
  ⟨.var 5, .mv (.loc 11), none, []⟩] false
def c_S_Digest_8 : ACode := (.seq (.seq c_S_Digest_4 (.cond (.var 9) .skip (.exit 0))) (.seq (.block 1 (.seq c_S_Digest_5 c_S_Digest_6)) c_S_Digest_7))
def c_S_Digest_9 : ACode := .reg [⟨.loc 32, .mv (.var 3), none, []⟩,
  ⟨.loc 33, .bin .int .mul (.const (.d (.int .i64 2147483648))) (.loc 32), none, []⟩,
  ⟨.loc 34, .mv (.var 4), none, []⟩,
  ⟨.loc 35, .bin .int .add (.loc 33) (.loc 34), none, []⟩,
  ⟨.var 2, .mv (.loc 35), none, []⟩] false
def c_S_Digest : ACode := (.seq c_S_Digest_0 (.seq c_S_Digest_1 (.seq c_S_Digest_2 (.seq (.seq c_S_Digest_3 (.block 0 (.loop [0, 3, 4, 5] c_S_Digest_8))) (.seq c_S_Digest_9 .ret)))))
abbrev F_S_Digest : FuncId := 98
theorem k_S_Digest : comp PP (Tryd.f98.ntmps, pinOf 0 [none]) [0, 2, 3, 4, 5, 9] (Tryd.f98.body.getD .skip) = some c_S_Digest.erase := by kernel_rfl
theorem v_S_Digest {GG : GV} (rcs : List C) {cs : List C} {r : C} {os : List (Option C)} (hN : (cs.length == 1 && rcs.length == 1) = true) (hret : retOf rcs = r)
    (hW : W PP [0, 2, 3, 4, 5, 9] (Tryd.f98.ntmps, pinOf 0 [none]) (Valid PP GG) c_S_Digest (entry cs) (Fin (Valid PP GG) [(.give, 2, none)] [none] rcs os) (fun _ _ => False) (Fin (Valid PP GG) [(.give, 2, none)] [none] rcs os)) : Valid PP GG F_S_Digest cs r os :=
  fn_valid_n 1 1 [0, 2, 3, 4, 5, 9] c_S_Digest [(.give, 2, none)] [none] rcs Tryd.func98 rfl rfl (by kernel_rfl) k_S_Digest rfl rfl hN hret hW
def c_I_isKey_0 : ACode := .reg [⟨.var 2, .mv (.const (.d (.bool false))), none, []⟩] false
def c_I_isKey_1 : ACode := .reg [⟨.loc 3, .mv (.var 0), none, []⟩,
  ⟨.loc 4, .call (.fn 71) [(.loc 3), (.const (.d (.int .i64 0))), (.const (.d (.int .i64 1099511627776)))] [.borrow, .borrow, .borrow], none, []⟩,
  ⟨.var 2, .mv (.loc 4), none, []⟩] false
def c_I_isKey : ACode := (.seq c_I_isKey_0 (.seq c_I_isKey_1 .ret))
abbrev F_I_isKey : FuncId := 100
theorem k_I_isKey : comp PP (Tryd.f100.ntmps, pinOf 0 [none]) [0, 2] (Tryd.f100.body.getD .skip) = some c_I_isKey.erase := by kernel_rfl
theorem v_I_isKey {GG : GV} (rcs : List C) {cs : List C} {r : C} {os : List (Option C)} (hN : (cs.length == 1 && rcs.length == 1) = true) (hret : retOf rcs = r)
    (hW : W PP [0, 2] (Tryd.f100.ntmps, pinOf 0 [none]) (Valid PP GG) c_I_isKey (entry cs) (Fin (Valid PP GG) [(.give, 2, none)] [none] rcs os) (fun _ _ => False) (Fin (Valid PP GG) [(.give, 2, none)] [none] rcs os)) : Valid PP GG F_I_isKey cs r os :=
  fn_valid_n 1 1 [0, 2] c_I_isKey [(.give, 2, none)] [none] rcs Tryd.func100 rfl rfl (by kernel_rfl) k_I_isKey rfl rfl hN hret hW
def c_L_markText_0 : ACode := .reg [⟨.var 2, .mv (.const (.d (.str []))), none, []⟩] false
def c_L_markText_1 : ACode := .reg [⟨.loc 4, .mv (.var 0), none, []⟩,
  ⟨.var 5, .bin .int .leq (.loc 4) (.const (.d (.int .i64 0))), none, []⟩] false
def c_L_markText_2 : ACode := .reg [⟨.var 2, .mv (.const (.d (.str [109, 48]))), none, []⟩] false
def c_L_markText_3 : ACode := .reg [⟨.var 3, .mv (.const (.d (.str []))), none, []⟩] false
def c_L_markText_4 : ACode := .reg [⟨.loc 6, .mv (.var 0), none, []⟩,
  ⟨.var 7, .bin .int .gtr (.loc 6) (.const (.d (.int .i64 0))), none, []⟩] false
def c_L_markText_5 : ACode := .reg [⟨.loc 8, .mv (.var 0), none, []⟩,
  ⟨.loc 9, .bin .int .rem (.loc 8) (.const (.d (.int .i64 10))), none, []⟩,
  ⟨.loc 10, .bin .int .add (.const (.d (.int .i64 48))) (.loc 9), none, []⟩,
  ⟨.loc 11, .conv .u8 (.loc 10), none, []⟩,
  ⟨.loc 12, .lit 0 1 1 [.int .u8 0] [(0, (.loc 11))], none, []⟩,
  ⟨.loc 13, .b2s (.loc 12), none, []⟩,
  ⟨.loc 14, .mv (.var 3), none, []⟩,
  ⟨.loc 15, .bin .str .add (.loc 13) (.loc 14), none, []⟩,
  ⟨.var 3, .mv (.loc 15), none, []⟩] false
def c_L_markText_6 : ACode := .reg [⟨.loc 16, .mv (.var 0), none, []⟩,
  ⟨.loc 17, .bin .int .quo (.loc 16) (.const (.d (.int .i64 10))), none, []⟩,
  ⟨.var 0, .mv (.loc 17), none, []⟩] false
def c_L_markText_7 : ACode := (.seq (.seq c_L_markText_4 (.cond (.var 7) .skip (.exit 0))) (.block 1 (.seq c_L_markText_5 c_L_markText_6)))
def c_L_markText_8 : ACode := .reg [⟨.loc 18, .mv (.var 3), none, []⟩,
  ⟨.loc 19, .bin .str .add (.const (.d (.str [109]))) (.loc 18), none, []⟩,
  ⟨.var 2, .mv (.loc 19), none, []⟩] false
def c_L_markText : ACode := (.seq c_L_markText_0 (.seq (.seq c_L_markText_1 (.cond (.var 5) (.seq c_L_markText_2 .ret) .skip)) (.seq c_L_markText_3 (.seq (.block 0 (.loop [0, 3] c_L_markText_7)) (.seq c_L_markText_8 .ret)))))
abbrev F_L_markText : FuncId := 104
theorem k_L_markText : comp PP (Tryd.f104.ntmps, pinOf 0 [none]) [0, 2, 3, 5, 7] (Tryd.f104.body.getD .skip) = some c_L_markText.erase := by kernel_rfl
theorem v_L_markText {GG : GV} (rcs : List C) {cs : List C} {r : C} {os : List (Option C)} (hN : (cs.length == 1 && rcs.length == 1) = true) (hret : retOf rcs = r)
    (hW : W PP [0, 2, 3, 5, 7] (Tryd.f104.ntmps, pinOf 0 [none]) (Valid PP GG) c_L_markText (entry cs) (Fin (Valid PP GG) [(.give, 2, none)] [none] rcs os) (fun _ _ => False) (Fin (Valid PP GG) [(.give, 2, none)] [none] rcs os)) : Valid PP GG F_L_markText cs r os :=
  fn_valid_n 1 1 [0, 2, 3, 5, 7] c_L_markText [(.give, 2, none)] [none] rcs Tryd.func104 rfl rfl (by kernel_rfl) k_L_markText rfl rfl hN hret hW
def c_L_szWrap_0 : ACode := .reg [⟨.var 2, .box (.var 0), none, []⟩,
  ⟨.var 4, .mv (.const (.d (.int .i64 0))), none, []⟩] false
def c_L_szWrap_1 : ACode := .reg [⟨.loc 5, .mv (.var 1), none, []⟩,
  ⟨.loc 6, .fld 2 (.var 2), none, []⟩,
  ⟨.loc 7, .load false 1 (.loc 6), none, []⟩,
  ⟨.loc 8, .len true (.loc 7), none, []⟩,
  ⟨.loc 9, .bin .int .sub (.loc 5) (.loc 8), none, []⟩,
  ⟨.var 1, .mv (.loc 9), none, []⟩] false
def c_L_szWrap_2 : ACode := .reg [⟨.loc 10, .mv (.var 1), none, []⟩,
  ⟨.var 11, .bin .int .lss (.loc 10) (.const (.d (.int .i64 0))), none, []⟩] false
def c_L_szWrap_3 : ACode := .reg [⟨.var 4, .mv (.const (.d (.int .i64 (-1)))), none, []⟩] false
def c_L_szWrap_4 : ACode := .reg [⟨.loc 12, .fld 3 (.var 2), none, []⟩,
  ⟨.loc 13, .load true 3 (.loc 12), none, []⟩,
  ⟨.loc 14, .mv (.var 1), none, []⟩,
  ⟨.loc 15, .call (.fn 132) [(.loc 13), (.loc 14)] [.borrow, .borrow], none, []⟩,
  ⟨.var 1, .mv (.loc 15), none, []⟩] false
def c_L_szWrap_5 : ACode := .reg [⟨.loc 16, .mv (.var 1), none, []⟩,
  ⟨.var 17, .bin .int .lss (.loc 16) (.const (.d (.int .i64 0))), none, []⟩] false
def c_L_szWrap_6 : ACode := .reg [⟨.var 4, .mv (.const (.d (.int .i64 (-1)))), none, []⟩] false
def c_L_szWrap_7 : ACode := .reg [⟨.loc 18, .mv (.var 1), none, []⟩,
  ⟨.var 4, .mv (.loc 18), none, []⟩] false
def c_L_szWrap : ACode := (.seq c_L_szWrap_0 (.seq c_L_szWrap_1 (.seq (.seq c_L_szWrap_2 (.cond (.var 11) (.seq c_L_szWrap_3 .ret) .skip)) (.seq c_L_szWrap_4 (.seq (.seq c_L_szWrap_5 (.cond (.var 17) (.seq c_L_szWrap_6 .ret) .skip)) (.seq c_L_szWrap_7 .ret))))))
abbrev F_L_szWrap : FuncId := 105
theorem k_L_szWrap : comp PP (Tryd.f105.ntmps, pinOf 0 [none, none]) [0, 1, 2, 4, 11, 17] (Tryd.f105.body.getD .skip) = some c_L_szWrap.erase := by kernel_rfl
theorem v_L_szWrap {GG : GV} (rcs : List C) {cs : List C} {r : C} {os : List (Option C)} (hN : (cs.length == 2 && rcs.length == 1) = true) (hret : retOf rcs = r)
    (hW : W PP [0, 1, 2, 4, 11, 17] (Tryd.f105.ntmps, pinOf 0 [none, none]) (Valid PP GG) c_L_szWrap (entry cs) (Fin (Valid PP GG) [(.give, 4, none)] [none, none] rcs os) (fun _ _ => False) (Fin (Valid PP GG) [(.give, 4, none)] [none, none] rcs os)) : Valid PP GG F_L_szWrap cs r os :=
  fn_valid_n 2 1 [0, 1, 2, 4, 11, 17] c_L_szWrap [(.give, 4, none)] [none, none] rcs Tryd.func105 rfl rfl (by kernel_rfl) k_L_szWrap rfl rfl hN hret hW
def c_S_l14CopyWrap_0 : ACode := .reg [⟨.var 1, .box (.var 0), none, []⟩,
  ⟨.var 2, .alloc [.d (.int .i64 0), .d (.int .i64 0), .d (.str []), .d (.int .i64 0), .nil 0 1, .d (.int .i64 0)], none, []⟩] false
def c_S_l14CopyWrap_1 : ACode := .reg [⟨.loc 3, .fld 3 (.var 1), none, []⟩,
  ⟨.loc 4, .fld 1 (.loc 3), none, []⟩,
  ⟨.loc 5, .load false 1 (.loc 4), none, []⟩,
  ⟨.loc 6, .call (.fn 133) [(.loc 5)] [.borrow], none, []⟩,
  ⟨.loc 7, .fld 3 (.var 1), none, []⟩,
  ⟨.loc 8, .fld 1 (.loc 7), none, []⟩,
  ⟨.none, .store 1 (.loc 8) (.loc 6), none, []⟩] false
def c_S_l14CopyWrap_2 : ACode := .reg [⟨.loc 9, .load true 6 (.var 1), none, []⟩,
  ⟨.none, .store 6 (.var 2) (.loc 9), none, []⟩] false
def c_S_l14CopyWrap : ACode := (.seq c_S_l14CopyWrap_0 (.seq c_S_l14CopyWrap_1 (.seq c_S_l14CopyWrap_2 .ret)))
abbrev F_S_l14CopyWrap : FuncId := 106
theorem k_S_l14CopyWrap : comp PP (Tryd.f106.ntmps, pinOf 0 [none]) [0, 1, 2] (Tryd.f106.body.getD .skip) = some c_S_l14CopyWrap.erase := by kernel_rfl
theorem v_S_l14CopyWrap {GG : GV} (rcs : List C) {cs : List C} {r : C} {os : List (Option C)} (hN : (cs.length == 1 && rcs.length == 1) = true) (hret : retOf rcs = r)
    (hW : W PP [0, 1, 2] (Tryd.f106.ntmps, pinOf 0 [none]) (Valid PP GG) c_S_l14CopyWrap (entry cs) (Fin (Valid PP GG) [(.give, 2, some (true, 6))] [none] rcs os) (fun _ _ => False) (Fin (Valid PP GG) [(.give, 2, some (true, 6))] [none] rcs os)) : Valid PP GG F_S_l14CopyWrap cs r os :=
  fn_valid_n 1 1 [0, 1, 2] c_S_l14CopyWrap [(.give, 2, some (true, 6))] [none] rcs Tryd.func106 rfl rfl (by kernel_rfl) k_S_l14CopyWrap rfl rfl hN hret hW
def c_S_TagOf_0 : ACode := .reg [⟨.var 6, .mv (.const (.d (.int .i64 0))), none, []⟩] false
def c_S_TagOf_1 : ACode := .reg [⟨.loc 7, .mv (.var 0), none, []⟩,
  ⟨.loc 8, .call (.fn 95) [(.loc 7)] [.borrow], none, []⟩,
  ⟨.loc 9, .un .not (.loc 8), none, []⟩,
  ⟨.loc 10, .split (.loc 9), none, []⟩,
  ⟨.loc 11, .mv (.var 1), some ((.loc 10), false), []⟩,
  ⟨.loc 12, .call (.fn 95) [(.loc 11)] [.borrow], some ((.loc 10), false), []⟩,
  ⟨.loc 13, .un .not (.loc 12), some ((.loc 10), false), []⟩,
  ⟨.loc 14, .pick (.loc 10) (.const (.d (.bool true))) (.loc 13), none, []⟩,
  ⟨.loc 15, .split (.loc 14), none, []⟩,
  ⟨.loc 16, .mv (.var 2), some ((.loc 15), false), []⟩,
  ⟨.loc 17, .len false (.loc 16), some ((.loc 15), false), []⟩,
  ⟨.loc 18, .bin .int .gtr (.loc 17) (.const (.d (.int .i64 2000))), some ((.loc 15), false), []⟩,
  ⟨.var 19, .pick (.loc 15) (.const (.d (.bool true))) (.loc 18), none, []⟩] false
def c_S_TagOf_2 : ACode := .reg [⟨.var 6, .mv (.const (.d (.int .i64 (-1)))), none, []⟩] false
def c_S_TagOf_3 : ACode := .reg [⟨.loc 20, .mv (.var 0), none, []⟩,
  ⟨.loc 21, .call (.fn 135) [(.loc 20)] [.borrow], none, []⟩,
  ⟨.loc 22, .mv (.var 1), none, []⟩,
  ⟨.loc 23, .call (.fn 135) [(.loc 22)] [.borrow], none, []⟩,
  ⟨.loc 24, .call (.fn 134) [(.loc 21), (.loc 23)] [.borrow, .borrow], none, []⟩,
  ⟨.loc 25, .mv (.var 2), none, []⟩,
  ⟨.loc 26, .call (.fn 134) [(.loc 24), (.loc 25)] [.borrow, .borrow], none, []⟩,
  ⟨.loc 27, .call (.fn 98) [(.loc 26)] [.borrow], none, []⟩,
  ⟨.var 6, .mv (.loc 27), none, []⟩] false
def c_S_TagOf : ACode := (.seq c_S_TagOf_0 (.seq (.seq c_S_TagOf_1 (.cond (.var 19) (.seq c_S_TagOf_2 .ret) .skip)) (.seq c_S_TagOf_3 .ret)))
abbrev F_S_TagOf : FuncId := 107
theorem k_S_TagOf : comp PP (Tryd.f107.ntmps, pinOf 0 [none, none, none]) [0, 1, 2, 6, 19] (Tryd.f107.body.getD .skip) = some c_S_TagOf.erase := by kernel_rfl
theorem v_S_TagOf {GG : GV} (rcs : List C) {cs : List C} {r : C} {os : List (Option C)} (hN : (cs.length == 3 && rcs.length == 1) = true) (hret : retOf rcs = r)
    (hW : W PP [0, 1, 2, 6, 19] (Tryd.f107.ntmps, pinOf 0 [none, none, none]) (Valid PP GG) c_S_TagOf (entry cs) (Fin (Valid PP GG) [(.give, 6, none)] [none, none, none] rcs os) (fun _ _ => False) (Fin (Valid PP GG) [(.give, 6, none)] [none, none, none] rcs os)) : Valid PP GG F_S_TagOf cs r os :=
  fn_valid_n 3 1 [0, 1, 2, 6, 19] c_S_TagOf [(.give, 6, none)] [none, none, none] rcs Tryd.func107 rfl rfl (by kernel_rfl) k_S_TagOf rfl rfl hN hret hW
def c_S_l04Mask_0 : ACode := .reg [⟨.var 6, .mv (.const (.nil 0 1)), none, []⟩] false
def c_S_l04Mask_1 : ACode := .reg [⟨.loc 10, .lit 0 1 0 [.int .u8 0] [], none, []⟩,
  ⟨.var 7, .mv (.loc 10), none, []⟩] false
def c_S_l04Mask_2 : ACode := .reg [⟨.loc 11, .mv (.var 0), none, []⟩,
  ⟨.loc 12, .mv (.var 1), none, []⟩,
  ⟨.loc 13, .mv (.var 2), none, []⟩,
  ⟨.loc 14, .len false (.loc 13), none, []⟩,
  ⟨.loc 15, .call (.fn 136) [(.loc 11), (.loc 12), (.loc 14)] [.borrow, .borrow, .borrow], none, []⟩,
  ⟨.var 8, .mv (.loc 15), none, []⟩] false
def c_S_l04Mask_3 : ACode := .reg [⟨.var 9, .mv (.const (.d (.int .i64 0))), none, []⟩] false
def c_S_l04Mask_4 : ACode := .reg [⟨.loc 16, .mv (.var 9), none, []⟩,
  ⟨.loc 17, .mv (.var 2), none, []⟩,
  ⟨.loc 18, .len false (.loc 17), none, []⟩,
  ⟨.var 19, .bin .int .lss (.loc 16) (.loc 18), none, []⟩] false
def c_S_l04Mask_5 : ACode := .reg [⟨.loc 22, .mv (.var 7), none, []⟩,
  ⟨.loc 23, .mv (.var 2), none, []⟩,
  ⟨.loc 24, .mv (.var 9), none, []⟩,
  ⟨.loc 25, .idxA 1 (.loc 23) (.loc 24), none, [1, 2]⟩,
  ⟨.loc 26, .load false 1 (.loc 25), none, [3, 1, 2]⟩,
  ⟨.loc 27, .mv (.var 8), none, []⟩,
  ⟨.loc 28, .mv (.var 9), none, []⟩,
  ⟨.loc 29, .idxA 1 (.loc 27) (.loc 28), none, [5, 6]⟩,
  ⟨.loc 30, .load false 1 (.loc 29), none, [7, 5, 6]⟩,
  ⟨.loc 31, .bin .int .xor (.loc 26) (.loc 30), none, [4, 3, 1, 2, 8, 7, 5, 6]⟩,
  ⟨.loc 32, .lit 0 1 1 [.int .u8 0] [(0, (.loc 31))], none, [9, 4, 3, 1, 2, 8, 7, 5, 6]⟩,
  ⟨.loc 33, .app 1 1 (.loc 22) (.loc 32), none, [0, 10, 9, 4, 3, 1, 2, 8, 7, 5, 6]⟩,
  ⟨.var 7, .mv (.loc 33), none, [11, 0, 10, 9, 4, 3, 1, 2, 8, 7, 5, 6]⟩] true
def c_S_l04Mask_6 : ACode := .reg [⟨.loc 20, .mv (.var 9), none, []⟩,
  ⟨.loc 21, .bin .int .add (.loc 20) (.const (.d (.int .i64 1))), none, []⟩,
  ⟨.var 9, .mv (.loc 21), none, []⟩] false
def c_S_l04Mask_7 : ACode := (.seq (.seq c_S_l04Mask_4 (.cond (.var 19) .skip (.exit 0))) (.seq (.block 1 c_S_l04Mask_5) c_S_l04Mask_6))
def c_S_l04Mask_8 : ACode := .reg [⟨.loc 34, .mv (.var 7), none, []⟩,
  ⟨.var 6, .mv (.loc 34), none, []⟩] false
def c_S_l04Mask : ACode := (.seq c_S_l04Mask_0 (.seq c_S_l04Mask_1 (.seq c_S_l04Mask_2 (.seq (.seq c_S_l04Mask_3 (.block 0 (.loop [2, 7, 8, 9] c_S_l04Mask_7))) (.seq c_S_l04Mask_8 .ret)))))
abbrev F_S_l04Mask : FuncId := 108
theorem k_S_l04Mask : comp PP (Tryd.f108.ntmps, pinOf 0 [none, none, none]) [0, 1, 2, 6, 7, 8, 9, 19] (Tryd.f108.body.getD .skip) = some c_S_l04Mask.erase := by kernel_rfl
theorem v_S_l04Mask {GG : GV} (rcs : List C) {cs : List C} {r : C} {os : List (Option C)} (hN : (cs.length == 3 && rcs.length == 1) = true) (hret : retOf rcs = r)
    (hW : W PP [0, 1, 2, 6, 7, 8, 9, 19] (Tryd.f108.ntmps, pinOf 0 [none, none, none]) (Valid PP GG) c_S_l04Mask (entry cs) (Fin (Valid PP GG) [(.give, 6, none)] [none, none, none] rcs os) (fun _ _ => False) (Fin (Valid PP GG) [(.give, 6, none)] [none, none, none] rcs os)) : Valid PP GG F_S_l04Mask cs r os :=
  fn_valid_n 3 1 [0, 1, 2, 6, 7, 8, 9, 19] c_S_l04Mask [(.give, 6, none)] [none, none, none] rcs Tryd.func108 rfl rfl (by kernel_rfl) k_S_l04Mask rfl rfl hN hret hW
def c_L_toWrap_0 : ACode := .reg [⟨.var 1, .box (.var 0), none, []⟩,
  ⟨.var 2, .alloc [.d (.int .i64 0), .d (.int .i64 0), .d (.str []), .d (.int .i64 0), .nil 0 1, .d (.int .i64 0)], none, []⟩] false
def c_L_toWrap_1 : ACode := .reg [⟨.var 3, .alloc [.d (.int .i64 0), .d (.int .i64 0), .d (.str []), .d (.int .i64 0), .nil 0 1, .d (.int .i64 0)], none, []⟩] false
def c_L_toWrap_2 : ACode := .reg [⟨.loc 4, .fld 0 (.var 1), none, []⟩,
  ⟨.loc 5, .load false 1 (.loc 4), none, []⟩,
  ⟨.loc 6, .fld 0 (.var 3), none, []⟩,
  ⟨.none, .store 1 (.loc 6) (.loc 5), none, []⟩] false
def c_L_toWrap_3 : ACode := .reg [⟨.loc 7, .fld 1 (.var 1), none, []⟩,
  ⟨.loc 8, .load false 1 (.loc 7), none, []⟩,
  ⟨.loc 9, .fld 1 (.var 3), none, []⟩,
  ⟨.none, .store 1 (.loc 9) (.loc 8), none, []⟩] false
def c_L_toWrap_4 : ACode := .reg [⟨.loc 10, .fld 2 (.var 1), none, []⟩,
  ⟨.loc 11, .load false 1 (.loc 10), none, []⟩,
  ⟨.loc 12, .fld 2 (.var 3), none, []⟩,
  ⟨.none, .store 1 (.loc 12) (.loc 11), none, []⟩] false
def c_L_toWrap_5 : ACode := .reg [⟨.loc 13, .fld 3 (.var 1), none, []⟩,
  ⟨.loc 14, .load true 3 (.loc 13), none, []⟩,
  ⟨.loc 15, .call (.fn 137) [(.loc 14)] [.borrow], none, []⟩,
  ⟨.loc 16, .fld 3 (.var 3), none, []⟩,
  ⟨.none, .store 3 (.loc 16) (.loc 15), none, []⟩] false
def c_L_toWrap_6 : ACode := .reg [⟨.loc 17, .load true 6 (.var 3), none, []⟩,
  ⟨.none, .store 6 (.var 2) (.loc 17), none, []⟩] false
def c_L_toWrap : ACode := (.seq c_L_toWrap_0 (.seq c_L_toWrap_1 (.seq c_L_toWrap_2 (.seq c_L_toWrap_3 (.seq c_L_toWrap_4 (.seq c_L_toWrap_5 (.seq c_L_toWrap_6 .ret)))))))
abbrev F_L_toWrap : FuncId := 109
theorem k_L_toWrap : comp PP (Tryd.f109.ntmps, pinOf 0 [none]) [0, 1, 2, 3] (Tryd.f109.body.getD .skip) = some c_L_toWrap.erase := by kernel_rfl
theorem v_L_toWrap {GG : GV} (rcs : List C) {cs : List C} {r : C} {os : List (Option C)} (hN : (cs.length == 1 && rcs.length == 1) = true) (hret : retOf rcs = r)
    (hW : W PP [0, 1, 2, 3] (Tryd.f109.ntmps, pinOf 0 [none]) (Valid PP GG) c_L_toWrap (entry cs) (Fin (Valid PP GG) [(.give, 2, some (true, 6))] [none] rcs os) (fun _ _ => False) (Fin (Valid PP GG) [(.give, 2, some (true, 6))] [none] rcs os)) : Valid PP GG F_L_toWrap cs r os :=
  fn_valid_n 1 1 [0, 1, 2, 3] c_L_toWrap [(.give, 2, some (true, 6))] [none] rcs Tryd.func109 rfl rfl (by kernel_rfl) k_L_toWrap rfl rfl hN hret hW
def c_I_isPath_0 : ACode := .reg [⟨.var 2, .mv (.const (.d (.bool false))), none, []⟩] false
def c_I_isPath_1 : ACode := .reg [⟨.loc 3, .mv (.var 0), none, []⟩,
  ⟨.loc 4, .call (.fn 138) [(.loc 3)] [.borrow], none, []⟩,
  ⟨.loc 5, .split (.loc 4), none, []⟩,
  ⟨.loc 6, .mv (.var 0), some ((.loc 5), true), []⟩,
  ⟨.loc 7, .call (.fn 139) [(.loc 6), (.const (.d (.str [43, 42])))] [.borrow, .borrow], some ((.loc 5), true), []⟩,
  ⟨.loc 8, .un .not (.loc 7), some ((.loc 5), true), []⟩,
  ⟨.loc 9, .pick (.loc 5) (.loc 8) (.const (.d (.bool false))), none, []⟩,
  ⟨.var 2, .mv (.loc 9), none, []⟩] false
def c_I_isPath : ACode := (.seq c_I_isPath_0 (.seq c_I_isPath_1 .ret))
abbrev F_I_isPath : FuncId := 110
theorem k_I_isPath : comp PP (Tryd.f110.ntmps, pinOf 0 [none]) [0, 2] (Tryd.f110.body.getD .skip) = some c_I_isPath.erase := by kernel_rfl
theorem v_I_isPath {GG : GV} (rcs : List C) {cs : List C} {r : C} {os : List (Option C)} (hN : (cs.length == 1 && rcs.length == 1) = true) (hret : retOf rcs = r)
    (hW : W PP [0, 2] (Tryd.f110.ntmps, pinOf 0 [none]) (Valid PP GG) c_I_isPath (entry cs) (Fin (Valid PP GG) [(.give, 2, none)] [none] rcs os) (fun _ _ => False) (Fin (Valid PP GG) [(.give, 2, none)] [none] rcs os)) : Valid PP GG F_I_isPath cs r os :=
  fn_valid_n 1 1 [0, 2] c_I_isPath [(.give, 2, none)] [none] rcs Tryd.func110 rfl rfl (by kernel_rfl) k_I_isPath rfl rfl hN hret hW
def c_I_openBox_0 : ACode := .reg [⟨.var 3, .box (.var 1), none, []⟩,
  ⟨.var 4, .mv (.const (.nil 0 1)), none, []⟩,
  ⟨.var 5, .mv (.const (.d (.bool false))), none, []⟩] false
def c_I_openBox_1 : ACode := .reg [⟨.loc 6, .fld 0 (.var 3), none, []⟩,
  ⟨.loc 7, .load false 1 (.loc 6), none, [0]⟩,
  ⟨.loc 8, .call (.fn 100) [(.loc 7)] [.borrow], none, [1, 0]⟩,
  ⟨.loc 9, .un .not (.loc 8), none, [2, 1, 0]⟩,
  ⟨.loc 10, .split (.loc 9), none, [3, 2, 1, 0]⟩,
  ⟨.loc 11, .fld 1 (.var 3), some ((.loc 10), false), [4, 3, 2, 1, 0]⟩,
  ⟨.loc 12, .load false 1 (.loc 11), some ((.loc 10), false), [5, 4, 3, 2, 1, 0]⟩,
  ⟨.loc 13, .len false (.loc 12), some ((.loc 10), false), [6, 5, 4, 3, 2, 1, 0]⟩,
  ⟨.loc 14, .bin .int .gtr (.loc 13) (.const (.d (.int .i64 2000))), some ((.loc 10), false), [7, 6, 5, 4, 3, 2, 1, 0]⟩,
  ⟨.loc 15, .pick (.loc 10) (.const (.d (.bool true))) (.loc 14), none, [8, 7, 6, 5, 4, 3, 2, 1, 0]⟩,
  ⟨.loc 16, .split (.loc 15), none, [9, 8, 7, 6, 5, 4, 3, 2, 1, 0]⟩,
  ⟨.loc 17, .mv (.var 0), some ((.loc 16), false), [10, 9, 8, 7, 6, 5, 4, 3, 2, 1, 0]⟩,
  ⟨.loc 18, .fld 0 (.var 3), some ((.loc 16), false), [10, 9, 8, 7, 6, 5, 4, 3, 2, 1, 0]⟩,
  ⟨.loc 19, .load false 1 (.loc 18), some ((.loc 16), false), [12, 10, 9, 8, 7, 6, 5, 4, 3, 2, 1, 0]⟩,
  ⟨.loc 20, .fld 1 (.var 3), some ((.loc 16), false), [10, 9, 8, 7, 6, 5, 4, 3, 2, 1, 0]⟩,
  ⟨.loc 21, .load false 1 (.loc 20), some ((.loc 16), false), [14, 10, 9, 8, 7, 6, 5, 4, 3, 2, 1, 0]⟩,
  ⟨.loc 22, .call (.fn 140) [(.loc 17), (.loc 19), (.loc 21)] [.borrow, .borrow, .borrow], some ((.loc 16), false), [11, 13, 12, 15, 14, 10, 9, 8, 7, 6, 5, 4, 3, 2, 1, 0]⟩,
  ⟨.loc 23, .fld 2 (.var 3), some ((.loc 16), false), [10, 9, 8, 7, 6, 5, 4, 3, 2, 1, 0]⟩,
  ⟨.loc 24, .load false 1 (.loc 23), some ((.loc 16), false), [17, 10, 9, 8, 7, 6, 5, 4, 3, 2, 1, 0]⟩,
  ⟨.loc 25, .bin .int .neq (.loc 22) (.loc 24), some ((.loc 16), false), [16, 11, 13, 12, 15, 14, 18, 17, 10, 9, 8, 7, 6, 5, 4, 3, 2, 1, 0]⟩,
  ⟨.var 26, .pick (.loc 16) (.const (.d (.bool true))) (.loc 25), none, [19, 16, 11, 13, 12, 15, 14, 18, 17, 10, 9, 8, 7, 6, 5, 4, 3, 2, 1, 0]⟩] true
def c_I_openBox_2 : ACode := .reg [⟨.var 4, .mv (.const (.nil 0 1)), none, []⟩,
  ⟨.var 5, .mv (.const (.d (.bool false))), none, []⟩] false
def c_I_openBox_3 : ACode := .reg [⟨.loc 27, .mv (.var 0), none, []⟩,
  ⟨.loc 28, .fld 0 (.var 3), none, []⟩,
  ⟨.loc 29, .load false 1 (.loc 28), none, []⟩,
  ⟨.loc 30, .fld 1 (.var 3), none, []⟩,
  ⟨.loc 31, .load false 1 (.loc 30), none, []⟩,
  ⟨.loc 32, .call (.fn 141) [(.loc 27), (.loc 29), (.loc 31)] [.borrow, .borrow, .borrow], none, []⟩,
  ⟨.var 4, .mv (.loc 32), none, []⟩,
  ⟨.var 5, .mv (.const (.d (.bool true))), none, []⟩] false
def c_I_openBox : ACode := (.seq c_I_openBox_0 (.seq (.seq c_I_openBox_1 (.cond (.var 26) (.seq c_I_openBox_2 .ret) .skip)) (.seq c_I_openBox_3 .ret)))
abbrev F_I_openBox : FuncId := 113
theorem k_I_openBox : comp PP (Tryd.f113.ntmps, pinOf 0 [none, none]) [0, 1, 3, 4, 5, 26] (Tryd.f113.body.getD .skip) = some c_I_openBox.erase := by kernel_rfl
theorem v_I_openBox {GG : GV} (rcs : List C) {cs : List C} {r : C} {os : List (Option C)} (hN : (cs.length == 2 && rcs.length == 2) = true) (hret : retOf rcs = r)
    (hW : W PP [0, 1, 3, 4, 5, 26] (Tryd.f113.ntmps, pinOf 0 [none, none]) (Valid PP GG) c_I_openBox (entry cs) (Fin (Valid PP GG) [(.give, 4, none), (.give, 5, none)] [none, none] rcs os) (fun _ _ => False) (Fin (Valid PP GG) [(.give, 4, none), (.give, 5, none)] [none, none] rcs os)) : Valid PP GG F_I_openBox cs r os :=
  fn_valid_n 2 2 [0, 1, 3, 4, 5, 26] c_I_openBox [(.give, 4, none), (.give, 5, none)] [none, none] rcs Tryd.func113 rfl rfl (by kernel_rfl) k_I_openBox rfl rfl hN hret hW
def c_L_eqWrap_0 : ACode := .reg [⟨.var 2, .box (.var 0), none, []⟩,
  ⟨.var 3, .box (.var 1), none, []⟩,
  ⟨.var 4, .mv (.const (.d (.bool false))), none, []⟩] false
def c_L_eqWrap_1 : ACode := .reg [⟨.loc 5, .fld 0 (.var 2), none, []⟩,
  ⟨.loc 6, .load false 1 (.loc 5), none, []⟩,
  ⟨.loc 7, .fld 0 (.var 3), none, []⟩,
  ⟨.loc 8, .load false 1 (.loc 7), none, []⟩,
  ⟨.var 9, .bin .int .neq (.loc 6) (.loc 8), none, []⟩] false
def c_L_eqWrap_2 : ACode := .reg [⟨.var 4, .mv (.const (.d (.bool false))), none, []⟩] false
def c_L_eqWrap_3 : ACode := .reg [⟨.loc 10, .fld 1 (.var 2), none, []⟩,
  ⟨.loc 11, .load false 1 (.loc 10), none, []⟩,
  ⟨.loc 12, .fld 1 (.var 3), none, []⟩,
  ⟨.loc 13, .load false 1 (.loc 12), none, []⟩,
  ⟨.var 14, .bin .int .neq (.loc 11) (.loc 13), none, []⟩] false
def c_L_eqWrap_4 : ACode := .reg [⟨.var 4, .mv (.const (.d (.bool false))), none, []⟩] false
def c_L_eqWrap_5 : ACode := .reg [⟨.loc 15, .fld 2 (.var 2), none, []⟩,
  ⟨.loc 16, .load false 1 (.loc 15), none, []⟩,
  ⟨.loc 17, .fld 2 (.var 3), none, []⟩,
  ⟨.loc 18, .load false 1 (.loc 17), none, []⟩,
  ⟨.var 19, .bin .str .neq (.loc 16) (.loc 18), none, []⟩] false
def c_L_eqWrap_6 : ACode := .reg [⟨.var 4, .mv (.const (.d (.bool false))), none, []⟩] false
def c_L_eqWrap_7 : ACode := .reg [⟨.loc 20, .fld 3 (.var 2), none, []⟩,
  ⟨.loc 21, .load true 3 (.loc 20), none, []⟩,
  ⟨.loc 22, .fld 3 (.var 3), none, []⟩,
  ⟨.loc 23, .load true 3 (.loc 22), none, []⟩,
  ⟨.loc 24, .call (.fn 142) [(.loc 21), (.loc 23)] [.borrow, .borrow], none, []⟩,
  ⟨.var 25, .un .not (.loc 24), none, []⟩] false
def c_L_eqWrap_8 : ACode := .reg [⟨.var 4, .mv (.const (.d (.bool false))), none, []⟩] false
def c_L_eqWrap_9 : ACode := .reg [⟨.var 4, .mv (.const (.d (.bool true))), none, []⟩] false
def c_L_eqWrap : ACode := (.seq c_L_eqWrap_0 (.seq (.seq c_L_eqWrap_1 (.cond (.var 9) (.seq c_L_eqWrap_2 .ret) .skip)) (.seq (.seq c_L_eqWrap_3 (.cond (.var 14) (.seq c_L_eqWrap_4 .ret) .skip)) (.seq (.seq c_L_eqWrap_5 (.cond (.var 19) (.seq c_L_eqWrap_6 .ret) .skip)) (.seq (.seq c_L_eqWrap_7 (.cond (.var 25) (.seq c_L_eqWrap_8 .ret) .skip)) (.seq c_L_eqWrap_9 .ret))))))
abbrev F_L_eqWrap : FuncId := 114
theorem k_L_eqWrap : comp PP (Tryd.f114.ntmps, pinOf 0 [none, none]) [0, 1, 2, 3, 4, 9, 14, 19, 25] (Tryd.f114.body.getD .skip) = some c_L_eqWrap.erase := by kernel_rfl
theorem v_L_eqWrap {GG : GV} (rcs : List C) {cs : List C} {r : C} {os : List (Option C)} (hN : (cs.length == 2 && rcs.length == 1) = true) (hret : retOf rcs = r)
    (hW : W PP [0, 1, 2, 3, 4, 9, 14, 19, 25] (Tryd.f114.ntmps, pinOf 0 [none, none]) (Valid PP GG) c_L_eqWrap (entry cs) (Fin (Valid PP GG) [(.give, 4, none)] [none, none] rcs os) (fun _ _ => False) (Fin (Valid PP GG) [(.give, 4, none)] [none, none] rcs os)) : Valid PP GG F_L_eqWrap cs r os :=
  fn_valid_n 2 1 [0, 1, 2, 3, 4, 9, 14, 19, 25] c_L_eqWrap [(.give, 4, none)] [none, none] rcs Tryd.func114 rfl rfl (by kernel_rfl) k_L_eqWrap rfl rfl hN hret hW
def c_S_SealBox_0 : ACode := .reg [⟨.var 6, .alloc [.d (.int .i64 0), .nil 0 1, .d (.int .i64 0)], none, []⟩,
  ⟨.var 7, .mv (.const (.d (.bool false))), none, []⟩] false
def c_S_SealBox_1 : ACode := .reg [⟨.loc 9, .mv (.var 0), none, []⟩,
  ⟨.loc 10, .call (.fn 95) [(.loc 9)] [.borrow], none, []⟩,
  ⟨.loc 11, .un .not (.loc 10), none, []⟩,
  ⟨.loc 12, .split (.loc 11), none, []⟩,
  ⟨.loc 13, .mv (.var 1), some ((.loc 12), false), []⟩,
  ⟨.loc 14, .call (.fn 95) [(.loc 13)] [.borrow], some ((.loc 12), false), []⟩,
  ⟨.loc 15, .un .not (.loc 14), some ((.loc 12), false), []⟩,
  ⟨.loc 16, .pick (.loc 12) (.const (.d (.bool true))) (.loc 15), none, []⟩,
  ⟨.loc 17, .split (.loc 16), none, []⟩,
  ⟨.loc 18, .mv (.var 2), some ((.loc 17), false), []⟩,
  ⟨.loc 19, .len false (.loc 18), some ((.loc 17), false), []⟩,
  ⟨.loc 20, .bin .int .gtr (.loc 19) (.const (.d (.int .i64 2000))), some ((.loc 17), false), []⟩,
  ⟨.var 21, .pick (.loc 17) (.const (.d (.bool true))) (.loc 20), none, []⟩] false
def c_S_SealBox_2 : ACode := .reg [⟨.loc 22, .build [.d (.int .i64 0), .nil 0 1, .d (.int .i64 0)] [], none, []⟩,
  ⟨.none, .store 3 (.var 6) (.loc 22), none, []⟩,
  ⟨.var 7, .mv (.const (.d (.bool false))), none, []⟩] false
def c_S_SealBox_3 : ACode := .reg [⟨.loc 23, .mv (.var 0), none, []⟩,
  ⟨.loc 24, .mv (.var 1), none, []⟩,
  ⟨.loc 25, .mv (.var 2), none, []⟩,
  ⟨.loc 26, .call (.fn 108) [(.loc 23), (.loc 24), (.loc 25)] [.borrow, .borrow, .borrow], none, []⟩,
  ⟨.var 8, .mv (.loc 26), none, []⟩] false
def c_S_SealBox_4 : ACode := .reg [⟨.loc 27, .mv (.var 1), none, []⟩,
  ⟨.loc 28, .mv (.var 8), none, []⟩,
  ⟨.loc 29, .mv (.var 0), none, []⟩,
  ⟨.loc 30, .mv (.var 1), none, []⟩,
  ⟨.loc 31, .mv (.var 8), none, []⟩,
  ⟨.loc 32, .call (.fn 107) [(.loc 29), (.loc 30), (.loc 31)] [.borrow, .borrow, .borrow], none, []⟩,
  ⟨.loc 33, .build [.d (.int .i64 0), .nil 0 1, .d (.int .i64 0)] [(0, 1, (.loc 27)), (1, 1, (.loc 28)), (2, 1, (.loc 32))], none, []⟩,
  ⟨.none, .store 3 (.var 6) (.loc 33), none, []⟩,
  ⟨.var 7, .mv (.const (.d (.bool true))), none, []⟩] false
def c_S_SealBox : ACode := (.seq c_S_SealBox_0 (.seq (.seq c_S_SealBox_1 (.cond (.var 21) (.seq c_S_SealBox_2 .ret) .skip)) (.seq c_S_SealBox_3 (.seq c_S_SealBox_4 .ret))))
abbrev F_S_SealBox : FuncId := 115
theorem k_S_SealBox : comp PP (Tryd.f115.ntmps, pinOf 0 [none, none, none]) [0, 1, 2, 6, 7, 8, 21] (Tryd.f115.body.getD .skip) = some c_S_SealBox.erase := by kernel_rfl
theorem v_S_SealBox {GG : GV} (rcs : List C) {cs : List C} {r : C} {os : List (Option C)} (hN : (cs.length == 3 && rcs.length == 2) = true) (hret : retOf rcs = r)
    (hW : W PP [0, 1, 2, 6, 7, 8, 21] (Tryd.f115.ntmps, pinOf 0 [none, none, none]) (Valid PP GG) c_S_SealBox (entry cs) (Fin (Valid PP GG) [(.give, 6, some (true, 3)), (.give, 7, none)] [none, none, none] rcs os) (fun _ _ => False) (Fin (Valid PP GG) [(.give, 6, some (true, 3)), (.give, 7, none)] [none, none, none] rcs os)) : Valid PP GG F_S_SealBox cs r os :=
  fn_valid_n 3 2 [0, 1, 2, 6, 7, 8, 21] c_S_SealBox [(.give, 6, some (true, 3)), (.give, 7, none)] [none, none, none] rcs Tryd.func115 rfl rfl (by kernel_rfl) k_S_SealBox rfl rfl hN hret hW
def c_slices_IndexFunc___impl_Wrap_impl_Wrap__0 : ACode := .reg [⟨.var 4, .mv (.const (.d (.int .i64 0))), none, []⟩] false
def c_slices_IndexFunc___impl_Wrap_impl_Wrap__1 : ACode := .reg [⟨.loc 6, .mv (.var 0), none, []⟩,
  ⟨.var 7, .len false (.loc 6), none, []⟩,
  ⟨.var 8, .mv (.const (.d (.int .i64 0))), none, []⟩] false
def c_slices_IndexFunc___impl_Wrap_impl_Wrap__2 : ACode := .reg [⟨.var 9, .bin .int .lss (.var 8) (.var 7), none, []⟩] false
def c_slices_IndexFunc___impl_Wrap_impl_Wrap__3 : ACode := .reg [⟨.loc 10, .mv (.var 8), none, []⟩,
  ⟨.var 5, .mv (.loc 10), none, []⟩] false
def c_slices_IndexFunc___impl_Wrap_impl_Wrap__4 : ACode := .reg [⟨.loc 11, .mv (.var 1), none, []⟩,
  ⟨.loc 12, .mv (.var 0), none, []⟩,
  ⟨.loc 13, .mv (.var 5), none, []⟩,
  ⟨.loc 14, .idxA 6 (.loc 12) (.loc 13), none, []⟩,
  ⟨.loc 15, .load true 6 (.loc 14), none, []⟩,
  ⟨.var 16, .call (.loc 11) [(.loc 15)] [.borrow], none, []⟩] false
def c_slices_IndexFunc___impl_Wrap_impl_Wrap__5 : ACode := .reg [⟨.loc 17, .mv (.var 5), none, []⟩,
  ⟨.var 4, .mv (.loc 17), none, []⟩] false
def c_slices_IndexFunc___impl_Wrap_impl_Wrap__6 : ACode := .reg [⟨.loc 18, .bin .int .add (.var 8) (.const (.d (.int .i64 1))), none, []⟩,
  ⟨.var 8, .mv (.loc 18), none, []⟩] false
def c_slices_IndexFunc___impl_Wrap_impl_Wrap__7 : ACode := (.seq c_slices_IndexFunc___impl_Wrap_impl_Wrap__2 (.seq (.cond (.var 9) .skip (.exit 0)) (.seq (.block 1 (.seq c_slices_IndexFunc___impl_Wrap_impl_Wrap__3 (.seq c_slices_IndexFunc___impl_Wrap_impl_Wrap__4 (.cond (.var 16) (.seq c_slices_IndexFunc___impl_Wrap_impl_Wrap__5 .ret) .skip)))) c_slices_IndexFunc___impl_Wrap_impl_Wrap__6)))
def c_slices_IndexFunc___impl_Wrap_impl_Wrap__8 : ACode := .reg [⟨.var 4, .mv (.const (.d (.int .i64 (-1)))), none, []⟩] false
def c_slices_IndexFunc___impl_Wrap_impl_Wrap_ : ACode := (.seq c_slices_IndexFunc___impl_Wrap_impl_Wrap__0 (.seq (.seq c_slices_IndexFunc___impl_Wrap_impl_Wrap__1 (.block 0 (.loop [0, 1, 7, 8] c_slices_IndexFunc___impl_Wrap_impl_Wrap__7))) (.seq c_slices_IndexFunc___impl_Wrap_impl_Wrap__8 .ret)))
abbrev F_slices_IndexFunc___impl_Wrap_impl_Wrap_ : FuncId := 116
theorem k_slices_IndexFunc___impl_Wrap_impl_Wrap_ : comp PP (Tryd.f116.ntmps, pinOf 0 [none, none]) [0, 1, 4, 5, 7, 8, 9, 16] (Tryd.f116.body.getD .skip) = some c_slices_IndexFunc___impl_Wrap_impl_Wrap_.erase := by kernel_rfl
theorem v_slices_IndexFunc___impl_Wrap_impl_Wrap_ {GG : GV} (rcs : List C) {cs : List C} {r : C} {os : List (Option C)} (hN : (cs.length == 2 && rcs.length == 1) = true) (hret : retOf rcs = r)
    (hW : W PP [0, 1, 4, 5, 7, 8, 9, 16] (Tryd.f116.ntmps, pinOf 0 [none, none]) (Valid PP GG) c_slices_IndexFunc___impl_Wrap_impl_Wrap_ (entry cs) (Fin (Valid PP GG) [(.give, 4, none)] [none, none] rcs os) (fun _ _ => False) (Fin (Valid PP GG) [(.give, 4, none)] [none, none] rcs os)) : Valid PP GG F_slices_IndexFunc___impl_Wrap_impl_Wrap_ cs r os :=
  fn_valid_n 2 1 [0, 1, 4, 5, 7, 8, 9, 16] c_slices_IndexFunc___impl_Wrap_impl_Wrap_ [(.give, 4, none)] [none, none] rcs Tryd.func116 rfl rfl (by kernel_rfl) k_slices_IndexFunc___impl_Wrap_impl_Wrap_ rfl rfl hN hret hW
def c_I_wrapIndex_c1_0 : ACode := .reg [⟨.var 2, .box (.var 0), none, []⟩,
  ⟨.var 3, .mv (.const (.d (.bool false))), none, []⟩] false
def c_I_wrapIndex_c1_1 : ACode := .reg [⟨.loc 4, .fld 0 (.var 2), none, []⟩,
  ⟨.loc 5, .load false 1 (.loc 4), none, []⟩,
  ⟨.loc 6, .load false 1 (.var 1), none, []⟩,
  ⟨.loc 7, .bin .int .eql (.loc 5) (.loc 6), none, []⟩,
  ⟨.var 3, .mv (.loc 7), none, []⟩] false
def c_I_wrapIndex_c1 : ACode := (.seq c_I_wrapIndex_c1_0 (.seq c_I_wrapIndex_c1_1 .ret))
abbrev F_I_wrapIndex_c1 : FuncId := 117
theorem k_I_wrapIndex_c1 : comp PP (Tryd.f117.ntmps, pinOf 0 [none]) [0, 1, 2, 3] (Tryd.f117.body.getD .skip) = some c_I_wrapIndex_c1.erase := by kernel_rfl
theorem v_I_wrapIndex_c1 {GG : GV} (rcs : List C) {cs : List C} {r : C} {os : List (Option C)} (hN : (cs.length == 2 && rcs.length == 1) = true) (hret : retOf rcs = r)
    (hW : W PP [0, 1, 2, 3] (Tryd.f117.ntmps, pinOf 0 [none]) (Valid PP GG) c_I_wrapIndex_c1 (entry cs) (Fin (Valid PP GG) [(.give, 3, none)] [none] rcs os) (fun _ _ => False) (Fin (Valid PP GG) [(.give, 3, none)] [none] rcs os)) : Valid PP GG F_I_wrapIndex_c1 cs r os :=
  fn_valid_n 2 1 [0, 1, 2, 3] c_I_wrapIndex_c1 [(.give, 3, none)] [none] rcs Tryd.func117 rfl rfl (by kernel_rfl) k_I_wrapIndex_c1 rfl rfl hN hret hW
def c_I_sealBox_0 : ACode := .reg [⟨.var 6, .alloc [.d (.int .i64 0), .nil 0 1, .d (.int .i64 0)], none, []⟩] false
def c_I_sealBox_1 : ACode := .reg [⟨.loc 8, .mv (.var 0), none, []⟩,
  ⟨.loc 9, .mv (.var 1), none, []⟩,
  ⟨.loc 10, .mv (.var 2), none, []⟩,
  ⟨.loc 11, .call (.fn 141) [(.loc 8), (.loc 9), (.loc 10)] [.borrow, .borrow, .borrow], none, []⟩,
  ⟨.var 7, .mv (.loc 11), none, []⟩] false
def c_I_sealBox_2 : ACode := .reg [⟨.loc 12, .mv (.var 1), none, []⟩,
  ⟨.loc 13, .mv (.var 7), none, []⟩,
  ⟨.loc 14, .mv (.var 0), none, []⟩,
  ⟨.loc 15, .mv (.var 1), none, []⟩,
  ⟨.loc 16, .mv (.var 7), none, []⟩,
  ⟨.loc 17, .call (.fn 140) [(.loc 14), (.loc 15), (.loc 16)] [.borrow, .borrow, .borrow], none, []⟩,
  ⟨.loc 18, .build [.d (.int .i64 0), .nil 0 1, .d (.int .i64 0)] [(0, 1, (.loc 12)), (1, 1, (.loc 13)), (2, 1, (.loc 17))], none, []⟩,
  ⟨.none, .store 3 (.var 6) (.loc 18), none, []⟩] false
def c_I_sealBox : ACode := (.seq c_I_sealBox_0 (.seq c_I_sealBox_1 (.seq c_I_sealBox_2 .ret)))
abbrev F_I_sealBox : FuncId := 118
theorem k_I_sealBox : comp PP (Tryd.f118.ntmps, pinOf 0 [none, none, none]) [0, 1, 2, 6, 7] (Tryd.f118.body.getD .skip) = some c_I_sealBox.erase := by kernel_rfl
theorem v_I_sealBox {GG : GV} (rcs : List C) {cs : List C} {r : C} {os : List (Option C)} (hN : (cs.length == 3 && rcs.length == 1) = true) (hret : retOf rcs = r)
    (hW : W PP [0, 1, 2, 6, 7] (Tryd.f118.ntmps, pinOf 0 [none, none, none]) (Valid PP GG) c_I_sealBox (entry cs) (Fin (Valid PP GG) [(.give, 6, some (true, 3))] [none, none, none] rcs os) (fun _ _ => False) (Fin (Valid PP GG) [(.give, 6, some (true, 3))] [none, none, none] rcs os)) : Valid PP GG F_I_sealBox cs r os :=
  fn_valid_n 3 1 [0, 1, 2, 6, 7] c_I_sealBox [(.give, 6, some (true, 3))] [none, none, none] rcs Tryd.func118 rfl rfl (by kernel_rfl) k_I_sealBox rfl rfl hN hret hW
def c_S_GlobOk_0 : ACode := .reg [⟨.var 2, .mv (.const (.d (.bool false))), none, []⟩] false
def c_S_GlobOk_1 : ACode := .reg [⟨.loc 5, .mv (.var 0), none, []⟩,
  ⟨.loc 6, .len true (.loc 5), none, []⟩,
  ⟨.var 7, .bin .int .gtr (.loc 6) (.const (.d (.int .i64 120))), none, []⟩] false
def c_S_GlobOk_2 : ACode := .reg [⟨.var 2, .mv (.const (.d (.bool false))), none, []⟩] false
def c_S_GlobOk_3 : ACode := .reg [⟨.loc 8, .mv (.var 0), none, []⟩,
  ⟨.loc 9, .call (.fn 81) [(.loc 8), (.const (.d (.int .u8 47)))] [.borrow, .borrow], none, []⟩,
  ⟨.var 3, .mv (.loc 9), none, []⟩] false
def c_S_GlobOk_4 : ACode := .reg [⟨.var 4, .mv (.const (.d (.int .i64 0))), none, []⟩] false
def c_S_GlobOk_5 : ACode := .reg [⟨.loc 10, .mv (.var 4), none, []⟩,
  ⟨.loc 11, .mv (.var 3), none, []⟩,
  ⟨.loc 12, .len false (.loc 11), none, []⟩,
  ⟨.var 13, .bin .int .lss (.loc 10) (.loc 12), none, []⟩] false
def c_S_GlobOk_6 : ACode := .reg [⟨.loc 16, .mv (.var 3), none, []⟩,
  ⟨.loc 17, .mv (.var 4), none, []⟩,
  ⟨.loc 18, .idxA 1 (.loc 16) (.loc 17), none, []⟩,
  ⟨.loc 19, .load false 1 (.loc 18), none, []⟩,
  ⟨.loc 20, .call (.fn 151) [(.loc 19)] [.borrow], none, []⟩,
  ⟨.loc 21, .un .not (.loc 20), none, []⟩,
  ⟨.loc 22, .split (.loc 21), none, []⟩,
  ⟨.loc 23, .mv (.var 3), some ((.loc 22), true), []⟩,
  ⟨.loc 24, .mv (.var 4), some ((.loc 22), true), []⟩,
  ⟨.loc 25, .idxA 1 (.loc 23) (.loc 24), some ((.loc 22), true), []⟩,
  ⟨.loc 26, .load false 1 (.loc 25), some ((.loc 22), true), []⟩,
  ⟨.loc 27, .bin .str .neq (.loc 26) (.const (.d (.str [43]))), some ((.loc 22), true), []⟩,
  ⟨.loc 28, .pick (.loc 22) (.loc 27) (.const (.d (.bool false))), none, []⟩,
  ⟨.loc 29, .split (.loc 28), none, []⟩,
  ⟨.loc 30, .mv (.var 3), some ((.loc 29), true), []⟩,
  ⟨.loc 31, .mv (.var 4), some ((.loc 29), true), []⟩,
  ⟨.loc 32, .idxA 1 (.loc 30) (.loc 31), some ((.loc 29), true), []⟩,
  ⟨.loc 33, .load false 1 (.loc 32), some ((.loc 29), true), []⟩,
  ⟨.loc 34, .bin .str .eql (.loc 33) (.const (.d (.str [42]))), some ((.loc 29), true), []⟩,
  ⟨.loc 35, .split (.loc 34), some ((.loc 29), true), []⟩,
  ⟨.loc 36, .mv (.var 4), some ((.loc 35), true), []⟩,
  ⟨.loc 37, .mv (.var 3), some ((.loc 35), true), []⟩,
  ⟨.loc 38, .len false (.loc 37), some ((.loc 35), true), []⟩,
  ⟨.loc 39, .bin .int .sub (.loc 38) (.const (.d (.int .i64 1))), some ((.loc 35), true), []⟩,
  ⟨.loc 40, .bin .int .eql (.loc 36) (.loc 39), some ((.loc 35), true), []⟩,
  ⟨.loc 41, .pick (.loc 35) (.loc 40) (.const (.d (.bool false))), some ((.loc 29), true), []⟩,
  ⟨.loc 42, .un .not (.loc 41), some ((.loc 29), true), []⟩,
  ⟨.var 43, .pick (.loc 29) (.loc 42) (.const (.d (.bool false))), none, []⟩] false
def c_S_GlobOk_7 : ACode := .reg [⟨.var 2, .mv (.const (.d (.bool false))), none, []⟩] false
def c_S_GlobOk_8 : ACode := .reg [⟨.loc 14, .mv (.var 4), none, []⟩,
  ⟨.loc 15, .bin .int .add (.loc 14) (.const (.d (.int .i64 1))), none, []⟩,
  ⟨.var 4, .mv (.loc 15), none, []⟩] false
def c_S_GlobOk_9 : ACode := (.seq (.seq c_S_GlobOk_5 (.cond (.var 13) .skip (.exit 0))) (.seq (.block 1 (.seq c_S_GlobOk_6 (.cond (.var 43) (.seq c_S_GlobOk_7 .ret) .skip))) c_S_GlobOk_8))
def c_S_GlobOk_10 : ACode := .reg [⟨.loc 44, .mv (.var 3), none, []⟩,
  ⟨.loc 45, .len false (.loc 44), none, []⟩,
  ⟨.loc 46, .bin .int .leq (.loc 45) (.const (.d (.int .i64 8))), none, []⟩,
  ⟨.var 2, .mv (.loc 46), none, []⟩] false
def c_S_GlobOk : ACode := (.seq c_S_GlobOk_0 (.seq (.seq c_S_GlobOk_1 (.cond (.var 7) (.seq c_S_GlobOk_2 .ret) .skip)) (.seq c_S_GlobOk_3 (.seq (.seq c_S_GlobOk_4 (.block 0 (.loop [3, 4] c_S_GlobOk_9))) (.seq c_S_GlobOk_10 .ret)))))
abbrev F_S_GlobOk : FuncId := 128
theorem k_S_GlobOk : comp PP (Tryd.f128.ntmps, pinOf 0 [none]) [0, 2, 3, 4, 7, 13, 43] (Tryd.f128.body.getD .skip) = some c_S_GlobOk.erase := by kernel_rfl
theorem v_S_GlobOk {GG : GV} (rcs : List C) {cs : List C} {r : C} {os : List (Option C)} (hN : (cs.length == 1 && rcs.length == 1) = true) (hret : retOf rcs = r)
    (hW : W PP [0, 2, 3, 4, 7, 13, 43] (Tryd.f128.ntmps, pinOf 0 [none]) (Valid PP GG) c_S_GlobOk (entry cs) (Fin (Valid PP GG) [(.give, 2, none)] [none] rcs os) (fun _ _ => False) (Fin (Valid PP GG) [(.give, 2, none)] [none] rcs os)) : Valid PP GG F_S_GlobOk cs r os :=
  fn_valid_n 1 1 [0, 2, 3, 4, 7, 13, 43] c_S_GlobOk [(.give, 2, none)] [none] rcs Tryd.func128 rfl rfl (by kernel_rfl) k_S_GlobOk rfl rfl hN hret hW
def c_I_digest_0 : ACode := .reg [⟨.var 2, .mv (.const (.d (.int .i64 0))), none, []⟩] false
def c_I_digest_1 : ACode := .reg [⟨.var 3, .mv (.const (.d (.int .i64 7))), none, []⟩,
  ⟨.var 4, .mv (.const (.d (.int .i64 11))), none, []⟩] false
def c_I_digest_2 : ACode := .reg [⟨.var 7, .mv (.var 0), none, []⟩,
  ⟨.var 8, .len false (.var 7), none, []⟩,
  ⟨.var 9, .mv (.const (.d (.int .i64 0))), none, []⟩] false
def c_I_digest_3 : ACode := .reg [⟨.var 10, .bin .int .lss (.var 9) (.var 8), none, []⟩] false
def c_I_digest_4 : ACode := .reg [⟨.loc 11, .idxA 1 (.var 7) (.var 9), none, []⟩,
  ⟨.loc 12, .load false 1 (.loc 11), none, []⟩,
  ⟨.var 6, .mv (.loc 12), none, []⟩] false
def c_I_digest_5 : ACode := .reg [⟨.loc 13, .mv (.var 3), none, []⟩,
  ⟨.loc 14, .bin .int .mul (.const (.d (.int .i64 131))) (.loc 13), none, []⟩,
  ⟨.loc 15, .mv (.var 6), none, []⟩,
  ⟨.loc 16, .conv .i64 (.loc 15), none, []⟩,
  ⟨.loc 17, .bin .int .add (.loc 14) (.loc 16), none, []⟩,
  ⟨.loc 18, .bin .int .add (.loc 17) (.const (.d (.int .i64 1))), none, []⟩,
  ⟨.loc 19, .bin .int .rem (.loc 18) (.const (.d (.int .i64 2147483647))), none, []⟩,
  ⟨.var 3, .mv (.loc 19), none, []⟩] false
def c_I_digest_6 : ACode := .reg [⟨.loc 20, .mv (.var 4), none, []⟩,
  ⟨.loc 21, .bin .int .mul (.const (.d (.int .i64 137))) (.loc 20), none, []⟩,
  ⟨.loc 22, .mv (.var 6), none, []⟩,
  ⟨.loc 23, .conv .i64 (.loc 22), none, []⟩,
  ⟨.loc 24, .bin .int .add (.loc 21) (.loc 23), none, []⟩,
  ⟨.loc 25, .bin .int .add (.loc 24) (.const (.d (.int .i64 3))), none, []⟩,
  ⟨.loc 26, .bin .int .rem (.loc 25) (.const (.d (.int .i64 2147483629))), none, []⟩,
  ⟨.var 4, .mv (.loc 26), none, []⟩] false
def c_I_digest_7 : ACode := .reg [⟨.loc 27, .bin .int .add (.var 9) (.const (.d (.int .i64 1))), none, []⟩,
  ⟨.var 9, .mv (.loc 27), none, []⟩] false
def c_I_digest_8 : ACode := (.seq c_I_digest_3 (.seq (.cond (.var 10) .skip (.exit 0)) (.seq (.block 1 (.seq c_I_digest_4 (.seq c_I_digest_5 c_I_digest_6))) c_I_digest_7)))
def c_I_digest_9 : ACode := .reg [⟨.loc 28, .mv (.var 3), none, []⟩,
  ⟨.loc 29, .bin .int .mul (.const (.d (.int .i64 2147483648))) (.loc 28), none, []⟩,
  ⟨.loc 30, .mv (.var 4), none, []⟩,
  ⟨.loc 31, .bin .int .add (.loc 29) (.loc 30), none, []⟩,
  ⟨.var 2, .mv (.loc 31), none, []⟩] false
def c_I_digest : ACode := (.seq c_I_digest_0 (.seq c_I_digest_1 (.seq (.seq c_I_digest_2 (.block 0 (.loop [3, 4, 7, 8, 9] c_I_digest_8))) (.seq c_I_digest_9 .ret))))
abbrev F_I_digest : FuncId := 130
theorem k_I_digest : comp PP (Tryd.f130.ntmps, pinOf 0 [none]) [0, 2, 3, 4, 6, 7, 8, 9, 10] (Tryd.f130.body.getD .skip) = some c_I_digest.erase := by kernel_rfl
theorem v_I_digest {GG : GV} (rcs : List C) {cs : List C} {r : C} {os : List (Option C)} (hN : (cs.length == 1 && rcs.length == 1) = true) (hret : retOf rcs = r)
    (hW : W PP [0, 2, 3, 4, 6, 7, 8, 9, 10] (Tryd.f130.ntmps, pinOf 0 [none]) (Valid PP GG) c_I_digest (entry cs) (Fin (Valid PP GG) [(.give, 2, none)] [none] rcs os) (fun _ _ => False) (Fin (Valid PP GG) [(.give, 2, none)] [none] rcs os)) : Valid PP GG F_I_digest cs r os :=
  fn_valid_n 1 1 [0, 2, 3, 4, 6, 7, 8, 9, 10] c_I_digest [(.give, 2, none)] [none] rcs Tryd.func130 rfl rfl (by kernel_rfl) k_I_digest rfl rfl hN hret hW
def c_L_szBox_0 : ACode := .reg [⟨.var 2, .box (.var 0), none, []⟩,
  ⟨.var 4, .mv (.const (.d (.int .i64 0))), none, []⟩] false
def c_L_szBox_1 : ACode := .reg [⟨.loc 5, .fld 1 (.var 2), none, []⟩,
  ⟨.loc 6, .load false 1 (.loc 5), none, []⟩,
  ⟨.loc 7, .mv (.var 1), none, []⟩,
  ⟨.loc 8, .call (.fn 154) [(.loc 6), (.loc 7)] [.borrow, .borrow], none, []⟩,
  ⟨.var 1, .mv (.loc 8), none, []⟩] false
def c_L_szBox_2 : ACode := .reg [⟨.loc 9, .mv (.var 1), none, []⟩,
  ⟨.var 10, .bin .int .lss (.loc 9) (.const (.d (.int .i64 0))), none, []⟩] false
def c_L_szBox_3 : ACode := .reg [⟨.var 4, .mv (.const (.d (.int .i64 (-1)))), none, []⟩] false
def c_L_szBox_4 : ACode := .reg [⟨.loc 11, .mv (.var 1), none, []⟩,
  ⟨.var 4, .mv (.loc 11), none, []⟩] false
def c_L_szBox : ACode := (.seq c_L_szBox_0 (.seq c_L_szBox_1 (.seq (.seq c_L_szBox_2 (.cond (.var 10) (.seq c_L_szBox_3 .ret) .skip)) (.seq c_L_szBox_4 .ret))))
abbrev F_L_szBox : FuncId := 132
theorem k_L_szBox : comp PP (Tryd.f132.ntmps, pinOf 0 [none, none]) [0, 1, 2, 4, 10] (Tryd.f132.body.getD .skip) = some c_L_szBox.erase := by kernel_rfl
theorem v_L_szBox {GG : GV} (rcs : List C) {cs : List C} {r : C} {os : List (Option C)} (hN : (cs.length == 2 && rcs.length == 1) = true) (hret : retOf rcs = r)
    (hW : W PP [0, 1, 2, 4, 10] (Tryd.f132.ntmps, pinOf 0 [none, none]) (Valid PP GG) c_L_szBox (entry cs) (Fin (Valid PP GG) [(.give, 4, none)] [none, none] rcs os) (fun _ _ => False) (Fin (Valid PP GG) [(.give, 4, none)] [none, none] rcs os)) : Valid PP GG F_L_szBox cs r os :=
  fn_valid_n 2 1 [0, 1, 2, 4, 10] c_L_szBox [(.give, 4, none)] [none, none] rcs Tryd.func132 rfl rfl (by kernel_rfl) k_L_szBox rfl rfl hN hret hW
def c_S_l01Bytes_0 : ACode := .reg [⟨.var 2, .mv (.const (.nil 0 1)), none, []⟩] false
def c_S_l01Bytes_1 : ACode := .reg [⟨.loc 5, .lit 0 1 0 [.int .u8 0] [], none, []⟩,
  ⟨.var 3, .mv (.loc 5), none, []⟩] false
def c_S_l01Bytes_2 : ACode := .reg [⟨.var 4, .mv (.const (.d (.int .i64 0))), none, []⟩] false
def c_S_l01Bytes_3 : ACode := .reg [⟨.loc 6, .mv (.var 4), none, []⟩,
  ⟨.loc 7, .mv (.var 0), none, []⟩,
  ⟨.loc 8, .len false (.loc 7), none, []⟩,
  ⟨.var 9, .bin .int .lss (.loc 6) (.loc 8), none, []⟩] false
def c_S_l01Bytes_4 : ACode := .reg [⟨.loc 12, .mv (.var 3), none, []⟩,
  ⟨.loc 13, .mv (.var 0), none, []⟩,
  ⟨.loc 14, .mv (.var 4), none, []⟩,
  ⟨.loc 15, .idxA 1 (.loc 13) (.loc 14), none, []⟩,
  ⟨.loc 16, .load false 1 (.loc 15), none, []⟩,
  ⟨.loc 17, .lit 0 1 1 [.int .u8 0] [(0, (.loc 16))], none, []⟩,
  ⟨.loc 18, .app 1 1 (.loc 12) (.loc 17), none, []⟩,
  ⟨.var 3, .mv (.loc 18), none, []⟩] false
def c_S_l01Bytes_5 : ACode := .reg [⟨.loc 10, .mv (.var 4), none, []⟩,
  ⟨.loc 11, .bin .int .add (.loc 10) (.const (.d (.int .i64 1))), none, []⟩,
  ⟨.var 4, .mv (.loc 11), none, []⟩] false
def c_S_l01Bytes_6 : ACode := (.seq (.seq c_S_l01Bytes_3 (.cond (.var 9) .skip (.exit 0))) (.seq (.block 1 c_S_l01Bytes_4) c_S_l01Bytes_5))
def c_S_l01Bytes_7 : ACode := .reg [⟨.loc 19, .mv (.var 3), none, []⟩,
  ⟨.var 2, .mv (.loc 19), none, []⟩] false
def c_S_l01Bytes : ACode := (.seq c_S_l01Bytes_0 (.seq c_S_l01Bytes_1 (.seq (.seq c_S_l01Bytes_2 (.block 0 (.loop [0, 3, 4] c_S_l01Bytes_6))) (.seq c_S_l01Bytes_7 .ret))))
abbrev F_S_l01Bytes : FuncId := 133
theorem k_S_l01Bytes : comp PP (Tryd.f133.ntmps, pinOf 0 [none]) [0, 2, 3, 4, 9] (Tryd.f133.body.getD .skip) = some c_S_l01Bytes.erase := by kernel_rfl
theorem v_S_l01Bytes {GG : GV} (rcs : List C) {cs : List C} {r : C} {os : List (Option C)} (hN : (cs.length == 1 && rcs.length == 1) = true) (hret : retOf rcs = r)
    (hW : W PP [0, 2, 3, 4, 9] (Tryd.f133.ntmps, pinOf 0 [none]) (Valid PP GG) c_S_l01Bytes (entry cs) (Fin (Valid PP GG) [(.give, 2, none)] [none] rcs os) (fun _ _ => False) (Fin (Valid PP GG) [(.give, 2, none)] [none] rcs os)) : Valid PP GG F_S_l01Bytes cs r os :=
  fn_valid_n 1 1 [0, 2, 3, 4, 9] c_S_l01Bytes [(.give, 2, none)] [none] rcs Tryd.func133 rfl rfl (by kernel_rfl) k_S_l01Bytes rfl rfl hN hret hW
def c_S_l01Join_0 : ACode := .reg [⟨.var 4, .mv (.const (.nil 0 1)), none, []⟩] false
def c_S_l01Join_1 : ACode := .reg [⟨.loc 7, .mv (.var 0), none, []⟩,
  ⟨.loc 8, .call (.fn 133) [(.loc 7)] [.borrow], none, []⟩,
  ⟨.var 5, .mv (.loc 8), none, []⟩] false
def c_S_l01Join_2 : ACode := .reg [⟨.var 6, .mv (.const (.d (.int .i64 0))), none, []⟩] false
def c_S_l01Join_3 : ACode := .reg [⟨.loc 9, .mv (.var 6), none, []⟩,
  ⟨.loc 10, .mv (.var 1), none, []⟩,
  ⟨.loc 11, .len false (.loc 10), none, []⟩,
  ⟨.var 12, .bin .int .lss (.loc 9) (.loc 11), none, []⟩] false
def c_S_l01Join_4 : ACode := .reg [⟨.loc 15, .mv (.var 5), none, []⟩,
  ⟨.loc 16, .mv (.var 1), none, []⟩,
  ⟨.loc 17, .mv (.var 6), none, []⟩,
  ⟨.loc 18, .idxA 1 (.loc 16) (.loc 17), none, []⟩,
  ⟨.loc 19, .load false 1 (.loc 18), none, []⟩,
  ⟨.loc 20, .lit 0 1 1 [.int .u8 0] [(0, (.loc 19))], none, []⟩,
  ⟨.loc 21, .app 1 1 (.loc 15) (.loc 20), none, []⟩,
  ⟨.var 5, .mv (.loc 21), none, []⟩] false
def c_S_l01Join_5 : ACode := .reg [⟨.loc 13, .mv (.var 6), none, []⟩,
  ⟨.loc 14, .bin .int .add (.loc 13) (.const (.d (.int .i64 1))), none, []⟩,
  ⟨.var 6, .mv (.loc 14), none, []⟩] false
def c_S_l01Join_6 : ACode := (.seq (.seq c_S_l01Join_3 (.cond (.var 12) .skip (.exit 0))) (.seq (.block 1 c_S_l01Join_4) c_S_l01Join_5))
def c_S_l01Join_7 : ACode := .reg [⟨.loc 22, .mv (.var 5), none, []⟩,
  ⟨.var 4, .mv (.loc 22), none, []⟩] false
def c_S_l01Join : ACode := (.seq c_S_l01Join_0 (.seq c_S_l01Join_1 (.seq (.seq c_S_l01Join_2 (.block 0 (.loop [1, 5, 6] c_S_l01Join_6))) (.seq c_S_l01Join_7 .ret))))
abbrev F_S_l01Join : FuncId := 134
theorem k_S_l01Join : comp PP (Tryd.f134.ntmps, pinOf 0 [none, none]) [0, 1, 4, 5, 6, 12] (Tryd.f134.body.getD .skip) = some c_S_l01Join.erase := by kernel_rfl
theorem v_S_l01Join {GG : GV} (rcs : List C) {cs : List C} {r : C} {os : List (Option C)} (hN : (cs.length == 2 && rcs.length == 1) = true) (hret : retOf rcs = r)
    (hW : W PP [0, 1, 4, 5, 6, 12] (Tryd.f134.ntmps, pinOf 0 [none, none]) (Valid PP GG) c_S_l01Join (entry cs) (Fin (Valid PP GG) [(.give, 4, none)] [none, none] rcs os) (fun _ _ => False) (Fin (Valid PP GG) [(.give, 4, none)] [none, none] rcs os)) : Valid PP GG F_S_l01Join cs r os :=
  fn_valid_n 2 1 [0, 1, 4, 5, 6, 12] c_S_l01Join [(.give, 4, none)] [none, none] rcs Tryd.func134 rfl rfl (by kernel_rfl) k_S_l01Join rfl rfl hN hret hW
def c_S_PutWide_0 : ACode := .reg [⟨.var 2, .mv (.const (.nil 0 1)), none, []⟩] false
def c_S_PutWide_1 : ACode := .reg [⟨.loc 5, .lit 0 1 0 [.int .u8 0] [], none, []⟩,
  ⟨.var 3, .mv (.loc 5), none, []⟩] false
def c_S_PutWide_2 : ACode := .reg [⟨.loc 6, .mv (.var 0), none, []⟩,
  ⟨.loc 7, .call (.fn 95) [(.loc 6)] [.borrow], none, []⟩,
  ⟨.var 8, .un .not (.loc 7), none, []⟩] false
def c_S_PutWide_3 : ACode := .reg [⟨.var 2, .mv (.const (.nil 0 1)), none, []⟩] false
def c_S_PutWide_4 : ACode := .reg [⟨.var 4, .mv (.const (.d (.int .i64 0))), none, []⟩] false
def c_S_PutWide_5 : ACode := .reg [⟨.loc 9, .mv (.var 4), none, []⟩,
  ⟨.var 10, .bin .int .lss (.loc 9) (.const (.d (.int .i64 8))), none, []⟩] false
def c_S_PutWide_6 : ACode := .reg [⟨.loc 13, .mv (.var 3), none, []⟩,
  ⟨.loc 14, .mv (.var 0), none, []⟩,
  ⟨.loc 15, .mv (.var 4), none, []⟩,
  ⟨.loc 16, .bin .int .mul (.const (.d (.int .i64 8))) (.loc 15), none, []⟩,
  ⟨.loc 17, .conv .u64 (.loc 16), none, []⟩,
  ⟨.loc 18, .bin .int .shr (.loc 14) (.loc 17), none, []⟩,
  ⟨.loc 19, .bin .int .and (.loc 18) (.const (.d (.int .i64 255))), none, []⟩,
  ⟨.loc 20, .conv .u8 (.loc 19), none, []⟩,
  ⟨.loc 21, .lit 0 1 1 [.int .u8 0] [(0, (.loc 20))], none, []⟩,
  ⟨.loc 22, .app 1 1 (.loc 13) (.loc 21), none, []⟩,
  ⟨.var 3, .mv (.loc 22), none, []⟩] false
def c_S_PutWide_7 : ACode := .reg [⟨.loc 11, .mv (.var 4), none, []⟩,
  ⟨.loc 12, .bin .int .add (.loc 11) (.const (.d (.int .i64 1))), none, []⟩,
  ⟨.var 4, .mv (.loc 12), none, []⟩] false
def c_S_PutWide_8 : ACode := (.seq (.seq c_S_PutWide_5 (.cond (.var 10) .skip (.exit 0))) (.seq (.block 1 c_S_PutWide_6) c_S_PutWide_7))
def c_S_PutWide_9 : ACode := .reg [⟨.loc 23, .mv (.var 3), none, []⟩,
  ⟨.var 2, .mv (.loc 23), none, []⟩] false
def c_S_PutWide : ACode := (.seq c_S_PutWide_0 (.seq c_S_PutWide_1 (.seq (.seq c_S_PutWide_2 (.cond (.var 8) (.seq c_S_PutWide_3 .ret) .skip)) (.seq (.seq c_S_PutWide_4 (.block 0 (.loop [0, 3, 4] c_S_PutWide_8))) (.seq c_S_PutWide_9 .ret)))))
abbrev F_S_PutWide : FuncId := 135
theorem k_S_PutWide : comp PP (Tryd.f135.ntmps, pinOf 0 [none]) [0, 2, 3, 4, 8, 10] (Tryd.f135.body.getD .skip) = some c_S_PutWide.erase := by kernel_rfl
theorem v_S_PutWide {GG : GV} (rcs : List C) {cs : List C} {r : C} {os : List (Option C)} (hN : (cs.length == 1 && rcs.length == 1) = true) (hret : retOf rcs = r)
    (hW : W PP [0, 2, 3, 4, 8, 10] (Tryd.f135.ntmps, pinOf 0 [none]) (Valid PP GG) c_S_PutWide (entry cs) (Fin (Valid PP GG) [(.give, 2, none)] [none] rcs os) (fun _ _ => False) (Fin (Valid PP GG) [(.give, 2, none)] [none] rcs os)) : Valid PP GG F_S_PutWide cs r os :=
  fn_valid_n 1 1 [0, 2, 3, 4, 8, 10] c_S_PutWide [(.give, 2, none)] [none] rcs Tryd.func135 rfl rfl (by kernel_rfl) k_S_PutWide rfl rfl hN hret hW
def c_S_Stream_0 : ACode := .reg [⟨.var 6, .mv (.const (.nil 0 1)), none, []⟩] false
def c_S_Stream_1 : ACode := .reg [⟨.loc 11, .lit 0 1 0 [.int .u8 0] [], none, []⟩,
  ⟨.var 7, .mv (.loc 11), none, []⟩] false
def c_S_Stream_2 : ACode := .reg [⟨.loc 12, .mv (.var 0), none, []⟩,
  ⟨.loc 13, .call (.fn 95) [(.loc 12)] [.borrow], none, []⟩,
  ⟨.loc 14, .un .not (.loc 13), none, []⟩,
  ⟨.loc 15, .split (.loc 14), none, []⟩,
  ⟨.loc 16, .mv (.var 1), some ((.loc 15), false), []⟩,
  ⟨.loc 17, .call (.fn 95) [(.loc 16)] [.borrow], some ((.loc 15), false), []⟩,
  ⟨.loc 18, .un .not (.loc 17), some ((.loc 15), false), []⟩,
  ⟨.loc 19, .pick (.loc 15) (.const (.d (.bool true))) (.loc 18), none, []⟩,
  ⟨.loc 20, .split (.loc 19), none, []⟩,
  ⟨.loc 21, .mv (.var 2), some ((.loc 20), false), []⟩,
  ⟨.loc 22, .call (.fn 64) [(.loc 21), (.const (.d (.int .i64 0))), (.const (.d (.int .i64 2000)))] [.borrow, .borrow, .borrow], some ((.loc 20), false), []⟩,
  ⟨.loc 23, .un .not (.loc 22), some ((.loc 20), false), []⟩,
  ⟨.var 24, .pick (.loc 20) (.const (.d (.bool true))) (.loc 23), none, []⟩] false
def c_S_Stream_3 : ACode := .reg [⟨.var 6, .mv (.const (.nil 0 1)), none, []⟩] false
def c_S_Stream_4 : ACode := .reg [⟨.var 8, .mv (.const (.d (.int .i64 2147483629))), none, []⟩] false
def c_S_Stream_5 : ACode := .reg [⟨.loc 25, .mv (.var 0), none, []⟩,
  ⟨.loc 26, .mv (.var 8), none, []⟩,
  ⟨.loc 27, .bin .int .rem (.loc 25) (.loc 26), none, [0, 1]⟩,
  ⟨.loc 28, .mv (.var 1), none, []⟩,
  ⟨.loc 29, .mv (.var 8), none, []⟩,
  ⟨.loc 30, .bin .int .rem (.loc 28) (.loc 29), none, [3, 4]⟩,
  ⟨.loc 31, .bin .int .mul (.const (.d (.int .i64 2))) (.loc 30), none, [5, 3, 4]⟩,
  ⟨.loc 32, .bin .int .add (.loc 27) (.loc 31), none, [2, 0, 1, 6, 5, 3, 4]⟩,
  ⟨.loc 33, .bin .int .add (.loc 32) (.const (.d (.int .i64 1))), none, [7, 2, 0, 1, 6, 5, 3, 4]⟩,
  ⟨.loc 34, .mv (.var 8), none, []⟩,
  ⟨.loc 35, .bin .int .rem (.loc 33) (.loc 34), none, [8, 7, 2, 0, 1, 6, 5, 3, 4, 9]⟩,
  ⟨.var 9, .mv (.loc 35), none, [10, 8, 7, 2, 0, 1, 6, 5, 3, 4, 9]⟩] true
def c_S_Stream_6 : ACode := .reg [⟨.var 10, .mv (.const (.d (.int .i64 0))), none, []⟩] false
def c_S_Stream_7 : ACode := .reg [⟨.loc 36, .mv (.var 10), none, []⟩,
  ⟨.loc 37, .mv (.var 2), none, []⟩,
  ⟨.var 38, .bin .int .lss (.loc 36) (.loc 37), none, []⟩] false
def c_S_Stream_8 : ACode := .reg [⟨.loc 41, .mv (.var 9), none, []⟩,
  ⟨.loc 42, .bin .int .mul (.const (.d (.int .i64 48271))) (.loc 41), none, []⟩,
  ⟨.loc 43, .mv (.var 0), none, []⟩,
  ⟨.loc 44, .bin .int .rem (.loc 43) (.const (.d (.int .i64 65521))), none, []⟩,
  ⟨.loc 45, .bin .int .add (.loc 42) (.loc 44), none, []⟩,
  ⟨.loc 46, .bin .int .add (.loc 45) (.const (.d (.int .i64 1))), none, []⟩,
  ⟨.loc 47, .mv (.var 8), none, []⟩,
  ⟨.loc 48, .bin .int .rem (.loc 46) (.loc 47), none, []⟩,
  ⟨.var 9, .mv (.loc 48), none, []⟩] false
def c_S_Stream_9 : ACode := .reg [⟨.loc 49, .mv (.var 7), none, []⟩,
  ⟨.loc 50, .mv (.var 9), none, []⟩,
  ⟨.loc 51, .bin .int .quo (.loc 50) (.const (.d (.int .i64 1024))), none, []⟩,
  ⟨.loc 52, .bin .int .rem (.loc 51) (.const (.d (.int .i64 256))), none, []⟩,
  ⟨.loc 53, .conv .u8 (.loc 52), none, []⟩,
  ⟨.loc 54, .lit 0 1 1 [.int .u8 0] [(0, (.loc 53))], none, []⟩,
  ⟨.loc 55, .app 1 1 (.loc 49) (.loc 54), none, []⟩,
  ⟨.var 7, .mv (.loc 55), none, []⟩] false
def c_S_Stream_10 : ACode := .reg [⟨.loc 39, .mv (.var 10), none, []⟩,
  ⟨.loc 40, .bin .int .add (.loc 39) (.const (.d (.int .i64 1))), none, []⟩,
  ⟨.var 10, .mv (.loc 40), none, []⟩] false
def c_S_Stream_11 : ACode := (.seq (.seq c_S_Stream_7 (.cond (.var 38) .skip (.exit 0))) (.seq (.block 1 (.seq c_S_Stream_8 c_S_Stream_9)) c_S_Stream_10))
def c_S_Stream_12 : ACode := .reg [⟨.loc 56, .mv (.var 7), none, []⟩,
  ⟨.var 6, .mv (.loc 56), none, []⟩] false
def c_S_Stream : ACode := (.seq c_S_Stream_0 (.seq c_S_Stream_1 (.seq (.seq c_S_Stream_2 (.cond (.var 24) (.seq c_S_Stream_3 .ret) .skip)) (.seq c_S_Stream_4 (.seq c_S_Stream_5 (.seq (.seq c_S_Stream_6 (.block 0 (.loop [0, 2, 7, 8, 9, 10] c_S_Stream_11))) (.seq c_S_Stream_12 .ret)))))))
abbrev F_S_Stream : FuncId := 136
theorem k_S_Stream : comp PP (Tryd.f136.ntmps, pinOf 0 [none, none, none]) [0, 1, 2, 6, 7, 8, 9, 10, 24, 38] (Tryd.f136.body.getD .skip) = some c_S_Stream.erase := by kernel_rfl
theorem v_S_Stream {GG : GV} (rcs : List C) {cs : List C} {r : C} {os : List (Option C)} (hN : (cs.length == 3 && rcs.length == 1) = true) (hret : retOf rcs = r)
    (hW : W PP [0, 1, 2, 6, 7, 8, 9, 10, 24, 38] (Tryd.f136.ntmps, pinOf 0 [none, none, none]) (Valid PP GG) c_S_Stream (entry cs) (Fin (Valid PP GG) [(.give, 6, none)] [none, none, none] rcs os) (fun _ _ => False) (Fin (Valid PP GG) [(.give, 6, none)] [none, none, none] rcs os)) : Valid PP GG F_S_Stream cs r os :=
  fn_valid_n 3 1 [0, 1, 2, 6, 7, 8, 9, 10, 24, 38] c_S_Stream [(.give, 6, none)] [none, none, none] rcs Tryd.func136 rfl rfl (by kernel_rfl) k_S_Stream rfl rfl hN hret hW
def c_L_toBox_0 : ACode := .reg [⟨.var 1, .box (.var 0), none, []⟩,
  ⟨.var 2, .alloc [.d (.int .i64 0), .nil 0 1, .d (.int .i64 0)], none, []⟩] false
def c_L_toBox_1 : ACode := .reg [⟨.var 3, .alloc [.d (.int .i64 0), .nil 0 1, .d (.int .i64 0)], none, []⟩] false
def c_L_toBox_2 : ACode := .reg [⟨.loc 4, .fld 0 (.var 1), none, []⟩,
  ⟨.loc 5, .load false 1 (.loc 4), none, []⟩,
  ⟨.loc 6, .fld 0 (.var 3), none, []⟩,
  ⟨.none, .store 1 (.loc 6) (.loc 5), none, []⟩] false
def c_L_toBox_3 : ACode := .reg [⟨.loc 7, .fld 1 (.var 1), none, []⟩,
  ⟨.loc 8, .load false 1 (.loc 7), none, []⟩,
  ⟨.loc 9, .call (.fn 155) [(.loc 8)] [.borrow], none, []⟩,
  ⟨.loc 10, .fld 1 (.var 3), none, []⟩,
  ⟨.none, .store 1 (.loc 10) (.loc 9), none, []⟩] false
def c_L_toBox_4 : ACode := .reg [⟨.loc 11, .fld 2 (.var 1), none, []⟩,
  ⟨.loc 12, .load false 1 (.loc 11), none, []⟩,
  ⟨.loc 13, .fld 2 (.var 3), none, []⟩,
  ⟨.none, .store 1 (.loc 13) (.loc 12), none, []⟩] false
def c_L_toBox_5 : ACode := .reg [⟨.loc 14, .load true 3 (.var 3), none, []⟩,
  ⟨.none, .store 3 (.var 2) (.loc 14), none, []⟩] false
def c_L_toBox : ACode := (.seq c_L_toBox_0 (.seq c_L_toBox_1 (.seq c_L_toBox_2 (.seq c_L_toBox_3 (.seq c_L_toBox_4 (.seq c_L_toBox_5 .ret))))))
abbrev F_L_toBox : FuncId := 137
theorem k_L_toBox : comp PP (Tryd.f137.ntmps, pinOf 0 [none]) [0, 1, 2, 3] (Tryd.f137.body.getD .skip) = some c_L_toBox.erase := by kernel_rfl
theorem v_L_toBox {GG : GV} (rcs : List C) {cs : List C} {r : C} {os : List (Option C)} (hN : (cs.length == 1 && rcs.length == 1) = true) (hret : retOf rcs = r)
    (hW : W PP [0, 1, 2, 3] (Tryd.f137.ntmps, pinOf 0 [none]) (Valid PP GG) c_L_toBox (entry cs) (Fin (Valid PP GG) [(.give, 2, some (true, 3))] [none] rcs os) (fun _ _ => False) (Fin (Valid PP GG) [(.give, 2, some (true, 3))] [none] rcs os)) : Valid PP GG F_L_toBox cs r os :=
  fn_valid_n 1 1 [0, 1, 2, 3] c_L_toBox [(.give, 2, some (true, 3))] [none] rcs Tryd.func137 rfl rfl (by kernel_rfl) k_L_toBox rfl rfl hN hret hW
def c_I_isGlob_0 : ACode := .reg [⟨.var 2, .mv (.const (.d (.bool false))), none, []⟩] false
def c_I_isGlob_1 : ACode := .reg [⟨.loc 6, .mv (.var 0), none, []⟩,
  ⟨.loc 7, .len true (.loc 6), none, []⟩,
  ⟨.var 8, .bin .int .gtr (.loc 7) (.const (.d (.int .i64 120))), none, []⟩] false
def c_I_isGlob_2 : ACode := .reg [⟨.var 2, .mv (.const (.d (.bool false))), none, []⟩] false
def c_I_isGlob_3 : ACode := .reg [⟨.loc 9, .mv (.var 0), none, []⟩,
  ⟨.loc 10, .call (.fn 119) [(.loc 9), (.const (.d (.str [47])))] [.borrow, .borrow], none, []⟩,
  ⟨.var 3, .mv (.loc 10), none, []⟩] false
def c_I_isGlob_4 : ACode := .reg [⟨.var 11, .mv (.var 3), none, []⟩,
  ⟨.var 12, .len false (.var 11), none, []⟩,
  ⟨.var 13, .mv (.const (.d (.int .i64 0))), none, []⟩] false
def c_I_isGlob_5 : ACode := .reg [⟨.var 14, .bin .int .lss (.var 13) (.var 12), none, []⟩] false
def c_I_isGlob_6 : ACode := .reg [⟨.loc 15, .mv (.var 13), none, []⟩,
  ⟨.loc 16, .idxA 1 (.var 11) (.var 13), none, []⟩,
  ⟨.loc 17, .load false 1 (.loc 16), none, []⟩,
  ⟨.var 4, .mv (.loc 15), none, []⟩,
  ⟨.var 5, .mv (.loc 17), none, []⟩] false
def c_I_isGlob_7 : ACode := .reg [⟨.loc 18, .mv (.var 5), none, []⟩,
  ⟨.loc 19, .bin .str .eql (.loc 18) (.const (.d (.str [43]))), none, []⟩,
  ⟨.loc 20, .split (.loc 19), none, []⟩,
  ⟨.loc 21, .mv (.var 5), some ((.loc 20), false), []⟩,
  ⟨.loc 22, .bin .str .eql (.loc 21) (.const (.d (.str [42]))), some ((.loc 20), false), []⟩,
  ⟨.loc 23, .split (.loc 22), some ((.loc 20), false), []⟩,
  ⟨.loc 24, .mv (.var 4), some ((.loc 23), true), []⟩,
  ⟨.loc 25, .mv (.var 3), some ((.loc 23), true), []⟩,
  ⟨.loc 26, .len false (.loc 25), some ((.loc 23), true), []⟩,
  ⟨.loc 27, .bin .int .sub (.loc 26) (.const (.d (.int .i64 1))), some ((.loc 23), true), []⟩,
  ⟨.loc 28, .bin .int .eql (.loc 24) (.loc 27), some ((.loc 23), true), []⟩,
  ⟨.loc 29, .pick (.loc 23) (.loc 28) (.const (.d (.bool false))), some ((.loc 20), false), []⟩,
  ⟨.var 30, .pick (.loc 20) (.const (.d (.bool true))) (.loc 29), none, []⟩] false
def c_I_isGlob_8 : ACode := .reg [⟨.loc 31, .mv (.var 5), none, []⟩,
  ⟨.loc 32, .len true (.loc 31), none, []⟩,
  ⟨.loc 33, .call (.fn 71) [(.loc 32), (.const (.d (.int .i64 1))), (.const (.d (.int .i64 16)))] [.borrow, .borrow, .borrow], none, []⟩,
  ⟨.loc 34, .un .not (.loc 33), none, []⟩,
  ⟨.loc 35, .split (.loc 34), none, []⟩,
  ⟨.loc 36, .mv (.var 5), some ((.loc 35), false), []⟩,
  ⟨.loc 37, .call (.fn 152) [(.loc 36), (.const (.d (.str [97, 98, 99, 100, 101, 102, 103, 104, 105, 106, 107, 108, 109, 110, 111, 112, 113, 114, 115, 116, 117, 118, 119, 120, 121, 122, 48, 49, 50, 51, 52, 53, 54, 55, 56, 57, 45])))] [.borrow, .borrow], some ((.loc 35), false), []⟩,
  ⟨.loc 38, .un .not (.loc 37), some ((.loc 35), false), []⟩,
  ⟨.var 39, .pick (.loc 35) (.const (.d (.bool true))) (.loc 38), none, []⟩] false
def c_I_isGlob_9 : ACode := .reg [⟨.var 2, .mv (.const (.d (.bool false))), none, []⟩] false
def c_I_isGlob_10 : ACode := .reg [⟨.loc 40, .bin .int .add (.var 13) (.const (.d (.int .i64 1))), none, []⟩,
  ⟨.var 13, .mv (.loc 40), none, []⟩] false
def c_I_isGlob_11 : ACode := (.seq c_I_isGlob_5 (.seq (.cond (.var 14) .skip (.exit 0)) (.seq (.block 1 (.seq c_I_isGlob_6 (.seq (.seq c_I_isGlob_7 (.cond (.var 30) (.exit 1) .skip)) (.seq c_I_isGlob_8 (.cond (.var 39) (.seq c_I_isGlob_9 .ret) .skip))))) c_I_isGlob_10)))
def c_I_isGlob_12 : ACode := .reg [⟨.loc 41, .mv (.var 3), none, []⟩,
  ⟨.loc 42, .len false (.loc 41), none, []⟩,
  ⟨.loc 43, .bin .int .leq (.loc 42) (.const (.d (.int .i64 8))), none, []⟩,
  ⟨.var 2, .mv (.loc 43), none, []⟩] false
def c_I_isGlob : ACode := (.seq c_I_isGlob_0 (.seq (.seq c_I_isGlob_1 (.cond (.var 8) (.seq c_I_isGlob_2 .ret) .skip)) (.seq c_I_isGlob_3 (.seq (.seq c_I_isGlob_4 (.block 0 (.loop [3, 11, 12, 13] c_I_isGlob_11))) (.seq c_I_isGlob_12 .ret)))))
abbrev F_I_isGlob : FuncId := 138
theorem k_I_isGlob : comp PP (Tryd.f138.ntmps, pinOf 0 [none]) [0, 2, 3, 4, 5, 8, 11, 12, 13, 14, 30, 39] (Tryd.f138.body.getD .skip) = some c_I_isGlob.erase := by kernel_rfl
theorem v_I_isGlob {GG : GV} (rcs : List C) {cs : List C} {r : C} {os : List (Option C)} (hN : (cs.length == 1 && rcs.length == 1) = true) (hret : retOf rcs = r)
    (hW : W PP [0, 2, 3, 4, 5, 8, 11, 12, 13, 14, 30, 39] (Tryd.f138.ntmps, pinOf 0 [none]) (Valid PP GG) c_I_isGlob (entry cs) (Fin (Valid PP GG) [(.give, 2, none)] [none] rcs os) (fun _ _ => False) (Fin (Valid PP GG) [(.give, 2, none)] [none] rcs os)) : Valid PP GG F_I_isGlob cs r os :=
  fn_valid_n 1 1 [0, 2, 3, 4, 5, 8, 11, 12, 13, 14, 30, 39] c_I_isGlob [(.give, 2, none)] [none] rcs Tryd.func138 rfl rfl (by kernel_rfl) k_I_isGlob rfl rfl hN hret hW
def c_I_tagOf_0 : ACode := .reg [⟨.var 6, .mv (.const (.d (.int .i64 0))), none, []⟩] false
def c_I_tagOf_1 : ACode := .reg [⟨.loc 7, .mv (.var 0), none, []⟩,
  ⟨.loc 8, .call (.fn 158) [(.loc 7)] [.borrow], none, []⟩,
  ⟨.loc 9, .mv (.var 1), none, []⟩,
  ⟨.loc 10, .call (.fn 158) [(.loc 9)] [.borrow], none, []⟩,
  ⟨.loc 11, .mv (.var 2), none, []⟩,
  ⟨.loc 12, .lit 1 1 3 [.slc 1 []] [(0, (.loc 8)), (1, (.loc 10)), (2, (.loc 11))], none, []⟩,
  ⟨.loc 13, .call (.fn 157) [(.loc 12)] [.borrow], none, []⟩,
  ⟨.loc 14, .call (.fn 130) [(.loc 13)] [.borrow], none, []⟩,
  ⟨.var 6, .mv (.loc 14), none, []⟩] false
def c_I_tagOf : ACode := (.seq c_I_tagOf_0 (.seq c_I_tagOf_1 .ret))
abbrev F_I_tagOf : FuncId := 140
theorem k_I_tagOf : comp PP (Tryd.f140.ntmps, pinOf 0 [none, none, none]) [0, 1, 2, 6] (Tryd.f140.body.getD .skip) = some c_I_tagOf.erase := by kernel_rfl
theorem v_I_tagOf {GG : GV} (rcs : List C) {cs : List C} {r : C} {os : List (Option C)} (hN : (cs.length == 3 && rcs.length == 1) = true) (hret : retOf rcs = r)
    (hW : W PP [0, 1, 2, 6] (Tryd.f140.ntmps, pinOf 0 [none, none, none]) (Valid PP GG) c_I_tagOf (entry cs) (Fin (Valid PP GG) [(.give, 6, none)] [none, none, none] rcs os) (fun _ _ => False) (Fin (Valid PP GG) [(.give, 6, none)] [none, none, none] rcs os)) : Valid PP GG F_I_tagOf cs r os :=
  fn_valid_n 3 1 [0, 1, 2, 6] c_I_tagOf [(.give, 6, none)] [none, none, none] rcs Tryd.func140 rfl rfl (by kernel_rfl) k_I_tagOf rfl rfl hN hret hW
def c_I_crossed_0 : ACode := .reg [⟨.var 6, .mv (.const (.nil 0 1)), none, []⟩] false
def c_I_crossed_1 : ACode := .reg [⟨.loc 10, .mv (.var 0), none, []⟩,
  ⟨.loc 11, .mv (.var 1), none, []⟩,
  ⟨.loc 12, .mv (.var 2), none, []⟩,
  ⟨.loc 13, .len false (.loc 12), none, []⟩,
  ⟨.loc 14, .call (.fn 159) [(.loc 10), (.loc 11), (.loc 13)] [.borrow, .borrow, .borrow], none, []⟩,
  ⟨.var 7, .mv (.loc 14), none, []⟩] false
def c_I_crossed_2 : ACode := .reg [⟨.var 15, .mv (.var 2), none, []⟩,
  ⟨.var 16, .len false (.var 15), none, []⟩,
  ⟨.var 17, .mv (.const (.d (.int .i64 0))), none, []⟩] false
def c_I_crossed_3 : ACode := .reg [⟨.var 18, .bin .int .lss (.var 17) (.var 16), none, []⟩] false
def c_I_crossed_4 : ACode := .reg [⟨.loc 19, .mv (.var 17), none, []⟩,
  ⟨.loc 20, .idxA 1 (.var 15) (.var 17), none, []⟩,
  ⟨.loc 21, .load false 1 (.loc 20), none, []⟩,
  ⟨.var 8, .mv (.loc 19), none, []⟩,
  ⟨.var 9, .mv (.loc 21), none, []⟩] false
def c_I_crossed_5 : ACode := .reg [⟨.loc 22, .mv (.var 7), none, []⟩,
  ⟨.loc 23, .mv (.var 8), none, []⟩,
  ⟨.loc 24, .idxA 1 (.loc 22) (.loc 23), none, []⟩,
  ⟨.loc 25, .load false 1 (.loc 24), none, []⟩,
  ⟨.loc 26, .mv (.var 9), none, []⟩,
  ⟨.loc 27, .bin .int .xor (.loc 25) (.loc 26), none, []⟩,
  ⟨.loc 28, .idxA 1 (.loc 22) (.loc 23), none, []⟩,
  ⟨.none, .store 1 (.loc 28) (.loc 27), none, []⟩] false
def c_I_crossed_6 : ACode := .reg [⟨.loc 29, .bin .int .add (.var 17) (.const (.d (.int .i64 1))), none, []⟩,
  ⟨.var 17, .mv (.loc 29), none, []⟩] false
def c_I_crossed_7 : ACode := (.seq c_I_crossed_3 (.seq (.cond (.var 18) .skip (.exit 0)) (.seq (.block 1 (.seq c_I_crossed_4 c_I_crossed_5)) c_I_crossed_6)))
def c_I_crossed_8 : ACode := .reg [⟨.loc 30, .mv (.var 7), none, []⟩,
  ⟨.var 6, .mv (.loc 30), none, []⟩] false
def c_I_crossed : ACode := (.seq c_I_crossed_0 (.seq c_I_crossed_1 (.seq (.seq c_I_crossed_2 (.block 0 (.loop [7, 15, 16, 17] c_I_crossed_7))) (.seq c_I_crossed_8 .ret))))
abbrev F_I_crossed : FuncId := 141
theorem k_I_crossed : comp PP (Tryd.f141.ntmps, pinOf 0 [none, none, none]) [0, 1, 2, 6, 7, 8, 9, 15, 16, 17, 18] (Tryd.f141.body.getD .skip) = some c_I_crossed.erase := by kernel_rfl
theorem v_I_crossed {GG : GV} (rcs : List C) {cs : List C} {r : C} {os : List (Option C)} (hN : (cs.length == 3 && rcs.length == 1) = true) (hret : retOf rcs = r)
    (hW : W PP [0, 1, 2, 6, 7, 8, 9, 15, 16, 17, 18] (Tryd.f141.ntmps, pinOf 0 [none, none, none]) (Valid PP GG) c_I_crossed (entry cs) (Fin (Valid PP GG) [(.give, 6, none)] [none, none, none] rcs os) (fun _ _ => False) (Fin (Valid PP GG) [(.give, 6, none)] [none, none, none] rcs os)) : Valid PP GG F_I_crossed cs r os :=
  fn_valid_n 3 1 [0, 1, 2, 6, 7, 8, 9, 15, 16, 17, 18] c_I_crossed [(.give, 6, none)] [none, none, none] rcs Tryd.func141 rfl rfl (by kernel_rfl) k_I_crossed rfl rfl hN hret hW
def c_L_eqBox_0 : ACode := .reg [⟨.var 2, .box (.var 0), none, []⟩,
  ⟨.var 3, .box (.var 1), none, []⟩,
  ⟨.var 4, .mv (.const (.d (.bool false))), none, []⟩] false
def c_L_eqBox_1 : ACode := .reg [⟨.loc 5, .fld 0 (.var 2), none, []⟩,
  ⟨.loc 6, .load false 1 (.loc 5), none, []⟩,
  ⟨.loc 7, .fld 0 (.var 3), none, []⟩,
  ⟨.loc 8, .load false 1 (.loc 7), none, []⟩,
  ⟨.var 9, .bin .int .neq (.loc 6) (.loc 8), none, []⟩] false
def c_L_eqBox_2 : ACode := .reg [⟨.var 4, .mv (.const (.d (.bool false))), none, []⟩] false
def c_L_eqBox_3 : ACode := .reg [⟨.loc 10, .fld 1 (.var 2), none, []⟩,
  ⟨.loc 11, .load false 1 (.loc 10), none, []⟩,
  ⟨.loc 12, .fld 1 (.var 3), none, []⟩,
  ⟨.loc 13, .load false 1 (.loc 12), none, []⟩,
  ⟨.loc 14, .call (.fn 29) [(.loc 11), (.loc 13)] [.borrow, .borrow], none, []⟩,
  ⟨.var 15, .un .not (.loc 14), none, []⟩] false
def c_L_eqBox_4 : ACode := .reg [⟨.var 4, .mv (.const (.d (.bool false))), none, []⟩] false
def c_L_eqBox_5 : ACode := .reg [⟨.loc 16, .fld 2 (.var 2), none, []⟩,
  ⟨.loc 17, .load false 1 (.loc 16), none, []⟩,
  ⟨.loc 18, .fld 2 (.var 3), none, []⟩,
  ⟨.loc 19, .load false 1 (.loc 18), none, []⟩,
  ⟨.var 20, .bin .int .neq (.loc 17) (.loc 19), none, []⟩] false
def c_L_eqBox_6 : ACode := .reg [⟨.var 4, .mv (.const (.d (.bool false))), none, []⟩] false
def c_L_eqBox_7 : ACode := .reg [⟨.var 4, .mv (.const (.d (.bool true))), none, []⟩] false
def c_L_eqBox : ACode := (.seq c_L_eqBox_0 (.seq (.seq c_L_eqBox_1 (.cond (.var 9) (.seq c_L_eqBox_2 .ret) .skip)) (.seq (.seq c_L_eqBox_3 (.cond (.var 15) (.seq c_L_eqBox_4 .ret) .skip)) (.seq (.seq c_L_eqBox_5 (.cond (.var 20) (.seq c_L_eqBox_6 .ret) .skip)) (.seq c_L_eqBox_7 .ret)))))
abbrev F_L_eqBox : FuncId := 142
theorem k_L_eqBox : comp PP (Tryd.f142.ntmps, pinOf 0 [none, none]) [0, 1, 2, 3, 4, 9, 15, 20] (Tryd.f142.body.getD .skip) = some c_L_eqBox.erase := by kernel_rfl
theorem v_L_eqBox {GG : GV} (rcs : List C) {cs : List C} {r : C} {os : List (Option C)} (hN : (cs.length == 2 && rcs.length == 1) = true) (hret : retOf rcs = r)
    (hW : W PP [0, 1, 2, 3, 4, 9, 15, 20] (Tryd.f142.ntmps, pinOf 0 [none, none]) (Valid PP GG) c_L_eqBox (entry cs) (Fin (Valid PP GG) [(.give, 4, none)] [none, none] rcs os) (fun _ _ => False) (Fin (Valid PP GG) [(.give, 4, none)] [none, none] rcs os)) : Valid PP GG F_L_eqBox cs r os :=
  fn_valid_n 2 1 [0, 1, 2, 3, 4, 9, 15, 20] c_L_eqBox [(.give, 4, none)] [none, none] rcs Tryd.func142 rfl rfl (by kernel_rfl) k_L_eqBox rfl rfl hN hret hW
def c_S_l01Segment_0 : ACode := .reg [⟨.var 2, .mv (.const (.d (.bool false))), none, []⟩] false
def c_S_l01Segment_1 : ACode := .reg [⟨.loc 5, .mv (.var 0), none, []⟩,
  ⟨.loc 6, .len true (.loc 5), none, []⟩,
  ⟨.loc 7, .call (.fn 64) [(.loc 6), (.const (.d (.int .i64 1))), (.const (.d (.int .i64 16)))] [.borrow, .borrow, .borrow], none, []⟩,
  ⟨.var 8, .un .not (.loc 7), none, []⟩] false
def c_S_l01Segment_2 : ACode := .reg [⟨.var 2, .mv (.const (.d (.bool false))), none, []⟩] false
def c_S_l01Segment_3 : ACode := .reg [⟨.var 3, .mv (.const (.d (.int .i64 0))), none, []⟩] false
def c_S_l01Segment_4 : ACode := .reg [⟨.loc 9, .mv (.var 3), none, []⟩,
  ⟨.loc 10, .mv (.var 0), none, []⟩,
  ⟨.loc 11, .len true (.loc 10), none, []⟩,
  ⟨.var 12, .bin .int .lss (.loc 9) (.loc 11), none, []⟩] false
def c_S_l01Segment_5 : ACode := .reg [⟨.loc 15, .mv (.var 0), none, []⟩,
  ⟨.loc 16, .mv (.var 3), none, []⟩,
  ⟨.loc 17, .idxS (.loc 15) (.loc 16), none, []⟩,
  ⟨.var 4, .mv (.loc 17), none, []⟩] false
def c_S_l01Segment_6 : ACode := .reg [⟨.loc 18, .mv (.var 4), none, []⟩,
  ⟨.loc 19, .bin .int .geq (.loc 18) (.const (.d (.int .u8 97))), none, []⟩,
  ⟨.loc 20, .split (.loc 19), none, []⟩,
  ⟨.loc 21, .mv (.var 4), some ((.loc 20), true), []⟩,
  ⟨.loc 22, .bin .int .leq (.loc 21) (.const (.d (.int .u8 122))), some ((.loc 20), true), []⟩,
  ⟨.loc 23, .pick (.loc 20) (.loc 22) (.const (.d (.bool false))), none, []⟩,
  ⟨.loc 24, .un .not (.loc 23), none, []⟩,
  ⟨.loc 25, .split (.loc 24), none, []⟩,
  ⟨.loc 26, .mv (.var 4), some ((.loc 25), true), []⟩,
  ⟨.loc 27, .bin .int .geq (.loc 26) (.const (.d (.int .u8 48))), some ((.loc 25), true), []⟩,
  ⟨.loc 28, .split (.loc 27), some ((.loc 25), true), []⟩,
  ⟨.loc 29, .mv (.var 4), some ((.loc 28), true), []⟩,
  ⟨.loc 30, .bin .int .leq (.loc 29) (.const (.d (.int .u8 57))), some ((.loc 28), true), []⟩,
  ⟨.loc 31, .pick (.loc 28) (.loc 30) (.const (.d (.bool false))), some ((.loc 25), true), []⟩,
  ⟨.loc 32, .un .not (.loc 31), some ((.loc 25), true), []⟩,
  ⟨.loc 33, .pick (.loc 25) (.loc 32) (.const (.d (.bool false))), none, []⟩,
  ⟨.loc 34, .split (.loc 33), none, []⟩,
  ⟨.loc 35, .mv (.var 4), some ((.loc 34), true), []⟩,
  ⟨.loc 36, .bin .int .neq (.loc 35) (.const (.d (.int .u8 45))), some ((.loc 34), true), []⟩,
  ⟨.var 37, .pick (.loc 34) (.loc 36) (.const (.d (.bool false))), none, []⟩] false
def c_S_l01Segment_7 : ACode := .reg [⟨.var 2, .mv (.const (.d (.bool false))), none, []⟩] false
def c_S_l01Segment_8 : ACode := .reg [⟨.loc 13, .mv (.var 3), none, []⟩,
  ⟨.loc 14, .bin .int .add (.loc 13) (.const (.d (.int .i64 1))), none, []⟩,
  ⟨.var 3, .mv (.loc 14), none, []⟩] false
def c_S_l01Segment_9 : ACode := (.seq (.seq c_S_l01Segment_4 (.cond (.var 12) .skip (.exit 0))) (.seq (.block 1 (.seq c_S_l01Segment_5 (.seq c_S_l01Segment_6 (.cond (.var 37) (.seq c_S_l01Segment_7 .ret) .skip)))) c_S_l01Segment_8))
def c_S_l01Segment_10 : ACode := .reg [⟨.var 2, .mv (.const (.d (.bool true))), none, []⟩] false
def c_S_l01Segment : ACode := (.seq c_S_l01Segment_0 (.seq (.seq c_S_l01Segment_1 (.cond (.var 8) (.seq c_S_l01Segment_2 .ret) .skip)) (.seq (.seq c_S_l01Segment_3 (.block 0 (.loop [0, 3] c_S_l01Segment_9))) (.seq c_S_l01Segment_10 .ret))))
abbrev F_S_l01Segment : FuncId := 151
theorem k_S_l01Segment : comp PP (Tryd.f151.ntmps, pinOf 0 [none]) [0, 2, 3, 4, 8, 12, 37] (Tryd.f151.body.getD .skip) = some c_S_l01Segment.erase := by kernel_rfl
theorem v_S_l01Segment {GG : GV} (rcs : List C) {cs : List C} {r : C} {os : List (Option C)} (hN : (cs.length == 1 && rcs.length == 1) = true) (hret : retOf rcs = r)
    (hW : W PP [0, 2, 3, 4, 8, 12, 37] (Tryd.f151.ntmps, pinOf 0 [none]) (Valid PP GG) c_S_l01Segment (entry cs) (Fin (Valid PP GG) [(.give, 2, none)] [none] rcs os) (fun _ _ => False) (Fin (Valid PP GG) [(.give, 2, none)] [none] rcs os)) : Valid PP GG F_S_l01Segment cs r os :=
  fn_valid_n 1 1 [0, 2, 3, 4, 8, 12, 37] c_S_l01Segment [(.give, 2, none)] [none] rcs Tryd.func151 rfl rfl (by kernel_rfl) k_S_l01Segment rfl rfl hN hret hW
def c_I_onlyOf_0 : ACode := .reg [⟨.var 4, .mv (.const (.d (.bool false))), none, []⟩] false
def c_I_onlyOf_1 : ACode := .reg [⟨.loc 6, .mv (.var 0), none, []⟩,
  ⟨.var 7, .len true (.loc 6), none, []⟩,
  ⟨.var 8, .mv (.const (.d (.int .i64 0))), none, []⟩] false
def c_I_onlyOf_2 : ACode := .reg [⟨.var 9, .bin .int .lss (.var 8) (.var 7), none, []⟩] false
def c_I_onlyOf_3 : ACode := .reg [⟨.loc 10, .mv (.var 8), none, []⟩,
  ⟨.var 5, .mv (.loc 10), none, []⟩] false
def c_I_onlyOf_4 : ACode := .reg [⟨.loc 11, .mv (.var 1), none, []⟩,
  ⟨.loc 12, .mv (.var 0), none, []⟩,
  ⟨.loc 13, .mv (.var 5), none, []⟩,
  ⟨.loc 14, .idxS (.loc 12) (.loc 13), none, []⟩,
  ⟨.loc 15, .call (.fn 169) [(.loc 11), (.loc 14)] [.borrow, .borrow], none, []⟩,
  ⟨.var 16, .bin .int .lss (.loc 15) (.const (.d (.int .i64 0))), none, []⟩] false
def c_I_onlyOf_5 : ACode := .reg [⟨.var 4, .mv (.const (.d (.bool false))), none, []⟩] false
def c_I_onlyOf_6 : ACode := .reg [⟨.loc 17, .bin .int .add (.var 8) (.const (.d (.int .i64 1))), none, []⟩,
  ⟨.var 8, .mv (.loc 17), none, []⟩] false
def c_I_onlyOf_7 : ACode := (.seq c_I_onlyOf_2 (.seq (.cond (.var 9) .skip (.exit 0)) (.seq (.block 1 (.seq c_I_onlyOf_3 (.seq c_I_onlyOf_4 (.cond (.var 16) (.seq c_I_onlyOf_5 .ret) .skip)))) c_I_onlyOf_6)))
def c_I_onlyOf_8 : ACode := .reg [⟨.var 4, .mv (.const (.d (.bool true))), none, []⟩] false
def c_I_onlyOf : ACode := (.seq c_I_onlyOf_0 (.seq (.seq c_I_onlyOf_1 (.block 0 (.loop [0, 1, 7, 8] c_I_onlyOf_7))) (.seq c_I_onlyOf_8 .ret)))
abbrev F_I_onlyOf : FuncId := 152
theorem k_I_onlyOf : comp PP (Tryd.f152.ntmps, pinOf 0 [none, none]) [0, 1, 4, 5, 7, 8, 9, 16] (Tryd.f152.body.getD .skip) = some c_I_onlyOf.erase := by kernel_rfl
theorem v_I_onlyOf {GG : GV} (rcs : List C) {cs : List C} {r : C} {os : List (Option C)} (hN : (cs.length == 2 && rcs.length == 1) = true) (hret : retOf rcs = r)
    (hW : W PP [0, 1, 4, 5, 7, 8, 9, 16] (Tryd.f152.ntmps, pinOf 0 [none, none]) (Valid PP GG) c_I_onlyOf (entry cs) (Fin (Valid PP GG) [(.give, 4, none)] [none, none] rcs os) (fun _ _ => False) (Fin (Valid PP GG) [(.give, 4, none)] [none, none] rcs os)) : Valid PP GG F_I_onlyOf cs r os :=
  fn_valid_n 2 1 [0, 1, 4, 5, 7, 8, 9, 16] c_I_onlyOf [(.give, 4, none)] [none, none] rcs Tryd.func152 rfl rfl (by kernel_rfl) k_I_onlyOf rfl rfl hN hret hW
def c_L_szByteS_0 : ACode := .reg [⟨.var 4, .mv (.const (.d (.int .i64 0))), none, []⟩] false
def c_L_szByteS_1 : ACode := .reg [⟨.loc 5, .mv (.var 1), none, []⟩,
  ⟨.loc 6, .mv (.var 0), none, []⟩,
  ⟨.loc 7, .len false (.loc 6), none, []⟩,
  ⟨.loc 8, .bin .int .sub (.loc 5) (.loc 7), none, []⟩,
  ⟨.var 1, .mv (.loc 8), none, []⟩] false
def c_L_szByteS_2 : ACode := .reg [⟨.loc 9, .mv (.var 1), none, []⟩,
  ⟨.var 10, .bin .int .lss (.loc 9) (.const (.d (.int .i64 0))), none, []⟩] false
def c_L_szByteS_3 : ACode := .reg [⟨.var 4, .mv (.const (.d (.int .i64 (-1)))), none, []⟩] false
def c_L_szByteS_4 : ACode := .reg [⟨.loc 11, .mv (.var 1), none, []⟩,
  ⟨.var 4, .mv (.loc 11), none, []⟩] false
def c_L_szByteS : ACode := (.seq c_L_szByteS_0 (.seq c_L_szByteS_1 (.seq (.seq c_L_szByteS_2 (.cond (.var 10) (.seq c_L_szByteS_3 .ret) .skip)) (.seq c_L_szByteS_4 .ret))))
abbrev F_L_szByteS : FuncId := 154
theorem k_L_szByteS : comp PP (Tryd.f154.ntmps, pinOf 0 [none, none]) [0, 1, 4, 10] (Tryd.f154.body.getD .skip) = some c_L_szByteS.erase := by kernel_rfl
theorem v_L_szByteS {GG : GV} (rcs : List C) {cs : List C} {r : C} {os : List (Option C)} (hN : (cs.length == 2 && rcs.length == 1) = true) (hret : retOf rcs = r)
    (hW : W PP [0, 1, 4, 10] (Tryd.f154.ntmps, pinOf 0 [none, none]) (Valid PP GG) c_L_szByteS (entry cs) (Fin (Valid PP GG) [(.give, 4, none)] [none, none] rcs os) (fun _ _ => False) (Fin (Valid PP GG) [(.give, 4, none)] [none, none] rcs os)) : Valid PP GG F_L_szByteS cs r os :=
  fn_valid_n 2 1 [0, 1, 4, 10] c_L_szByteS [(.give, 4, none)] [none, none] rcs Tryd.func154 rfl rfl (by kernel_rfl) k_L_szByteS rfl rfl hN hret hW
def c_L_toByteS_0 : ACode := .reg [⟨.var 2, .mv (.const (.nil 0 1)), none, []⟩] false
def c_L_toByteS_1 : ACode := .reg [⟨.loc 5, .mv (.var 0), none, []⟩,
  ⟨.loc 6, .len false (.loc 5), none, []⟩,
  ⟨.loc 7, .mkslice 0 1 1 [.int .u8 0] (.loc 6) (.loc 6), none, []⟩,
  ⟨.var 3, .mv (.loc 7), none, []⟩] false
def c_L_toByteS_2 : ACode := .reg [⟨.var 4, .mv (.const (.d (.int .i64 0))), none, []⟩] false
def c_L_toByteS_3 : ACode := .reg [⟨.loc 8, .mv (.var 4), none, []⟩,
  ⟨.loc 9, .mv (.var 0), none, []⟩,
  ⟨.loc 10, .len false (.loc 9), none, []⟩,
  ⟨.var 11, .bin .int .lss (.loc 8) (.loc 10), none, []⟩] false
def c_L_toByteS_4 : ACode := .reg [⟨.loc 14, .mv (.var 3), none, []⟩,
  ⟨.loc 15, .mv (.var 4), none, []⟩,
  ⟨.loc 16, .mv (.var 0), none, []⟩,
  ⟨.loc 17, .mv (.var 4), none, []⟩,
  ⟨.loc 18, .idxA 1 (.loc 16) (.loc 17), none, []⟩,
  ⟨.loc 19, .load false 1 (.loc 18), none, []⟩,
  ⟨.loc 20, .idxA 1 (.loc 14) (.loc 15), none, []⟩,
  ⟨.none, .store 1 (.loc 20) (.loc 19), none, []⟩] false
def c_L_toByteS_5 : ACode := .reg [⟨.loc 12, .mv (.var 4), none, []⟩,
  ⟨.loc 13, .bin .int .add (.loc 12) (.const (.d (.int .i64 1))), none, []⟩,
  ⟨.var 4, .mv (.loc 13), none, []⟩] false
def c_L_toByteS_6 : ACode := (.seq (.seq c_L_toByteS_3 (.cond (.var 11) .skip (.exit 0))) (.seq (.block 1 c_L_toByteS_4) c_L_toByteS_5))
def c_L_toByteS_7 : ACode := .reg [⟨.loc 21, .mv (.var 3), none, []⟩,
  ⟨.var 2, .mv (.loc 21), none, []⟩] false
def c_L_toByteS : ACode := (.seq c_L_toByteS_0 (.seq c_L_toByteS_1 (.seq (.seq c_L_toByteS_2 (.block 0 (.loop [0, 3, 4] c_L_toByteS_6))) (.seq c_L_toByteS_7 .ret))))
abbrev F_L_toByteS : FuncId := 155
theorem k_L_toByteS : comp PP (Tryd.f155.ntmps, pinOf 0 [none]) [0, 2, 3, 4, 11] (Tryd.f155.body.getD .skip) = some c_L_toByteS.erase := by kernel_rfl
theorem v_L_toByteS {GG : GV} (rcs : List C) {cs : List C} {r : C} {os : List (Option C)} (hN : (cs.length == 1 && rcs.length == 1) = true) (hret : retOf rcs = r)
    (hW : W PP [0, 2, 3, 4, 11] (Tryd.f155.ntmps, pinOf 0 [none]) (Valid PP GG) c_L_toByteS (entry cs) (Fin (Valid PP GG) [(.give, 2, none)] [none] rcs os) (fun _ _ => False) (Fin (Valid PP GG) [(.give, 2, none)] [none] rcs os)) : Valid PP GG F_L_toByteS cs r os :=
  fn_valid_n 1 1 [0, 2, 3, 4, 11] c_L_toByteS [(.give, 2, none)] [none] rcs Tryd.func155 rfl rfl (by kernel_rfl) k_L_toByteS rfl rfl hN hret hW
def c_slices_Concat___byte_byte__0 : ACode := .reg [⟨.var 2, .mv (.const (.nil 0 1)), none, []⟩] false
def c_slices_Concat___byte_byte__1 : ACode := .reg [⟨.var 3, .mv (.const (.d (.int .i64 0))), none, []⟩] false
def c_slices_Concat___byte_byte__2 : ACode := .reg [⟨.var 9, .mv (.var 0), none, []⟩,
  ⟨.var 10, .len false (.var 9), none, []⟩,
  ⟨.var 11, .mv (.const (.d (.int .i64 0))), none, []⟩] false
def c_slices_Concat___byte_byte__3 : ACode := .reg [⟨.var 12, .bin .int .lss (.var 11) (.var 10), none, []⟩] false
def c_slices_Concat___byte_byte__4 : ACode := .reg [⟨.loc 13, .idxA 1 (.var 9) (.var 11), none, []⟩,
  ⟨.loc 14, .load false 1 (.loc 13), none, []⟩,
  ⟨.var 5, .mv (.loc 14), none, []⟩] false
def c_slices_Concat___byte_byte__5 : ACode := .reg [⟨.loc 15, .mv (.var 3), none, []⟩,
  ⟨.loc 16, .mv (.var 5), none, []⟩,
  ⟨.loc 17, .len false (.loc 16), none, []⟩,
  ⟨.loc 18, .bin .int .add (.loc 15) (.loc 17), none, []⟩,
  ⟨.var 3, .mv (.loc 18), none, []⟩] false
def c_slices_Concat___byte_byte__6 : ACode := .reg [⟨.loc 19, .mv (.var 3), none, []⟩,
  ⟨.var 20, .bin .int .lss (.loc 19) (.const (.d (.int .i64 0))), none, []⟩] false
def c_slices_Concat___byte_byte__7 : ACode := .reg [⟨.loc 21, .bad, none, []⟩,
  ⟨.none, .bad, none, []⟩] false
def c_slices_Concat___byte_byte__8 : ACode := .reg [⟨.loc 22, .bin .int .add (.var 11) (.const (.d (.int .i64 1))), none, []⟩,
  ⟨.var 11, .mv (.loc 22), none, []⟩] false
def c_slices_Concat___byte_byte__9 : ACode := (.seq c_slices_Concat___byte_byte__3 (.seq (.cond (.var 12) .skip (.exit 0)) (.seq (.block 1 (.seq c_slices_Concat___byte_byte__4 (.seq c_slices_Concat___byte_byte__5 (.seq c_slices_Concat___byte_byte__6 (.cond (.var 20) c_slices_Concat___byte_byte__7 .skip))))) c_slices_Concat___byte_byte__8)))
def c_slices_Concat___byte_byte__10 : ACode := .reg [⟨.loc 23, .mv (.var 3), none, []⟩,
  ⟨.loc 24, .call (.fn 175) [(.const (.nil 0 1)), (.loc 23)] [.nil, .borrow], none, []⟩,
  ⟨.var 6, .mv (.loc 24), none, []⟩] false
def c_slices_Concat___byte_byte__11 : ACode := .reg [⟨.var 25, .mv (.var 0), none, []⟩,
  ⟨.var 26, .len false (.var 25), none, []⟩,
  ⟨.var 27, .mv (.const (.d (.int .i64 0))), none, []⟩] false
def c_slices_Concat___byte_byte__12 : ACode := .reg [⟨.var 28, .bin .int .lss (.var 27) (.var 26), none, []⟩] false
def c_slices_Concat___byte_byte__13 : ACode := .reg [⟨.loc 29, .idxA 1 (.var 25) (.var 27), none, []⟩,
  ⟨.loc 30, .load false 1 (.loc 29), none, []⟩,
  ⟨.var 8, .mv (.loc 30), none, []⟩] false
def c_slices_Concat___byte_byte__14 : ACode := .reg [⟨.loc 31, .mv (.var 6), none, []⟩,
  ⟨.loc 32, .mv (.var 8), none, []⟩,
  ⟨.loc 33, .app 1 1 (.loc 31) (.loc 32), none, []⟩,
  ⟨.var 6, .mv (.loc 33), none, []⟩] false
def c_slices_Concat___byte_byte__15 : ACode := .reg [⟨.loc 34, .bin .int .add (.var 27) (.const (.d (.int .i64 1))), none, []⟩,
  ⟨.var 27, .mv (.loc 34), none, []⟩] false
def c_slices_Concat___byte_byte__16 : ACode := (.seq c_slices_Concat___byte_byte__12 (.seq (.cond (.var 28) .skip (.exit 2)) (.seq (.block 3 (.seq c_slices_Concat___byte_byte__13 c_slices_Concat___byte_byte__14)) c_slices_Concat___byte_byte__15)))
def c_slices_Concat___byte_byte__17 : ACode := .reg [⟨.loc 35, .mv (.var 6), none, []⟩,
  ⟨.var 2, .mv (.loc 35), none, []⟩] false
def c_slices_Concat___byte_byte_ : ACode := (.seq c_slices_Concat___byte_byte__0 (.seq c_slices_Concat___byte_byte__1 (.seq (.seq c_slices_Concat___byte_byte__2 (.block 0 (.loop [0, 3, 9, 10, 11] c_slices_Concat___byte_byte__9))) (.seq c_slices_Concat___byte_byte__10 (.seq (.seq c_slices_Concat___byte_byte__11 (.block 2 (.loop [6, 25, 26, 27] c_slices_Concat___byte_byte__16))) (.seq c_slices_Concat___byte_byte__17 .ret))))))
abbrev F_slices_Concat___byte_byte_ : FuncId := 157
theorem k_slices_Concat___byte_byte_ : comp PP (Tryd.f157.ntmps, pinOf 0 [none]) [0, 2, 3, 5, 6, 8, 9, 10, 11, 12, 20, 25, 26, 27, 28] (Tryd.f157.body.getD .skip) = some c_slices_Concat___byte_byte_.erase := by kernel_rfl
theorem v_slices_Concat___byte_byte_ {GG : GV} (rcs : List C) {cs : List C} {r : C} {os : List (Option C)} (hN : (cs.length == 1 && rcs.length == 1) = true) (hret : retOf rcs = r)
    (hW : W PP [0, 2, 3, 5, 6, 8, 9, 10, 11, 12, 20, 25, 26, 27, 28] (Tryd.f157.ntmps, pinOf 0 [none]) (Valid PP GG) c_slices_Concat___byte_byte_ (entry cs) (Fin (Valid PP GG) [(.give, 2, none)] [none] rcs os) (fun _ _ => False) (Fin (Valid PP GG) [(.give, 2, none)] [none] rcs os)) : Valid PP GG F_slices_Concat___byte_byte_ cs r os :=
  fn_valid_n 1 1 [0, 2, 3, 5, 6, 8, 9, 10, 11, 12, 20, 25, 26, 27, 28] c_slices_Concat___byte_byte_ [(.give, 2, none)] [none] rcs Tryd.func157 rfl rfl (by kernel_rfl) k_slices_Concat___byte_byte_ rfl rfl hN hret hW
def c_I_putWide_0 : ACode := .reg [⟨.var 2, .mv (.const (.nil 0 1)), none, []⟩] false
def c_I_putWide_1 : ACode := .reg [⟨.loc 5, .mkslice 0 1 1 [.int .u8 0] (.const (.d (.int .i64 8))) (.const (.d (.int .i64 8))), none, []⟩,
  ⟨.var 3, .mv (.loc 5), none, []⟩] false
def c_I_putWide_2 : ACode := .reg [⟨.loc 6, .mv (.var 3), none, []⟩,
  ⟨.var 7, .len false (.loc 6), none, []⟩,
  ⟨.var 8, .mv (.const (.d (.int .i64 0))), none, []⟩] false
def c_I_putWide_3 : ACode := .reg [⟨.var 9, .bin .int .lss (.var 8) (.var 7), none, []⟩] false
def c_I_putWide_4 : ACode := .reg [⟨.loc 10, .mv (.var 8), none, []⟩,
  ⟨.var 4, .mv (.loc 10), none, []⟩] false
def c_I_putWide_5 : ACode := .reg [⟨.loc 11, .mv (.var 3), none, []⟩,
  ⟨.loc 12, .mv (.var 4), none, []⟩,
  ⟨.loc 13, .mv (.var 0), none, []⟩,
  ⟨.loc 14, .mv (.var 4), none, []⟩,
  ⟨.loc 15, .bin .int .mul (.const (.d (.int .i64 8))) (.loc 14), none, []⟩,
  ⟨.loc 16, .bin .int .shr (.loc 13) (.loc 15), none, []⟩,
  ⟨.loc 17, .conv .u8 (.loc 16), none, []⟩,
  ⟨.loc 18, .idxA 1 (.loc 11) (.loc 12), none, []⟩,
  ⟨.none, .store 1 (.loc 18) (.loc 17), none, []⟩] false
def c_I_putWide_6 : ACode := .reg [⟨.loc 19, .bin .int .add (.var 8) (.const (.d (.int .i64 1))), none, []⟩,
  ⟨.var 8, .mv (.loc 19), none, []⟩] false
def c_I_putWide_7 : ACode := (.seq c_I_putWide_3 (.seq (.cond (.var 9) .skip (.exit 0)) (.seq (.block 1 (.seq c_I_putWide_4 c_I_putWide_5)) c_I_putWide_6)))
def c_I_putWide_8 : ACode := .reg [⟨.loc 20, .mv (.var 3), none, []⟩,
  ⟨.var 2, .mv (.loc 20), none, []⟩] false
def c_I_putWide : ACode := (.seq c_I_putWide_0 (.seq c_I_putWide_1 (.seq (.seq c_I_putWide_2 (.block 0 (.loop [0, 3, 7, 8] c_I_putWide_7))) (.seq c_I_putWide_8 .ret))))
abbrev F_I_putWide : FuncId := 158
theorem k_I_putWide : comp PP (Tryd.f158.ntmps, pinOf 0 [none]) [0, 2, 3, 4, 7, 8, 9] (Tryd.f158.body.getD .skip) = some c_I_putWide.erase := by kernel_rfl
theorem v_I_putWide {GG : GV} (rcs : List C) {cs : List C} {r : C} {os : List (Option C)} (hN : (cs.length == 1 && rcs.length == 1) = true) (hret : retOf rcs = r)
    (hW : W PP [0, 2, 3, 4, 7, 8, 9] (Tryd.f158.ntmps, pinOf 0 [none]) (Valid PP GG) c_I_putWide (entry cs) (Fin (Valid PP GG) [(.give, 2, none)] [none] rcs os) (fun _ _ => False) (Fin (Valid PP GG) [(.give, 2, none)] [none] rcs os)) : Valid PP GG F_I_putWide cs r os :=
  fn_valid_n 1 1 [0, 2, 3, 4, 7, 8, 9] c_I_putWide [(.give, 2, none)] [none] rcs Tryd.func158 rfl rfl (by kernel_rfl) k_I_putWide rfl rfl hN hret hW
def c_I_stream_0 : ACode := .reg [⟨.var 6, .mv (.const (.nil 0 1)), none, []⟩] false
def c_I_stream_1 : ACode := .reg [⟨.loc 10, .mv (.var 2), none, []⟩,
  ⟨.loc 11, .mkslice 0 1 1 [.int .u8 0] (.loc 10) (.loc 10), none, []⟩,
  ⟨.var 7, .mv (.loc 11), none, []⟩] false
def c_I_stream_2 : ACode := .reg [⟨.loc 12, .mv (.var 0), none, []⟩,
  ⟨.loc 13, .bin .int .rem (.loc 12) (.const (.d (.int .i64 2147483629))), none, []⟩,
  ⟨.loc 14, .mv (.var 1), none, []⟩,
  ⟨.loc 15, .bin .int .rem (.loc 14) (.const (.d (.int .i64 2147483629))), none, []⟩,
  ⟨.loc 16, .bin .int .mul (.const (.d (.int .i64 2))) (.loc 15), none, []⟩,
  ⟨.loc 17, .bin .int .add (.loc 13) (.loc 16), none, []⟩,
  ⟨.loc 18, .bin .int .add (.loc 17) (.const (.d (.int .i64 1))), none, []⟩,
  ⟨.loc 19, .bin .int .rem (.loc 18) (.const (.d (.int .i64 2147483629))), none, []⟩,
  ⟨.var 8, .mv (.loc 19), none, []⟩] false
def c_I_stream_3 : ACode := .reg [⟨.loc 20, .mv (.var 7), none, []⟩,
  ⟨.var 21, .len false (.loc 20), none, []⟩,
  ⟨.var 22, .mv (.const (.d (.int .i64 0))), none, []⟩] false
def c_I_stream_4 : ACode := .reg [⟨.var 23, .bin .int .lss (.var 22) (.var 21), none, []⟩] false
def c_I_stream_5 : ACode := .reg [⟨.loc 24, .mv (.var 22), none, []⟩,
  ⟨.var 9, .mv (.loc 24), none, []⟩] false
def c_I_stream_6 : ACode := .reg [⟨.loc 25, .mv (.var 8), none, []⟩,
  ⟨.loc 26, .bin .int .mul (.const (.d (.int .i64 48271))) (.loc 25), none, []⟩,
  ⟨.loc 27, .mv (.var 0), none, []⟩,
  ⟨.loc 28, .bin .int .rem (.loc 27) (.const (.d (.int .i64 65521))), none, []⟩,
  ⟨.loc 29, .bin .int .add (.loc 26) (.loc 28), none, []⟩,
  ⟨.loc 30, .bin .int .add (.loc 29) (.const (.d (.int .i64 1))), none, []⟩,
  ⟨.loc 31, .bin .int .rem (.loc 30) (.const (.d (.int .i64 2147483629))), none, []⟩,
  ⟨.var 8, .mv (.loc 31), none, []⟩] false
def c_I_stream_7 : ACode := .reg [⟨.loc 32, .mv (.var 7), none, []⟩,
  ⟨.loc 33, .mv (.var 9), none, []⟩,
  ⟨.loc 34, .mv (.var 8), none, []⟩,
  ⟨.loc 35, .bin .int .quo (.loc 34) (.const (.d (.int .i64 1024))), none, []⟩,
  ⟨.loc 36, .conv .u8 (.loc 35), none, []⟩,
  ⟨.loc 37, .idxA 1 (.loc 32) (.loc 33), none, []⟩,
  ⟨.none, .store 1 (.loc 37) (.loc 36), none, []⟩] false
def c_I_stream_8 : ACode := .reg [⟨.loc 38, .bin .int .add (.var 22) (.const (.d (.int .i64 1))), none, []⟩,
  ⟨.var 22, .mv (.loc 38), none, []⟩] false
def c_I_stream_9 : ACode := (.seq c_I_stream_4 (.seq (.cond (.var 23) .skip (.exit 0)) (.seq (.block 1 (.seq c_I_stream_5 (.seq c_I_stream_6 c_I_stream_7))) c_I_stream_8)))
def c_I_stream_10 : ACode := .reg [⟨.loc 39, .mv (.var 7), none, []⟩,
  ⟨.var 6, .mv (.loc 39), none, []⟩] false
def c_I_stream : ACode := (.seq c_I_stream_0 (.seq c_I_stream_1 (.seq c_I_stream_2 (.seq (.seq c_I_stream_3 (.block 0 (.loop [0, 7, 8, 21, 22] c_I_stream_9))) (.seq c_I_stream_10 .ret)))))
abbrev F_I_stream : FuncId := 159
theorem k_I_stream : comp PP (Tryd.f159.ntmps, pinOf 0 [none, none, none]) [0, 1, 2, 6, 7, 8, 9, 21, 22, 23] (Tryd.f159.body.getD .skip) = some c_I_stream.erase := by kernel_rfl
theorem v_I_stream {GG : GV} (rcs : List C) {cs : List C} {r : C} {os : List (Option C)} (hN : (cs.length == 3 && rcs.length == 1) = true) (hret : retOf rcs = r)
    (hW : W PP [0, 1, 2, 6, 7, 8, 9, 21, 22, 23] (Tryd.f159.ntmps, pinOf 0 [none, none, none]) (Valid PP GG) c_I_stream (entry cs) (Fin (Valid PP GG) [(.give, 6, none)] [none, none, none] rcs os) (fun _ _ => False) (Fin (Valid PP GG) [(.give, 6, none)] [none, none, none] rcs os)) : Valid PP GG F_I_stream cs r os :=
  fn_valid_n 3 1 [0, 1, 2, 6, 7, 8, 9, 21, 22, 23] c_I_stream [(.give, 6, none)] [none, none, none] rcs Tryd.func159 rfl rfl (by kernel_rfl) k_I_stream rfl rfl hN hret hW
end Go.Proofs.YtpboimnecoakiaaDoor.Ab
