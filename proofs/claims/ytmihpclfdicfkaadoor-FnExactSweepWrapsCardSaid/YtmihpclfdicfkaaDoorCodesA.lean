/-
  A part of a proof about the given program; what is proved is said where each theorem stands.
-/
import Derived.Lib.LaidTab
import Derived.Lib.ItoaLen
import Derived.Shelf.Strconv.Itoa3
import Derived.KernelRfl
import Derived.Test.YtmihpclfdicfkaaDoorProg
import Derived.Test.YtmihpclfdicfkaaDoorFrameA
import Derived.Test.YtmihpclfdicfkaaDoorFrameB
import Derived.Test.YtmihpclfdicfkaaDoorFrameC
import Derived.Test.YtmihpclfdicfkaaDoorFrameD
import Derived.Test.YtmihpclfdicfkaaDoorFrameE
import Derived.Test.YtmihpclfdicfkaaDoorShelf
namespace Go.Proofs.YtmihpclfdicfkaaDoor.Ab
open Go.Proofs
noncomputable abbrev PP : Program := Tryd.prog
/-- A number variable. -/
def intCell : Obj → Prop
  | .cells cs _ _ => ∃ m : Int, cs[0]? = some (.int .i64 m)
  | _ => False
class MaxL (GG : GV) : Prop where
  h : GG 0 = some intCell
def c_L_FnExactSweepWraps_0 : ACode := .reg [⟨.var 2, .box (.var 0), none, []⟩,
  ⟨.var 4, .mv (.const (.d (.bool false))), none, []⟩] false
def c_L_FnExactSweepWraps_1 : ACode := .reg [⟨.var 5, .mv (.const (.d (.int .i64 1048576))), none, []⟩] false
def c_L_FnExactSweepWraps_2 : ACode := .reg [⟨.loc 16, .load true 3 (.var 2), none, []⟩,
  ⟨.loc 17, .mv (.var 5), none, []⟩,
  ⟨.loc 18, .call (.fn 5) [(.loc 16), (.loc 17)] [.borrow, .borrow], none, []⟩,
  ⟨.var 5, .mv (.loc 18), none, []⟩] false
def c_L_FnExactSweepWraps_3 : ACode := .reg [⟨.loc 19, .mv (.var 5), none, []⟩,
  ⟨.var 20, .bin .int .lss (.loc 19) (.const (.d (.int .i64 0))), none, []⟩] false
def c_L_FnExactSweepWraps_4 : ACode := .reg [⟨.var 4, .mv (.const (.d (.bool true))), none, []⟩] false
def c_L_FnExactSweepWraps_5 : ACode := .reg [⟨.loc 22, .load true 3 (.var 2), none, []⟩,
  ⟨.loc 23, .call (.fn 7) [(.loc 22)] [.borrow], none, []⟩,
  ⟨.loc 24, .mv (.var 1), none, []⟩,
  ⟨.loc 25, .call (.fn 6) [(.loc 23), (.loc 24)] [.borrow, .borrow], none, []⟩,
  ⟨.loc 21, .mv (.loc 25), none, []⟩,
  ⟨.loc 26, .ext (.loc 21) 0, none, []⟩,
  ⟨.loc 27, .ext (.loc 21) 1, none, []⟩,
  ⟨.var 6, .alloc [.d (.int .i64 0), .d (.int .i64 0), .nil 1 6], none, []⟩,
  ⟨.none, .store 3 (.var 6) (.loc 26), none, []⟩,
  ⟨.var 7, .mv (.loc 27), none, []⟩] false
def c_L_FnExactSweepWraps_6 : ACode := .reg [⟨.loc 28, .load true 3 (.var 2), none, []⟩,
  ⟨.loc 29, .call (.fn 7) [(.loc 28)] [.borrow], none, []⟩,
  ⟨.var 8, .alloc [.d (.int .i64 0), .d (.int .i64 0), .nil 1 6], none, []⟩,
  ⟨.none, .store 3 (.var 8) (.loc 29), none, []⟩] false
def c_L_FnExactSweepWraps_7 : ACode := .reg [⟨.loc 31, .load true 3 (.var 8), none, []⟩,
  ⟨.loc 32, .mv (.var 1), none, []⟩,
  ⟨.loc 33, .call (.fn 8) [(.loc 31), (.loc 32)] [.borrow, .borrow], none, []⟩,
  ⟨.loc 30, .mv (.loc 33), none, []⟩,
  ⟨.loc 34, .ext (.loc 30) 0, none, []⟩,
  ⟨.loc 35, .ext (.loc 30) 1, none, []⟩,
  ⟨.var 9, .alloc [.d (.int .i64 0), .d (.int .i64 0), .nil 1 6], none, []⟩,
  ⟨.none, .store 3 (.var 9) (.loc 34), none, []⟩,
  ⟨.var 10, .mv (.loc 35), none, []⟩] false
def c_L_FnExactSweepWraps_8 : ACode := .reg [⟨.loc 36, .load true 3 (.var 9), none, []⟩,
  ⟨.loc 37, .load true 3 (.var 6), none, []⟩,
  ⟨.loc 38, .call (.fn 9) [(.loc 36), (.loc 37)] [.borrow, .borrow], none, []⟩,
  ⟨.loc 39, .un .not (.loc 38), none, []⟩,
  ⟨.loc 40, .split (.loc 39), none, []⟩,
  ⟨.loc 41, .mv (.var 10), some ((.loc 40), false), []⟩,
  ⟨.loc 42, .mv (.var 7), some ((.loc 40), false), []⟩,
  ⟨.loc 43, .call (.fn 10) [(.loc 41), (.loc 42)] [.borrow, .borrow], some ((.loc 40), false), []⟩,
  ⟨.loc 44, .un .not (.loc 43), some ((.loc 40), false), []⟩,
  ⟨.var 45, .pick (.loc 40) (.const (.d (.bool true))) (.loc 44), none, []⟩] false
def c_L_FnExactSweepWraps_9 : ACode := .reg [⟨.var 4, .mv (.const (.d (.bool false))), none, []⟩] false
def c_L_FnExactSweepWraps_10 : ACode := .reg [⟨.loc 46, .load true 3 (.var 8), none, []⟩,
  ⟨.loc 47, .load true 3 (.var 2), none, []⟩,
  ⟨.loc 48, .call (.fn 7) [(.loc 47)] [.borrow], none, [1]⟩,
  ⟨.loc 49, .call (.fn 9) [(.loc 46), (.loc 48)] [.borrow, .borrow], none, [0, 2, 1]⟩,
  ⟨.var 50, .un .not (.loc 49), none, [3, 0, 2, 1]⟩] true
def c_L_FnExactSweepWraps_11 : ACode := .reg [⟨.var 4, .mv (.const (.d (.bool false))), none, []⟩] false
def c_L_FnExactSweepWraps_12 : ACode := .reg [⟨.var 11, .mv (.const (.d (.int .i64 1))), none, []⟩] false
def c_L_FnExactSweepWraps_13 : ACode := .reg [⟨.loc 51, .load true 3 (.var 8), none, []⟩,
  ⟨.loc 52, .mv (.var 11), none, []⟩,
  ⟨.loc 53, .call (.fn 11) [(.loc 51), (.loc 52)] [.lend, .borrow], none, []⟩,
  ⟨.var 11, .mv (.loc 53), none, []⟩] false
def c_L_FnExactSweepWraps_14 : ACode := .reg [⟨.loc 54, .mv (.var 11), none, []⟩,
  ⟨.loc 55, .bin .int .lss (.loc 54) (.const (.d (.int .i64 0))), none, []⟩,
  ⟨.loc 56, .split (.loc 55), none, []⟩,
  ⟨.loc 57, .load true 3 (.var 9), some ((.loc 56), false), []⟩,
  ⟨.loc 58, .load true 3 (.var 6), some ((.loc 56), false), []⟩,
  ⟨.loc 59, .call (.fn 9) [(.loc 57), (.loc 58)] [.borrow, .borrow], some ((.loc 56), false), []⟩,
  ⟨.loc 60, .un .not (.loc 59), some ((.loc 56), false), []⟩,
  ⟨.loc 61, .pick (.loc 56) (.const (.d (.bool true))) (.loc 60), none, []⟩,
  ⟨.loc 62, .split (.loc 61), none, []⟩,
  ⟨.loc 63, .mv (.var 10), some ((.loc 62), false), []⟩,
  ⟨.loc 64, .mv (.var 7), some ((.loc 62), false), []⟩,
  ⟨.loc 65, .call (.fn 10) [(.loc 63), (.loc 64)] [.borrow, .borrow], some ((.loc 62), false), []⟩,
  ⟨.loc 66, .un .not (.loc 65), some ((.loc 62), false), []⟩,
  ⟨.var 67, .pick (.loc 62) (.const (.d (.bool true))) (.loc 66), none, []⟩] false
def c_L_FnExactSweepWraps_15 : ACode := .reg [⟨.var 4, .mv (.const (.d (.bool false))), none, []⟩] false
def c_L_FnExactSweepWraps_16 : ACode := .reg [⟨.var 12, .mv (.const (.d (.int .i64 1))), none, []⟩] false
def c_L_FnExactSweepWraps_17 : ACode := .reg [⟨.loc 68, .load true 3 (.var 9), none, []⟩,
  ⟨.loc 69, .mv (.var 12), none, []⟩,
  ⟨.loc 70, .call (.fn 11) [(.loc 68), (.loc 69)] [.lend, .borrow], none, []⟩,
  ⟨.var 12, .mv (.loc 70), none, []⟩] false
def c_L_FnExactSweepWraps_18 : ACode := .reg [⟨.loc 71, .mv (.var 10), none, []⟩,
  ⟨.loc 72, .mv (.var 12), none, []⟩,
  ⟨.loc 73, .call (.fn 12) [(.loc 71), (.loc 72)] [.lend, .borrow], none, []⟩,
  ⟨.var 12, .mv (.loc 73), none, []⟩] false
def c_L_FnExactSweepWraps_19 : ACode := .reg [⟨.var 13, .mv (.const (.d (.int .i64 1))), none, []⟩] false
def c_L_FnExactSweepWraps_20 : ACode := .reg [⟨.loc 74, .load true 3 (.var 9), none, []⟩,
  ⟨.loc 75, .mv (.var 13), none, []⟩,
  ⟨.loc 76, .call (.fn 13) [(.loc 74), (.loc 75)] [.borrow, .borrow], none, []⟩,
  ⟨.var 13, .mv (.loc 76), none, []⟩] false
def c_L_FnExactSweepWraps_21 : ACode := .reg [⟨.loc 77, .mv (.var 13), none, []⟩,
  ⟨.var 78, .bin .int .lss (.loc 77) (.const (.d (.int .i64 0))), none, []⟩] false
def c_L_FnExactSweepWraps_22 : ACode := .reg [⟨.var 4, .mv (.const (.d (.bool false))), none, []⟩] false
def c_L_FnExactSweepWraps_23 : ACode := .reg [⟨.loc 79, .mv (.var 10), none, []⟩,
  ⟨.loc 80, .mv (.var 13), none, []⟩,
  ⟨.loc 81, .call (.fn 14) [(.loc 79), (.loc 80)] [.borrow, .borrow], none, []⟩,
  ⟨.var 13, .mv (.loc 81), none, []⟩] false
def c_L_FnExactSweepWraps_24 : ACode := .reg [⟨.loc 82, .mv (.var 13), none, []⟩,
  ⟨.var 83, .bin .int .lss (.loc 82) (.const (.d (.int .i64 0))), none, []⟩] false
def c_L_FnExactSweepWraps_25 : ACode := .reg [⟨.var 4, .mv (.const (.d (.bool false))), none, []⟩] false
def c_L_FnExactSweepWraps_26 : ACode := .reg [⟨.loc 84, .mv (.var 13), none, []⟩,
  ⟨.loc 85, .mv (.var 12), none, []⟩,
  ⟨.var 86, .bin .int .neq (.loc 84) (.loc 85), none, []⟩] false
def c_L_FnExactSweepWraps_27 : ACode := .reg [⟨.var 4, .mv (.const (.d (.bool false))), none, []⟩] false
def c_L_FnExactSweepWraps_28 : ACode := .reg [⟨.loc 88, .load true 3 (.var 2), none, []⟩,
  ⟨.loc 89, .call (.fn 7) [(.loc 88)] [.borrow], none, []⟩,
  ⟨.loc 90, .mv (.var 1), none, []⟩,
  ⟨.loc 91, .call (.fn 8) [(.loc 89), (.loc 90)] [.borrow, .borrow], none, []⟩,
  ⟨.loc 87, .mv (.loc 91), none, []⟩,
  ⟨.loc 92, .ext (.loc 87) 0, none, []⟩,
  ⟨.loc 93, .ext (.loc 87) 1, none, []⟩,
  ⟨.var 14, .alloc [.d (.int .i64 0), .d (.int .i64 0), .nil 1 6], none, []⟩,
  ⟨.none, .store 3 (.var 14) (.loc 92), none, []⟩,
  ⟨.var 15, .mv (.loc 93), none, []⟩] false
def c_L_FnExactSweepWraps_29 : ACode := .reg [⟨.loc 94, .load true 3 (.var 14), none, []⟩,
  ⟨.loc 95, .load true 3 (.var 6), none, []⟩,
  ⟨.loc 96, .call (.fn 9) [(.loc 94), (.loc 95)] [.borrow, .borrow], none, []⟩,
  ⟨.loc 97, .un .not (.loc 96), none, []⟩,
  ⟨.loc 98, .split (.loc 97), none, []⟩,
  ⟨.loc 99, .mv (.var 15), some ((.loc 98), false), []⟩,
  ⟨.loc 100, .mv (.var 7), some ((.loc 98), false), []⟩,
  ⟨.loc 101, .call (.fn 10) [(.loc 99), (.loc 100)] [.borrow, .borrow], some ((.loc 98), false), []⟩,
  ⟨.loc 102, .un .not (.loc 101), some ((.loc 98), false), []⟩,
  ⟨.var 103, .pick (.loc 98) (.const (.d (.bool true))) (.loc 102), none, []⟩] false
def c_L_FnExactSweepWraps_30 : ACode := .reg [⟨.var 4, .mv (.const (.d (.bool false))), none, []⟩] false
def c_L_FnExactSweepWraps_31 : ACode := .reg [⟨.var 13, .mv (.const (.d (.int .i64 1))), none, []⟩] false
def c_L_FnExactSweepWraps_32 : ACode := .reg [⟨.loc 104, .load true 3 (.var 9), none, []⟩,
  ⟨.loc 105, .mv (.var 13), none, []⟩,
  ⟨.loc 106, .call (.fn 13) [(.loc 104), (.loc 105)] [.borrow, .borrow], none, []⟩,
  ⟨.var 13, .mv (.loc 106), none, []⟩] false
def c_L_FnExactSweepWraps_33 : ACode := .reg [⟨.loc 107, .mv (.var 13), none, []⟩,
  ⟨.var 108, .bin .int .lss (.loc 107) (.const (.d (.int .i64 0))), none, []⟩] false
def c_L_FnExactSweepWraps_34 : ACode := .reg [⟨.var 4, .mv (.const (.d (.bool false))), none, []⟩] false
def c_L_FnExactSweepWraps_35 : ACode := .reg [⟨.loc 109, .mv (.var 10), none, []⟩,
  ⟨.loc 110, .mv (.var 13), none, []⟩,
  ⟨.loc 111, .call (.fn 14) [(.loc 109), (.loc 110)] [.borrow, .borrow], none, []⟩,
  ⟨.var 13, .mv (.loc 111), none, []⟩] false
def c_L_FnExactSweepWraps_36 : ACode := .reg [⟨.loc 112, .mv (.var 13), none, []⟩,
  ⟨.var 113, .bin .int .lss (.loc 112) (.const (.d (.int .i64 0))), none, []⟩] false
def c_L_FnExactSweepWraps_37 : ACode := .reg [⟨.var 4, .mv (.const (.d (.bool false))), none, []⟩] false
def c_L_FnExactSweepWraps_38 : ACode := .reg [⟨.loc 114, .mv (.var 13), none, []⟩,
  ⟨.loc 115, .mv (.var 12), none, []⟩,
  ⟨.var 116, .bin .int .neq (.loc 114) (.loc 115), none, []⟩] false
def c_L_FnExactSweepWraps_39 : ACode := .reg [⟨.var 4, .mv (.const (.d (.bool false))), none, []⟩] false
def c_L_FnExactSweepWraps_40 : ACode := .reg [⟨.var 4, .mv (.const (.d (.bool true))), none, []⟩] false
def c_L_FnExactSweepWraps : ACode := (.seq c_L_FnExactSweepWraps_0 (.seq c_L_FnExactSweepWraps_1 (.seq c_L_FnExactSweepWraps_2 (.seq (.seq c_L_FnExactSweepWraps_3 (.cond (.var 20) (.seq c_L_FnExactSweepWraps_4 .ret) .skip)) (.seq c_L_FnExactSweepWraps_5 (.seq c_L_FnExactSweepWraps_6 (.seq c_L_FnExactSweepWraps_7 (.seq (.seq c_L_FnExactSweepWraps_8 (.cond (.var 45) (.seq c_L_FnExactSweepWraps_9 .ret) .skip)) (.seq (.seq c_L_FnExactSweepWraps_10 (.cond (.var 50) (.seq c_L_FnExactSweepWraps_11 .ret) .skip)) (.seq c_L_FnExactSweepWraps_12 (.seq c_L_FnExactSweepWraps_13 (.seq (.seq c_L_FnExactSweepWraps_14 (.cond (.var 67) (.seq c_L_FnExactSweepWraps_15 .ret) .skip)) (.seq c_L_FnExactSweepWraps_16 (.seq c_L_FnExactSweepWraps_17 (.seq c_L_FnExactSweepWraps_18 (.seq c_L_FnExactSweepWraps_19 (.seq c_L_FnExactSweepWraps_20 (.seq (.seq c_L_FnExactSweepWraps_21 (.cond (.var 78) (.seq c_L_FnExactSweepWraps_22 .ret) .skip)) (.seq c_L_FnExactSweepWraps_23 (.seq (.seq c_L_FnExactSweepWraps_24 (.cond (.var 83) (.seq c_L_FnExactSweepWraps_25 .ret) .skip)) (.seq (.seq c_L_FnExactSweepWraps_26 (.cond (.var 86) (.seq c_L_FnExactSweepWraps_27 .ret) .skip)) (.seq c_L_FnExactSweepWraps_28 (.seq (.seq c_L_FnExactSweepWraps_29 (.cond (.var 103) (.seq c_L_FnExactSweepWraps_30 .ret) .skip)) (.seq c_L_FnExactSweepWraps_31 (.seq c_L_FnExactSweepWraps_32 (.seq (.seq c_L_FnExactSweepWraps_33 (.cond (.var 108) (.seq c_L_FnExactSweepWraps_34 .ret) .skip)) (.seq c_L_FnExactSweepWraps_35 (.seq (.seq c_L_FnExactSweepWraps_36 (.cond (.var 113) (.seq c_L_FnExactSweepWraps_37 .ret) .skip)) (.seq (.seq c_L_FnExactSweepWraps_38 (.cond (.var 116) (.seq c_L_FnExactSweepWraps_39 .ret) .skip)) (.seq c_L_FnExactSweepWraps_40 .ret))))))))))))))))))))))))))))))
abbrev F_L_FnExactSweepWraps : FuncId := 3
theorem k_L_FnExactSweepWraps : comp PP (Tryd.f3.ntmps, pinOf 0 [none, none]) [0, 1, 2, 4, 5, 6, 7, 8, 9, 10, 11, 12, 13, 14, 15, 20, 45, 50, 67, 78, 83, 86, 103, 108, 113, 116] (Tryd.f3.body.getD .skip) = some c_L_FnExactSweepWraps.erase := by kernel_rfl
theorem v_L_FnExactSweepWraps {GG : GV} (rcs : List C) {cs : List C} {r : C} {os : List (Option C)} (hN : (cs.length == 2 && rcs.length == 1) = true) (hret : retOf rcs = r)
    (hW : W PP [0, 1, 2, 4, 5, 6, 7, 8, 9, 10, 11, 12, 13, 14, 15, 20, 45, 50, 67, 78, 83, 86, 103, 108, 113, 116] (Tryd.f3.ntmps, pinOf 0 [none, none]) (Valid PP GG) c_L_FnExactSweepWraps (entry cs) (Fin (Valid PP GG) [(.give, 4, none)] [none, none] rcs os) (fun _ _ => False) (Fin (Valid PP GG) [(.give, 4, none)] [none, none] rcs os)) : Valid PP GG F_L_FnExactSweepWraps cs r os :=
  fn_valid_n 2 1 [0, 1, 2, 4, 5, 6, 7, 8, 9, 10, 11, 12, 13, 14, 15, 20, 45, 50, 67, 78, 83, 86, 103, 108, 113, 116] c_L_FnExactSweepWraps [(.give, 4, none)] [none, none] rcs Tryd.func3 rfl rfl (by kernel_rfl) k_L_FnExactSweepWraps rfl rfl hN hret hW
def c_L_szRack_0 : ACode := .reg [⟨.var 2, .box (.var 0), none, []⟩,
  ⟨.var 4, .mv (.const (.d (.int .i64 0))), none, []⟩] false
def c_L_szRack_1 : ACode := .reg [⟨.loc 5, .fld 2 (.var 2), none, []⟩,
  ⟨.loc 6, .load false 1 (.loc 5), none, []⟩,
  ⟨.loc 7, .mv (.var 1), none, []⟩,
  ⟨.loc 8, .call (.fn 27) [(.loc 6), (.loc 7)] [.borrow, .borrow], none, []⟩,
  ⟨.var 1, .mv (.loc 8), none, []⟩] false
def c_L_szRack_2 : ACode := .reg [⟨.loc 9, .mv (.var 1), none, []⟩,
  ⟨.var 10, .bin .int .lss (.loc 9) (.const (.d (.int .i64 0))), none, []⟩] false
def c_L_szRack_3 : ACode := .reg [⟨.var 4, .mv (.const (.d (.int .i64 (-1)))), none, []⟩] false
def c_L_szRack_4 : ACode := .reg [⟨.loc 11, .mv (.var 1), none, []⟩,
  ⟨.var 4, .mv (.loc 11), none, []⟩] false
def c_L_szRack : ACode := (.seq c_L_szRack_0 (.seq c_L_szRack_1 (.seq (.seq c_L_szRack_2 (.cond (.var 10) (.seq c_L_szRack_3 .ret) .skip)) (.seq c_L_szRack_4 .ret))))
abbrev F_L_szRack : FuncId := 5
theorem k_L_szRack : comp PP (Tryd.f5.ntmps, pinOf 0 [none, none]) [0, 1, 2, 4, 10] (Tryd.f5.body.getD .skip) = some c_L_szRack.erase := by kernel_rfl
theorem v_L_szRack {GG : GV} (rcs : List C) {cs : List C} {r : C} {os : List (Option C)} (hN : (cs.length == 2 && rcs.length == 1) = true) (hret : retOf rcs = r)
    (hW : W PP [0, 1, 2, 4, 10] (Tryd.f5.ntmps, pinOf 0 [none, none]) (Valid PP GG) c_L_szRack (entry cs) (Fin (Valid PP GG) [(.give, 4, none)] [none, none] rcs os) (fun _ _ => False) (Fin (Valid PP GG) [(.give, 4, none)] [none, none] rcs os)) : Valid PP GG F_L_szRack cs r os :=
  fn_valid_n 2 1 [0, 1, 2, 4, 10] c_L_szRack [(.give, 4, none)] [none, none] rcs Tryd.func5 rfl rfl (by kernel_rfl) k_L_szRack rfl rfl hN hret hW
def c_S_SweepWraps_0 : ACode := .reg [⟨.var 2, .box (.var 0), none, []⟩,
  ⟨.var 4, .alloc [.d (.int .i64 0), .d (.int .i64 0), .nil 1 6], none, []⟩,
  ⟨.var 5, .mv (.const (.nil 0 1)), none, []⟩] false
def c_S_SweepWraps_1 : ACode := .reg [⟨.loc 9, .lit 0 1 0 [.int .i64 0] [], none, []⟩,
  ⟨.var 6, .mv (.loc 9), none, []⟩] false
def c_S_SweepWraps_2 : ACode := .reg [⟨.loc 10, .load true 3 (.var 2), none, []⟩,
  ⟨.loc 11, .call (.fn 28) [(.loc 10)] [.borrow], none, []⟩,
  ⟨.var 12, .un .not (.loc 11), none, []⟩] false
def c_S_SweepWraps_3 : ACode := .reg [⟨.loc 13, .load true 3 (.var 2), none, []⟩,
  ⟨.loc 14, .call (.fn 29) [(.loc 13)] [.borrow], none, []⟩,
  ⟨.none, .store 3 (.var 4) (.loc 14), none, []⟩,
  ⟨.var 5, .mv (.const (.nil 0 1)), none, []⟩] false
def c_S_SweepWraps_4 : ACode := .reg [⟨.loc 15, .fld 0 (.var 2), none, []⟩,
  ⟨.loc 16, .load false 1 (.loc 15), none, []⟩,
  ⟨.loc 17, .fld 1 (.var 2), none, []⟩,
  ⟨.loc 18, .load false 1 (.loc 17), none, []⟩,
  ⟨.loc 19, .build [.d (.int .i64 0), .d (.int .i64 0), .nil 1 6] [(0, 1, (.loc 16)), (1, 1, (.loc 18))], none, []⟩,
  ⟨.var 7, .alloc [.d (.int .i64 0), .d (.int .i64 0), .nil 1 6], none, []⟩,
  ⟨.none, .store 3 (.var 7) (.loc 19), none, []⟩] false
def c_S_SweepWraps_5 : ACode := .reg [⟨.var 8, .mv (.const (.d (.int .i64 0))), none, []⟩] false
def c_S_SweepWraps_6 : ACode := .reg [⟨.loc 20, .mv (.var 8), none, []⟩,
  ⟨.loc 21, .fld 2 (.var 2), none, []⟩,
  ⟨.loc 22, .load false 1 (.loc 21), none, []⟩,
  ⟨.loc 23, .len false (.loc 22), none, []⟩,
  ⟨.var 24, .bin .int .lss (.loc 20) (.loc 23), none, []⟩] false
def c_S_SweepWraps_7 : ACode := .reg [⟨.loc 27, .fld 2 (.var 2), none, []⟩,
  ⟨.loc 28, .load false 1 (.loc 27), none, []⟩,
  ⟨.loc 29, .mv (.var 8), none, []⟩,
  ⟨.loc 30, .idxA 6 (.loc 28) (.loc 29), none, []⟩,
  ⟨.loc 31, .fld 1 (.loc 30), none, []⟩,
  ⟨.loc 32, .load false 1 (.loc 31), none, []⟩,
  ⟨.loc 33, .mv (.var 1), none, []⟩,
  ⟨.var 34, .bin .int .leq (.loc 32) (.loc 33), none, []⟩] false
def c_S_SweepWraps_8 : ACode := .reg [⟨.loc 35, .mv (.var 6), none, []⟩,
  ⟨.loc 36, .fld 2 (.var 2), none, []⟩,
  ⟨.loc 37, .load false 1 (.loc 36), none, []⟩,
  ⟨.loc 38, .mv (.var 8), none, []⟩,
  ⟨.loc 39, .idxA 6 (.loc 37) (.loc 38), none, []⟩,
  ⟨.loc 40, .fld 0 (.loc 39), none, []⟩,
  ⟨.loc 41, .load false 1 (.loc 40), none, []⟩,
  ⟨.loc 42, .lit 0 1 1 [.int .i64 0] [(0, (.loc 41))], none, []⟩,
  ⟨.loc 43, .app 1 8 (.loc 35) (.loc 42), none, []⟩,
  ⟨.var 6, .mv (.loc 43), none, []⟩] false
def c_S_SweepWraps_9 : ACode := .reg [⟨.loc 44, .fld 2 (.var 7), none, []⟩,
  ⟨.loc 45, .load false 1 (.loc 44), none, [0]⟩,
  ⟨.loc 46, .fld 2 (.var 2), none, []⟩,
  ⟨.loc 47, .load false 1 (.loc 46), none, [2]⟩,
  ⟨.loc 48, .mv (.var 8), none, []⟩,
  ⟨.loc 49, .idxA 6 (.loc 47) (.loc 48), none, [3, 2, 4]⟩,
  ⟨.loc 50, .load true 6 (.loc 49), none, [5, 3, 2, 4]⟩,
  ⟨.loc 51, .call (.fn 30) [(.loc 50)] [.borrow], none, [6, 5, 3, 2, 4]⟩,
  ⟨.loc 52, .lit 1 6 1 [.int .i64 0, .int .i64 0, .str [], .int .i64 0, .slc 1 [], .int .i64 0] [(0, (.loc 51))], none, [7, 6, 5, 3, 2, 4]⟩,
  ⟨.loc 53, .app 6 72 (.loc 45) (.loc 52), none, [1, 0, 8, 7, 6, 5, 3, 2, 4]⟩,
  ⟨.loc 54, .fld 2 (.var 7), none, [9, 1, 0, 8, 7, 6, 5, 3, 2, 4]⟩,
  ⟨.none, .store 1 (.loc 54) (.loc 53), none, [10, 9, 1, 0, 8, 7, 6, 5, 3, 2, 4]⟩] true
def c_S_SweepWraps_10 : ACode := .reg [⟨.loc 25, .mv (.var 8), none, []⟩,
  ⟨.loc 26, .bin .int .add (.loc 25) (.const (.d (.int .i64 1))), none, []⟩,
  ⟨.var 8, .mv (.loc 26), none, []⟩] false
def c_S_SweepWraps_11 : ACode := (.seq (.seq c_S_SweepWraps_6 (.cond (.var 24) .skip (.exit 0))) (.seq (.block 1 (.seq c_S_SweepWraps_7 (.cond (.var 34) c_S_SweepWraps_8 c_S_SweepWraps_9))) c_S_SweepWraps_10))
def c_S_SweepWraps_12 : ACode := .reg [⟨.loc 55, .load true 3 (.var 7), none, []⟩,
  ⟨.loc 56, .mv (.var 6), none, []⟩,
  ⟨.none, .store 3 (.var 4) (.loc 55), none, []⟩,
  ⟨.var 5, .mv (.loc 56), none, []⟩] false
def c_S_SweepWraps : ACode := (.seq c_S_SweepWraps_0 (.seq c_S_SweepWraps_1 (.seq (.seq c_S_SweepWraps_2 (.cond (.var 12) (.seq c_S_SweepWraps_3 .ret) .skip)) (.seq c_S_SweepWraps_4 (.seq (.seq c_S_SweepWraps_5 (.block 0 (.loop [1, 2, 4, 6, 7, 8] c_S_SweepWraps_11))) (.seq c_S_SweepWraps_12 .ret))))))
abbrev F_S_SweepWraps : FuncId := 6
theorem k_S_SweepWraps : comp PP (Tryd.f6.ntmps, pinOf 0 [none, none]) [0, 1, 2, 4, 5, 6, 7, 8, 12, 24, 34] (Tryd.f6.body.getD .skip) = some c_S_SweepWraps.erase := by kernel_rfl
theorem v_S_SweepWraps {GG : GV} (rcs : List C) {cs : List C} {r : C} {os : List (Option C)} (hN : (cs.length == 2 && rcs.length == 2) = true) (hret : retOf rcs = r)
    (hW : W PP [0, 1, 2, 4, 5, 6, 7, 8, 12, 24, 34] (Tryd.f6.ntmps, pinOf 0 [none, none]) (Valid PP GG) c_S_SweepWraps (entry cs) (Fin (Valid PP GG) [(.give, 4, some (true, 3)), (.give, 5, none)] [none, none] rcs os) (fun _ _ => False) (Fin (Valid PP GG) [(.give, 4, some (true, 3)), (.give, 5, none)] [none, none] rcs os)) : Valid PP GG F_S_SweepWraps cs r os :=
  fn_valid_n 2 2 [0, 1, 2, 4, 5, 6, 7, 8, 12, 24, 34] c_S_SweepWraps [(.give, 4, some (true, 3)), (.give, 5, none)] [none, none] rcs Tryd.func6 rfl rfl (by kernel_rfl) k_S_SweepWraps rfl rfl hN hret hW
def c_L_toRack_0 : ACode := .reg [⟨.var 1, .box (.var 0), none, []⟩,
  ⟨.var 2, .alloc [.d (.int .i64 0), .d (.int .i64 0), .nil 1 6], none, []⟩] false
def c_L_toRack_1 : ACode := .reg [⟨.var 3, .alloc [.d (.int .i64 0), .d (.int .i64 0), .nil 1 6], none, []⟩] false
def c_L_toRack_2 : ACode := .reg [⟨.loc 4, .fld 0 (.var 1), none, []⟩,
  ⟨.loc 5, .load false 1 (.loc 4), none, []⟩,
  ⟨.loc 6, .fld 0 (.var 3), none, []⟩,
  ⟨.none, .store 1 (.loc 6) (.loc 5), none, []⟩] false
def c_L_toRack_3 : ACode := .reg [⟨.loc 7, .fld 1 (.var 1), none, []⟩,
  ⟨.loc 8, .load false 1 (.loc 7), none, []⟩,
  ⟨.loc 9, .fld 1 (.var 3), none, []⟩,
  ⟨.none, .store 1 (.loc 9) (.loc 8), none, []⟩] false
def c_L_toRack_4 : ACode := .reg [⟨.loc 10, .fld 2 (.var 1), none, []⟩,
  ⟨.loc 11, .load false 1 (.loc 10), none, []⟩,
  ⟨.loc 12, .call (.fn 31) [(.loc 11)] [.borrow], none, []⟩,
  ⟨.loc 13, .fld 2 (.var 3), none, []⟩,
  ⟨.none, .store 1 (.loc 13) (.loc 12), none, []⟩] false
def c_L_toRack_5 : ACode := .reg [⟨.loc 14, .load true 3 (.var 3), none, []⟩,
  ⟨.none, .store 3 (.var 2) (.loc 14), none, []⟩] false
def c_L_toRack : ACode := (.seq c_L_toRack_0 (.seq c_L_toRack_1 (.seq c_L_toRack_2 (.seq c_L_toRack_3 (.seq c_L_toRack_4 (.seq c_L_toRack_5 .ret))))))
abbrev F_L_toRack : FuncId := 7
theorem k_L_toRack : comp PP (Tryd.f7.ntmps, pinOf 0 [none]) [0, 1, 2, 3] (Tryd.f7.body.getD .skip) = some c_L_toRack.erase := by kernel_rfl
theorem v_L_toRack {GG : GV} (rcs : List C) {cs : List C} {r : C} {os : List (Option C)} (hN : (cs.length == 1 && rcs.length == 1) = true) (hret : retOf rcs = r)
    (hW : W PP [0, 1, 2, 3] (Tryd.f7.ntmps, pinOf 0 [none]) (Valid PP GG) c_L_toRack (entry cs) (Fin (Valid PP GG) [(.give, 2, some (true, 3))] [none] rcs os) (fun _ _ => False) (Fin (Valid PP GG) [(.give, 2, some (true, 3))] [none] rcs os)) : Valid PP GG F_L_toRack cs r os :=
  fn_valid_n 1 1 [0, 1, 2, 3] c_L_toRack [(.give, 2, some (true, 3))] [none] rcs Tryd.func7 rfl rfl (by kernel_rfl) k_L_toRack rfl rfl hN hret hW
def c_I_SweepWraps_0 : ACode := .reg [⟨.var 2, .box (.var 0), none, []⟩,
  ⟨.var 4, .alloc [.d (.int .i64 0), .d (.int .i64 0), .nil 1 6], none, []⟩,
  ⟨.var 5, .mv (.const (.nil 0 1)), none, []⟩] false
def c_I_SweepWraps_1 : ACode := .reg [⟨.loc 6, .load true 3 (.var 2), none, []⟩,
  ⟨.loc 7, .call (.fn 32) [(.loc 6)] [.borrow], none, []⟩,
  ⟨.var 8, .un .not (.loc 7), none, []⟩] false
def c_I_SweepWraps_2 : ACode := .reg [⟨.loc 9, .load true 3 (.var 2), none, []⟩,
  ⟨.loc 10, .call (.fn 33) [(.loc 9)] [.borrow], none, []⟩,
  ⟨.none, .store 3 (.var 4) (.loc 10), none, []⟩,
  ⟨.var 5, .mv (.const (.nil 0 1)), none, []⟩] false
def c_I_SweepWraps_3 : ACode := .reg [⟨.loc 11, .load true 3 (.var 2), none, []⟩,
  ⟨.loc 12, .mv (.var 1), none, []⟩,
  ⟨.loc 13, .call (.fn 34) [(.loc 11), (.loc 12)] [.borrow, .borrow], none, []⟩,
  ⟨.loc 14, .ext (.loc 13) 0, none, []⟩,
  ⟨.loc 15, .ext (.loc 13) 1, none, []⟩,
  ⟨.none, .store 3 (.var 4) (.loc 14), none, []⟩,
  ⟨.var 5, .mv (.loc 15), none, []⟩] false
def c_I_SweepWraps : ACode := (.seq c_I_SweepWraps_0 (.seq (.seq c_I_SweepWraps_1 (.cond (.var 8) (.seq c_I_SweepWraps_2 .ret) .skip)) (.seq c_I_SweepWraps_3 .ret)))
abbrev F_I_SweepWraps : FuncId := 8
theorem k_I_SweepWraps : comp PP (Tryd.f8.ntmps, pinOf 0 [none, none]) [0, 1, 2, 4, 5, 8] (Tryd.f8.body.getD .skip) = some c_I_SweepWraps.erase := by kernel_rfl
theorem v_I_SweepWraps {GG : GV} (rcs : List C) {cs : List C} {r : C} {os : List (Option C)} (hN : (cs.length == 2 && rcs.length == 2) = true) (hret : retOf rcs = r)
    (hW : W PP [0, 1, 2, 4, 5, 8] (Tryd.f8.ntmps, pinOf 0 [none, none]) (Valid PP GG) c_I_SweepWraps (entry cs) (Fin (Valid PP GG) [(.give, 4, some (true, 3)), (.give, 5, none)] [none, none] rcs os) (fun _ _ => False) (Fin (Valid PP GG) [(.give, 4, some (true, 3)), (.give, 5, none)] [none, none] rcs os)) : Valid PP GG F_I_SweepWraps cs r os :=
  fn_valid_n 2 2 [0, 1, 2, 4, 5, 8] c_I_SweepWraps [(.give, 4, some (true, 3)), (.give, 5, none)] [none, none] rcs Tryd.func8 rfl rfl (by kernel_rfl) k_I_SweepWraps rfl rfl hN hret hW
def c_L_eqRack_0 : ACode := .reg [⟨.var 2, .box (.var 0), none, []⟩,
  ⟨.var 3, .box (.var 1), none, []⟩,
  ⟨.var 4, .mv (.const (.d (.bool false))), none, []⟩] false
def c_L_eqRack_1 : ACode := .reg [⟨.loc 5, .fld 0 (.var 2), none, []⟩,
  ⟨.loc 6, .load false 1 (.loc 5), none, []⟩,
  ⟨.loc 7, .fld 0 (.var 3), none, []⟩,
  ⟨.loc 8, .load false 1 (.loc 7), none, []⟩,
  ⟨.var 9, .bin .int .neq (.loc 6) (.loc 8), none, []⟩] false
def c_L_eqRack_2 : ACode := .reg [⟨.var 4, .mv (.const (.d (.bool false))), none, []⟩] false
def c_L_eqRack_3 : ACode := .reg [⟨.loc 10, .fld 1 (.var 2), none, []⟩,
  ⟨.loc 11, .load false 1 (.loc 10), none, []⟩,
  ⟨.loc 12, .fld 1 (.var 3), none, []⟩,
  ⟨.loc 13, .load false 1 (.loc 12), none, []⟩,
  ⟨.var 14, .bin .int .neq (.loc 11) (.loc 13), none, []⟩] false
def c_L_eqRack_4 : ACode := .reg [⟨.var 4, .mv (.const (.d (.bool false))), none, []⟩] false
def c_L_eqRack_5 : ACode := .reg [⟨.loc 15, .fld 2 (.var 2), none, []⟩,
  ⟨.loc 16, .load false 1 (.loc 15), none, []⟩,
  ⟨.loc 17, .fld 2 (.var 3), none, []⟩,
  ⟨.loc 18, .load false 1 (.loc 17), none, []⟩,
  ⟨.loc 19, .call (.fn 35) [(.loc 16), (.loc 18)] [.borrow, .borrow], none, []⟩,
  ⟨.var 20, .un .not (.loc 19), none, []⟩] false
def c_L_eqRack_6 : ACode := .reg [⟨.var 4, .mv (.const (.d (.bool false))), none, []⟩] false
def c_L_eqRack_7 : ACode := .reg [⟨.var 4, .mv (.const (.d (.bool true))), none, []⟩] false
def c_L_eqRack : ACode := (.seq c_L_eqRack_0 (.seq (.seq c_L_eqRack_1 (.cond (.var 9) (.seq c_L_eqRack_2 .ret) .skip)) (.seq (.seq c_L_eqRack_3 (.cond (.var 14) (.seq c_L_eqRack_4 .ret) .skip)) (.seq (.seq c_L_eqRack_5 (.cond (.var 20) (.seq c_L_eqRack_6 .ret) .skip)) (.seq c_L_eqRack_7 .ret)))))
abbrev F_L_eqRack : FuncId := 9
theorem k_L_eqRack : comp PP (Tryd.f9.ntmps, pinOf 0 [none, none]) [0, 1, 2, 3, 4, 9, 14, 20] (Tryd.f9.body.getD .skip) = some c_L_eqRack.erase := by kernel_rfl
theorem v_L_eqRack {GG : GV} (rcs : List C) {cs : List C} {r : C} {os : List (Option C)} (hN : (cs.length == 2 && rcs.length == 1) = true) (hret : retOf rcs = r)
    (hW : W PP [0, 1, 2, 3, 4, 9, 14, 20] (Tryd.f9.ntmps, pinOf 0 [none, none]) (Valid PP GG) c_L_eqRack (entry cs) (Fin (Valid PP GG) [(.give, 4, none)] [none, none] rcs os) (fun _ _ => False) (Fin (Valid PP GG) [(.give, 4, none)] [none, none] rcs os)) : Valid PP GG F_L_eqRack cs r os :=
  fn_valid_n 2 1 [0, 1, 2, 3, 4, 9, 14, 20] c_L_eqRack [(.give, 4, none)] [none, none] rcs Tryd.func9 rfl rfl (by kernel_rfl) k_L_eqRack rfl rfl hN hret hW
def c_L_eqIntS_0 : ACode := .reg [⟨.var 4, .mv (.const (.d (.bool false))), none, []⟩] false
def c_L_eqIntS_1 : ACode := .reg [⟨.loc 6, .mv (.var 0), none, []⟩,
  ⟨.loc 7, .len false (.loc 6), none, []⟩,
  ⟨.loc 8, .mv (.var 1), none, []⟩,
  ⟨.loc 9, .len false (.loc 8), none, []⟩,
  ⟨.var 10, .bin .int .neq (.loc 7) (.loc 9), none, []⟩] false
def c_L_eqIntS_2 : ACode := .reg [⟨.var 4, .mv (.const (.d (.bool false))), none, []⟩] false
def c_L_eqIntS_3 : ACode := .reg [⟨.var 5, .mv (.const (.d (.int .i64 0))), none, []⟩] false
def c_L_eqIntS_4 : ACode := .reg [⟨.loc 11, .mv (.var 5), none, []⟩,
  ⟨.loc 12, .mv (.var 0), none, []⟩,
  ⟨.loc 13, .len false (.loc 12), none, []⟩,
  ⟨.var 14, .bin .int .lss (.loc 11) (.loc 13), none, []⟩] false
def c_L_eqIntS_5 : ACode := .reg [⟨.loc 17, .mv (.var 0), none, []⟩,
  ⟨.loc 18, .mv (.var 5), none, []⟩,
  ⟨.loc 19, .idxA 1 (.loc 17) (.loc 18), none, [0, 1]⟩,
  ⟨.loc 20, .load false 1 (.loc 19), none, [2, 0, 1]⟩,
  ⟨.loc 21, .mv (.var 1), none, []⟩,
  ⟨.loc 22, .mv (.var 5), none, []⟩,
  ⟨.loc 23, .idxA 1 (.loc 21) (.loc 22), none, [4, 5]⟩,
  ⟨.loc 24, .load false 1 (.loc 23), none, [6, 4, 5]⟩,
  ⟨.var 25, .bin .int .neq (.loc 20) (.loc 24), none, [3, 2, 0, 1, 7, 6, 4, 5]⟩] true
def c_L_eqIntS_6 : ACode := .reg [⟨.var 4, .mv (.const (.d (.bool false))), none, []⟩] false
def c_L_eqIntS_7 : ACode := .reg [⟨.loc 15, .mv (.var 5), none, []⟩,
  ⟨.loc 16, .bin .int .add (.loc 15) (.const (.d (.int .i64 1))), none, []⟩,
  ⟨.var 5, .mv (.loc 16), none, []⟩] false
def c_L_eqIntS_8 : ACode := (.seq (.seq c_L_eqIntS_4 (.cond (.var 14) .skip (.exit 0))) (.seq (.block 1 (.seq c_L_eqIntS_5 (.cond (.var 25) (.seq c_L_eqIntS_6 .ret) .skip))) c_L_eqIntS_7))
def c_L_eqIntS_9 : ACode := .reg [⟨.var 4, .mv (.const (.d (.bool true))), none, []⟩] false
def c_L_eqIntS : ACode := (.seq c_L_eqIntS_0 (.seq (.seq c_L_eqIntS_1 (.cond (.var 10) (.seq c_L_eqIntS_2 .ret) .skip)) (.seq (.seq c_L_eqIntS_3 (.block 0 (.loop [0, 1, 5] c_L_eqIntS_8))) (.seq c_L_eqIntS_9 .ret))))
abbrev F_L_eqIntS : FuncId := 10
theorem k_L_eqIntS : comp PP (Tryd.f10.ntmps, pinOf 0 [none, none]) [0, 1, 4, 5, 10, 14, 25] (Tryd.f10.body.getD .skip) = some c_L_eqIntS.erase := by kernel_rfl
theorem v_L_eqIntS {GG : GV} (rcs : List C) {cs : List C} {r : C} {os : List (Option C)} (hN : (cs.length == 2 && rcs.length == 1) = true) (hret : retOf rcs = r)
    (hW : W PP [0, 1, 4, 5, 10, 14, 25] (Tryd.f10.ntmps, pinOf 0 [none, none]) (Valid PP GG) c_L_eqIntS (entry cs) (Fin (Valid PP GG) [(.give, 4, none)] [none, none] rcs os) (fun _ _ => False) (Fin (Valid PP GG) [(.give, 4, none)] [none, none] rcs os)) : Valid PP GG F_L_eqIntS cs r os :=
  fn_valid_n 2 1 [0, 1, 4, 5, 10, 14, 25] c_L_eqIntS [(.give, 4, none)] [none, none] rcs Tryd.func10 rfl rfl (by kernel_rfl) k_L_eqIntS rfl rfl hN hret hW
def c_L_markRack_0 : ACode := .reg [⟨.var 2, .box (.var 0), none, []⟩,
  ⟨.var 4, .mv (.const (.d (.int .i64 0))), none, []⟩] false
def c_L_markRack_1 : ACode := .reg [⟨.loc 5, .fld 2 (.var 2), none, []⟩,
  ⟨.loc 6, .load false 1 (.loc 5), none, []⟩,
  ⟨.loc 7, .mv (.var 1), none, []⟩,
  ⟨.loc 8, .call (.fn 36) [(.loc 6), (.loc 7)] [.lend, .borrow], none, []⟩,
  ⟨.var 1, .mv (.loc 8), none, []⟩] false
def c_L_markRack_2 : ACode := .reg [⟨.loc 9, .mv (.var 1), none, []⟩,
  ⟨.var 4, .mv (.loc 9), none, []⟩] false
def c_L_markRack : ACode := (.seq c_L_markRack_0 (.seq c_L_markRack_1 (.seq c_L_markRack_2 .ret)))
abbrev F_L_markRack : FuncId := 11
theorem k_L_markRack : comp PP (Tryd.f11.ntmps, pinOf 0 [some .give, none]) [0, 1, 2, 4] (Tryd.f11.body.getD .skip) = some c_L_markRack.erase := by kernel_rfl
theorem v_L_markRack {GG : GV} (rcs : List C) {cs : List C} {r : C} {os : List (Option C)} (hN : (cs.length == 2 && rcs.length == 1) = true) (hret : retOf rcs = r)
    (hW : W PP [0, 1, 2, 4] (Tryd.f11.ntmps, pinOf 0 [some .give, none]) (Valid PP GG) c_L_markRack (entry cs) (Fin (Valid PP GG) [(.give, 4, none)] [some .give, none] rcs os) (fun _ _ => False) (Fin (Valid PP GG) [(.give, 4, none)] [some .give, none] rcs os)) : Valid PP GG F_L_markRack cs r os :=
  fn_valid_n 2 1 [0, 1, 2, 4] c_L_markRack [(.give, 4, none)] [some .give, none] rcs Tryd.func11 rfl rfl (by kernel_rfl) k_L_markRack rfl rfl hN hret hW
def c_L_markIntS_0 : ACode := .reg [⟨.var 4, .mv (.const (.d (.int .i64 0))), none, []⟩] false
def c_L_markIntS_1 : ACode := .reg [⟨.var 5, .mv (.const (.d (.int .i64 0))), none, []⟩] false
def c_L_markIntS_2 : ACode := .reg [⟨.loc 6, .mv (.var 5), none, []⟩,
  ⟨.loc 7, .mv (.var 0), none, []⟩,
  ⟨.loc 8, .len false (.loc 7), none, []⟩,
  ⟨.var 9, .bin .int .lss (.loc 6) (.loc 8), none, []⟩] false
def c_L_markIntS_3 : ACode := .reg [⟨.loc 12, .mv (.var 0), none, []⟩,
  ⟨.loc 13, .mv (.var 5), none, []⟩,
  ⟨.loc 14, .mv (.var 1), none, []⟩,
  ⟨.loc 15, .idxA 1 (.loc 12) (.loc 13), none, []⟩,
  ⟨.none, .store 1 (.loc 15) (.loc 14), none, []⟩] false
def c_L_markIntS_4 : ACode := .reg [⟨.loc 16, .mv (.var 1), none, []⟩,
  ⟨.loc 17, .bin .int .add (.loc 16) (.const (.d (.int .i64 1))), none, []⟩,
  ⟨.var 1, .mv (.loc 17), none, []⟩] false
def c_L_markIntS_5 : ACode := .reg [⟨.loc 10, .mv (.var 5), none, []⟩,
  ⟨.loc 11, .bin .int .add (.loc 10) (.const (.d (.int .i64 1))), none, []⟩,
  ⟨.var 5, .mv (.loc 11), none, []⟩] false
def c_L_markIntS_6 : ACode := (.seq (.seq c_L_markIntS_2 (.cond (.var 9) .skip (.exit 0))) (.seq (.block 1 (.seq c_L_markIntS_3 c_L_markIntS_4)) c_L_markIntS_5))
def c_L_markIntS_7 : ACode := .reg [⟨.loc 18, .mv (.var 1), none, []⟩,
  ⟨.var 4, .mv (.loc 18), none, []⟩] false
def c_L_markIntS : ACode := (.seq c_L_markIntS_0 (.seq (.seq c_L_markIntS_1 (.block 0 (.loop [0, 1, 5] c_L_markIntS_6))) (.seq c_L_markIntS_7 .ret)))
abbrev F_L_markIntS : FuncId := 12
theorem k_L_markIntS : comp PP (Tryd.f12.ntmps, pinOf 0 [some .give, none]) [0, 1, 4, 5, 9] (Tryd.f12.body.getD .skip) = some c_L_markIntS.erase := by kernel_rfl
theorem v_L_markIntS {GG : GV} (rcs : List C) {cs : List C} {r : C} {os : List (Option C)} (hN : (cs.length == 2 && rcs.length == 1) = true) (hret : retOf rcs = r)
    (hW : W PP [0, 1, 4, 5, 9] (Tryd.f12.ntmps, pinOf 0 [some .give, none]) (Valid PP GG) c_L_markIntS (entry cs) (Fin (Valid PP GG) [(.give, 4, none)] [some .give, none] rcs os) (fun _ _ => False) (Fin (Valid PP GG) [(.give, 4, none)] [some .give, none] rcs os)) : Valid PP GG F_L_markIntS cs r os :=
  fn_valid_n 2 1 [0, 1, 4, 5, 9] c_L_markIntS [(.give, 4, none)] [some .give, none] rcs Tryd.func12 rfl rfl (by kernel_rfl) k_L_markIntS rfl rfl hN hret hW
def c_L_heldRack_0 : ACode := .reg [⟨.var 2, .box (.var 0), none, []⟩,
  ⟨.var 4, .mv (.const (.d (.int .i64 0))), none, []⟩] false
def c_L_heldRack_1 : ACode := .reg [⟨.loc 5, .fld 2 (.var 2), none, []⟩,
  ⟨.loc 6, .load false 1 (.loc 5), none, []⟩,
  ⟨.loc 7, .mv (.var 1), none, []⟩,
  ⟨.loc 8, .call (.fn 37) [(.loc 6), (.loc 7)] [.borrow, .borrow], none, []⟩,
  ⟨.var 1, .mv (.loc 8), none, []⟩] false
def c_L_heldRack_2 : ACode := .reg [⟨.loc 9, .mv (.var 1), none, []⟩,
  ⟨.var 10, .bin .int .lss (.loc 9) (.const (.d (.int .i64 0))), none, []⟩] false
def c_L_heldRack_3 : ACode := .reg [⟨.var 4, .mv (.const (.d (.int .i64 (-1)))), none, []⟩] false
def c_L_heldRack_4 : ACode := .reg [⟨.loc 11, .mv (.var 1), none, []⟩,
  ⟨.var 4, .mv (.loc 11), none, []⟩] false
def c_L_heldRack : ACode := (.seq c_L_heldRack_0 (.seq c_L_heldRack_1 (.seq (.seq c_L_heldRack_2 (.cond (.var 10) (.seq c_L_heldRack_3 .ret) .skip)) (.seq c_L_heldRack_4 .ret))))
abbrev F_L_heldRack : FuncId := 13
theorem k_L_heldRack : comp PP (Tryd.f13.ntmps, pinOf 0 [none, none]) [0, 1, 2, 4, 10] (Tryd.f13.body.getD .skip) = some c_L_heldRack.erase := by kernel_rfl
theorem v_L_heldRack {GG : GV} (rcs : List C) {cs : List C} {r : C} {os : List (Option C)} (hN : (cs.length == 2 && rcs.length == 1) = true) (hret : retOf rcs = r)
    (hW : W PP [0, 1, 2, 4, 10] (Tryd.f13.ntmps, pinOf 0 [none, none]) (Valid PP GG) c_L_heldRack (entry cs) (Fin (Valid PP GG) [(.give, 4, none)] [none, none] rcs os) (fun _ _ => False) (Fin (Valid PP GG) [(.give, 4, none)] [none, none] rcs os)) : Valid PP GG F_L_heldRack cs r os :=
  fn_valid_n 2 1 [0, 1, 2, 4, 10] c_L_heldRack [(.give, 4, none)] [none, none] rcs Tryd.func13 rfl rfl (by kernel_rfl) k_L_heldRack rfl rfl hN hret hW
def c_L_heldIntS_0 : ACode := .reg [⟨.var 4, .mv (.const (.d (.int .i64 0))), none, []⟩] false
def c_L_heldIntS_1 : ACode := .reg [⟨.var 5, .mv (.const (.d (.int .i64 0))), none, []⟩] false
def c_L_heldIntS_2 : ACode := .reg [⟨.loc 6, .mv (.var 5), none, []⟩,
  ⟨.loc 7, .mv (.var 0), none, []⟩,
  ⟨.loc 8, .len false (.loc 7), none, []⟩,
  ⟨.var 9, .bin .int .lss (.loc 6) (.loc 8), none, []⟩] false
def c_L_heldIntS_3 : ACode := .reg [⟨.loc 12, .mv (.var 0), none, []⟩,
  ⟨.loc 13, .mv (.var 5), none, []⟩,
  ⟨.loc 14, .idxA 1 (.loc 12) (.loc 13), none, []⟩,
  ⟨.loc 15, .load false 1 (.loc 14), none, []⟩,
  ⟨.loc 16, .mv (.var 1), none, []⟩,
  ⟨.var 17, .bin .int .neq (.loc 15) (.loc 16), none, []⟩] false
def c_L_heldIntS_4 : ACode := .reg [⟨.var 4, .mv (.const (.d (.int .i64 (-1)))), none, []⟩] false
def c_L_heldIntS_5 : ACode := .reg [⟨.loc 18, .mv (.var 1), none, []⟩,
  ⟨.loc 19, .bin .int .add (.loc 18) (.const (.d (.int .i64 1))), none, []⟩,
  ⟨.var 1, .mv (.loc 19), none, []⟩] false
def c_L_heldIntS_6 : ACode := .reg [⟨.loc 10, .mv (.var 5), none, []⟩,
  ⟨.loc 11, .bin .int .add (.loc 10) (.const (.d (.int .i64 1))), none, []⟩,
  ⟨.var 5, .mv (.loc 11), none, []⟩] false
def c_L_heldIntS_7 : ACode := (.seq (.seq c_L_heldIntS_2 (.cond (.var 9) .skip (.exit 0))) (.seq (.block 1 (.seq (.seq c_L_heldIntS_3 (.cond (.var 17) (.seq c_L_heldIntS_4 .ret) .skip)) c_L_heldIntS_5)) c_L_heldIntS_6))
def c_L_heldIntS_8 : ACode := .reg [⟨.loc 20, .mv (.var 1), none, []⟩,
  ⟨.var 4, .mv (.loc 20), none, []⟩] false
def c_L_heldIntS : ACode := (.seq c_L_heldIntS_0 (.seq (.seq c_L_heldIntS_1 (.block 0 (.loop [0, 1, 5] c_L_heldIntS_7))) (.seq c_L_heldIntS_8 .ret)))
abbrev F_L_heldIntS : FuncId := 14
theorem k_L_heldIntS : comp PP (Tryd.f14.ntmps, pinOf 0 [none, none]) [0, 1, 4, 5, 9, 17] (Tryd.f14.body.getD .skip) = some c_L_heldIntS.erase := by kernel_rfl
theorem v_L_heldIntS {GG : GV} (rcs : List C) {cs : List C} {r : C} {os : List (Option C)} (hN : (cs.length == 2 && rcs.length == 1) = true) (hret : retOf rcs = r)
    (hW : W PP [0, 1, 4, 5, 9, 17] (Tryd.f14.ntmps, pinOf 0 [none, none]) (Valid PP GG) c_L_heldIntS (entry cs) (Fin (Valid PP GG) [(.give, 4, none)] [none, none] rcs os) (fun _ _ => False) (Fin (Valid PP GG) [(.give, 4, none)] [none, none] rcs os)) : Valid PP GG F_L_heldIntS cs r os :=
  fn_valid_n 2 1 [0, 1, 4, 5, 9, 17] c_L_heldIntS [(.give, 4, none)] [none, none] rcs Tryd.func14 rfl rfl (by kernel_rfl) k_L_heldIntS rfl rfl hN hret hW
def c_L_szWrapS_0 : ACode := .reg [⟨.var 4, .mv (.const (.d (.int .i64 0))), none, []⟩] false
def c_L_szWrapS_1 : ACode := .reg [⟨.loc 6, .mv (.var 1), none, []⟩,
  ⟨.loc 7, .mv (.var 0), none, []⟩,
  ⟨.loc 8, .len false (.loc 7), none, []⟩,
  ⟨.loc 9, .bin .int .sub (.loc 6) (.loc 8), none, []⟩,
  ⟨.var 1, .mv (.loc 9), none, []⟩] false
def c_L_szWrapS_2 : ACode := .reg [⟨.loc 10, .mv (.var 1), none, []⟩,
  ⟨.var 11, .bin .int .lss (.loc 10) (.const (.d (.int .i64 0))), none, []⟩] false
def c_L_szWrapS_3 : ACode := .reg [⟨.var 4, .mv (.const (.d (.int .i64 (-1)))), none, []⟩] false
def c_L_szWrapS_4 : ACode := .reg [⟨.var 5, .mv (.const (.d (.int .i64 0))), none, []⟩] false
def c_L_szWrapS_5 : ACode := .reg [⟨.loc 12, .mv (.var 5), none, []⟩,
  ⟨.loc 13, .mv (.var 0), none, []⟩,
  ⟨.loc 14, .len false (.loc 13), none, []⟩,
  ⟨.var 15, .bin .int .lss (.loc 12) (.loc 14), none, []⟩] false
def c_L_szWrapS_6 : ACode := .reg [⟨.loc 18, .mv (.var 0), none, []⟩,
  ⟨.loc 19, .mv (.var 5), none, []⟩,
  ⟨.loc 20, .idxA 6 (.loc 18) (.loc 19), none, []⟩,
  ⟨.loc 21, .load true 6 (.loc 20), none, []⟩,
  ⟨.loc 22, .mv (.var 1), none, []⟩,
  ⟨.loc 23, .call (.fn 56) [(.loc 21), (.loc 22)] [.borrow, .borrow], none, []⟩,
  ⟨.var 1, .mv (.loc 23), none, []⟩] false
def c_L_szWrapS_7 : ACode := .reg [⟨.loc 24, .mv (.var 1), none, []⟩,
  ⟨.var 25, .bin .int .lss (.loc 24) (.const (.d (.int .i64 0))), none, []⟩] false
def c_L_szWrapS_8 : ACode := .reg [⟨.var 4, .mv (.const (.d (.int .i64 (-1)))), none, []⟩] false
def c_L_szWrapS_9 : ACode := .reg [⟨.loc 16, .mv (.var 5), none, []⟩,
  ⟨.loc 17, .bin .int .add (.loc 16) (.const (.d (.int .i64 1))), none, []⟩,
  ⟨.var 5, .mv (.loc 17), none, []⟩] false
def c_L_szWrapS_10 : ACode := (.seq (.seq c_L_szWrapS_5 (.cond (.var 15) .skip (.exit 0))) (.seq (.block 1 (.seq c_L_szWrapS_6 (.seq c_L_szWrapS_7 (.cond (.var 25) (.seq c_L_szWrapS_8 .ret) .skip)))) c_L_szWrapS_9))
def c_L_szWrapS_11 : ACode := .reg [⟨.loc 26, .mv (.var 1), none, []⟩,
  ⟨.var 4, .mv (.loc 26), none, []⟩] false
def c_L_szWrapS : ACode := (.seq c_L_szWrapS_0 (.seq c_L_szWrapS_1 (.seq (.seq c_L_szWrapS_2 (.cond (.var 11) (.seq c_L_szWrapS_3 .ret) .skip)) (.seq (.seq c_L_szWrapS_4 (.block 0 (.loop [0, 1, 5] c_L_szWrapS_10))) (.seq c_L_szWrapS_11 .ret)))))
abbrev F_L_szWrapS : FuncId := 27
theorem k_L_szWrapS : comp PP (Tryd.f27.ntmps, pinOf 0 [none, none]) [0, 1, 4, 5, 11, 15, 25] (Tryd.f27.body.getD .skip) = some c_L_szWrapS.erase := by kernel_rfl
theorem v_L_szWrapS {GG : GV} (rcs : List C) {cs : List C} {r : C} {os : List (Option C)} (hN : (cs.length == 2 && rcs.length == 1) = true) (hret : retOf rcs = r)
    (hW : W PP [0, 1, 4, 5, 11, 15, 25] (Tryd.f27.ntmps, pinOf 0 [none, none]) (Valid PP GG) c_L_szWrapS (entry cs) (Fin (Valid PP GG) [(.give, 4, none)] [none, none] rcs os) (fun _ _ => False) (Fin (Valid PP GG) [(.give, 4, none)] [none, none] rcs os)) : Valid PP GG F_L_szWrapS cs r os :=
  fn_valid_n 2 1 [0, 1, 4, 5, 11, 15, 25] c_L_szWrapS [(.give, 4, none)] [none, none] rcs Tryd.func27 rfl rfl (by kernel_rfl) k_L_szWrapS rfl rfl hN hret hW
def c_S_RackOk_0 : ACode := .reg [⟨.var 1, .box (.var 0), none, []⟩,
  ⟨.var 2, .mv (.const (.d (.bool false))), none, []⟩] false
def c_S_RackOk_1 : ACode := .reg [⟨.loc 5, .fld 0 (.var 1), none, []⟩,
  ⟨.loc 6, .load false 1 (.loc 5), none, []⟩,
  ⟨.loc 7, .call (.fn 57) [(.loc 6)] [.borrow], none, []⟩,
  ⟨.loc 8, .un .not (.loc 7), none, []⟩,
  ⟨.loc 9, .split (.loc 8), none, []⟩,
  ⟨.loc 10, .fld 1 (.var 1), some ((.loc 9), false), []⟩,
  ⟨.loc 11, .load false 1 (.loc 10), some ((.loc 9), false), []⟩,
  ⟨.loc 12, .call (.fn 47) [(.loc 11), (.const (.d (.int .i64 1))), (.const (.d (.int .i64 1000000000)))] [.borrow, .borrow, .borrow], some ((.loc 9), false), []⟩,
  ⟨.loc 13, .un .not (.loc 12), some ((.loc 9), false), []⟩,
  ⟨.loc 14, .pick (.loc 9) (.const (.d (.bool true))) (.loc 13), none, []⟩,
  ⟨.loc 15, .split (.loc 14), none, []⟩,
  ⟨.loc 16, .fld 2 (.var 1), some ((.loc 15), false), []⟩,
  ⟨.loc 17, .load false 1 (.loc 16), some ((.loc 15), false), []⟩,
  ⟨.loc 18, .len false (.loc 17), some ((.loc 15), false), []⟩,
  ⟨.loc 19, .bin .int .gtr (.loc 18) (.const (.d (.int .i64 60))), some ((.loc 15), false), []⟩,
  ⟨.var 20, .pick (.loc 15) (.const (.d (.bool true))) (.loc 19), none, []⟩] false
def c_S_RackOk_2 : ACode := .reg [⟨.var 2, .mv (.const (.d (.bool false))), none, []⟩] false
def c_S_RackOk_3 : ACode := .reg [⟨.var 3, .mv (.const (.d (.int .i64 0))), none, []⟩] false
def c_S_RackOk_4 : ACode := .reg [⟨.loc 21, .mv (.var 3), none, []⟩,
  ⟨.loc 22, .fld 2 (.var 1), none, []⟩,
  ⟨.loc 23, .load false 1 (.loc 22), none, []⟩,
  ⟨.loc 24, .len false (.loc 23), none, []⟩,
  ⟨.var 25, .bin .int .lss (.loc 21) (.loc 24), none, []⟩] false
def c_S_RackOk_5 : ACode := .reg [⟨.loc 28, .fld 2 (.var 1), none, []⟩,
  ⟨.loc 29, .load false 1 (.loc 28), none, []⟩,
  ⟨.loc 30, .mv (.var 3), none, []⟩,
  ⟨.loc 31, .idxA 6 (.loc 29) (.loc 30), none, []⟩,
  ⟨.loc 32, .load true 6 (.loc 31), none, []⟩,
  ⟨.var 4, .alloc [.d (.int .i64 0), .d (.int .i64 0), .d (.str []), .d (.int .i64 0), .nil 0 1, .d (.int .i64 0)], none, []⟩,
  ⟨.none, .store 6 (.var 4) (.loc 32), none, []⟩] false
def c_S_RackOk_6 : ACode := .reg [⟨.loc 33, .fld 0 (.var 4), none, []⟩,
  ⟨.loc 34, .load false 1 (.loc 33), none, [0]⟩,
  ⟨.loc 35, .fld 1 (.var 1), none, []⟩,
  ⟨.loc 36, .load false 1 (.loc 35), none, [2]⟩,
  ⟨.loc 37, .bin .int .sub (.loc 36) (.const (.d (.int .i64 1))), none, [3, 2]⟩,
  ⟨.loc 38, .call (.fn 47) [(.loc 34), (.const (.d (.int .i64 1))), (.loc 37)] [.borrow, .borrow, .borrow], none, [1, 0, 4, 3, 2]⟩,
  ⟨.loc 39, .un .not (.loc 38), none, [5, 1, 0, 4, 3, 2]⟩,
  ⟨.loc 40, .split (.loc 39), none, [6, 5, 1, 0, 4, 3, 2]⟩,
  ⟨.loc 41, .fld 1 (.var 4), some ((.loc 40), false), [7, 6, 5, 1, 0, 4, 3, 2]⟩,
  ⟨.loc 42, .load false 1 (.loc 41), some ((.loc 40), false), [8, 7, 6, 5, 1, 0, 4, 3, 2]⟩,
  ⟨.loc 43, .call (.fn 47) [(.loc 42), (.const (.d (.int .i64 1))), (.const (.d (.int .i64 1000000000)))] [.borrow, .borrow, .borrow], some ((.loc 40), false), [9, 8, 7, 6, 5, 1, 0, 4, 3, 2]⟩,
  ⟨.loc 44, .un .not (.loc 43), some ((.loc 40), false), [10, 9, 8, 7, 6, 5, 1, 0, 4, 3, 2]⟩,
  ⟨.loc 45, .pick (.loc 40) (.const (.d (.bool true))) (.loc 44), none, [11, 10, 9, 8, 7, 6, 5, 1, 0, 4, 3, 2]⟩,
  ⟨.loc 46, .split (.loc 45), none, [12, 11, 10, 9, 8, 7, 6, 5, 1, 0, 4, 3, 2]⟩,
  ⟨.loc 47, .fld 2 (.var 4), some ((.loc 46), false), [13, 12, 11, 10, 9, 8, 7, 6, 5, 1, 0, 4, 3, 2]⟩,
  ⟨.loc 48, .load false 1 (.loc 47), some ((.loc 46), false), [14, 13, 12, 11, 10, 9, 8, 7, 6, 5, 1, 0, 4, 3, 2]⟩,
  ⟨.loc 49, .call (.fn 46) [(.loc 48)] [.borrow], some ((.loc 46), false), [15, 14, 13, 12, 11, 10, 9, 8, 7, 6, 5, 1, 0, 4, 3, 2]⟩,
  ⟨.loc 50, .un .not (.loc 49), some ((.loc 46), false), [16, 15, 14, 13, 12, 11, 10, 9, 8, 7, 6, 5, 1, 0, 4, 3, 2]⟩,
  ⟨.loc 51, .pick (.loc 46) (.const (.d (.bool true))) (.loc 50), none, [17, 16, 15, 14, 13, 12, 11, 10, 9, 8, 7, 6, 5, 1, 0, 4, 3, 2]⟩,
  ⟨.loc 52, .split (.loc 51), none, [18, 17, 16, 15, 14, 13, 12, 11, 10, 9, 8, 7, 6, 5, 1, 0, 4, 3, 2]⟩,
  ⟨.loc 53, .mv (.var 3), some ((.loc 52), false), [19, 18, 17, 16, 15, 14, 13, 12, 11, 10, 9, 8, 7, 6, 5, 1, 0, 4, 3, 2]⟩,
  ⟨.loc 54, .bin .int .gtr (.loc 53) (.const (.d (.int .i64 0))), some ((.loc 52), false), [20, 19, 18, 17, 16, 15, 14, 13, 12, 11, 10, 9, 8, 7, 6, 5, 1, 0, 4, 3, 2]⟩,
  ⟨.loc 55, .split (.loc 54), some ((.loc 52), false), [21, 20, 19, 18, 17, 16, 15, 14, 13, 12, 11, 10, 9, 8, 7, 6, 5, 1, 0, 4, 3, 2]⟩,
  ⟨.loc 56, .fld 2 (.var 1), some ((.loc 55), true), [22, 21, 20, 19, 18, 17, 16, 15, 14, 13, 12, 11, 10, 9, 8, 7, 6, 5, 1, 0, 4, 3, 2]⟩,
  ⟨.loc 57, .load false 1 (.loc 56), some ((.loc 55), true), [23, 22, 21, 20, 19, 18, 17, 16, 15, 14, 13, 12, 11, 10, 9, 8, 7, 6, 5, 1, 0, 4, 3, 2]⟩,
  ⟨.loc 58, .mv (.var 3), some ((.loc 55), true), [22, 21, 20, 19, 18, 17, 16, 15, 14, 13, 12, 11, 10, 9, 8, 7, 6, 5, 1, 0, 4, 3, 2]⟩,
  ⟨.loc 59, .bin .int .sub (.loc 58) (.const (.d (.int .i64 1))), some ((.loc 55), true), [25, 22, 21, 20, 19, 18, 17, 16, 15, 14, 13, 12, 11, 10, 9, 8, 7, 6, 5, 1, 0, 4, 3, 2]⟩,
  ⟨.loc 60, .idxA 6 (.loc 57) (.loc 59), some ((.loc 55), true), [24, 23, 26, 25, 22, 21, 20, 19, 18, 17, 16, 15, 14, 13, 12, 11, 10, 9, 8, 7, 6, 5, 1, 0, 4, 3, 2]⟩,
  ⟨.loc 61, .fld 0 (.loc 60), some ((.loc 55), true), [27, 24, 23, 26, 25, 22, 21, 20, 19, 18, 17, 16, 15, 14, 13, 12, 11, 10, 9, 8, 7, 6, 5, 1, 0, 4, 3, 2]⟩,
  ⟨.loc 62, .load false 1 (.loc 61), some ((.loc 55), true), [28, 27, 24, 23, 26, 25, 22, 21, 20, 19, 18, 17, 16, 15, 14, 13, 12, 11, 10, 9, 8, 7, 6, 5, 1, 0, 4, 3, 2]⟩,
  ⟨.loc 63, .fld 0 (.var 4), some ((.loc 55), true), [22, 21, 20, 19, 18, 17, 16, 15, 14, 13, 12, 11, 10, 9, 8, 7, 6, 5, 1, 0, 4, 3, 2]⟩,
  ⟨.loc 64, .load false 1 (.loc 63), some ((.loc 55), true), [30, 22, 21, 20, 19, 18, 17, 16, 15, 14, 13, 12, 11, 10, 9, 8, 7, 6, 5, 1, 0, 4, 3, 2]⟩,
  ⟨.loc 65, .bin .int .geq (.loc 62) (.loc 64), some ((.loc 55), true), [29, 28, 27, 24, 23, 26, 25, 31, 30, 22, 21, 20, 19, 18, 17, 16, 15, 14, 13, 12, 11, 10, 9, 8, 7, 6, 5, 1, 0, 4, 3, 2]⟩,
  ⟨.loc 66, .pick (.loc 55) (.loc 65) (.const (.d (.bool false))), some ((.loc 52), false), [32, 29, 28, 27, 24, 23, 26, 25, 31, 30, 22, 21, 20, 19, 18, 17, 16, 15, 14, 13, 12, 11, 10, 9, 8, 7, 6, 5, 1, 0, 4, 3, 2]⟩,
  ⟨.var 67, .pick (.loc 52) (.const (.d (.bool true))) (.loc 66), none, [33, 32, 29, 28, 27, 24, 23, 26, 25, 31, 30, 22, 21, 20, 19, 18, 17, 16, 15, 14, 13, 12, 11, 10, 9, 8, 7, 6, 5, 1, 0, 4, 3, 2]⟩] true
def c_S_RackOk_7 : ACode := .reg [⟨.var 2, .mv (.const (.d (.bool false))), none, []⟩] false
def c_S_RackOk_8 : ACode := .reg [⟨.loc 26, .mv (.var 3), none, []⟩,
  ⟨.loc 27, .bin .int .add (.loc 26) (.const (.d (.int .i64 1))), none, []⟩,
  ⟨.var 3, .mv (.loc 27), none, []⟩] false
def c_S_RackOk_9 : ACode := (.seq (.seq c_S_RackOk_4 (.cond (.var 25) .skip (.exit 0))) (.seq (.block 1 (.seq c_S_RackOk_5 (.seq c_S_RackOk_6 (.cond (.var 67) (.seq c_S_RackOk_7 .ret) .skip)))) c_S_RackOk_8))
def c_S_RackOk_10 : ACode := .reg [⟨.var 2, .mv (.const (.d (.bool true))), none, []⟩] false
def c_S_RackOk : ACode := (.seq c_S_RackOk_0 (.seq (.seq c_S_RackOk_1 (.cond (.var 20) (.seq c_S_RackOk_2 .ret) .skip)) (.seq (.seq c_S_RackOk_3 (.block 0 (.loop [1, 3] c_S_RackOk_9))) (.seq c_S_RackOk_10 .ret))))
abbrev F_S_RackOk : FuncId := 28
theorem k_S_RackOk : comp PP (Tryd.f28.ntmps, pinOf 0 [none]) [0, 1, 2, 3, 4, 20, 25, 67] (Tryd.f28.body.getD .skip) = some c_S_RackOk.erase := by kernel_rfl
theorem v_S_RackOk {GG : GV} (rcs : List C) {cs : List C} {r : C} {os : List (Option C)} (hN : (cs.length == 1 && rcs.length == 1) = true) (hret : retOf rcs = r)
    (hW : W PP [0, 1, 2, 3, 4, 20, 25, 67] (Tryd.f28.ntmps, pinOf 0 [none]) (Valid PP GG) c_S_RackOk (entry cs) (Fin (Valid PP GG) [(.give, 2, none)] [none] rcs os) (fun _ _ => False) (Fin (Valid PP GG) [(.give, 2, none)] [none] rcs os)) : Valid PP GG F_S_RackOk cs r os :=
  fn_valid_n 1 1 [0, 1, 2, 3, 4, 20, 25, 67] c_S_RackOk [(.give, 2, none)] [none] rcs Tryd.func28 rfl rfl (by kernel_rfl) k_S_RackOk rfl rfl hN hret hW
def c_S_l14Copy_0 : ACode := .reg [⟨.var 1, .box (.var 0), none, []⟩,
  ⟨.var 2, .alloc [.d (.int .i64 0), .d (.int .i64 0), .nil 1 6], none, []⟩] false
def c_S_l14Copy_1 : ACode := .reg [⟨.loc 5, .fld 0 (.var 1), none, []⟩,
  ⟨.loc 6, .load false 1 (.loc 5), none, []⟩,
  ⟨.loc 7, .fld 1 (.var 1), none, []⟩,
  ⟨.loc 8, .load false 1 (.loc 7), none, []⟩,
  ⟨.loc 9, .build [.d (.int .i64 0), .d (.int .i64 0), .nil 1 6] [(0, 1, (.loc 6)), (1, 1, (.loc 8))], none, []⟩,
  ⟨.var 3, .alloc [.d (.int .i64 0), .d (.int .i64 0), .nil 1 6], none, []⟩,
  ⟨.none, .store 3 (.var 3) (.loc 9), none, []⟩] false
def c_S_l14Copy_2 : ACode := .reg [⟨.var 4, .mv (.const (.d (.int .i64 0))), none, []⟩] false
def c_S_l14Copy_3 : ACode := .reg [⟨.loc 10, .mv (.var 4), none, []⟩,
  ⟨.loc 11, .fld 2 (.var 1), none, []⟩,
  ⟨.loc 12, .load false 1 (.loc 11), none, []⟩,
  ⟨.loc 13, .len false (.loc 12), none, []⟩,
  ⟨.var 14, .bin .int .lss (.loc 10) (.loc 13), none, []⟩] false
def c_S_l14Copy_4 : ACode := .reg [⟨.loc 17, .fld 2 (.var 3), none, []⟩,
  ⟨.loc 18, .load false 1 (.loc 17), none, [0]⟩,
  ⟨.loc 19, .fld 2 (.var 1), none, []⟩,
  ⟨.loc 20, .load false 1 (.loc 19), none, [2]⟩,
  ⟨.loc 21, .mv (.var 4), none, []⟩,
  ⟨.loc 22, .idxA 6 (.loc 20) (.loc 21), none, [3, 2, 4]⟩,
  ⟨.loc 23, .load true 6 (.loc 22), none, [5, 3, 2, 4]⟩,
  ⟨.loc 24, .call (.fn 30) [(.loc 23)] [.borrow], none, [6, 5, 3, 2, 4]⟩,
  ⟨.loc 25, .lit 1 6 1 [.int .i64 0, .int .i64 0, .str [], .int .i64 0, .slc 1 [], .int .i64 0] [(0, (.loc 24))], none, [7, 6, 5, 3, 2, 4]⟩,
  ⟨.loc 26, .app 6 72 (.loc 18) (.loc 25), none, [1, 0, 8, 7, 6, 5, 3, 2, 4]⟩,
  ⟨.loc 27, .fld 2 (.var 3), none, [9, 1, 0, 8, 7, 6, 5, 3, 2, 4]⟩,
  ⟨.none, .store 1 (.loc 27) (.loc 26), none, [10, 9, 1, 0, 8, 7, 6, 5, 3, 2, 4]⟩] true
def c_S_l14Copy_5 : ACode := .reg [⟨.loc 15, .mv (.var 4), none, []⟩,
  ⟨.loc 16, .bin .int .add (.loc 15) (.const (.d (.int .i64 1))), none, []⟩,
  ⟨.var 4, .mv (.loc 16), none, []⟩] false
def c_S_l14Copy_6 : ACode := (.seq (.seq c_S_l14Copy_3 (.cond (.var 14) .skip (.exit 0))) (.seq (.block 1 c_S_l14Copy_4) c_S_l14Copy_5))
def c_S_l14Copy_7 : ACode := .reg [⟨.loc 28, .load true 3 (.var 3), none, []⟩,
  ⟨.none, .store 3 (.var 2) (.loc 28), none, []⟩] false
def c_S_l14Copy : ACode := (.seq c_S_l14Copy_0 (.seq c_S_l14Copy_1 (.seq (.seq c_S_l14Copy_2 (.block 0 (.loop [1, 2, 3, 4] c_S_l14Copy_6))) (.seq c_S_l14Copy_7 .ret))))
abbrev F_S_l14Copy : FuncId := 29
theorem k_S_l14Copy : comp PP (Tryd.f29.ntmps, pinOf 0 [none]) [0, 1, 2, 3, 4, 14] (Tryd.f29.body.getD .skip) = some c_S_l14Copy.erase := by kernel_rfl
theorem v_S_l14Copy {GG : GV} (rcs : List C) {cs : List C} {r : C} {os : List (Option C)} (hN : (cs.length == 1 && rcs.length == 1) = true) (hret : retOf rcs = r)
    (hW : W PP [0, 1, 2, 3, 4, 14] (Tryd.f29.ntmps, pinOf 0 [none]) (Valid PP GG) c_S_l14Copy (entry cs) (Fin (Valid PP GG) [(.give, 2, some (true, 3))] [none] rcs os) (fun _ _ => False) (Fin (Valid PP GG) [(.give, 2, some (true, 3))] [none] rcs os)) : Valid PP GG F_S_l14Copy cs r os :=
  fn_valid_n 1 1 [0, 1, 2, 3, 4, 14] c_S_l14Copy [(.give, 2, some (true, 3))] [none] rcs Tryd.func29 rfl rfl (by kernel_rfl) k_S_l14Copy rfl rfl hN hret hW
def c_S_l14CopyWrap_0 : ACode := .reg [⟨.var 1, .box (.var 0), none, []⟩,
  ⟨.var 2, .alloc [.d (.int .i64 0), .d (.int .i64 0), .d (.str []), .d (.int .i64 0), .nil 0 1, .d (.int .i64 0)], none, []⟩] false
def c_S_l14CopyWrap_1 : ACode := .reg [⟨.loc 3, .fld 3 (.var 1), none, []⟩,
  ⟨.loc 4, .fld 1 (.loc 3), none, []⟩,
  ⟨.loc 5, .load false 1 (.loc 4), none, []⟩,
  ⟨.loc 6, .call (.fn 58) [(.loc 5)] [.borrow], none, []⟩,
  ⟨.loc 7, .fld 3 (.var 1), none, []⟩,
  ⟨.loc 8, .fld 1 (.loc 7), none, []⟩,
  ⟨.none, .store 1 (.loc 8) (.loc 6), none, []⟩] false
def c_S_l14CopyWrap_2 : ACode := .reg [⟨.loc 9, .load true 6 (.var 1), none, []⟩,
  ⟨.none, .store 6 (.var 2) (.loc 9), none, []⟩] false
def c_S_l14CopyWrap : ACode := (.seq c_S_l14CopyWrap_0 (.seq c_S_l14CopyWrap_1 (.seq c_S_l14CopyWrap_2 .ret)))
abbrev F_S_l14CopyWrap : FuncId := 30
theorem k_S_l14CopyWrap : comp PP (Tryd.f30.ntmps, pinOf 0 [none]) [0, 1, 2] (Tryd.f30.body.getD .skip) = some c_S_l14CopyWrap.erase := by kernel_rfl
theorem v_S_l14CopyWrap {GG : GV} (rcs : List C) {cs : List C} {r : C} {os : List (Option C)} (hN : (cs.length == 1 && rcs.length == 1) = true) (hret : retOf rcs = r)
    (hW : W PP [0, 1, 2] (Tryd.f30.ntmps, pinOf 0 [none]) (Valid PP GG) c_S_l14CopyWrap (entry cs) (Fin (Valid PP GG) [(.give, 2, some (true, 6))] [none] rcs os) (fun _ _ => False) (Fin (Valid PP GG) [(.give, 2, some (true, 6))] [none] rcs os)) : Valid PP GG F_S_l14CopyWrap cs r os :=
  fn_valid_n 1 1 [0, 1, 2] c_S_l14CopyWrap [(.give, 2, some (true, 6))] [none] rcs Tryd.func30 rfl rfl (by kernel_rfl) k_S_l14CopyWrap rfl rfl hN hret hW
def c_L_toWrapS_0 : ACode := .reg [⟨.var 2, .mv (.const (.nil 1 6)), none, []⟩] false
def c_L_toWrapS_1 : ACode := .reg [⟨.loc 5, .mv (.var 0), none, []⟩,
  ⟨.loc 6, .len false (.loc 5), none, []⟩,
  ⟨.loc 7, .mkslice 1 6 72 [.int .i64 0, .int .i64 0, .str [], .int .i64 0, .slc 1 [], .int .i64 0] (.loc 6) (.loc 6), none, []⟩,
  ⟨.var 3, .mv (.loc 7), none, []⟩] false
def c_L_toWrapS_2 : ACode := .reg [⟨.var 4, .mv (.const (.d (.int .i64 0))), none, []⟩] false
def c_L_toWrapS_3 : ACode := .reg [⟨.loc 8, .mv (.var 4), none, []⟩,
  ⟨.loc 9, .mv (.var 0), none, []⟩,
  ⟨.loc 10, .len false (.loc 9), none, []⟩,
  ⟨.var 11, .bin .int .lss (.loc 8) (.loc 10), none, []⟩] false
def c_L_toWrapS_4 : ACode := .reg [⟨.loc 14, .mv (.var 3), none, []⟩,
  ⟨.loc 15, .mv (.var 4), none, []⟩,
  ⟨.loc 16, .mv (.var 0), none, []⟩,
  ⟨.loc 17, .mv (.var 4), none, []⟩,
  ⟨.loc 18, .idxA 6 (.loc 16) (.loc 17), none, []⟩,
  ⟨.loc 19, .load true 6 (.loc 18), none, []⟩,
  ⟨.loc 20, .call (.fn 59) [(.loc 19)] [.borrow], none, []⟩,
  ⟨.loc 21, .idxA 6 (.loc 14) (.loc 15), none, []⟩,
  ⟨.none, .store 6 (.loc 21) (.loc 20), none, []⟩] false
def c_L_toWrapS_5 : ACode := .reg [⟨.loc 12, .mv (.var 4), none, []⟩,
  ⟨.loc 13, .bin .int .add (.loc 12) (.const (.d (.int .i64 1))), none, []⟩,
  ⟨.var 4, .mv (.loc 13), none, []⟩] false
def c_L_toWrapS_6 : ACode := (.seq (.seq c_L_toWrapS_3 (.cond (.var 11) .skip (.exit 0))) (.seq (.block 1 c_L_toWrapS_4) c_L_toWrapS_5))
def c_L_toWrapS_7 : ACode := .reg [⟨.loc 22, .mv (.var 3), none, []⟩,
  ⟨.var 2, .mv (.loc 22), none, []⟩] false
def c_L_toWrapS : ACode := (.seq c_L_toWrapS_0 (.seq c_L_toWrapS_1 (.seq (.seq c_L_toWrapS_2 (.block 0 (.loop [0, 3, 4] c_L_toWrapS_6))) (.seq c_L_toWrapS_7 .ret))))
abbrev F_L_toWrapS : FuncId := 31
theorem k_L_toWrapS : comp PP (Tryd.f31.ntmps, pinOf 0 [none]) [0, 2, 3, 4, 11] (Tryd.f31.body.getD .skip) = some c_L_toWrapS.erase := by kernel_rfl
theorem v_L_toWrapS {GG : GV} (rcs : List C) {cs : List C} {r : C} {os : List (Option C)} (hN : (cs.length == 1 && rcs.length == 1) = true) (hret : retOf rcs = r)
    (hW : W PP [0, 2, 3, 4, 11] (Tryd.f31.ntmps, pinOf 0 [none]) (Valid PP GG) c_L_toWrapS (entry cs) (Fin (Valid PP GG) [(.give, 2, none)] [none] rcs os) (fun _ _ => False) (Fin (Valid PP GG) [(.give, 2, none)] [none] rcs os)) : Valid PP GG F_L_toWrapS cs r os :=
  fn_valid_n 1 1 [0, 2, 3, 4, 11] c_L_toWrapS [(.give, 2, none)] [none] rcs Tryd.func31 rfl rfl (by kernel_rfl) k_L_toWrapS rfl rfl hN hret hW
def c_I_isRack_0 : ACode := .reg [⟨.var 1, .box (.var 0), none, []⟩,
  ⟨.var 2, .mv (.const (.d (.bool false))), none, []⟩] false
def c_I_isRack_1 : ACode := .reg [⟨.loc 5, .fld 0 (.var 1), none, []⟩,
  ⟨.loc 6, .load false 1 (.loc 5), none, []⟩,
  ⟨.loc 7, .call (.fn 53) [(.loc 6)] [.borrow], none, []⟩,
  ⟨.loc 8, .un .not (.loc 7), none, []⟩,
  ⟨.loc 9, .split (.loc 8), none, []⟩,
  ⟨.loc 10, .fld 1 (.var 1), some ((.loc 9), false), []⟩,
  ⟨.loc 11, .load false 1 (.loc 10), some ((.loc 9), false), []⟩,
  ⟨.loc 12, .call (.fn 51) [(.loc 11), (.const (.d (.int .i64 1))), (.const (.d (.int .i64 1000000000)))] [.borrow, .borrow, .borrow], some ((.loc 9), false), []⟩,
  ⟨.loc 13, .un .not (.loc 12), some ((.loc 9), false), []⟩,
  ⟨.loc 14, .pick (.loc 9) (.const (.d (.bool true))) (.loc 13), none, []⟩,
  ⟨.loc 15, .split (.loc 14), none, []⟩,
  ⟨.loc 16, .fld 2 (.var 1), some ((.loc 15), false), []⟩,
  ⟨.loc 17, .load false 1 (.loc 16), some ((.loc 15), false), []⟩,
  ⟨.loc 18, .len false (.loc 17), some ((.loc 15), false), []⟩,
  ⟨.loc 19, .bin .int .gtr (.loc 18) (.const (.d (.int .i64 60))), some ((.loc 15), false), []⟩,
  ⟨.var 20, .pick (.loc 15) (.const (.d (.bool true))) (.loc 19), none, []⟩] false
def c_I_isRack_2 : ACode := .reg [⟨.var 2, .mv (.const (.d (.bool false))), none, []⟩] false
def c_I_isRack_3 : ACode := .reg [⟨.loc 21, .fld 2 (.var 1), none, []⟩,
  ⟨.var 22, .load false 1 (.loc 21), none, []⟩,
  ⟨.var 23, .len false (.var 22), none, []⟩,
  ⟨.var 24, .mv (.const (.d (.int .i64 0))), none, []⟩] false
def c_I_isRack_4 : ACode := .reg [⟨.var 25, .bin .int .lss (.var 24) (.var 23), none, []⟩] false
def c_I_isRack_5 : ACode := .reg [⟨.loc 26, .mv (.var 24), none, []⟩,
  ⟨.loc 27, .idxA 6 (.var 22) (.var 24), none, []⟩,
  ⟨.loc 28, .load true 6 (.loc 27), none, []⟩,
  ⟨.var 4, .alloc [.d (.int .i64 0), .d (.int .i64 0), .d (.str []), .d (.int .i64 0), .nil 0 1, .d (.int .i64 0)], none, []⟩,
  ⟨.var 3, .mv (.loc 26), none, []⟩,
  ⟨.none, .store 6 (.var 4) (.loc 28), none, []⟩] false
def c_I_isRack_6 : ACode := .reg [⟨.loc 29, .fld 0 (.var 4), none, []⟩,
  ⟨.loc 30, .load false 1 (.loc 29), none, [0]⟩,
  ⟨.loc 31, .fld 1 (.var 1), none, []⟩,
  ⟨.loc 32, .load false 1 (.loc 31), none, [2]⟩,
  ⟨.loc 33, .bin .int .sub (.loc 32) (.const (.d (.int .i64 1))), none, [3, 2]⟩,
  ⟨.loc 34, .call (.fn 51) [(.loc 30), (.const (.d (.int .i64 1))), (.loc 33)] [.borrow, .borrow, .borrow], none, [1, 0, 4, 3, 2]⟩,
  ⟨.loc 35, .un .not (.loc 34), none, [5, 1, 0, 4, 3, 2]⟩,
  ⟨.loc 36, .split (.loc 35), none, [6, 5, 1, 0, 4, 3, 2]⟩,
  ⟨.loc 37, .fld 1 (.var 4), some ((.loc 36), false), [7, 6, 5, 1, 0, 4, 3, 2]⟩,
  ⟨.loc 38, .load false 1 (.loc 37), some ((.loc 36), false), [8, 7, 6, 5, 1, 0, 4, 3, 2]⟩,
  ⟨.loc 39, .call (.fn 51) [(.loc 38), (.const (.d (.int .i64 1))), (.const (.d (.int .i64 1000000000)))] [.borrow, .borrow, .borrow], some ((.loc 36), false), [9, 8, 7, 6, 5, 1, 0, 4, 3, 2]⟩,
  ⟨.loc 40, .un .not (.loc 39), some ((.loc 36), false), [10, 9, 8, 7, 6, 5, 1, 0, 4, 3, 2]⟩,
  ⟨.loc 41, .pick (.loc 36) (.const (.d (.bool true))) (.loc 40), none, [11, 10, 9, 8, 7, 6, 5, 1, 0, 4, 3, 2]⟩,
  ⟨.loc 42, .split (.loc 41), none, [12, 11, 10, 9, 8, 7, 6, 5, 1, 0, 4, 3, 2]⟩,
  ⟨.loc 43, .fld 2 (.var 4), some ((.loc 42), false), [13, 12, 11, 10, 9, 8, 7, 6, 5, 1, 0, 4, 3, 2]⟩,
  ⟨.loc 44, .load false 1 (.loc 43), some ((.loc 42), false), [14, 13, 12, 11, 10, 9, 8, 7, 6, 5, 1, 0, 4, 3, 2]⟩,
  ⟨.loc 45, .call (.fn 60) [(.loc 44)] [.borrow], some ((.loc 42), false), [15, 14, 13, 12, 11, 10, 9, 8, 7, 6, 5, 1, 0, 4, 3, 2]⟩,
  ⟨.loc 46, .un .not (.loc 45), some ((.loc 42), false), [16, 15, 14, 13, 12, 11, 10, 9, 8, 7, 6, 5, 1, 0, 4, 3, 2]⟩,
  ⟨.loc 47, .pick (.loc 42) (.const (.d (.bool true))) (.loc 46), none, [17, 16, 15, 14, 13, 12, 11, 10, 9, 8, 7, 6, 5, 1, 0, 4, 3, 2]⟩,
  ⟨.loc 48, .split (.loc 47), none, [18, 17, 16, 15, 14, 13, 12, 11, 10, 9, 8, 7, 6, 5, 1, 0, 4, 3, 2]⟩,
  ⟨.loc 49, .mv (.var 3), some ((.loc 48), false), [19, 18, 17, 16, 15, 14, 13, 12, 11, 10, 9, 8, 7, 6, 5, 1, 0, 4, 3, 2]⟩,
  ⟨.loc 50, .bin .int .gtr (.loc 49) (.const (.d (.int .i64 0))), some ((.loc 48), false), [20, 19, 18, 17, 16, 15, 14, 13, 12, 11, 10, 9, 8, 7, 6, 5, 1, 0, 4, 3, 2]⟩,
  ⟨.loc 51, .split (.loc 50), some ((.loc 48), false), [21, 20, 19, 18, 17, 16, 15, 14, 13, 12, 11, 10, 9, 8, 7, 6, 5, 1, 0, 4, 3, 2]⟩,
  ⟨.loc 52, .fld 2 (.var 1), some ((.loc 51), true), [22, 21, 20, 19, 18, 17, 16, 15, 14, 13, 12, 11, 10, 9, 8, 7, 6, 5, 1, 0, 4, 3, 2]⟩,
  ⟨.loc 53, .load false 1 (.loc 52), some ((.loc 51), true), [23, 22, 21, 20, 19, 18, 17, 16, 15, 14, 13, 12, 11, 10, 9, 8, 7, 6, 5, 1, 0, 4, 3, 2]⟩,
  ⟨.loc 54, .mv (.var 3), some ((.loc 51), true), [22, 21, 20, 19, 18, 17, 16, 15, 14, 13, 12, 11, 10, 9, 8, 7, 6, 5, 1, 0, 4, 3, 2]⟩,
  ⟨.loc 55, .bin .int .sub (.loc 54) (.const (.d (.int .i64 1))), some ((.loc 51), true), [25, 22, 21, 20, 19, 18, 17, 16, 15, 14, 13, 12, 11, 10, 9, 8, 7, 6, 5, 1, 0, 4, 3, 2]⟩,
  ⟨.loc 56, .idxA 6 (.loc 53) (.loc 55), some ((.loc 51), true), [24, 23, 26, 25, 22, 21, 20, 19, 18, 17, 16, 15, 14, 13, 12, 11, 10, 9, 8, 7, 6, 5, 1, 0, 4, 3, 2]⟩,
  ⟨.loc 57, .fld 0 (.loc 56), some ((.loc 51), true), [27, 24, 23, 26, 25, 22, 21, 20, 19, 18, 17, 16, 15, 14, 13, 12, 11, 10, 9, 8, 7, 6, 5, 1, 0, 4, 3, 2]⟩,
  ⟨.loc 58, .load false 1 (.loc 57), some ((.loc 51), true), [28, 27, 24, 23, 26, 25, 22, 21, 20, 19, 18, 17, 16, 15, 14, 13, 12, 11, 10, 9, 8, 7, 6, 5, 1, 0, 4, 3, 2]⟩,
  ⟨.loc 59, .fld 0 (.var 4), some ((.loc 51), true), [22, 21, 20, 19, 18, 17, 16, 15, 14, 13, 12, 11, 10, 9, 8, 7, 6, 5, 1, 0, 4, 3, 2]⟩,
  ⟨.loc 60, .load false 1 (.loc 59), some ((.loc 51), true), [30, 22, 21, 20, 19, 18, 17, 16, 15, 14, 13, 12, 11, 10, 9, 8, 7, 6, 5, 1, 0, 4, 3, 2]⟩,
  ⟨.loc 61, .bin .int .geq (.loc 58) (.loc 60), some ((.loc 51), true), [29, 28, 27, 24, 23, 26, 25, 31, 30, 22, 21, 20, 19, 18, 17, 16, 15, 14, 13, 12, 11, 10, 9, 8, 7, 6, 5, 1, 0, 4, 3, 2]⟩,
  ⟨.loc 62, .pick (.loc 51) (.loc 61) (.const (.d (.bool false))), some ((.loc 48), false), [32, 29, 28, 27, 24, 23, 26, 25, 31, 30, 22, 21, 20, 19, 18, 17, 16, 15, 14, 13, 12, 11, 10, 9, 8, 7, 6, 5, 1, 0, 4, 3, 2]⟩,
  ⟨.var 63, .pick (.loc 48) (.const (.d (.bool true))) (.loc 62), none, [33, 32, 29, 28, 27, 24, 23, 26, 25, 31, 30, 22, 21, 20, 19, 18, 17, 16, 15, 14, 13, 12, 11, 10, 9, 8, 7, 6, 5, 1, 0, 4, 3, 2]⟩] true
def c_I_isRack_7 : ACode := .reg [⟨.var 2, .mv (.const (.d (.bool false))), none, []⟩] false
def c_I_isRack_8 : ACode := .reg [⟨.loc 64, .bin .int .add (.var 24) (.const (.d (.int .i64 1))), none, []⟩,
  ⟨.var 24, .mv (.loc 64), none, []⟩] false
def c_I_isRack_9 : ACode := (.seq c_I_isRack_4 (.seq (.cond (.var 25) .skip (.exit 0)) (.seq (.block 1 (.seq c_I_isRack_5 (.seq c_I_isRack_6 (.cond (.var 63) (.seq c_I_isRack_7 .ret) .skip)))) c_I_isRack_8)))
def c_I_isRack_10 : ACode := .reg [⟨.var 2, .mv (.const (.d (.bool true))), none, []⟩] false
def c_I_isRack : ACode := (.seq c_I_isRack_0 (.seq (.seq c_I_isRack_1 (.cond (.var 20) (.seq c_I_isRack_2 .ret) .skip)) (.seq (.seq c_I_isRack_3 (.block 0 (.loop [1, 22, 23, 24] c_I_isRack_9))) (.seq c_I_isRack_10 .ret))))
abbrev F_I_isRack : FuncId := 32
theorem k_I_isRack : comp PP (Tryd.f32.ntmps, pinOf 0 [none]) [0, 1, 2, 3, 4, 20, 22, 23, 24, 25, 63] (Tryd.f32.body.getD .skip) = some c_I_isRack.erase := by kernel_rfl
theorem v_I_isRack {GG : GV} (rcs : List C) {cs : List C} {r : C} {os : List (Option C)} (hN : (cs.length == 1 && rcs.length == 1) = true) (hret : retOf rcs = r)
    (hW : W PP [0, 1, 2, 3, 4, 20, 22, 23, 24, 25, 63] (Tryd.f32.ntmps, pinOf 0 [none]) (Valid PP GG) c_I_isRack (entry cs) (Fin (Valid PP GG) [(.give, 2, none)] [none] rcs os) (fun _ _ => False) (Fin (Valid PP GG) [(.give, 2, none)] [none] rcs os)) : Valid PP GG F_I_isRack cs r os :=
  fn_valid_n 1 1 [0, 1, 2, 3, 4, 20, 22, 23, 24, 25, 63] c_I_isRack [(.give, 2, none)] [none] rcs Tryd.func32 rfl rfl (by kernel_rfl) k_I_isRack rfl rfl hN hret hW
def c_I_cloneRack_0 : ACode := .reg [⟨.var 1, .box (.var 0), none, []⟩,
  ⟨.var 2, .alloc [.d (.int .i64 0), .d (.int .i64 0), .nil 1 6], none, []⟩] false
def c_I_cloneRack_1 : ACode := .reg [⟨.loc 6, .fld 0 (.var 1), none, []⟩,
  ⟨.loc 7, .load false 1 (.loc 6), none, []⟩,
  ⟨.loc 8, .fld 1 (.var 1), none, []⟩,
  ⟨.loc 9, .load false 1 (.loc 8), none, []⟩,
  ⟨.loc 10, .build [.d (.int .i64 0), .d (.int .i64 0), .nil 1 6] [(0, 1, (.loc 7)), (1, 1, (.loc 9))], none, []⟩,
  ⟨.var 3, .alloc [.d (.int .i64 0), .d (.int .i64 0), .nil 1 6], none, []⟩,
  ⟨.none, .store 3 (.var 3) (.loc 10), none, []⟩] false
def c_I_cloneRack_2 : ACode := .reg [⟨.loc 11, .fld 2 (.var 1), none, []⟩,
  ⟨.var 12, .load false 1 (.loc 11), none, []⟩,
  ⟨.var 13, .len false (.var 12), none, []⟩,
  ⟨.var 14, .mv (.const (.d (.int .i64 0))), none, []⟩] false
def c_I_cloneRack_3 : ACode := .reg [⟨.var 15, .bin .int .lss (.var 14) (.var 13), none, []⟩] false
def c_I_cloneRack_4 : ACode := .reg [⟨.loc 16, .idxA 6 (.var 12) (.var 14), none, []⟩,
  ⟨.loc 17, .load true 6 (.loc 16), none, []⟩,
  ⟨.var 5, .alloc [.d (.int .i64 0), .d (.int .i64 0), .d (.str []), .d (.int .i64 0), .nil 0 1, .d (.int .i64 0)], none, []⟩,
  ⟨.none, .store 6 (.var 5) (.loc 17), none, []⟩] false
def c_I_cloneRack_5 : ACode := .reg [⟨.loc 18, .fld 3 (.var 5), none, []⟩,
  ⟨.loc 19, .fld 1 (.loc 18), none, []⟩,
  ⟨.loc 20, .load false 1 (.loc 19), none, []⟩,
  ⟨.loc 21, .call (.fn 61) [(.loc 20)] [.borrow], none, []⟩,
  ⟨.loc 22, .fld 3 (.var 5), none, []⟩,
  ⟨.loc 23, .fld 1 (.loc 22), none, []⟩,
  ⟨.none, .store 1 (.loc 23) (.loc 21), none, []⟩] false
def c_I_cloneRack_6 : ACode := .reg [⟨.loc 24, .fld 2 (.var 3), none, []⟩,
  ⟨.loc 25, .load false 1 (.loc 24), none, []⟩,
  ⟨.loc 26, .load true 6 (.var 5), none, []⟩,
  ⟨.loc 27, .lit 1 6 1 [.int .i64 0, .int .i64 0, .str [], .int .i64 0, .slc 1 [], .int .i64 0] [(0, (.loc 26))], none, []⟩,
  ⟨.loc 28, .app 6 72 (.loc 25) (.loc 27), none, []⟩,
  ⟨.loc 29, .fld 2 (.var 3), none, []⟩,
  ⟨.none, .store 1 (.loc 29) (.loc 28), none, []⟩] false
def c_I_cloneRack_7 : ACode := .reg [⟨.loc 30, .bin .int .add (.var 14) (.const (.d (.int .i64 1))), none, []⟩,
  ⟨.var 14, .mv (.loc 30), none, []⟩] false
def c_I_cloneRack_8 : ACode := (.seq c_I_cloneRack_3 (.seq (.cond (.var 15) .skip (.exit 0)) (.seq (.block 1 (.seq c_I_cloneRack_4 (.seq c_I_cloneRack_5 c_I_cloneRack_6))) c_I_cloneRack_7)))
def c_I_cloneRack_9 : ACode := .reg [⟨.loc 31, .load true 3 (.var 3), none, []⟩,
  ⟨.none, .store 3 (.var 2) (.loc 31), none, []⟩] false
def c_I_cloneRack : ACode := (.seq c_I_cloneRack_0 (.seq c_I_cloneRack_1 (.seq (.seq c_I_cloneRack_2 (.block 0 (.loop [2, 3, 12, 13, 14] c_I_cloneRack_8))) (.seq c_I_cloneRack_9 .ret))))
abbrev F_I_cloneRack : FuncId := 33
theorem k_I_cloneRack : comp PP (Tryd.f33.ntmps, pinOf 0 [none]) [0, 1, 2, 3, 5, 12, 13, 14, 15] (Tryd.f33.body.getD .skip) = some c_I_cloneRack.erase := by kernel_rfl
theorem v_I_cloneRack {GG : GV} (rcs : List C) {cs : List C} {r : C} {os : List (Option C)} (hN : (cs.length == 1 && rcs.length == 1) = true) (hret : retOf rcs = r)
    (hW : W PP [0, 1, 2, 3, 5, 12, 13, 14, 15] (Tryd.f33.ntmps, pinOf 0 [none]) (Valid PP GG) c_I_cloneRack (entry cs) (Fin (Valid PP GG) [(.give, 2, some (true, 3))] [none] rcs os) (fun _ _ => False) (Fin (Valid PP GG) [(.give, 2, some (true, 3))] [none] rcs os)) : Valid PP GG F_I_cloneRack cs r os :=
  fn_valid_n 1 1 [0, 1, 2, 3, 5, 12, 13, 14, 15] c_I_cloneRack [(.give, 2, some (true, 3))] [none] rcs Tryd.func33 rfl rfl (by kernel_rfl) k_I_cloneRack rfl rfl hN hret hW
def c_L_eqWrapS_0 : ACode := .reg [⟨.var 4, .mv (.const (.d (.bool false))), none, []⟩] false
def c_L_eqWrapS_1 : ACode := .reg [⟨.loc 6, .mv (.var 0), none, []⟩,
  ⟨.loc 7, .len false (.loc 6), none, []⟩,
  ⟨.loc 8, .mv (.var 1), none, []⟩,
  ⟨.loc 9, .len false (.loc 8), none, []⟩,
  ⟨.var 10, .bin .int .neq (.loc 7) (.loc 9), none, []⟩] false
def c_L_eqWrapS_2 : ACode := .reg [⟨.var 4, .mv (.const (.d (.bool false))), none, []⟩] false
def c_L_eqWrapS_3 : ACode := .reg [⟨.var 5, .mv (.const (.d (.int .i64 0))), none, []⟩] false
def c_L_eqWrapS_4 : ACode := .reg [⟨.loc 11, .mv (.var 5), none, []⟩,
  ⟨.loc 12, .mv (.var 0), none, []⟩,
  ⟨.loc 13, .len false (.loc 12), none, []⟩,
  ⟨.var 14, .bin .int .lss (.loc 11) (.loc 13), none, []⟩] false
def c_L_eqWrapS_5 : ACode := .reg [⟨.loc 17, .mv (.var 0), none, []⟩,
  ⟨.loc 18, .mv (.var 5), none, []⟩,
  ⟨.loc 19, .idxA 6 (.loc 17) (.loc 18), none, [0, 1]⟩,
  ⟨.loc 20, .load true 6 (.loc 19), none, [2, 0, 1]⟩,
  ⟨.loc 21, .mv (.var 1), none, []⟩,
  ⟨.loc 22, .mv (.var 5), none, []⟩,
  ⟨.loc 23, .idxA 6 (.loc 21) (.loc 22), none, [4, 5]⟩,
  ⟨.loc 24, .load true 6 (.loc 23), none, [6, 4, 5]⟩,
  ⟨.loc 25, .call (.fn 64) [(.loc 20), (.loc 24)] [.borrow, .borrow], none, [3, 2, 0, 1, 7, 6, 4, 5]⟩,
  ⟨.var 26, .un .not (.loc 25), none, [8, 3, 2, 0, 1, 7, 6, 4, 5]⟩] true
def c_L_eqWrapS_6 : ACode := .reg [⟨.var 4, .mv (.const (.d (.bool false))), none, []⟩] false
def c_L_eqWrapS_7 : ACode := .reg [⟨.loc 15, .mv (.var 5), none, []⟩,
  ⟨.loc 16, .bin .int .add (.loc 15) (.const (.d (.int .i64 1))), none, []⟩,
  ⟨.var 5, .mv (.loc 16), none, []⟩] false
def c_L_eqWrapS_8 : ACode := (.seq (.seq c_L_eqWrapS_4 (.cond (.var 14) .skip (.exit 0))) (.seq (.block 1 (.seq c_L_eqWrapS_5 (.cond (.var 26) (.seq c_L_eqWrapS_6 .ret) .skip))) c_L_eqWrapS_7))
def c_L_eqWrapS_9 : ACode := .reg [⟨.var 4, .mv (.const (.d (.bool true))), none, []⟩] false
def c_L_eqWrapS : ACode := (.seq c_L_eqWrapS_0 (.seq (.seq c_L_eqWrapS_1 (.cond (.var 10) (.seq c_L_eqWrapS_2 .ret) .skip)) (.seq (.seq c_L_eqWrapS_3 (.block 0 (.loop [0, 1, 5] c_L_eqWrapS_8))) (.seq c_L_eqWrapS_9 .ret))))
abbrev F_L_eqWrapS : FuncId := 35
theorem k_L_eqWrapS : comp PP (Tryd.f35.ntmps, pinOf 0 [none, none]) [0, 1, 4, 5, 10, 14, 26] (Tryd.f35.body.getD .skip) = some c_L_eqWrapS.erase := by kernel_rfl
theorem v_L_eqWrapS {GG : GV} (rcs : List C) {cs : List C} {r : C} {os : List (Option C)} (hN : (cs.length == 2 && rcs.length == 1) = true) (hret : retOf rcs = r)
    (hW : W PP [0, 1, 4, 5, 10, 14, 26] (Tryd.f35.ntmps, pinOf 0 [none, none]) (Valid PP GG) c_L_eqWrapS (entry cs) (Fin (Valid PP GG) [(.give, 4, none)] [none, none] rcs os) (fun _ _ => False) (Fin (Valid PP GG) [(.give, 4, none)] [none, none] rcs os)) : Valid PP GG F_L_eqWrapS cs r os :=
  fn_valid_n 2 1 [0, 1, 4, 5, 10, 14, 26] c_L_eqWrapS [(.give, 4, none)] [none, none] rcs Tryd.func35 rfl rfl (by kernel_rfl) k_L_eqWrapS rfl rfl hN hret hW
def c_L_markWrapS_0 : ACode := .reg [⟨.var 4, .mv (.const (.d (.int .i64 0))), none, []⟩] false
def c_L_markWrapS_1 : ACode := .reg [⟨.var 5, .mv (.const (.d (.int .i64 0))), none, []⟩] false
def c_L_markWrapS_2 : ACode := .reg [⟨.loc 6, .mv (.var 5), none, []⟩,
  ⟨.loc 7, .mv (.var 0), none, []⟩,
  ⟨.loc 8, .len false (.loc 7), none, []⟩,
  ⟨.var 9, .bin .int .lss (.loc 6) (.loc 8), none, []⟩] false
def c_L_markWrapS_3 : ACode := .reg [⟨.loc 12, .mv (.var 0), none, []⟩,
  ⟨.loc 13, .mv (.var 5), none, []⟩,
  ⟨.loc 14, .mv (.var 1), none, []⟩,
  ⟨.loc 15, .idxA 6 (.loc 12) (.loc 13), none, []⟩,
  ⟨.loc 16, .fld 0 (.loc 15), none, []⟩,
  ⟨.none, .store 1 (.loc 16) (.loc 14), none, []⟩] false
def c_L_markWrapS_4 : ACode := .reg [⟨.loc 17, .mv (.var 1), none, []⟩,
  ⟨.loc 18, .bin .int .add (.loc 17) (.const (.d (.int .i64 1))), none, []⟩,
  ⟨.var 1, .mv (.loc 18), none, []⟩] false
def c_L_markWrapS_5 : ACode := .reg [⟨.loc 19, .mv (.var 0), none, []⟩,
  ⟨.loc 20, .mv (.var 5), none, []⟩,
  ⟨.loc 21, .mv (.var 1), none, []⟩,
  ⟨.loc 22, .idxA 6 (.loc 19) (.loc 20), none, []⟩,
  ⟨.loc 23, .fld 1 (.loc 22), none, []⟩,
  ⟨.none, .store 1 (.loc 23) (.loc 21), none, []⟩] false
def c_L_markWrapS_6 : ACode := .reg [⟨.loc 24, .mv (.var 1), none, []⟩,
  ⟨.loc 25, .bin .int .add (.loc 24) (.const (.d (.int .i64 1))), none, []⟩,
  ⟨.var 1, .mv (.loc 25), none, []⟩] false
def c_L_markWrapS_7 : ACode := .reg [⟨.loc 26, .mv (.var 0), none, []⟩,
  ⟨.loc 27, .mv (.var 5), none, []⟩,
  ⟨.loc 28, .mv (.var 1), none, []⟩,
  ⟨.loc 29, .call (.fn 65) [(.loc 28)] [.borrow], none, []⟩,
  ⟨.loc 30, .idxA 6 (.loc 26) (.loc 27), none, []⟩,
  ⟨.loc 31, .fld 2 (.loc 30), none, []⟩,
  ⟨.none, .store 1 (.loc 31) (.loc 29), none, []⟩] false
def c_L_markWrapS_8 : ACode := .reg [⟨.loc 32, .mv (.var 1), none, []⟩,
  ⟨.loc 33, .bin .int .add (.loc 32) (.const (.d (.int .i64 1))), none, []⟩,
  ⟨.var 1, .mv (.loc 33), none, []⟩] false
def c_L_markWrapS_9 : ACode := .reg [⟨.loc 34, .mv (.var 0), none, []⟩,
  ⟨.loc 35, .mv (.var 5), none, []⟩,
  ⟨.loc 36, .mv (.var 1), none, []⟩,
  ⟨.loc 37, .idxA 6 (.loc 34) (.loc 35), none, []⟩,
  ⟨.loc 38, .fld 3 (.loc 37), none, []⟩,
  ⟨.loc 39, .fld 0 (.loc 38), none, []⟩,
  ⟨.none, .store 1 (.loc 39) (.loc 36), none, []⟩] false
def c_L_markWrapS_10 : ACode := .reg [⟨.loc 40, .mv (.var 1), none, []⟩,
  ⟨.loc 41, .bin .int .add (.loc 40) (.const (.d (.int .i64 1))), none, []⟩,
  ⟨.var 1, .mv (.loc 41), none, []⟩] false
def c_L_markWrapS_11 : ACode := .reg [⟨.loc 42, .mv (.var 0), none, []⟩,
  ⟨.loc 43, .mv (.var 5), none, []⟩,
  ⟨.loc 44, .idxA 6 (.loc 42) (.loc 43), none, []⟩,
  ⟨.loc 45, .fld 3 (.loc 44), none, []⟩,
  ⟨.loc 46, .fld 1 (.loc 45), none, []⟩,
  ⟨.loc 47, .load false 1 (.loc 46), none, []⟩,
  ⟨.loc 48, .mv (.var 1), none, []⟩,
  ⟨.loc 49, .call (.fn 66) [(.loc 47), (.loc 48)] [.lend, .borrow], none, []⟩,
  ⟨.var 1, .mv (.loc 49), none, []⟩] false
def c_L_markWrapS_12 : ACode := .reg [⟨.loc 50, .mv (.var 0), none, []⟩,
  ⟨.loc 51, .mv (.var 5), none, []⟩,
  ⟨.loc 52, .mv (.var 1), none, []⟩,
  ⟨.loc 53, .idxA 6 (.loc 50) (.loc 51), none, []⟩,
  ⟨.loc 54, .fld 3 (.loc 53), none, []⟩,
  ⟨.loc 55, .fld 2 (.loc 54), none, []⟩,
  ⟨.none, .store 1 (.loc 55) (.loc 52), none, []⟩] false
def c_L_markWrapS_13 : ACode := .reg [⟨.loc 56, .mv (.var 1), none, []⟩,
  ⟨.loc 57, .bin .int .add (.loc 56) (.const (.d (.int .i64 1))), none, []⟩,
  ⟨.var 1, .mv (.loc 57), none, []⟩] false
def c_L_markWrapS_14 : ACode := .reg [⟨.loc 10, .mv (.var 5), none, []⟩,
  ⟨.loc 11, .bin .int .add (.loc 10) (.const (.d (.int .i64 1))), none, []⟩,
  ⟨.var 5, .mv (.loc 11), none, []⟩] false
def c_L_markWrapS_15 : ACode := (.seq (.seq c_L_markWrapS_2 (.cond (.var 9) .skip (.exit 0))) (.seq (.block 1 (.seq c_L_markWrapS_3 (.seq c_L_markWrapS_4 (.seq c_L_markWrapS_5 (.seq c_L_markWrapS_6 (.seq c_L_markWrapS_7 (.seq c_L_markWrapS_8 (.seq c_L_markWrapS_9 (.seq c_L_markWrapS_10 (.seq c_L_markWrapS_11 (.seq c_L_markWrapS_12 c_L_markWrapS_13))))))))))) c_L_markWrapS_14))
def c_L_markWrapS_16 : ACode := .reg [⟨.loc 58, .mv (.var 1), none, []⟩,
  ⟨.var 4, .mv (.loc 58), none, []⟩] false
def c_L_markWrapS : ACode := (.seq c_L_markWrapS_0 (.seq (.seq c_L_markWrapS_1 (.block 0 (.loop [0, 1, 5] c_L_markWrapS_15))) (.seq c_L_markWrapS_16 .ret)))
abbrev F_L_markWrapS : FuncId := 36
theorem k_L_markWrapS : comp PP (Tryd.f36.ntmps, pinOf 0 [some .give, none]) [0, 1, 4, 5, 9] (Tryd.f36.body.getD .skip) = some c_L_markWrapS.erase := by kernel_rfl
theorem v_L_markWrapS {GG : GV} (rcs : List C) {cs : List C} {r : C} {os : List (Option C)} (hN : (cs.length == 2 && rcs.length == 1) = true) (hret : retOf rcs = r)
    (hW : W PP [0, 1, 4, 5, 9] (Tryd.f36.ntmps, pinOf 0 [some .give, none]) (Valid PP GG) c_L_markWrapS (entry cs) (Fin (Valid PP GG) [(.give, 4, none)] [some .give, none] rcs os) (fun _ _ => False) (Fin (Valid PP GG) [(.give, 4, none)] [some .give, none] rcs os)) : Valid PP GG F_L_markWrapS cs r os :=
  fn_valid_n 2 1 [0, 1, 4, 5, 9] c_L_markWrapS [(.give, 4, none)] [some .give, none] rcs Tryd.func36 rfl rfl (by kernel_rfl) k_L_markWrapS rfl rfl hN hret hW
def c_L_heldWrapS_0 : ACode := .reg [⟨.var 4, .mv (.const (.d (.int .i64 0))), none, []⟩] false
def c_L_heldWrapS_1 : ACode := .reg [⟨.var 5, .mv (.const (.d (.int .i64 0))), none, []⟩] false
def c_L_heldWrapS_2 : ACode := .reg [⟨.loc 6, .mv (.var 5), none, []⟩,
  ⟨.loc 7, .mv (.var 0), none, []⟩,
  ⟨.loc 8, .len false (.loc 7), none, []⟩,
  ⟨.var 9, .bin .int .lss (.loc 6) (.loc 8), none, []⟩] false
def c_L_heldWrapS_3 : ACode := .reg [⟨.loc 12, .mv (.var 0), none, []⟩,
  ⟨.loc 13, .mv (.var 5), none, []⟩,
  ⟨.loc 14, .idxA 6 (.loc 12) (.loc 13), none, []⟩,
  ⟨.loc 15, .fld 0 (.loc 14), none, []⟩,
  ⟨.loc 16, .load false 1 (.loc 15), none, []⟩,
  ⟨.loc 17, .mv (.var 1), none, []⟩,
  ⟨.var 18, .bin .int .neq (.loc 16) (.loc 17), none, []⟩] false
def c_L_heldWrapS_4 : ACode := .reg [⟨.var 4, .mv (.const (.d (.int .i64 (-1)))), none, []⟩] false
def c_L_heldWrapS_5 : ACode := .reg [⟨.loc 19, .mv (.var 1), none, []⟩,
  ⟨.loc 20, .bin .int .add (.loc 19) (.const (.d (.int .i64 1))), none, []⟩,
  ⟨.var 1, .mv (.loc 20), none, []⟩] false
def c_L_heldWrapS_6 : ACode := .reg [⟨.loc 21, .mv (.var 0), none, []⟩,
  ⟨.loc 22, .mv (.var 5), none, []⟩,
  ⟨.loc 23, .idxA 6 (.loc 21) (.loc 22), none, []⟩,
  ⟨.loc 24, .fld 1 (.loc 23), none, []⟩,
  ⟨.loc 25, .load false 1 (.loc 24), none, []⟩,
  ⟨.loc 26, .mv (.var 1), none, []⟩,
  ⟨.var 27, .bin .int .neq (.loc 25) (.loc 26), none, []⟩] false
def c_L_heldWrapS_7 : ACode := .reg [⟨.var 4, .mv (.const (.d (.int .i64 (-1)))), none, []⟩] false
def c_L_heldWrapS_8 : ACode := .reg [⟨.loc 28, .mv (.var 1), none, []⟩,
  ⟨.loc 29, .bin .int .add (.loc 28) (.const (.d (.int .i64 1))), none, []⟩,
  ⟨.var 1, .mv (.loc 29), none, []⟩] false
def c_L_heldWrapS_9 : ACode := .reg [⟨.loc 30, .mv (.var 0), none, []⟩,
  ⟨.loc 31, .mv (.var 5), none, []⟩,
  ⟨.loc 32, .idxA 6 (.loc 30) (.loc 31), none, [0, 1]⟩,
  ⟨.loc 33, .fld 2 (.loc 32), none, [2, 0, 1]⟩,
  ⟨.loc 34, .load false 1 (.loc 33), none, [3, 2, 0, 1]⟩,
  ⟨.loc 35, .mv (.var 1), none, []⟩,
  ⟨.loc 36, .call (.fn 65) [(.loc 35)] [.borrow], none, [5]⟩,
  ⟨.var 37, .bin .str .neq (.loc 34) (.loc 36), none, [4, 3, 2, 0, 1, 6, 5]⟩] true
def c_L_heldWrapS_10 : ACode := .reg [⟨.var 4, .mv (.const (.d (.int .i64 (-1)))), none, []⟩] false
def c_L_heldWrapS_11 : ACode := .reg [⟨.loc 38, .mv (.var 1), none, []⟩,
  ⟨.loc 39, .bin .int .add (.loc 38) (.const (.d (.int .i64 1))), none, []⟩,
  ⟨.var 1, .mv (.loc 39), none, []⟩] false
def c_L_heldWrapS_12 : ACode := .reg [⟨.loc 40, .mv (.var 0), none, []⟩,
  ⟨.loc 41, .mv (.var 5), none, []⟩,
  ⟨.loc 42, .idxA 6 (.loc 40) (.loc 41), none, []⟩,
  ⟨.loc 43, .fld 3 (.loc 42), none, []⟩,
  ⟨.loc 44, .fld 0 (.loc 43), none, []⟩,
  ⟨.loc 45, .load false 1 (.loc 44), none, []⟩,
  ⟨.loc 46, .mv (.var 1), none, []⟩,
  ⟨.var 47, .bin .int .neq (.loc 45) (.loc 46), none, []⟩] false
def c_L_heldWrapS_13 : ACode := .reg [⟨.var 4, .mv (.const (.d (.int .i64 (-1)))), none, []⟩] false
def c_L_heldWrapS_14 : ACode := .reg [⟨.loc 48, .mv (.var 1), none, []⟩,
  ⟨.loc 49, .bin .int .add (.loc 48) (.const (.d (.int .i64 1))), none, []⟩,
  ⟨.var 1, .mv (.loc 49), none, []⟩] false
def c_L_heldWrapS_15 : ACode := .reg [⟨.loc 50, .mv (.var 0), none, []⟩,
  ⟨.loc 51, .mv (.var 5), none, []⟩,
  ⟨.loc 52, .idxA 6 (.loc 50) (.loc 51), none, []⟩,
  ⟨.loc 53, .fld 3 (.loc 52), none, []⟩,
  ⟨.loc 54, .fld 1 (.loc 53), none, []⟩,
  ⟨.loc 55, .load false 1 (.loc 54), none, []⟩,
  ⟨.loc 56, .mv (.var 1), none, []⟩,
  ⟨.loc 57, .call (.fn 67) [(.loc 55), (.loc 56)] [.borrow, .borrow], none, []⟩,
  ⟨.var 1, .mv (.loc 57), none, []⟩] false
def c_L_heldWrapS_16 : ACode := .reg [⟨.loc 58, .mv (.var 1), none, []⟩,
  ⟨.var 59, .bin .int .lss (.loc 58) (.const (.d (.int .i64 0))), none, []⟩] false
def c_L_heldWrapS_17 : ACode := .reg [⟨.var 4, .mv (.const (.d (.int .i64 (-1)))), none, []⟩] false
def c_L_heldWrapS_18 : ACode := .reg [⟨.loc 60, .mv (.var 0), none, []⟩,
  ⟨.loc 61, .mv (.var 5), none, []⟩,
  ⟨.loc 62, .idxA 6 (.loc 60) (.loc 61), none, []⟩,
  ⟨.loc 63, .fld 3 (.loc 62), none, []⟩,
  ⟨.loc 64, .fld 2 (.loc 63), none, []⟩,
  ⟨.loc 65, .load false 1 (.loc 64), none, []⟩,
  ⟨.loc 66, .mv (.var 1), none, []⟩,
  ⟨.var 67, .bin .int .neq (.loc 65) (.loc 66), none, []⟩] false
def c_L_heldWrapS_19 : ACode := .reg [⟨.var 4, .mv (.const (.d (.int .i64 (-1)))), none, []⟩] false
def c_L_heldWrapS_20 : ACode := .reg [⟨.loc 68, .mv (.var 1), none, []⟩,
  ⟨.loc 69, .bin .int .add (.loc 68) (.const (.d (.int .i64 1))), none, []⟩,
  ⟨.var 1, .mv (.loc 69), none, []⟩] false
def c_L_heldWrapS_21 : ACode := .reg [⟨.loc 10, .mv (.var 5), none, []⟩,
  ⟨.loc 11, .bin .int .add (.loc 10) (.const (.d (.int .i64 1))), none, []⟩,
  ⟨.var 5, .mv (.loc 11), none, []⟩] false
def c_L_heldWrapS_22 : ACode := (.seq (.seq c_L_heldWrapS_2 (.cond (.var 9) .skip (.exit 0))) (.seq (.block 1 (.seq (.seq c_L_heldWrapS_3 (.cond (.var 18) (.seq c_L_heldWrapS_4 .ret) .skip)) (.seq c_L_heldWrapS_5 (.seq (.seq c_L_heldWrapS_6 (.cond (.var 27) (.seq c_L_heldWrapS_7 .ret) .skip)) (.seq c_L_heldWrapS_8 (.seq (.seq c_L_heldWrapS_9 (.cond (.var 37) (.seq c_L_heldWrapS_10 .ret) .skip)) (.seq c_L_heldWrapS_11 (.seq (.seq c_L_heldWrapS_12 (.cond (.var 47) (.seq c_L_heldWrapS_13 .ret) .skip)) (.seq c_L_heldWrapS_14 (.seq c_L_heldWrapS_15 (.seq (.seq c_L_heldWrapS_16 (.cond (.var 59) (.seq c_L_heldWrapS_17 .ret) .skip)) (.seq (.seq c_L_heldWrapS_18 (.cond (.var 67) (.seq c_L_heldWrapS_19 .ret) .skip)) c_L_heldWrapS_20)))))))))))) c_L_heldWrapS_21))
def c_L_heldWrapS_23 : ACode := .reg [⟨.loc 70, .mv (.var 1), none, []⟩,
  ⟨.var 4, .mv (.loc 70), none, []⟩] false
def c_L_heldWrapS : ACode := (.seq c_L_heldWrapS_0 (.seq (.seq c_L_heldWrapS_1 (.block 0 (.loop [0, 1, 5] c_L_heldWrapS_22))) (.seq c_L_heldWrapS_23 .ret)))
abbrev F_L_heldWrapS : FuncId := 37
theorem k_L_heldWrapS : comp PP (Tryd.f37.ntmps, pinOf 0 [none, none]) [0, 1, 4, 5, 9, 18, 27, 37, 47, 59, 67] (Tryd.f37.body.getD .skip) = some c_L_heldWrapS.erase := by kernel_rfl
theorem v_L_heldWrapS {GG : GV} (rcs : List C) {cs : List C} {r : C} {os : List (Option C)} (hN : (cs.length == 2 && rcs.length == 1) = true) (hret : retOf rcs = r)
    (hW : W PP [0, 1, 4, 5, 9, 18, 27, 37, 47, 59, 67] (Tryd.f37.ntmps, pinOf 0 [none, none]) (Valid PP GG) c_L_heldWrapS (entry cs) (Fin (Valid PP GG) [(.give, 4, none)] [none, none] rcs os) (fun _ _ => False) (Fin (Valid PP GG) [(.give, 4, none)] [none, none] rcs os)) : Valid PP GG F_L_heldWrapS cs r os :=
  fn_valid_n 2 1 [0, 1, 4, 5, 9, 18, 27, 37, 47, 59, 67] c_L_heldWrapS [(.give, 4, none)] [none, none] rcs Tryd.func37 rfl rfl (by kernel_rfl) k_L_heldWrapS rfl rfl hN hret hW
def c_S_PathOk_0 : ACode := .reg [⟨.var 2, .mv (.const (.d (.bool false))), none, []⟩] false
def c_S_PathOk_1 : ACode := .reg [⟨.loc 4, .mv (.var 0), none, []⟩,
  ⟨.loc 5, .call (.fn 71) [(.loc 4)] [.borrow], none, []⟩,
  ⟨.var 6, .un .not (.loc 5), none, []⟩] false
def c_S_PathOk_2 : ACode := .reg [⟨.var 2, .mv (.const (.d (.bool false))), none, []⟩] false
def c_S_PathOk_3 : ACode := .reg [⟨.var 3, .mv (.const (.d (.int .i64 0))), none, []⟩] false
def c_S_PathOk_4 : ACode := .reg [⟨.loc 7, .mv (.var 3), none, []⟩,
  ⟨.loc 8, .mv (.var 0), none, []⟩,
  ⟨.loc 9, .len true (.loc 8), none, []⟩,
  ⟨.var 10, .bin .int .lss (.loc 7) (.loc 9), none, []⟩] false
def c_S_PathOk_5 : ACode := .reg [⟨.loc 13, .mv (.var 0), none, []⟩,
  ⟨.loc 14, .mv (.var 3), none, []⟩,
  ⟨.loc 15, .idxS (.loc 13) (.loc 14), none, []⟩,
  ⟨.loc 16, .bin .int .eql (.loc 15) (.const (.d (.int .u8 43))), none, []⟩,
  ⟨.loc 17, .split (.loc 16), none, []⟩,
  ⟨.loc 18, .mv (.var 0), some ((.loc 17), false), []⟩,
  ⟨.loc 19, .mv (.var 3), some ((.loc 17), false), []⟩,
  ⟨.loc 20, .idxS (.loc 18) (.loc 19), some ((.loc 17), false), []⟩,
  ⟨.loc 21, .bin .int .eql (.loc 20) (.const (.d (.int .u8 42))), some ((.loc 17), false), []⟩,
  ⟨.var 22, .pick (.loc 17) (.const (.d (.bool true))) (.loc 21), none, []⟩] false
def c_S_PathOk_6 : ACode := .reg [⟨.var 2, .mv (.const (.d (.bool false))), none, []⟩] false
def c_S_PathOk_7 : ACode := .reg [⟨.loc 11, .mv (.var 3), none, []⟩,
  ⟨.loc 12, .bin .int .add (.loc 11) (.const (.d (.int .i64 1))), none, []⟩,
  ⟨.var 3, .mv (.loc 12), none, []⟩] false
def c_S_PathOk_8 : ACode := (.seq (.seq c_S_PathOk_4 (.cond (.var 10) .skip (.exit 0))) (.seq (.block 1 (.seq c_S_PathOk_5 (.cond (.var 22) (.seq c_S_PathOk_6 .ret) .skip))) c_S_PathOk_7))
def c_S_PathOk_9 : ACode := .reg [⟨.var 2, .mv (.const (.d (.bool true))), none, []⟩] false
def c_S_PathOk : ACode := (.seq c_S_PathOk_0 (.seq (.seq c_S_PathOk_1 (.cond (.var 6) (.seq c_S_PathOk_2 .ret) .skip)) (.seq (.seq c_S_PathOk_3 (.block 0 (.loop [0, 3] c_S_PathOk_8))) (.seq c_S_PathOk_9 .ret))))
abbrev F_S_PathOk : FuncId := 46
theorem k_S_PathOk : comp PP (Tryd.f46.ntmps, pinOf 0 [none]) [0, 2, 3, 6, 10, 22] (Tryd.f46.body.getD .skip) = some c_S_PathOk.erase := by kernel_rfl
theorem v_S_PathOk {GG : GV} (rcs : List C) {cs : List C} {r : C} {os : List (Option C)} (hN : (cs.length == 1 && rcs.length == 1) = true) (hret : retOf rcs = r)
    (hW : W PP [0, 2, 3, 6, 10, 22] (Tryd.f46.ntmps, pinOf 0 [none]) (Valid PP GG) c_S_PathOk (entry cs) (Fin (Valid PP GG) [(.give, 2, none)] [none] rcs os) (fun _ _ => False) (Fin (Valid PP GG) [(.give, 2, none)] [none] rcs os)) : Valid PP GG F_S_PathOk cs r os :=
  fn_valid_n 1 1 [0, 2, 3, 6, 10, 22] c_S_PathOk [(.give, 2, none)] [none] rcs Tryd.func46 rfl rfl (by kernel_rfl) k_S_PathOk rfl rfl hN hret hW
def c_S_l01In_0 : ACode := .reg [⟨.var 6, .mv (.const (.d (.bool false))), none, []⟩] false
def c_S_l01In_1 : ACode := .reg [⟨.loc 7, .mv (.var 1), none, []⟩,
  ⟨.loc 8, .mv (.var 0), none, []⟩,
  ⟨.loc 9, .bin .int .leq (.loc 7) (.loc 8), none, []⟩,
  ⟨.loc 10, .split (.loc 9), none, []⟩,
  ⟨.loc 11, .mv (.var 0), some ((.loc 10), true), []⟩,
  ⟨.loc 12, .mv (.var 2), some ((.loc 10), true), []⟩,
  ⟨.loc 13, .bin .int .leq (.loc 11) (.loc 12), some ((.loc 10), true), []⟩,
  ⟨.loc 14, .pick (.loc 10) (.loc 13) (.const (.d (.bool false))), none, []⟩,
  ⟨.var 6, .mv (.loc 14), none, []⟩] false
def c_S_l01In : ACode := (.seq c_S_l01In_0 (.seq c_S_l01In_1 .ret))
abbrev F_S_l01In : FuncId := 47
theorem k_S_l01In : comp PP (Tryd.f47.ntmps, pinOf 0 [none, none, none]) [0, 1, 2, 6] (Tryd.f47.body.getD .skip) = some c_S_l01In.erase := by kernel_rfl
theorem v_S_l01In {GG : GV} (rcs : List C) {cs : List C} {r : C} {os : List (Option C)} (hN : (cs.length == 3 && rcs.length == 1) = true) (hret : retOf rcs = r)
    (hW : W PP [0, 1, 2, 6] (Tryd.f47.ntmps, pinOf 0 [none, none, none]) (Valid PP GG) c_S_l01In (entry cs) (Fin (Valid PP GG) [(.give, 6, none)] [none, none, none] rcs os) (fun _ _ => False) (Fin (Valid PP GG) [(.give, 6, none)] [none, none, none] rcs os)) : Valid PP GG F_S_l01In cs r os :=
  fn_valid_n 3 1 [0, 1, 2, 6] c_S_l01In [(.give, 6, none)] [none, none, none] rcs Tryd.func47 rfl rfl (by kernel_rfl) k_S_l01In rfl rfl hN hret hW
def c_I_within_0 : ACode := .reg [⟨.var 6, .mv (.const (.d (.bool false))), none, []⟩] false
def c_I_within_1 : ACode := .reg [⟨.loc 7, .mv (.var 0), none, []⟩,
  ⟨.loc 8, .mv (.var 1), none, []⟩,
  ⟨.loc 9, .bin .int .geq (.loc 7) (.loc 8), none, []⟩,
  ⟨.loc 10, .split (.loc 9), none, []⟩,
  ⟨.loc 11, .mv (.var 0), some ((.loc 10), true), []⟩,
  ⟨.loc 12, .mv (.var 2), some ((.loc 10), true), []⟩,
  ⟨.loc 13, .bin .int .leq (.loc 11) (.loc 12), some ((.loc 10), true), []⟩,
  ⟨.loc 14, .pick (.loc 10) (.loc 13) (.const (.d (.bool false))), none, []⟩,
  ⟨.var 6, .mv (.loc 14), none, []⟩] false
def c_I_within : ACode := (.seq c_I_within_0 (.seq c_I_within_1 .ret))
abbrev F_I_within : FuncId := 51
theorem k_I_within : comp PP (Tryd.f51.ntmps, pinOf 0 [none, none, none]) [0, 1, 2, 6] (Tryd.f51.body.getD .skip) = some c_I_within.erase := by kernel_rfl
theorem v_I_within {GG : GV} (rcs : List C) {cs : List C} {r : C} {os : List (Option C)} (hN : (cs.length == 3 && rcs.length == 1) = true) (hret : retOf rcs = r)
    (hW : W PP [0, 1, 2, 6] (Tryd.f51.ntmps, pinOf 0 [none, none, none]) (Valid PP GG) c_I_within (entry cs) (Fin (Valid PP GG) [(.give, 6, none)] [none, none, none] rcs os) (fun _ _ => False) (Fin (Valid PP GG) [(.give, 6, none)] [none, none, none] rcs os)) : Valid PP GG F_I_within cs r os :=
  fn_valid_n 3 1 [0, 1, 2, 6] c_I_within [(.give, 6, none)] [none, none, none] rcs Tryd.func51 rfl rfl (by kernel_rfl) k_I_within rfl rfl hN hret hW
def c_I_isKey_0 : ACode := .reg [⟨.var 2, .mv (.const (.d (.bool false))), none, []⟩] false
def c_I_isKey_1 : ACode := .reg [⟨.loc 3, .mv (.var 0), none, []⟩,
  ⟨.loc 4, .call (.fn 51) [(.loc 3), (.const (.d (.int .i64 0))), (.const (.d (.int .i64 1099511627776)))] [.borrow, .borrow, .borrow], none, []⟩,
  ⟨.var 2, .mv (.loc 4), none, []⟩] false
def c_I_isKey : ACode := (.seq c_I_isKey_0 (.seq c_I_isKey_1 .ret))
abbrev F_I_isKey : FuncId := 53
theorem k_I_isKey : comp PP (Tryd.f53.ntmps, pinOf 0 [none]) [0, 2] (Tryd.f53.body.getD .skip) = some c_I_isKey.erase := by kernel_rfl
theorem v_I_isKey {GG : GV} (rcs : List C) {cs : List C} {r : C} {os : List (Option C)} (hN : (cs.length == 1 && rcs.length == 1) = true) (hret : retOf rcs = r)
    (hW : W PP [0, 2] (Tryd.f53.ntmps, pinOf 0 [none]) (Valid PP GG) c_I_isKey (entry cs) (Fin (Valid PP GG) [(.give, 2, none)] [none] rcs os) (fun _ _ => False) (Fin (Valid PP GG) [(.give, 2, none)] [none] rcs os)) : Valid PP GG F_I_isKey cs r os :=
  fn_valid_n 1 1 [0, 2] c_I_isKey [(.give, 2, none)] [none] rcs Tryd.func53 rfl rfl (by kernel_rfl) k_I_isKey rfl rfl hN hret hW
def c_L_szWrap_0 : ACode := .reg [⟨.var 2, .box (.var 0), none, []⟩,
  ⟨.var 4, .mv (.const (.d (.int .i64 0))), none, []⟩] false
def c_L_szWrap_1 : ACode := .reg [⟨.loc 5, .mv (.var 1), none, []⟩,
  ⟨.loc 6, .fld 2 (.var 2), none, []⟩,
  ⟨.loc 7, .load false 1 (.loc 6), none, []⟩,
  ⟨.loc 8, .len true (.loc 7), none, []⟩,
  ⟨.loc 9, .bin .int .sub (.loc 5) (.loc 8), none, []⟩,
  ⟨.var 1, .mv (.loc 9), none, []⟩] false
def c_L_szWrap_2 : ACode := .reg [⟨.loc 10, .mv (.var 1), none, []⟩,
  ⟨.var 11, .bin .int .lss (.loc 10) (.const (.d (.int .i64 0))), none, []⟩] false
def c_L_szWrap_3 : ACode := .reg [⟨.var 4, .mv (.const (.d (.int .i64 (-1)))), none, []⟩] false
def c_L_szWrap_4 : ACode := .reg [⟨.loc 12, .fld 3 (.var 2), none, []⟩,
  ⟨.loc 13, .load true 3 (.loc 12), none, []⟩,
  ⟨.loc 14, .mv (.var 1), none, []⟩,
  ⟨.loc 15, .call (.fn 79) [(.loc 13), (.loc 14)] [.borrow, .borrow], none, []⟩,
  ⟨.var 1, .mv (.loc 15), none, []⟩] false
def c_L_szWrap_5 : ACode := .reg [⟨.loc 16, .mv (.var 1), none, []⟩,
  ⟨.var 17, .bin .int .lss (.loc 16) (.const (.d (.int .i64 0))), none, []⟩] false
def c_L_szWrap_6 : ACode := .reg [⟨.var 4, .mv (.const (.d (.int .i64 (-1)))), none, []⟩] false
def c_L_szWrap_7 : ACode := .reg [⟨.loc 18, .mv (.var 1), none, []⟩,
  ⟨.var 4, .mv (.loc 18), none, []⟩] false
def c_L_szWrap : ACode := (.seq c_L_szWrap_0 (.seq c_L_szWrap_1 (.seq (.seq c_L_szWrap_2 (.cond (.var 11) (.seq c_L_szWrap_3 .ret) .skip)) (.seq c_L_szWrap_4 (.seq (.seq c_L_szWrap_5 (.cond (.var 17) (.seq c_L_szWrap_6 .ret) .skip)) (.seq c_L_szWrap_7 .ret))))))
abbrev F_L_szWrap : FuncId := 56
theorem k_L_szWrap : comp PP (Tryd.f56.ntmps, pinOf 0 [none, none]) [0, 1, 2, 4, 11, 17] (Tryd.f56.body.getD .skip) = some c_L_szWrap.erase := by kernel_rfl
theorem v_L_szWrap {GG : GV} (rcs : List C) {cs : List C} {r : C} {os : List (Option C)} (hN : (cs.length == 2 && rcs.length == 1) = true) (hret : retOf rcs = r)
    (hW : W PP [0, 1, 2, 4, 11, 17] (Tryd.f56.ntmps, pinOf 0 [none, none]) (Valid PP GG) c_L_szWrap (entry cs) (Fin (Valid PP GG) [(.give, 4, none)] [none, none] rcs os) (fun _ _ => False) (Fin (Valid PP GG) [(.give, 4, none)] [none, none] rcs os)) : Valid PP GG F_L_szWrap cs r os :=
  fn_valid_n 2 1 [0, 1, 2, 4, 11, 17] c_L_szWrap [(.give, 4, none)] [none, none] rcs Tryd.func56 rfl rfl (by kernel_rfl) k_L_szWrap rfl rfl hN hret hW
def c_S_l04Key_0 : ACode := .reg [⟨.var 2, .mv (.const (.d (.bool false))), none, []⟩] false
def c_S_l04Key_1 : ACode := .reg [⟨.loc 3, .mv (.var 0), none, []⟩,
  ⟨.loc 4, .call (.fn 47) [(.loc 3), (.const (.d (.int .i64 0))), (.const (.d (.int .i64 1099511627776)))] [.borrow, .borrow, .borrow], none, []⟩,
  ⟨.var 2, .mv (.loc 4), none, []⟩] false
def c_S_l04Key : ACode := (.seq c_S_l04Key_0 (.seq c_S_l04Key_1 .ret))
abbrev F_S_l04Key : FuncId := 57
theorem k_S_l04Key : comp PP (Tryd.f57.ntmps, pinOf 0 [none]) [0, 2] (Tryd.f57.body.getD .skip) = some c_S_l04Key.erase := by kernel_rfl
theorem v_S_l04Key {GG : GV} (rcs : List C) {cs : List C} {r : C} {os : List (Option C)} (hN : (cs.length == 1 && rcs.length == 1) = true) (hret : retOf rcs = r)
    (hW : W PP [0, 2] (Tryd.f57.ntmps, pinOf 0 [none]) (Valid PP GG) c_S_l04Key (entry cs) (Fin (Valid PP GG) [(.give, 2, none)] [none] rcs os) (fun _ _ => False) (Fin (Valid PP GG) [(.give, 2, none)] [none] rcs os)) : Valid PP GG F_S_l04Key cs r os :=
  fn_valid_n 1 1 [0, 2] c_S_l04Key [(.give, 2, none)] [none] rcs Tryd.func57 rfl rfl (by kernel_rfl) k_S_l04Key rfl rfl hN hret hW
def c_S_l01Bytes_0 : ACode := .reg [⟨.var 2, .mv (.const (.nil 0 1)), none, []⟩] false
def c_S_l01Bytes_1 : ACode := .reg [⟨.loc 5, .lit 0 1 0 [.int .u8 0] [], none, []⟩,
  ⟨.var 3, .mv (.loc 5), none, []⟩] false
def c_S_l01Bytes_2 : ACode := .reg [⟨.var 4, .mv (.const (.d (.int .i64 0))), none, []⟩] false
def c_S_l01Bytes_3 : ACode := .reg [⟨.loc 6, .mv (.var 4), none, []⟩,
  ⟨.loc 7, .mv (.var 0), none, []⟩,
  ⟨.loc 8, .len false (.loc 7), none, []⟩,
  ⟨.var 9, .bin .int .lss (.loc 6) (.loc 8), none, []⟩] false
def c_S_l01Bytes_4 : ACode := .reg [⟨.loc 12, .mv (.var 3), none, []⟩,
  ⟨.loc 13, .mv (.var 0), none, []⟩,
  ⟨.loc 14, .mv (.var 4), none, []⟩,
  ⟨.loc 15, .idxA 1 (.loc 13) (.loc 14), none, []⟩,
  ⟨.loc 16, .load false 1 (.loc 15), none, []⟩,
  ⟨.loc 17, .lit 0 1 1 [.int .u8 0] [(0, (.loc 16))], none, []⟩,
  ⟨.loc 18, .app 1 1 (.loc 12) (.loc 17), none, []⟩,
  ⟨.var 3, .mv (.loc 18), none, []⟩] false
def c_S_l01Bytes_5 : ACode := .reg [⟨.loc 10, .mv (.var 4), none, []⟩,
  ⟨.loc 11, .bin .int .add (.loc 10) (.const (.d (.int .i64 1))), none, []⟩,
  ⟨.var 4, .mv (.loc 11), none, []⟩] false
def c_S_l01Bytes_6 : ACode := (.seq (.seq c_S_l01Bytes_3 (.cond (.var 9) .skip (.exit 0))) (.seq (.block 1 c_S_l01Bytes_4) c_S_l01Bytes_5))
def c_S_l01Bytes_7 : ACode := .reg [⟨.loc 19, .mv (.var 3), none, []⟩,
  ⟨.var 2, .mv (.loc 19), none, []⟩] false
def c_S_l01Bytes : ACode := (.seq c_S_l01Bytes_0 (.seq c_S_l01Bytes_1 (.seq (.seq c_S_l01Bytes_2 (.block 0 (.loop [0, 3, 4] c_S_l01Bytes_6))) (.seq c_S_l01Bytes_7 .ret))))
abbrev F_S_l01Bytes : FuncId := 58
theorem k_S_l01Bytes : comp PP (Tryd.f58.ntmps, pinOf 0 [none]) [0, 2, 3, 4, 9] (Tryd.f58.body.getD .skip) = some c_S_l01Bytes.erase := by kernel_rfl
theorem v_S_l01Bytes {GG : GV} (rcs : List C) {cs : List C} {r : C} {os : List (Option C)} (hN : (cs.length == 1 && rcs.length == 1) = true) (hret : retOf rcs = r)
    (hW : W PP [0, 2, 3, 4, 9] (Tryd.f58.ntmps, pinOf 0 [none]) (Valid PP GG) c_S_l01Bytes (entry cs) (Fin (Valid PP GG) [(.give, 2, none)] [none] rcs os) (fun _ _ => False) (Fin (Valid PP GG) [(.give, 2, none)] [none] rcs os)) : Valid PP GG F_S_l01Bytes cs r os :=
  fn_valid_n 1 1 [0, 2, 3, 4, 9] c_S_l01Bytes [(.give, 2, none)] [none] rcs Tryd.func58 rfl rfl (by kernel_rfl) k_S_l01Bytes rfl rfl hN hret hW
def c_L_toWrap_0 : ACode := .reg [⟨.var 1, .box (.var 0), none, []⟩,
  ⟨.var 2, .alloc [.d (.int .i64 0), .d (.int .i64 0), .d (.str []), .d (.int .i64 0), .nil 0 1, .d (.int .i64 0)], none, []⟩] false
def c_L_toWrap_1 : ACode := .reg [⟨.var 3, .alloc [.d (.int .i64 0), .d (.int .i64 0), .d (.str []), .d (.int .i64 0), .nil 0 1, .d (.int .i64 0)], none, []⟩] false
def c_L_toWrap_2 : ACode := .reg [⟨.loc 4, .fld 0 (.var 1), none, []⟩,
  ⟨.loc 5, .load false 1 (.loc 4), none, []⟩,
  ⟨.loc 6, .fld 0 (.var 3), none, []⟩,
  ⟨.none, .store 1 (.loc 6) (.loc 5), none, []⟩] false
def c_L_toWrap_3 : ACode := .reg [⟨.loc 7, .fld 1 (.var 1), none, []⟩,
  ⟨.loc 8, .load false 1 (.loc 7), none, []⟩,
  ⟨.loc 9, .fld 1 (.var 3), none, []⟩,
  ⟨.none, .store 1 (.loc 9) (.loc 8), none, []⟩] false
def c_L_toWrap_4 : ACode := .reg [⟨.loc 10, .fld 2 (.var 1), none, []⟩,
  ⟨.loc 11, .load false 1 (.loc 10), none, []⟩,
  ⟨.loc 12, .fld 2 (.var 3), none, []⟩,
  ⟨.none, .store 1 (.loc 12) (.loc 11), none, []⟩] false
def c_L_toWrap_5 : ACode := .reg [⟨.loc 13, .fld 3 (.var 1), none, []⟩,
  ⟨.loc 14, .load true 3 (.loc 13), none, []⟩,
  ⟨.loc 15, .call (.fn 80) [(.loc 14)] [.borrow], none, []⟩,
  ⟨.loc 16, .fld 3 (.var 3), none, []⟩,
  ⟨.none, .store 3 (.loc 16) (.loc 15), none, []⟩] false
def c_L_toWrap_6 : ACode := .reg [⟨.loc 17, .load true 6 (.var 3), none, []⟩,
  ⟨.none, .store 6 (.var 2) (.loc 17), none, []⟩] false
def c_L_toWrap : ACode := (.seq c_L_toWrap_0 (.seq c_L_toWrap_1 (.seq c_L_toWrap_2 (.seq c_L_toWrap_3 (.seq c_L_toWrap_4 (.seq c_L_toWrap_5 (.seq c_L_toWrap_6 .ret)))))))
abbrev F_L_toWrap : FuncId := 59
theorem k_L_toWrap : comp PP (Tryd.f59.ntmps, pinOf 0 [none]) [0, 1, 2, 3] (Tryd.f59.body.getD .skip) = some c_L_toWrap.erase := by kernel_rfl
theorem v_L_toWrap {GG : GV} (rcs : List C) {cs : List C} {r : C} {os : List (Option C)} (hN : (cs.length == 1 && rcs.length == 1) = true) (hret : retOf rcs = r)
    (hW : W PP [0, 1, 2, 3] (Tryd.f59.ntmps, pinOf 0 [none]) (Valid PP GG) c_L_toWrap (entry cs) (Fin (Valid PP GG) [(.give, 2, some (true, 6))] [none] rcs os) (fun _ _ => False) (Fin (Valid PP GG) [(.give, 2, some (true, 6))] [none] rcs os)) : Valid PP GG F_L_toWrap cs r os :=
  fn_valid_n 1 1 [0, 1, 2, 3] c_L_toWrap [(.give, 2, some (true, 6))] [none] rcs Tryd.func59 rfl rfl (by kernel_rfl) k_L_toWrap rfl rfl hN hret hW
def c_I_isPath_0 : ACode := .reg [⟨.var 2, .mv (.const (.d (.bool false))), none, []⟩] false
def c_I_isPath_1 : ACode := .reg [⟨.loc 3, .mv (.var 0), none, []⟩,
  ⟨.loc 4, .call (.fn 81) [(.loc 3)] [.borrow], none, []⟩,
  ⟨.loc 5, .split (.loc 4), none, []⟩,
  ⟨.loc 6, .mv (.var 0), some ((.loc 5), true), []⟩,
  ⟨.loc 7, .call (.fn 82) [(.loc 6), (.const (.d (.str [43, 42])))] [.borrow, .borrow], some ((.loc 5), true), []⟩,
  ⟨.loc 8, .un .not (.loc 7), some ((.loc 5), true), []⟩,
  ⟨.loc 9, .pick (.loc 5) (.loc 8) (.const (.d (.bool false))), none, []⟩,
  ⟨.var 2, .mv (.loc 9), none, []⟩] false
def c_I_isPath : ACode := (.seq c_I_isPath_0 (.seq c_I_isPath_1 .ret))
abbrev F_I_isPath : FuncId := 60
theorem k_I_isPath : comp PP (Tryd.f60.ntmps, pinOf 0 [none]) [0, 2] (Tryd.f60.body.getD .skip) = some c_I_isPath.erase := by kernel_rfl
theorem v_I_isPath {GG : GV} (rcs : List C) {cs : List C} {r : C} {os : List (Option C)} (hN : (cs.length == 1 && rcs.length == 1) = true) (hret : retOf rcs = r)
    (hW : W PP [0, 2] (Tryd.f60.ntmps, pinOf 0 [none]) (Valid PP GG) c_I_isPath (entry cs) (Fin (Valid PP GG) [(.give, 2, none)] [none] rcs os) (fun _ _ => False) (Fin (Valid PP GG) [(.give, 2, none)] [none] rcs os)) : Valid PP GG F_I_isPath cs r os :=
  fn_valid_n 1 1 [0, 2] c_I_isPath [(.give, 2, none)] [none] rcs Tryd.func60 rfl rfl (by kernel_rfl) k_I_isPath rfl rfl hN hret hW
def c_L_eqWrap_0 : ACode := .reg [⟨.var 2, .box (.var 0), none, []⟩,
  ⟨.var 3, .box (.var 1), none, []⟩,
  ⟨.var 4, .mv (.const (.d (.bool false))), none, []⟩] false
def c_L_eqWrap_1 : ACode := .reg [⟨.loc 5, .fld 0 (.var 2), none, []⟩,
  ⟨.loc 6, .load false 1 (.loc 5), none, []⟩,
  ⟨.loc 7, .fld 0 (.var 3), none, []⟩,
  ⟨.loc 8, .load false 1 (.loc 7), none, []⟩,
  ⟨.var 9, .bin .int .neq (.loc 6) (.loc 8), none, []⟩] false
def c_L_eqWrap_2 : ACode := .reg [⟨.var 4, .mv (.const (.d (.bool false))), none, []⟩] false
def c_L_eqWrap_3 : ACode := .reg [⟨.loc 10, .fld 1 (.var 2), none, []⟩,
  ⟨.loc 11, .load false 1 (.loc 10), none, []⟩,
  ⟨.loc 12, .fld 1 (.var 3), none, []⟩,
  ⟨.loc 13, .load false 1 (.loc 12), none, []⟩,
  ⟨.var 14, .bin .int .neq (.loc 11) (.loc 13), none, []⟩] false
def c_L_eqWrap_4 : ACode := .reg [⟨.var 4, .mv (.const (.d (.bool false))), none, []⟩] false
def c_L_eqWrap_5 : ACode := .reg [⟨.loc 15, .fld 2 (.var 2), none, []⟩,
  ⟨.loc 16, .load false 1 (.loc 15), none, []⟩,
  ⟨.loc 17, .fld 2 (.var 3), none, []⟩,
  ⟨.loc 18, .load false 1 (.loc 17), none, []⟩,
  ⟨.var 19, .bin .str .neq (.loc 16) (.loc 18), none, []⟩] false
def c_L_eqWrap_6 : ACode := .reg [⟨.var 4, .mv (.const (.d (.bool false))), none, []⟩] false
def c_L_eqWrap_7 : ACode := .reg [⟨.loc 20, .fld 3 (.var 2), none, []⟩,
  ⟨.loc 21, .load true 3 (.loc 20), none, []⟩,
  ⟨.loc 22, .fld 3 (.var 3), none, []⟩,
  ⟨.loc 23, .load true 3 (.loc 22), none, []⟩,
  ⟨.loc 24, .call (.fn 83) [(.loc 21), (.loc 23)] [.borrow, .borrow], none, []⟩,
  ⟨.var 25, .un .not (.loc 24), none, []⟩] false
def c_L_eqWrap_8 : ACode := .reg [⟨.var 4, .mv (.const (.d (.bool false))), none, []⟩] false
def c_L_eqWrap_9 : ACode := .reg [⟨.var 4, .mv (.const (.d (.bool true))), none, []⟩] false
def c_L_eqWrap : ACode := (.seq c_L_eqWrap_0 (.seq (.seq c_L_eqWrap_1 (.cond (.var 9) (.seq c_L_eqWrap_2 .ret) .skip)) (.seq (.seq c_L_eqWrap_3 (.cond (.var 14) (.seq c_L_eqWrap_4 .ret) .skip)) (.seq (.seq c_L_eqWrap_5 (.cond (.var 19) (.seq c_L_eqWrap_6 .ret) .skip)) (.seq (.seq c_L_eqWrap_7 (.cond (.var 25) (.seq c_L_eqWrap_8 .ret) .skip)) (.seq c_L_eqWrap_9 .ret))))))
abbrev F_L_eqWrap : FuncId := 64
theorem k_L_eqWrap : comp PP (Tryd.f64.ntmps, pinOf 0 [none, none]) [0, 1, 2, 3, 4, 9, 14, 19, 25] (Tryd.f64.body.getD .skip) = some c_L_eqWrap.erase := by kernel_rfl
theorem v_L_eqWrap {GG : GV} (rcs : List C) {cs : List C} {r : C} {os : List (Option C)} (hN : (cs.length == 2 && rcs.length == 1) = true) (hret : retOf rcs = r)
    (hW : W PP [0, 1, 2, 3, 4, 9, 14, 19, 25] (Tryd.f64.ntmps, pinOf 0 [none, none]) (Valid PP GG) c_L_eqWrap (entry cs) (Fin (Valid PP GG) [(.give, 4, none)] [none, none] rcs os) (fun _ _ => False) (Fin (Valid PP GG) [(.give, 4, none)] [none, none] rcs os)) : Valid PP GG F_L_eqWrap cs r os :=
  fn_valid_n 2 1 [0, 1, 2, 3, 4, 9, 14, 19, 25] c_L_eqWrap [(.give, 4, none)] [none, none] rcs Tryd.func64 rfl rfl (by kernel_rfl) k_L_eqWrap rfl rfl hN hret hW
def c_L_markText_0 : ACode := .reg [⟨.var 2, .mv (.const (.d (.str []))), none, []⟩] false
def c_L_markText_1 : ACode := .reg [⟨.loc 4, .mv (.var 0), none, []⟩,
  ⟨.var 5, .bin .int .leq (.loc 4) (.const (.d (.int .i64 0))), none, []⟩] false
def c_L_markText_2 : ACode := .reg [⟨.var 2, .mv (.const (.d (.str [109, 48]))), none, []⟩] false
def c_L_markText_3 : ACode := .reg [⟨.var 3, .mv (.const (.d (.str []))), none, []⟩] false
def c_L_markText_4 : ACode := .reg [⟨.loc 6, .mv (.var 0), none, []⟩,
  ⟨.var 7, .bin .int .gtr (.loc 6) (.const (.d (.int .i64 0))), none, []⟩] false
def c_L_markText_5 : ACode := .reg [⟨.loc 8, .mv (.var 0), none, []⟩,
  ⟨.loc 9, .bin .int .rem (.loc 8) (.const (.d (.int .i64 10))), none, []⟩,
  ⟨.loc 10, .bin .int .add (.const (.d (.int .i64 48))) (.loc 9), none, []⟩,
  ⟨.loc 11, .conv .u8 (.loc 10), none, []⟩,
  ⟨.loc 12, .lit 0 1 1 [.int .u8 0] [(0, (.loc 11))], none, []⟩,
  ⟨.loc 13, .b2s (.loc 12), none, []⟩,
  ⟨.loc 14, .mv (.var 3), none, []⟩,
  ⟨.loc 15, .bin .str .add (.loc 13) (.loc 14), none, []⟩,
  ⟨.var 3, .mv (.loc 15), none, []⟩] false
def c_L_markText_6 : ACode := .reg [⟨.loc 16, .mv (.var 0), none, []⟩,
  ⟨.loc 17, .bin .int .quo (.loc 16) (.const (.d (.int .i64 10))), none, []⟩,
  ⟨.var 0, .mv (.loc 17), none, []⟩] false
def c_L_markText_7 : ACode := (.seq (.seq c_L_markText_4 (.cond (.var 7) .skip (.exit 0))) (.block 1 (.seq c_L_markText_5 c_L_markText_6)))
def c_L_markText_8 : ACode := .reg [⟨.loc 18, .mv (.var 3), none, []⟩,
  ⟨.loc 19, .bin .str .add (.const (.d (.str [109]))) (.loc 18), none, []⟩,
  ⟨.var 2, .mv (.loc 19), none, []⟩] false
def c_L_markText : ACode := (.seq c_L_markText_0 (.seq (.seq c_L_markText_1 (.cond (.var 5) (.seq c_L_markText_2 .ret) .skip)) (.seq c_L_markText_3 (.seq (.block 0 (.loop [0, 3] c_L_markText_7)) (.seq c_L_markText_8 .ret)))))
abbrev F_L_markText : FuncId := 65
theorem k_L_markText : comp PP (Tryd.f65.ntmps, pinOf 0 [none]) [0, 2, 3, 5, 7] (Tryd.f65.body.getD .skip) = some c_L_markText.erase := by kernel_rfl
theorem v_L_markText {GG : GV} (rcs : List C) {cs : List C} {r : C} {os : List (Option C)} (hN : (cs.length == 1 && rcs.length == 1) = true) (hret : retOf rcs = r)
    (hW : W PP [0, 2, 3, 5, 7] (Tryd.f65.ntmps, pinOf 0 [none]) (Valid PP GG) c_L_markText (entry cs) (Fin (Valid PP GG) [(.give, 2, none)] [none] rcs os) (fun _ _ => False) (Fin (Valid PP GG) [(.give, 2, none)] [none] rcs os)) : Valid PP GG F_L_markText cs r os :=
  fn_valid_n 1 1 [0, 2, 3, 5, 7] c_L_markText [(.give, 2, none)] [none] rcs Tryd.func65 rfl rfl (by kernel_rfl) k_L_markText rfl rfl hN hret hW
def c_L_markByteS_0 : ACode := .reg [⟨.var 4, .mv (.const (.d (.int .i64 0))), none, []⟩] false
def c_L_markByteS_1 : ACode := .reg [⟨.var 5, .mv (.const (.d (.int .i64 0))), none, []⟩] false
def c_L_markByteS_2 : ACode := .reg [⟨.loc 6, .mv (.var 5), none, []⟩,
  ⟨.loc 7, .mv (.var 0), none, []⟩,
  ⟨.loc 8, .len false (.loc 7), none, []⟩,
  ⟨.var 9, .bin .int .lss (.loc 6) (.loc 8), none, []⟩] false
def c_L_markByteS_3 : ACode := .reg [⟨.loc 12, .mv (.var 0), none, []⟩,
  ⟨.loc 13, .mv (.var 5), none, []⟩,
  ⟨.loc 14, .mv (.var 1), none, []⟩,
  ⟨.loc 15, .conv .u8 (.loc 14), none, []⟩,
  ⟨.loc 16, .idxA 1 (.loc 12) (.loc 13), none, []⟩,
  ⟨.none, .store 1 (.loc 16) (.loc 15), none, []⟩] false
def c_L_markByteS_4 : ACode := .reg [⟨.loc 17, .mv (.var 1), none, []⟩,
  ⟨.loc 18, .bin .int .add (.loc 17) (.const (.d (.int .i64 1))), none, []⟩,
  ⟨.var 1, .mv (.loc 18), none, []⟩] false
def c_L_markByteS_5 : ACode := .reg [⟨.loc 10, .mv (.var 5), none, []⟩,
  ⟨.loc 11, .bin .int .add (.loc 10) (.const (.d (.int .i64 1))), none, []⟩,
  ⟨.var 5, .mv (.loc 11), none, []⟩] false
def c_L_markByteS_6 : ACode := (.seq (.seq c_L_markByteS_2 (.cond (.var 9) .skip (.exit 0))) (.seq (.block 1 (.seq c_L_markByteS_3 c_L_markByteS_4)) c_L_markByteS_5))
def c_L_markByteS_7 : ACode := .reg [⟨.loc 19, .mv (.var 1), none, []⟩,
  ⟨.var 4, .mv (.loc 19), none, []⟩] false
def c_L_markByteS : ACode := (.seq c_L_markByteS_0 (.seq (.seq c_L_markByteS_1 (.block 0 (.loop [0, 1, 5] c_L_markByteS_6))) (.seq c_L_markByteS_7 .ret)))
abbrev F_L_markByteS : FuncId := 66
theorem k_L_markByteS : comp PP (Tryd.f66.ntmps, pinOf 0 [some .give, none]) [0, 1, 4, 5, 9] (Tryd.f66.body.getD .skip) = some c_L_markByteS.erase := by kernel_rfl
theorem v_L_markByteS {GG : GV} (rcs : List C) {cs : List C} {r : C} {os : List (Option C)} (hN : (cs.length == 2 && rcs.length == 1) = true) (hret : retOf rcs = r)
    (hW : W PP [0, 1, 4, 5, 9] (Tryd.f66.ntmps, pinOf 0 [some .give, none]) (Valid PP GG) c_L_markByteS (entry cs) (Fin (Valid PP GG) [(.give, 4, none)] [some .give, none] rcs os) (fun _ _ => False) (Fin (Valid PP GG) [(.give, 4, none)] [some .give, none] rcs os)) : Valid PP GG F_L_markByteS cs r os :=
  fn_valid_n 2 1 [0, 1, 4, 5, 9] c_L_markByteS [(.give, 4, none)] [some .give, none] rcs Tryd.func66 rfl rfl (by kernel_rfl) k_L_markByteS rfl rfl hN hret hW
def c_L_heldByteS_0 : ACode := .reg [⟨.var 4, .mv (.const (.d (.int .i64 0))), none, []⟩] false
def c_L_heldByteS_1 : ACode := .reg [⟨.var 5, .mv (.const (.d (.int .i64 0))), none, []⟩] false
def c_L_heldByteS_2 : ACode := .reg [⟨.loc 6, .mv (.var 5), none, []⟩,
  ⟨.loc 7, .mv (.var 0), none, []⟩,
  ⟨.loc 8, .len false (.loc 7), none, []⟩,
  ⟨.var 9, .bin .int .lss (.loc 6) (.loc 8), none, []⟩] false
def c_L_heldByteS_3 : ACode := .reg [⟨.loc 12, .mv (.var 0), none, []⟩,
  ⟨.loc 13, .mv (.var 5), none, []⟩,
  ⟨.loc 14, .idxA 1 (.loc 12) (.loc 13), none, []⟩,
  ⟨.loc 15, .load false 1 (.loc 14), none, []⟩,
  ⟨.loc 16, .mv (.var 1), none, []⟩,
  ⟨.loc 17, .conv .u8 (.loc 16), none, []⟩,
  ⟨.var 18, .bin .int .neq (.loc 15) (.loc 17), none, []⟩] false
def c_L_heldByteS_4 : ACode := .reg [⟨.var 4, .mv (.const (.d (.int .i64 (-1)))), none, []⟩] false
def c_L_heldByteS_5 : ACode := .reg [⟨.loc 19, .mv (.var 1), none, []⟩,
  ⟨.loc 20, .bin .int .add (.loc 19) (.const (.d (.int .i64 1))), none, []⟩,
  ⟨.var 1, .mv (.loc 20), none, []⟩] false
def c_L_heldByteS_6 : ACode := .reg [⟨.loc 10, .mv (.var 5), none, []⟩,
  ⟨.loc 11, .bin .int .add (.loc 10) (.const (.d (.int .i64 1))), none, []⟩,
  ⟨.var 5, .mv (.loc 11), none, []⟩] false
def c_L_heldByteS_7 : ACode := (.seq (.seq c_L_heldByteS_2 (.cond (.var 9) .skip (.exit 0))) (.seq (.block 1 (.seq (.seq c_L_heldByteS_3 (.cond (.var 18) (.seq c_L_heldByteS_4 .ret) .skip)) c_L_heldByteS_5)) c_L_heldByteS_6))
def c_L_heldByteS_8 : ACode := .reg [⟨.loc 21, .mv (.var 1), none, []⟩,
  ⟨.var 4, .mv (.loc 21), none, []⟩] false
def c_L_heldByteS : ACode := (.seq c_L_heldByteS_0 (.seq (.seq c_L_heldByteS_1 (.block 0 (.loop [0, 1, 5] c_L_heldByteS_7))) (.seq c_L_heldByteS_8 .ret)))
abbrev F_L_heldByteS : FuncId := 67
theorem k_L_heldByteS : comp PP (Tryd.f67.ntmps, pinOf 0 [none, none]) [0, 1, 4, 5, 9, 18] (Tryd.f67.body.getD .skip) = some c_L_heldByteS.erase := by kernel_rfl
theorem v_L_heldByteS {GG : GV} (rcs : List C) {cs : List C} {r : C} {os : List (Option C)} (hN : (cs.length == 2 && rcs.length == 1) = true) (hret : retOf rcs = r)
    (hW : W PP [0, 1, 4, 5, 9, 18] (Tryd.f67.ntmps, pinOf 0 [none, none]) (Valid PP GG) c_L_heldByteS (entry cs) (Fin (Valid PP GG) [(.give, 4, none)] [none, none] rcs os) (fun _ _ => False) (Fin (Valid PP GG) [(.give, 4, none)] [none, none] rcs os)) : Valid PP GG F_L_heldByteS cs r os :=
  fn_valid_n 2 1 [0, 1, 4, 5, 9, 18] c_L_heldByteS [(.give, 4, none)] [none, none] rcs Tryd.func67 rfl rfl (by kernel_rfl) k_L_heldByteS rfl rfl hN hret hW
def c_S_GlobOk_0 : ACode := .reg [⟨.var 2, .mv (.const (.d (.bool false))), none, []⟩] false
def c_S_GlobOk_1 : ACode := .reg [⟨.loc 5, .mv (.var 0), none, []⟩,
  ⟨.loc 6, .len true (.loc 5), none, []⟩,
  ⟨.var 7, .bin .int .gtr (.loc 6) (.const (.d (.int .i64 120))), none, []⟩] false
def c_S_GlobOk_2 : ACode := .reg [⟨.var 2, .mv (.const (.d (.bool false))), none, []⟩] false
def c_S_GlobOk_3 : ACode := .reg [⟨.loc 8, .mv (.var 0), none, []⟩,
  ⟨.loc 9, .call (.fn 86) [(.loc 8), (.const (.d (.int .u8 47)))] [.borrow, .borrow], none, []⟩,
  ⟨.var 3, .mv (.loc 9), none, []⟩] false
def c_S_GlobOk_4 : ACode := .reg [⟨.var 4, .mv (.const (.d (.int .i64 0))), none, []⟩] false
def c_S_GlobOk_5 : ACode := .reg [⟨.loc 10, .mv (.var 4), none, []⟩,
  ⟨.loc 11, .mv (.var 3), none, []⟩,
  ⟨.loc 12, .len false (.loc 11), none, []⟩,
  ⟨.var 13, .bin .int .lss (.loc 10) (.loc 12), none, []⟩] false
def c_S_GlobOk_6 : ACode := .reg [⟨.loc 16, .mv (.var 3), none, []⟩,
  ⟨.loc 17, .mv (.var 4), none, []⟩,
  ⟨.loc 18, .idxA 1 (.loc 16) (.loc 17), none, []⟩,
  ⟨.loc 19, .load false 1 (.loc 18), none, []⟩,
  ⟨.loc 20, .call (.fn 87) [(.loc 19)] [.borrow], none, []⟩,
  ⟨.loc 21, .un .not (.loc 20), none, []⟩,
  ⟨.loc 22, .split (.loc 21), none, []⟩,
  ⟨.loc 23, .mv (.var 3), some ((.loc 22), true), []⟩,
  ⟨.loc 24, .mv (.var 4), some ((.loc 22), true), []⟩,
  ⟨.loc 25, .idxA 1 (.loc 23) (.loc 24), some ((.loc 22), true), []⟩,
  ⟨.loc 26, .load false 1 (.loc 25), some ((.loc 22), true), []⟩,
  ⟨.loc 27, .bin .str .neq (.loc 26) (.const (.d (.str [43]))), some ((.loc 22), true), []⟩,
  ⟨.loc 28, .pick (.loc 22) (.loc 27) (.const (.d (.bool false))), none, []⟩,
  ⟨.loc 29, .split (.loc 28), none, []⟩,
  ⟨.loc 30, .mv (.var 3), some ((.loc 29), true), []⟩,
  ⟨.loc 31, .mv (.var 4), some ((.loc 29), true), []⟩,
  ⟨.loc 32, .idxA 1 (.loc 30) (.loc 31), some ((.loc 29), true), []⟩,
  ⟨.loc 33, .load false 1 (.loc 32), some ((.loc 29), true), []⟩,
  ⟨.loc 34, .bin .str .eql (.loc 33) (.const (.d (.str [42]))), some ((.loc 29), true), []⟩,
  ⟨.loc 35, .split (.loc 34), some ((.loc 29), true), []⟩,
  ⟨.loc 36, .mv (.var 4), some ((.loc 35), true), []⟩,
  ⟨.loc 37, .mv (.var 3), some ((.loc 35), true), []⟩,
  ⟨.loc 38, .len false (.loc 37), some ((.loc 35), true), []⟩,
  ⟨.loc 39, .bin .int .sub (.loc 38) (.const (.d (.int .i64 1))), some ((.loc 35), true), []⟩,
  ⟨.loc 40, .bin .int .eql (.loc 36) (.loc 39), some ((.loc 35), true), []⟩,
  ⟨.loc 41, .pick (.loc 35) (.loc 40) (.const (.d (.bool false))), some ((.loc 29), true), []⟩,
  ⟨.loc 42, .un .not (.loc 41), some ((.loc 29), true), []⟩,
  ⟨.var 43, .pick (.loc 29) (.loc 42) (.const (.d (.bool false))), none, []⟩] false
def c_S_GlobOk_7 : ACode := .reg [⟨.var 2, .mv (.const (.d (.bool false))), none, []⟩] false
def c_S_GlobOk_8 : ACode := .reg [⟨.loc 14, .mv (.var 4), none, []⟩,
  ⟨.loc 15, .bin .int .add (.loc 14) (.const (.d (.int .i64 1))), none, []⟩,
  ⟨.var 4, .mv (.loc 15), none, []⟩] false
def c_S_GlobOk_9 : ACode := (.seq (.seq c_S_GlobOk_5 (.cond (.var 13) .skip (.exit 0))) (.seq (.block 1 (.seq c_S_GlobOk_6 (.cond (.var 43) (.seq c_S_GlobOk_7 .ret) .skip))) c_S_GlobOk_8))
def c_S_GlobOk_10 : ACode := .reg [⟨.loc 44, .mv (.var 3), none, []⟩,
  ⟨.loc 45, .len false (.loc 44), none, []⟩,
  ⟨.loc 46, .bin .int .leq (.loc 45) (.const (.d (.int .i64 8))), none, []⟩,
  ⟨.var 2, .mv (.loc 46), none, []⟩] false
def c_S_GlobOk : ACode := (.seq c_S_GlobOk_0 (.seq (.seq c_S_GlobOk_1 (.cond (.var 7) (.seq c_S_GlobOk_2 .ret) .skip)) (.seq c_S_GlobOk_3 (.seq (.seq c_S_GlobOk_4 (.block 0 (.loop [3, 4] c_S_GlobOk_9))) (.seq c_S_GlobOk_10 .ret)))))
abbrev F_S_GlobOk : FuncId := 71
theorem k_S_GlobOk : comp PP (Tryd.f71.ntmps, pinOf 0 [none]) [0, 2, 3, 4, 7, 13, 43] (Tryd.f71.body.getD .skip) = some c_S_GlobOk.erase := by kernel_rfl
theorem v_S_GlobOk {GG : GV} (rcs : List C) {cs : List C} {r : C} {os : List (Option C)} (hN : (cs.length == 1 && rcs.length == 1) = true) (hret : retOf rcs = r)
    (hW : W PP [0, 2, 3, 4, 7, 13, 43] (Tryd.f71.ntmps, pinOf 0 [none]) (Valid PP GG) c_S_GlobOk (entry cs) (Fin (Valid PP GG) [(.give, 2, none)] [none] rcs os) (fun _ _ => False) (Fin (Valid PP GG) [(.give, 2, none)] [none] rcs os)) : Valid PP GG F_S_GlobOk cs r os :=
  fn_valid_n 1 1 [0, 2, 3, 4, 7, 13, 43] c_S_GlobOk [(.give, 2, none)] [none] rcs Tryd.func71 rfl rfl (by kernel_rfl) k_S_GlobOk rfl rfl hN hret hW
def c_L_szBox_0 : ACode := .reg [⟨.var 2, .box (.var 0), none, []⟩,
  ⟨.var 4, .mv (.const (.d (.int .i64 0))), none, []⟩] false
def c_L_szBox_1 : ACode := .reg [⟨.loc 5, .fld 1 (.var 2), none, []⟩,
  ⟨.loc 6, .load false 1 (.loc 5), none, []⟩,
  ⟨.loc 7, .mv (.var 1), none, []⟩,
  ⟨.loc 8, .call (.fn 96) [(.loc 6), (.loc 7)] [.borrow, .borrow], none, []⟩,
  ⟨.var 1, .mv (.loc 8), none, []⟩] false
def c_L_szBox_2 : ACode := .reg [⟨.loc 9, .mv (.var 1), none, []⟩,
  ⟨.var 10, .bin .int .lss (.loc 9) (.const (.d (.int .i64 0))), none, []⟩] false
def c_L_szBox_3 : ACode := .reg [⟨.var 4, .mv (.const (.d (.int .i64 (-1)))), none, []⟩] false
def c_L_szBox_4 : ACode := .reg [⟨.loc 11, .mv (.var 1), none, []⟩,
  ⟨.var 4, .mv (.loc 11), none, []⟩] false
def c_L_szBox : ACode := (.seq c_L_szBox_0 (.seq c_L_szBox_1 (.seq (.seq c_L_szBox_2 (.cond (.var 10) (.seq c_L_szBox_3 .ret) .skip)) (.seq c_L_szBox_4 .ret))))
abbrev F_L_szBox : FuncId := 79
theorem k_L_szBox : comp PP (Tryd.f79.ntmps, pinOf 0 [none, none]) [0, 1, 2, 4, 10] (Tryd.f79.body.getD .skip) = some c_L_szBox.erase := by kernel_rfl
theorem v_L_szBox {GG : GV} (rcs : List C) {cs : List C} {r : C} {os : List (Option C)} (hN : (cs.length == 2 && rcs.length == 1) = true) (hret : retOf rcs = r)
    (hW : W PP [0, 1, 2, 4, 10] (Tryd.f79.ntmps, pinOf 0 [none, none]) (Valid PP GG) c_L_szBox (entry cs) (Fin (Valid PP GG) [(.give, 4, none)] [none, none] rcs os) (fun _ _ => False) (Fin (Valid PP GG) [(.give, 4, none)] [none, none] rcs os)) : Valid PP GG F_L_szBox cs r os :=
  fn_valid_n 2 1 [0, 1, 2, 4, 10] c_L_szBox [(.give, 4, none)] [none, none] rcs Tryd.func79 rfl rfl (by kernel_rfl) k_L_szBox rfl rfl hN hret hW
def c_L_toBox_0 : ACode := .reg [⟨.var 1, .box (.var 0), none, []⟩,
  ⟨.var 2, .alloc [.d (.int .i64 0), .nil 0 1, .d (.int .i64 0)], none, []⟩] false
def c_L_toBox_1 : ACode := .reg [⟨.var 3, .alloc [.d (.int .i64 0), .nil 0 1, .d (.int .i64 0)], none, []⟩] false
def c_L_toBox_2 : ACode := .reg [⟨.loc 4, .fld 0 (.var 1), none, []⟩,
  ⟨.loc 5, .load false 1 (.loc 4), none, []⟩,
  ⟨.loc 6, .fld 0 (.var 3), none, []⟩,
  ⟨.none, .store 1 (.loc 6) (.loc 5), none, []⟩] false
def c_L_toBox_3 : ACode := .reg [⟨.loc 7, .fld 1 (.var 1), none, []⟩,
  ⟨.loc 8, .load false 1 (.loc 7), none, []⟩,
  ⟨.loc 9, .call (.fn 97) [(.loc 8)] [.borrow], none, []⟩,
  ⟨.loc 10, .fld 1 (.var 3), none, []⟩,
  ⟨.none, .store 1 (.loc 10) (.loc 9), none, []⟩] false
def c_L_toBox_4 : ACode := .reg [⟨.loc 11, .fld 2 (.var 1), none, []⟩,
  ⟨.loc 12, .load false 1 (.loc 11), none, []⟩,
  ⟨.loc 13, .fld 2 (.var 3), none, []⟩,
  ⟨.none, .store 1 (.loc 13) (.loc 12), none, []⟩] false
def c_L_toBox_5 : ACode := .reg [⟨.loc 14, .load true 3 (.var 3), none, []⟩,
  ⟨.none, .store 3 (.var 2) (.loc 14), none, []⟩] false
def c_L_toBox : ACode := (.seq c_L_toBox_0 (.seq c_L_toBox_1 (.seq c_L_toBox_2 (.seq c_L_toBox_3 (.seq c_L_toBox_4 (.seq c_L_toBox_5 .ret))))))
abbrev F_L_toBox : FuncId := 80
theorem k_L_toBox : comp PP (Tryd.f80.ntmps, pinOf 0 [none]) [0, 1, 2, 3] (Tryd.f80.body.getD .skip) = some c_L_toBox.erase := by kernel_rfl
theorem v_L_toBox {GG : GV} (rcs : List C) {cs : List C} {r : C} {os : List (Option C)} (hN : (cs.length == 1 && rcs.length == 1) = true) (hret : retOf rcs = r)
    (hW : W PP [0, 1, 2, 3] (Tryd.f80.ntmps, pinOf 0 [none]) (Valid PP GG) c_L_toBox (entry cs) (Fin (Valid PP GG) [(.give, 2, some (true, 3))] [none] rcs os) (fun _ _ => False) (Fin (Valid PP GG) [(.give, 2, some (true, 3))] [none] rcs os)) : Valid PP GG F_L_toBox cs r os :=
  fn_valid_n 1 1 [0, 1, 2, 3] c_L_toBox [(.give, 2, some (true, 3))] [none] rcs Tryd.func80 rfl rfl (by kernel_rfl) k_L_toBox rfl rfl hN hret hW
def c_I_isGlob_0 : ACode := .reg [⟨.var 2, .mv (.const (.d (.bool false))), none, []⟩] false
def c_I_isGlob_1 : ACode := .reg [⟨.loc 6, .mv (.var 0), none, []⟩,
  ⟨.loc 7, .len true (.loc 6), none, []⟩,
  ⟨.var 8, .bin .int .gtr (.loc 7) (.const (.d (.int .i64 120))), none, []⟩] false
def c_I_isGlob_2 : ACode := .reg [⟨.var 2, .mv (.const (.d (.bool false))), none, []⟩] false
def c_I_isGlob_3 : ACode := .reg [⟨.loc 9, .mv (.var 0), none, []⟩,
  ⟨.loc 10, .call (.fn 98) [(.loc 9), (.const (.d (.str [47])))] [.borrow, .borrow], none, []⟩,
  ⟨.var 3, .mv (.loc 10), none, []⟩] false
def c_I_isGlob_4 : ACode := .reg [⟨.var 11, .mv (.var 3), none, []⟩,
  ⟨.var 12, .len false (.var 11), none, []⟩,
  ⟨.var 13, .mv (.const (.d (.int .i64 0))), none, []⟩] false
def c_I_isGlob_5 : ACode := .reg [⟨.var 14, .bin .int .lss (.var 13) (.var 12), none, []⟩] false
def c_I_isGlob_6 : ACode := .reg [⟨.loc 15, .mv (.var 13), none, []⟩,
  ⟨.loc 16, .idxA 1 (.var 11) (.var 13), none, []⟩,
  ⟨.loc 17, .load false 1 (.loc 16), none, []⟩,
  ⟨.var 4, .mv (.loc 15), none, []⟩,
  ⟨.var 5, .mv (.loc 17), none, []⟩] false
def c_I_isGlob_7 : ACode := .reg [⟨.loc 18, .mv (.var 5), none, []⟩,
  ⟨.loc 19, .bin .str .eql (.loc 18) (.const (.d (.str [43]))), none, []⟩,
  ⟨.loc 20, .split (.loc 19), none, []⟩,
  ⟨.loc 21, .mv (.var 5), some ((.loc 20), false), []⟩,
  ⟨.loc 22, .bin .str .eql (.loc 21) (.const (.d (.str [42]))), some ((.loc 20), false), []⟩,
  ⟨.loc 23, .split (.loc 22), some ((.loc 20), false), []⟩,
  ⟨.loc 24, .mv (.var 4), some ((.loc 23), true), []⟩,
  ⟨.loc 25, .mv (.var 3), some ((.loc 23), true), []⟩,
  ⟨.loc 26, .len false (.loc 25), some ((.loc 23), true), []⟩,
  ⟨.loc 27, .bin .int .sub (.loc 26) (.const (.d (.int .i64 1))), some ((.loc 23), true), []⟩,
  ⟨.loc 28, .bin .int .eql (.loc 24) (.loc 27), some ((.loc 23), true), []⟩,
  ⟨.loc 29, .pick (.loc 23) (.loc 28) (.const (.d (.bool false))), some ((.loc 20), false), []⟩,
  ⟨.var 30, .pick (.loc 20) (.const (.d (.bool true))) (.loc 29), none, []⟩] false
def c_I_isGlob_8 : ACode := .reg [⟨.loc 31, .mv (.var 5), none, []⟩,
  ⟨.loc 32, .len true (.loc 31), none, []⟩,
  ⟨.loc 33, .call (.fn 51) [(.loc 32), (.const (.d (.int .i64 1))), (.const (.d (.int .i64 16)))] [.borrow, .borrow, .borrow], none, []⟩,
  ⟨.loc 34, .un .not (.loc 33), none, []⟩,
  ⟨.loc 35, .split (.loc 34), none, []⟩,
  ⟨.loc 36, .mv (.var 5), some ((.loc 35), false), []⟩,
  ⟨.loc 37, .call (.fn 99) [(.loc 36), (.const (.d (.str [97, 98, 99, 100, 101, 102, 103, 104, 105, 106, 107, 108, 109, 110, 111, 112, 113, 114, 115, 116, 117, 118, 119, 120, 121, 122, 48, 49, 50, 51, 52, 53, 54, 55, 56, 57, 45])))] [.borrow, .borrow], some ((.loc 35), false), []⟩,
  ⟨.loc 38, .un .not (.loc 37), some ((.loc 35), false), []⟩,
  ⟨.var 39, .pick (.loc 35) (.const (.d (.bool true))) (.loc 38), none, []⟩] false
def c_I_isGlob_9 : ACode := .reg [⟨.var 2, .mv (.const (.d (.bool false))), none, []⟩] false
def c_I_isGlob_10 : ACode := .reg [⟨.loc 40, .bin .int .add (.var 13) (.const (.d (.int .i64 1))), none, []⟩,
  ⟨.var 13, .mv (.loc 40), none, []⟩] false
def c_I_isGlob_11 : ACode := (.seq c_I_isGlob_5 (.seq (.cond (.var 14) .skip (.exit 0)) (.seq (.block 1 (.seq c_I_isGlob_6 (.seq (.seq c_I_isGlob_7 (.cond (.var 30) (.exit 1) .skip)) (.seq c_I_isGlob_8 (.cond (.var 39) (.seq c_I_isGlob_9 .ret) .skip))))) c_I_isGlob_10)))
def c_I_isGlob_12 : ACode := .reg [⟨.loc 41, .mv (.var 3), none, []⟩,
  ⟨.loc 42, .len false (.loc 41), none, []⟩,
  ⟨.loc 43, .bin .int .leq (.loc 42) (.const (.d (.int .i64 8))), none, []⟩,
  ⟨.var 2, .mv (.loc 43), none, []⟩] false
def c_I_isGlob : ACode := (.seq c_I_isGlob_0 (.seq (.seq c_I_isGlob_1 (.cond (.var 8) (.seq c_I_isGlob_2 .ret) .skip)) (.seq c_I_isGlob_3 (.seq (.seq c_I_isGlob_4 (.block 0 (.loop [3, 11, 12, 13] c_I_isGlob_11))) (.seq c_I_isGlob_12 .ret)))))
abbrev F_I_isGlob : FuncId := 81
theorem k_I_isGlob : comp PP (Tryd.f81.ntmps, pinOf 0 [none]) [0, 2, 3, 4, 5, 8, 11, 12, 13, 14, 30, 39] (Tryd.f81.body.getD .skip) = some c_I_isGlob.erase := by kernel_rfl
theorem v_I_isGlob {GG : GV} (rcs : List C) {cs : List C} {r : C} {os : List (Option C)} (hN : (cs.length == 1 && rcs.length == 1) = true) (hret : retOf rcs = r)
    (hW : W PP [0, 2, 3, 4, 5, 8, 11, 12, 13, 14, 30, 39] (Tryd.f81.ntmps, pinOf 0 [none]) (Valid PP GG) c_I_isGlob (entry cs) (Fin (Valid PP GG) [(.give, 2, none)] [none] rcs os) (fun _ _ => False) (Fin (Valid PP GG) [(.give, 2, none)] [none] rcs os)) : Valid PP GG F_I_isGlob cs r os :=
  fn_valid_n 1 1 [0, 2, 3, 4, 5, 8, 11, 12, 13, 14, 30, 39] c_I_isGlob [(.give, 2, none)] [none] rcs Tryd.func81 rfl rfl (by kernel_rfl) k_I_isGlob rfl rfl hN hret hW
def c_L_eqBox_0 : ACode := .reg [⟨.var 2, .box (.var 0), none, []⟩,
  ⟨.var 3, .box (.var 1), none, []⟩,
  ⟨.var 4, .mv (.const (.d (.bool false))), none, []⟩] false
def c_L_eqBox_1 : ACode := .reg [⟨.loc 5, .fld 0 (.var 2), none, []⟩,
  ⟨.loc 6, .load false 1 (.loc 5), none, []⟩,
  ⟨.loc 7, .fld 0 (.var 3), none, []⟩,
  ⟨.loc 8, .load false 1 (.loc 7), none, []⟩,
  ⟨.var 9, .bin .int .neq (.loc 6) (.loc 8), none, []⟩] false
def c_L_eqBox_2 : ACode := .reg [⟨.var 4, .mv (.const (.d (.bool false))), none, []⟩] false
def c_L_eqBox_3 : ACode := .reg [⟨.loc 10, .fld 1 (.var 2), none, []⟩,
  ⟨.loc 11, .load false 1 (.loc 10), none, []⟩,
  ⟨.loc 12, .fld 1 (.var 3), none, []⟩,
  ⟨.loc 13, .load false 1 (.loc 12), none, []⟩,
  ⟨.loc 14, .call (.fn 101) [(.loc 11), (.loc 13)] [.borrow, .borrow], none, []⟩,
  ⟨.var 15, .un .not (.loc 14), none, []⟩] false
def c_L_eqBox_4 : ACode := .reg [⟨.var 4, .mv (.const (.d (.bool false))), none, []⟩] false
def c_L_eqBox_5 : ACode := .reg [⟨.loc 16, .fld 2 (.var 2), none, []⟩,
  ⟨.loc 17, .load false 1 (.loc 16), none, []⟩,
  ⟨.loc 18, .fld 2 (.var 3), none, []⟩,
  ⟨.loc 19, .load false 1 (.loc 18), none, []⟩,
  ⟨.var 20, .bin .int .neq (.loc 17) (.loc 19), none, []⟩] false
def c_L_eqBox_6 : ACode := .reg [⟨.var 4, .mv (.const (.d (.bool false))), none, []⟩] false
def c_L_eqBox_7 : ACode := .reg [⟨.var 4, .mv (.const (.d (.bool true))), none, []⟩] false
def c_L_eqBox : ACode := (.seq c_L_eqBox_0 (.seq (.seq c_L_eqBox_1 (.cond (.var 9) (.seq c_L_eqBox_2 .ret) .skip)) (.seq (.seq c_L_eqBox_3 (.cond (.var 15) (.seq c_L_eqBox_4 .ret) .skip)) (.seq (.seq c_L_eqBox_5 (.cond (.var 20) (.seq c_L_eqBox_6 .ret) .skip)) (.seq c_L_eqBox_7 .ret)))))
abbrev F_L_eqBox : FuncId := 83
theorem k_L_eqBox : comp PP (Tryd.f83.ntmps, pinOf 0 [none, none]) [0, 1, 2, 3, 4, 9, 15, 20] (Tryd.f83.body.getD .skip) = some c_L_eqBox.erase := by kernel_rfl
theorem v_L_eqBox {GG : GV} (rcs : List C) {cs : List C} {r : C} {os : List (Option C)} (hN : (cs.length == 2 && rcs.length == 1) = true) (hret : retOf rcs = r)
    (hW : W PP [0, 1, 2, 3, 4, 9, 15, 20] (Tryd.f83.ntmps, pinOf 0 [none, none]) (Valid PP GG) c_L_eqBox (entry cs) (Fin (Valid PP GG) [(.give, 4, none)] [none, none] rcs os) (fun _ _ => False) (Fin (Valid PP GG) [(.give, 4, none)] [none, none] rcs os)) : Valid PP GG F_L_eqBox cs r os :=
  fn_valid_n 2 1 [0, 1, 2, 3, 4, 9, 15, 20] c_L_eqBox [(.give, 4, none)] [none, none] rcs Tryd.func83 rfl rfl (by kernel_rfl) k_L_eqBox rfl rfl hN hret hW
def c_S_l01Parts_0 : ACode := .reg [⟨.var 4, .mv (.const (.nil 0 1)), none, []⟩] false
def c_S_l01Parts_1 : ACode := .reg [⟨.loc 8, .lit 0 1 0 [.str []] [], none, []⟩,
  ⟨.var 5, .mv (.loc 8), none, []⟩] false
def c_S_l01Parts_2 : ACode := .reg [⟨.var 6, .mv (.const (.d (.int .i64 0))), none, []⟩] false
def c_S_l01Parts_3 : ACode := .reg [⟨.var 7, .mv (.const (.d (.int .i64 0))), none, []⟩] false
def c_S_l01Parts_4 : ACode := .reg [⟨.loc 9, .mv (.var 7), none, []⟩,
  ⟨.loc 10, .mv (.var 0), none, []⟩,
  ⟨.loc 11, .len true (.loc 10), none, []⟩,
  ⟨.var 12, .bin .int .leq (.loc 9) (.loc 11), none, []⟩] false
def c_S_l01Parts_5 : ACode := .reg [⟨.loc 15, .mv (.var 7), none, []⟩,
  ⟨.loc 16, .mv (.var 0), none, []⟩,
  ⟨.loc 17, .len true (.loc 16), none, []⟩,
  ⟨.loc 18, .bin .int .eql (.loc 15) (.loc 17), none, []⟩,
  ⟨.loc 19, .split (.loc 18), none, []⟩,
  ⟨.loc 20, .mv (.var 0), some ((.loc 19), false), []⟩,
  ⟨.loc 21, .mv (.var 7), some ((.loc 19), false), []⟩,
  ⟨.loc 22, .idxS (.loc 20) (.loc 21), some ((.loc 19), false), []⟩,
  ⟨.loc 23, .mv (.var 1), some ((.loc 19), false), []⟩,
  ⟨.loc 24, .bin .int .eql (.loc 22) (.loc 23), some ((.loc 19), false), []⟩,
  ⟨.var 25, .pick (.loc 19) (.const (.d (.bool true))) (.loc 24), none, []⟩] false
def c_S_l01Parts_6 : ACode := .reg [⟨.loc 26, .mv (.var 5), none, []⟩,
  ⟨.loc 27, .mv (.var 0), none, []⟩,
  ⟨.loc 28, .mv (.var 6), none, []⟩,
  ⟨.loc 29, .mv (.var 7), none, []⟩,
  ⟨.loc 30, .sliceS (.loc 27) (some (.loc 28)) (some (.loc 29)), none, []⟩,
  ⟨.loc 31, .lit 0 1 1 [.str []] [(0, (.loc 30))], none, []⟩,
  ⟨.loc 32, .app 1 16 (.loc 26) (.loc 31), none, []⟩,
  ⟨.var 5, .mv (.loc 32), none, []⟩] false
end Go.Proofs.YtmihpclfdicfkaaDoor.Ab
