/-
  A part of a proof about the given program; what is proved is said where each theorem stands.
-/
import Derived.Test.YtmihpclfdicfkaaDoorFrameA
import Derived.Test.YtmihpclfdicfkaaDoorFrameB
import Derived.Test.YtmihpclfdicfkaaDoorFrameC
import Derived.Test.YtmihpclfdicfkaaDoorFrameD
import Derived.Test.YtmihpclfdicfkaaDoorFrameE
import Derived.Test.YtmihpclfdicfkaaDoorShelf
import Derived.Test.YtmihpclfdicfkaaDoorCodesA
set_option maxRecDepth 100000
namespace Go.Proofs.YtmihpclfdicfkaaDoor.Ab
open Go.Proofs
def c_S_SealBox_0 : ACode := .reg [⟨.var 6, .alloc [.d (.int .i64 0), .nil 0 1, .d (.int .i64 0)], none, []⟩,
  ⟨.var 7, .mv (.const (.d (.bool false))), none, []⟩] false
def c_S_SealBox_1 : ACode := .reg [⟨.loc 9, .mv (.var 0), none, []⟩,
  ⟨.loc 10, .call (.fn 57) [(.loc 9)] [.borrow], none, []⟩,
  ⟨.loc 11, .un .not (.loc 10), none, []⟩,
  ⟨.loc 12, .split (.loc 11), none, []⟩,
  ⟨.loc 13, .mv (.var 1), some ((.loc 12), false), []⟩,
  ⟨.loc 14, .call (.fn 57) [(.loc 13)] [.borrow], some ((.loc 12), false), []⟩,
  ⟨.loc 15, .un .not (.loc 14), some ((.loc 12), false), []⟩,
  ⟨.loc 16, .pick (.loc 12) (.const (.d (.bool true))) (.loc 15), none, []⟩,
  ⟨.loc 17, .split (.loc 16), none, []⟩,
  ⟨.loc 18, .mv (.var 2), some ((.loc 17), false), []⟩,
  ⟨.loc 19, .len false (.loc 18), some ((.loc 17), false), []⟩,
  ⟨.loc 20, .bin .int .gtr (.loc 19) (.const (.d (.int .i64 2000))), some ((.loc 17), false), []⟩,
  ⟨.var 21, .pick (.loc 17) (.const (.d (.bool true))) (.loc 20), none, []⟩] false
def c_S_SealBox_2 : ACode := .reg [⟨.loc 22, .build [.d (.int .i64 0), .nil 0 1, .d (.int .i64 0)] [], none, []⟩,
  ⟨.none, .store 3 (.var 6) (.loc 22), none, []⟩,
  ⟨.var 7, .mv (.const (.d (.bool false))), none, []⟩] false
def c_S_SealBox_3 : ACode := .reg [⟨.loc 23, .mv (.var 0), none, []⟩,
  ⟨.loc 24, .mv (.var 1), none, []⟩,
  ⟨.loc 25, .mv (.var 2), none, []⟩,
  ⟨.loc 26, .call (.fn 72) [(.loc 23), (.loc 24), (.loc 25)] [.borrow, .borrow, .borrow], none, []⟩,
  ⟨.var 8, .mv (.loc 26), none, []⟩] false
def c_S_SealBox_4 : ACode := .reg [⟨.loc 27, .mv (.var 1), none, []⟩,
  ⟨.loc 28, .mv (.var 8), none, []⟩,
  ⟨.loc 29, .mv (.var 0), none, []⟩,
  ⟨.loc 30, .mv (.var 1), none, []⟩,
  ⟨.loc 31, .mv (.var 8), none, []⟩,
  ⟨.loc 32, .call (.fn 73) [(.loc 29), (.loc 30), (.loc 31)] [.borrow, .borrow, .borrow], none, []⟩,
  ⟨.loc 33, .build [.d (.int .i64 0), .nil 0 1, .d (.int .i64 0)] [(0, 1, (.loc 27)), (1, 1, (.loc 28)), (2, 1, (.loc 32))], none, []⟩,
  ⟨.none, .store 3 (.var 6) (.loc 33), none, []⟩,
  ⟨.var 7, .mv (.const (.d (.bool true))), none, []⟩] false
def c_S_SealBox : ACode := (.seq c_S_SealBox_0 (.seq (.seq c_S_SealBox_1 (.cond (.var 21) (.seq c_S_SealBox_2 .ret) .skip)) (.seq c_S_SealBox_3 (.seq c_S_SealBox_4 .ret))))
abbrev F_S_SealBox : FuncId := 48
theorem k_S_SealBox : comp PP (Tryd.f48.ntmps, pinOf 0 [none, none, none]) [0, 1, 2, 6, 7, 8, 21] (Tryd.f48.body.getD .skip) = some c_S_SealBox.erase := by kernel_rfl
theorem v_S_SealBox {GG : GV} (rcs : List C) {cs : List C} {r : C} {os : List (Option C)} (hN : (cs.length == 3 && rcs.length == 2) = true) (hret : retOf rcs = r)
    (hW : W PP [0, 1, 2, 6, 7, 8, 21] (Tryd.f48.ntmps, pinOf 0 [none, none, none]) (Valid PP GG) c_S_SealBox (entry cs) (Fin (Valid PP GG) [(.give, 6, some (true, 3)), (.give, 7, none)] [none, none, none] rcs os) (fun _ _ => False) (Fin (Valid PP GG) [(.give, 6, some (true, 3)), (.give, 7, none)] [none, none, none] rcs os)) : Valid PP GG F_S_SealBox cs r os :=
  fn_valid_n 3 2 [0, 1, 2, 6, 7, 8, 21] c_S_SealBox [(.give, 6, some (true, 3)), (.give, 7, none)] [none, none, none] rcs Tryd.func48 rfl rfl (by kernel_rfl) k_S_SealBox rfl rfl hN hret hW
def c_I_putWrap_0 : ACode := .reg [⟨.var 5, .box (.var 0), none, []⟩,
  ⟨.var 10, .alloc [.d (.int .i64 0), .d (.int .i64 0), .nil 1 6], none, []⟩,
  ⟨.var 11, .mv (.const (.d (.int .i64 0))), none, []⟩,
  ⟨.var 12, .mv (.const (.d (.int .i64 0))), none, []⟩] false
def c_I_putWrap_1 : ACode := .reg [⟨.loc 14, .load true 3 (.var 5), none, []⟩,
  ⟨.loc 15, .call (.fn 33) [(.loc 14)] [.borrow], none, []⟩,
  ⟨.var 13, .alloc [.d (.int .i64 0), .d (.int .i64 0), .nil 1 6], none, []⟩,
  ⟨.none, .store 3 (.var 13) (.loc 15), none, []⟩] false
def c_I_putWrap_2 : ACode := .reg [⟨.loc 16, .mv (.var 1), none, []⟩,
  ⟨.loc 17, .call (.fn 60) [(.loc 16)] [.borrow], none, []⟩,
  ⟨.loc 18, .un .not (.loc 17), none, []⟩,
  ⟨.loc 19, .split (.loc 18), none, []⟩,
  ⟨.loc 20, .mv (.var 2), some ((.loc 19), false), []⟩,
  ⟨.loc 21, .len false (.loc 20), some ((.loc 19), false), []⟩,
  ⟨.loc 22, .bin .int .gtr (.loc 21) (.const (.d (.int .i64 2000))), some ((.loc 19), false), []⟩,
  ⟨.loc 23, .pick (.loc 19) (.const (.d (.bool true))) (.loc 22), none, []⟩,
  ⟨.loc 24, .split (.loc 23), none, []⟩,
  ⟨.loc 25, .mv (.var 3), some ((.loc 24), false), []⟩,
  ⟨.loc 26, .call (.fn 51) [(.loc 25), (.const (.d (.int .i64 0))), (.const (.d (.int .i64 1000000000)))] [.borrow, .borrow, .borrow], some ((.loc 24), false), []⟩,
  ⟨.loc 27, .un .not (.loc 26), some ((.loc 24), false), []⟩,
  ⟨.loc 28, .pick (.loc 24) (.const (.d (.bool true))) (.loc 27), none, []⟩,
  ⟨.loc 29, .split (.loc 28), none, []⟩,
  ⟨.loc 30, .mv (.var 4), some ((.loc 29), false), []⟩,
  ⟨.loc 31, .call (.fn 51) [(.loc 30), (.const (.d (.int .i64 1))), (.const (.d (.int .i64 1000000000)))] [.borrow, .borrow, .borrow], some ((.loc 29), false), []⟩,
  ⟨.loc 32, .un .not (.loc 31), some ((.loc 29), false), []⟩,
  ⟨.loc 33, .pick (.loc 29) (.const (.d (.bool true))) (.loc 32), none, []⟩,
  ⟨.loc 34, .split (.loc 33), none, []⟩,
  ⟨.loc 35, .mv (.var 3), some ((.loc 34), false), []⟩,
  ⟨.loc 36, .mv (.var 4), some ((.loc 34), false), []⟩,
  ⟨.loc 37, .bin .int .add (.loc 35) (.loc 36), some ((.loc 34), false), []⟩,
  ⟨.loc 38, .bin .int .gtr (.loc 37) (.const (.d (.int .i64 1000000000))), some ((.loc 34), false), []⟩,
  ⟨.loc 39, .pick (.loc 34) (.const (.d (.bool true))) (.loc 38), none, []⟩,
  ⟨.loc 40, .split (.loc 39), none, []⟩,
  ⟨.loc 41, .fld 1 (.var 5), some ((.loc 40), false), []⟩,
  ⟨.loc 42, .load false 1 (.loc 41), some ((.loc 40), false), []⟩,
  ⟨.loc 43, .bin .int .eql (.loc 42) (.const (.d (.int .i64 1000000000))), some ((.loc 40), false), []⟩,
  ⟨.var 44, .pick (.loc 40) (.const (.d (.bool true))) (.loc 43), none, []⟩] false
def c_I_putWrap_3 : ACode := .reg [⟨.loc 45, .load true 3 (.var 13), none, []⟩,
  ⟨.none, .store 3 (.var 10) (.loc 45), none, []⟩,
  ⟨.var 11, .mv (.const (.d (.int .i64 0))), none, []⟩,
  ⟨.var 12, .mv (.const (.d (.int .i64 1))), none, []⟩] false
def c_I_putWrap_4 : ACode := .reg [⟨.loc 46, .fld 2 (.var 5), none, []⟩,
  ⟨.loc 47, .load false 1 (.loc 46), none, []⟩,
  ⟨.loc 48, .len false (.loc 47), none, []⟩,
  ⟨.var 49, .bin .int .eql (.loc 48) (.const (.d (.int .i64 60))), none, []⟩] false
def c_I_putWrap_5 : ACode := .reg [⟨.loc 50, .load true 3 (.var 13), none, []⟩,
  ⟨.none, .store 3 (.var 10) (.loc 50), none, []⟩,
  ⟨.var 11, .mv (.const (.d (.int .i64 0))), none, []⟩,
  ⟨.var 12, .mv (.const (.d (.int .i64 5))), none, []⟩] false
def c_I_putWrap_6 : ACode := .reg [⟨.loc 51, .fld 2 (.var 13), none, []⟩,
  ⟨.loc 52, .load false 1 (.loc 51), none, [0]⟩,
  ⟨.loc 53, .fld 1 (.var 5), none, []⟩,
  ⟨.loc 54, .load false 1 (.loc 53), none, [2]⟩,
  ⟨.loc 55, .mv (.var 3), none, []⟩,
  ⟨.loc 56, .mv (.var 4), none, []⟩,
  ⟨.loc 57, .bin .int .add (.loc 55) (.loc 56), none, [4, 5]⟩,
  ⟨.loc 58, .mv (.var 1), none, []⟩,
  ⟨.loc 59, .fld 0 (.var 5), none, []⟩,
  ⟨.loc 60, .load false 1 (.loc 59), none, [8]⟩,
  ⟨.loc 61, .fld 1 (.var 5), none, []⟩,
  ⟨.loc 62, .load false 1 (.loc 61), none, [10]⟩,
  ⟨.loc 63, .mv (.var 2), none, []⟩,
  ⟨.loc 64, .call (.fn 55) [(.loc 60), (.loc 62), (.loc 63)] [.borrow, .borrow, .borrow], none, [9, 8, 11, 10, 12]⟩,
  ⟨.loc 65, .build [.d (.int .i64 0), .d (.int .i64 0), .d (.str []), .d (.int .i64 0), .nil 0 1, .d (.int .i64 0)] [(0, 1, (.loc 54)), (1, 1, (.loc 57)), (2, 1, (.loc 58)), (3, 3, (.loc 64))], none, [3, 2, 6, 4, 5, 7, 13, 9, 8, 11, 10, 12]⟩,
  ⟨.loc 66, .lit 1 6 1 [.int .i64 0, .int .i64 0, .str [], .int .i64 0, .slc 1 [], .int .i64 0] [(0, (.loc 65))], none, [14, 3, 2, 6, 4, 5, 7, 13, 9, 8, 11, 10, 12]⟩,
  ⟨.loc 67, .app 6 72 (.loc 52) (.loc 66), none, [1, 0, 15, 14, 3, 2, 6, 4, 5, 7, 13, 9, 8, 11, 10, 12]⟩,
  ⟨.loc 68, .fld 2 (.var 13), none, [16, 1, 0, 15, 14, 3, 2, 6, 4, 5, 7, 13, 9, 8, 11, 10, 12]⟩,
  ⟨.none, .store 1 (.loc 68) (.loc 67), none, [17, 16, 1, 0, 15, 14, 3, 2, 6, 4, 5, 7, 13, 9, 8, 11, 10, 12]⟩] true
def c_I_putWrap_7 : ACode := .reg [⟨.loc 69, .fld 1 (.var 13), none, []⟩,
  ⟨.loc 70, .load false 1 (.loc 69), none, []⟩,
  ⟨.loc 71, .bin .int .add (.loc 70) (.const (.d (.int .i64 1))), none, []⟩,
  ⟨.loc 72, .fld 1 (.var 13), none, []⟩,
  ⟨.none, .store 1 (.loc 72) (.loc 71), none, []⟩] false
def c_I_putWrap_8 : ACode := .reg [⟨.loc 73, .load true 3 (.var 13), none, []⟩,
  ⟨.loc 74, .fld 1 (.var 5), none, []⟩,
  ⟨.loc 75, .load false 1 (.loc 74), none, [1]⟩,
  ⟨.none, .store 3 (.var 10) (.loc 73), none, [0]⟩,
  ⟨.var 11, .mv (.loc 75), none, [2, 1, 3, 0]⟩,
  ⟨.var 12, .mv (.const (.d (.int .i64 0))), none, [4, 2, 1, 3, 0]⟩] true
def c_I_putWrap : ACode := (.seq c_I_putWrap_0 (.seq c_I_putWrap_1 (.seq (.seq c_I_putWrap_2 (.cond (.var 44) (.seq c_I_putWrap_3 .ret) .skip)) (.seq (.seq c_I_putWrap_4 (.cond (.var 49) (.seq c_I_putWrap_5 .ret) .skip)) (.seq c_I_putWrap_6 (.seq c_I_putWrap_7 (.seq c_I_putWrap_8 .ret)))))))
abbrev F_I_putWrap : FuncId := 49
theorem k_I_putWrap : comp PP (Tryd.f49.ntmps, pinOf 0 [none, none, none, none, none]) [0, 1, 2, 3, 4, 5, 10, 11, 12, 13, 44, 49] (Tryd.f49.body.getD .skip) = some c_I_putWrap.erase := by kernel_rfl
theorem v_I_putWrap {GG : GV} (rcs : List C) {cs : List C} {r : C} {os : List (Option C)} (hN : (cs.length == 5 && rcs.length == 3) = true) (hret : retOf rcs = r)
    (hW : W PP [0, 1, 2, 3, 4, 5, 10, 11, 12, 13, 44, 49] (Tryd.f49.ntmps, pinOf 0 [none, none, none, none, none]) (Valid PP GG) c_I_putWrap (entry cs) (Fin (Valid PP GG) [(.give, 10, some (true, 3)), (.give, 11, none), (.give, 12, none)] [none, none, none, none, none] rcs os) (fun _ _ => False) (Fin (Valid PP GG) [(.give, 10, some (true, 3)), (.give, 11, none), (.give, 12, none)] [none, none, none, none, none] rcs os)) : Valid PP GG F_I_putWrap cs r os :=
  fn_valid_n 5 3 [0, 1, 2, 3, 4, 5, 10, 11, 12, 13, 44, 49] c_I_putWrap [(.give, 10, some (true, 3)), (.give, 11, none), (.give, 12, none)] [none, none, none, none, none] rcs Tryd.func49 rfl rfl (by kernel_rfl) k_I_putWrap rfl rfl hN hret hW
def c_I_wrapIndex_0 : ACode := .reg [⟨.var 2, .box (.var 0), none, []⟩,
  ⟨.var 3, .box (.var 1), none, []⟩,
  ⟨.var 4, .mv (.const (.d (.int .i64 0))), none, []⟩] false
def c_I_wrapIndex_1 : ACode := .reg [⟨.loc 5, .fld 2 (.var 2), none, []⟩,
  ⟨.loc 6, .load false 1 (.loc 5), none, []⟩,
  ⟨.loc 7, .clo 75 [(.var 3)], none, []⟩,
  ⟨.loc 8, .call (.fn 74) [(.loc 6), (.loc 7)] [.borrow, .borrow], none, []⟩,
  ⟨.var 4, .mv (.loc 8), none, []⟩] false
def c_I_wrapIndex : ACode := (.seq c_I_wrapIndex_0 (.seq c_I_wrapIndex_1 .ret))
abbrev F_I_wrapIndex : FuncId := 50
theorem k_I_wrapIndex : comp PP (Tryd.f50.ntmps, pinOf 0 [none, none]) [0, 1, 2, 3, 4] (Tryd.f50.body.getD .skip) = some c_I_wrapIndex.erase := by kernel_rfl
theorem v_I_wrapIndex {GG : GV} (rcs : List C) {cs : List C} {r : C} {os : List (Option C)} (hN : (cs.length == 2 && rcs.length == 1) = true) (hret : retOf rcs = r)
    (hW : W PP [0, 1, 2, 3, 4] (Tryd.f50.ntmps, pinOf 0 [none, none]) (Valid PP GG) c_I_wrapIndex (entry cs) (Fin (Valid PP GG) [(.give, 4, none)] [none, none] rcs os) (fun _ _ => False) (Fin (Valid PP GG) [(.give, 4, none)] [none, none] rcs os)) : Valid PP GG F_I_wrapIndex cs r os :=
  fn_valid_n 2 1 [0, 1, 2, 3, 4] c_I_wrapIndex [(.give, 4, none)] [none, none] rcs Tryd.func50 rfl rfl (by kernel_rfl) k_I_wrapIndex rfl rfl hN hret hW
def c_I_within_0 : ACode := .reg [⟨.var 6, .mv (.const (.d (.bool false))), none, []⟩] false
def c_I_within_1 : ACode := .reg [⟨.loc 7, .mv (.var 0), none, []⟩,
  ⟨.loc 8, .mv (.var 1), none, []⟩,
  ⟨.loc 9, .bin .int .geq (.loc 7) (.loc 8), none, []⟩,
  ⟨.loc 10, .split (.loc 9), none, []⟩,
  ⟨.loc 11, .mv (.var 0), some ((.loc 10), true), []⟩,
  ⟨.loc 12, .mv (.var 2), some ((.loc 10), true), []⟩,
  ⟨.loc 13, .bin .int .leq (.loc 11) (.loc 12), some ((.loc 10), true), []⟩,
  ⟨.loc 14, .pick (.loc 10) (.loc 13) (.const (.d (.bool false))), none, []⟩,
  ⟨.var 6, .mv (.loc 14), none, []⟩] false
def c_I_within : ACode := (.seq c_I_within_0 (.seq c_I_within_1 .ret))
abbrev F_I_within : FuncId := 51
theorem k_I_within : comp PP (Tryd.f51.ntmps, pinOf 0 [none, none, none]) [0, 1, 2, 6] (Tryd.f51.body.getD .skip) = some c_I_within.erase := by kernel_rfl
theorem v_I_within {GG : GV} (rcs : List C) {cs : List C} {r : C} {os : List (Option C)} (hN : (cs.length == 3 && rcs.length == 1) = true) (hret : retOf rcs = r)
    (hW : W PP [0, 1, 2, 6] (Tryd.f51.ntmps, pinOf 0 [none, none, none]) (Valid PP GG) c_I_within (entry cs) (Fin (Valid PP GG) [(.give, 6, none)] [none, none, none] rcs os) (fun _ _ => False) (Fin (Valid PP GG) [(.give, 6, none)] [none, none, none] rcs os)) : Valid PP GG F_I_within cs r os :=
  fn_valid_n 3 1 [0, 1, 2, 6] c_I_within [(.give, 6, none)] [none, none, none] rcs Tryd.func51 rfl rfl (by kernel_rfl) k_I_within rfl rfl hN hret hW
def c_I_openWrap_0 : ACode := .reg [⟨.var 3, .box (.var 0), none, []⟩,
  ⟨.var 6, .alloc [.d (.int .i64 0), .d (.int .i64 0), .nil 1 6], none, []⟩,
  ⟨.var 7, .mv (.const (.nil 0 1)), none, []⟩,
  ⟨.var 8, .mv (.const (.d (.int .i64 0))), none, []⟩] false
def c_I_openWrap_1 : ACode := .reg [⟨.loc 14, .load true 3 (.var 3), none, []⟩,
  ⟨.loc 15, .call (.fn 33) [(.loc 14)] [.borrow], none, []⟩,
  ⟨.var 9, .alloc [.d (.int .i64 0), .d (.int .i64 0), .nil 1 6], none, []⟩,
  ⟨.none, .store 3 (.var 9) (.loc 15), none, []⟩] false
def c_I_openWrap_2 : ACode := .reg [⟨.loc 16, .load true 3 (.var 3), none, []⟩,
  ⟨.loc 17, .mv (.var 1), none, []⟩,
  ⟨.loc 18, .call (.fn 50) [(.loc 16), (.loc 17)] [.borrow, .borrow], none, []⟩,
  ⟨.var 10, .mv (.loc 18), none, []⟩] false
def c_I_openWrap_3 : ACode := .reg [⟨.loc 19, .mv (.var 10), none, []⟩,
  ⟨.var 20, .bin .int .lss (.loc 19) (.const (.d (.int .i64 0))), none, []⟩] false
def c_I_openWrap_4 : ACode := .reg [⟨.loc 21, .load true 3 (.var 9), none, []⟩,
  ⟨.none, .store 3 (.var 6) (.loc 21), none, []⟩,
  ⟨.var 7, .mv (.const (.nil 0 1)), none, []⟩,
  ⟨.var 8, .mv (.const (.d (.int .i64 2))), none, []⟩] false
def c_I_openWrap_5 : ACode := .reg [⟨.loc 22, .fld 2 (.var 3), none, []⟩,
  ⟨.loc 23, .load false 1 (.loc 22), none, []⟩,
  ⟨.loc 24, .mv (.var 10), none, []⟩,
  ⟨.loc 25, .idxA 6 (.loc 23) (.loc 24), none, []⟩,
  ⟨.loc 26, .load true 6 (.loc 25), none, []⟩,
  ⟨.var 11, .alloc [.d (.int .i64 0), .d (.int .i64 0), .d (.str []), .d (.int .i64 0), .nil 0 1, .d (.int .i64 0)], none, []⟩,
  ⟨.none, .store 6 (.var 11) (.loc 26), none, []⟩] false
def c_I_openWrap_6 : ACode := .reg [⟨.loc 27, .fld 2 (.var 9), none, []⟩,
  ⟨.loc 28, .load false 1 (.loc 27), none, []⟩,
  ⟨.loc 29, .mv (.var 10), none, []⟩,
  ⟨.loc 30, .mv (.var 10), none, []⟩,
  ⟨.loc 31, .bin .int .add (.loc 30) (.const (.d (.int .i64 1))), none, []⟩,
  ⟨.loc 32, .call (.fn 76) [(.loc 28), (.loc 29), (.loc 31)] [.give, .borrow, .borrow], none, []⟩,
  ⟨.loc 33, .fld 2 (.var 9), none, []⟩,
  ⟨.none, .store 1 (.loc 33) (.loc 32), none, []⟩] false
def c_I_openWrap_7 : ACode := .reg [⟨.loc 34, .fld 1 (.var 11), none, []⟩,
  ⟨.loc 35, .load false 1 (.loc 34), none, []⟩,
  ⟨.loc 36, .mv (.var 2), none, []⟩,
  ⟨.var 37, .bin .int .leq (.loc 35) (.loc 36), none, []⟩] false
def c_I_openWrap_8 : ACode := .reg [⟨.loc 38, .load true 3 (.var 9), none, []⟩,
  ⟨.none, .store 3 (.var 6) (.loc 38), none, []⟩,
  ⟨.var 7, .mv (.const (.nil 0 1)), none, []⟩,
  ⟨.var 8, .mv (.const (.d (.int .i64 3))), none, []⟩] false
def c_I_openWrap_9 : ACode := .reg [⟨.loc 40, .fld 0 (.var 3), none, []⟩,
  ⟨.loc 41, .load false 1 (.loc 40), none, []⟩,
  ⟨.loc 42, .fld 3 (.var 11), none, []⟩,
  ⟨.loc 43, .load true 3 (.loc 42), none, []⟩,
  ⟨.loc 44, .call (.fn 54) [(.loc 41), (.loc 43)] [.borrow, .borrow], none, []⟩,
  ⟨.loc 39, .mv (.loc 44), none, []⟩,
  ⟨.loc 45, .ext (.loc 39) 0, none, []⟩,
  ⟨.loc 46, .ext (.loc 39) 1, none, []⟩,
  ⟨.var 12, .mv (.loc 45), none, []⟩,
  ⟨.var 13, .mv (.loc 46), none, []⟩] false
def c_I_openWrap_10 : ACode := .reg [⟨.loc 47, .mv (.var 13), none, []⟩,
  ⟨.var 48, .un .not (.loc 47), none, []⟩] false
def c_I_openWrap_11 : ACode := .reg [⟨.loc 49, .load true 3 (.var 9), none, []⟩,
  ⟨.none, .store 3 (.var 6) (.loc 49), none, []⟩,
  ⟨.var 7, .mv (.const (.nil 0 1)), none, []⟩,
  ⟨.var 8, .mv (.const (.d (.int .i64 4))), none, []⟩] false
def c_I_openWrap_12 : ACode := .reg [⟨.loc 50, .load true 3 (.var 9), none, []⟩,
  ⟨.loc 51, .mv (.var 12), none, []⟩,
  ⟨.none, .store 3 (.var 6) (.loc 50), none, []⟩,
  ⟨.var 7, .mv (.loc 51), none, []⟩,
  ⟨.var 8, .mv (.const (.d (.int .i64 0))), none, []⟩] false
def c_I_openWrap : ACode := (.seq c_I_openWrap_0 (.seq c_I_openWrap_1 (.seq c_I_openWrap_2 (.seq (.seq c_I_openWrap_3 (.cond (.var 20) (.seq c_I_openWrap_4 .ret) .skip)) (.seq c_I_openWrap_5 (.seq c_I_openWrap_6 (.seq (.seq c_I_openWrap_7 (.cond (.var 37) (.seq c_I_openWrap_8 .ret) .skip)) (.seq c_I_openWrap_9 (.seq (.seq c_I_openWrap_10 (.cond (.var 48) (.seq c_I_openWrap_11 .ret) .skip)) (.seq c_I_openWrap_12 .ret))))))))))
abbrev F_I_openWrap : FuncId := 52
theorem k_I_openWrap : comp PP (Tryd.f52.ntmps, pinOf 0 [none, none, none]) [0, 1, 2, 3, 6, 7, 8, 9, 10, 11, 12, 13, 20, 37, 48] (Tryd.f52.body.getD .skip) = some c_I_openWrap.erase := by kernel_rfl
theorem v_I_openWrap {GG : GV} (rcs : List C) {cs : List C} {r : C} {os : List (Option C)} (hN : (cs.length == 3 && rcs.length == 3) = true) (hret : retOf rcs = r)
    (hW : W PP [0, 1, 2, 3, 6, 7, 8, 9, 10, 11, 12, 13, 20, 37, 48] (Tryd.f52.ntmps, pinOf 0 [none, none, none]) (Valid PP GG) c_I_openWrap (entry cs) (Fin (Valid PP GG) [(.give, 6, some (true, 3)), (.give, 7, none), (.give, 8, none)] [none, none, none] rcs os) (fun _ _ => False) (Fin (Valid PP GG) [(.give, 6, some (true, 3)), (.give, 7, none), (.give, 8, none)] [none, none, none] rcs os)) : Valid PP GG F_I_openWrap cs r os :=
  fn_valid_n 3 3 [0, 1, 2, 3, 6, 7, 8, 9, 10, 11, 12, 13, 20, 37, 48] c_I_openWrap [(.give, 6, some (true, 3)), (.give, 7, none), (.give, 8, none)] [none, none, none] rcs Tryd.func52 rfl rfl (by kernel_rfl) k_I_openWrap rfl rfl hN hret hW
def c_I_isKey_0 : ACode := .reg [⟨.var 2, .mv (.const (.d (.bool false))), none, []⟩] false
def c_I_isKey_1 : ACode := .reg [⟨.loc 3, .mv (.var 0), none, []⟩,
  ⟨.loc 4, .call (.fn 51) [(.loc 3), (.const (.d (.int .i64 0))), (.const (.d (.int .i64 1099511627776)))] [.borrow, .borrow, .borrow], none, []⟩,
  ⟨.var 2, .mv (.loc 4), none, []⟩] false
def c_I_isKey : ACode := (.seq c_I_isKey_0 (.seq c_I_isKey_1 .ret))
abbrev F_I_isKey : FuncId := 53
theorem k_I_isKey : comp PP (Tryd.f53.ntmps, pinOf 0 [none]) [0, 2] (Tryd.f53.body.getD .skip) = some c_I_isKey.erase := by kernel_rfl
theorem v_I_isKey {GG : GV} (rcs : List C) {cs : List C} {r : C} {os : List (Option C)} (hN : (cs.length == 1 && rcs.length == 1) = true) (hret : retOf rcs = r)
    (hW : W PP [0, 2] (Tryd.f53.ntmps, pinOf 0 [none]) (Valid PP GG) c_I_isKey (entry cs) (Fin (Valid PP GG) [(.give, 2, none)] [none] rcs os) (fun _ _ => False) (Fin (Valid PP GG) [(.give, 2, none)] [none] rcs os)) : Valid PP GG F_I_isKey cs r os :=
  fn_valid_n 1 1 [0, 2] c_I_isKey [(.give, 2, none)] [none] rcs Tryd.func53 rfl rfl (by kernel_rfl) k_I_isKey rfl rfl hN hret hW
def c_I_openBox_0 : ACode := .reg [⟨.var 3, .box (.var 1), none, []⟩,
  ⟨.var 4, .mv (.const (.nil 0 1)), none, []⟩,
  ⟨.var 5, .mv (.const (.d (.bool false))), none, []⟩] false
def c_I_openBox_1 : ACode := .reg [⟨.loc 6, .fld 0 (.var 3), none, []⟩,
  ⟨.loc 7, .load false 1 (.loc 6), none, [0]⟩,
  ⟨.loc 8, .call (.fn 53) [(.loc 7)] [.borrow], none, [1, 0]⟩,
  ⟨.loc 9, .un .not (.loc 8), none, [2, 1, 0]⟩,
  ⟨.loc 10, .split (.loc 9), none, [3, 2, 1, 0]⟩,
  ⟨.loc 11, .fld 1 (.var 3), some ((.loc 10), false), [4, 3, 2, 1, 0]⟩,
  ⟨.loc 12, .load false 1 (.loc 11), some ((.loc 10), false), [5, 4, 3, 2, 1, 0]⟩,
  ⟨.loc 13, .len false (.loc 12), some ((.loc 10), false), [6, 5, 4, 3, 2, 1, 0]⟩,
  ⟨.loc 14, .bin .int .gtr (.loc 13) (.const (.d (.int .i64 2000))), some ((.loc 10), false), [7, 6, 5, 4, 3, 2, 1, 0]⟩,
  ⟨.loc 15, .pick (.loc 10) (.const (.d (.bool true))) (.loc 14), none, [8, 7, 6, 5, 4, 3, 2, 1, 0]⟩,
  ⟨.loc 16, .split (.loc 15), none, [9, 8, 7, 6, 5, 4, 3, 2, 1, 0]⟩,
  ⟨.loc 17, .mv (.var 0), some ((.loc 16), false), [10, 9, 8, 7, 6, 5, 4, 3, 2, 1, 0]⟩,
  ⟨.loc 18, .fld 0 (.var 3), some ((.loc 16), false), [10, 9, 8, 7, 6, 5, 4, 3, 2, 1, 0]⟩,
  ⟨.loc 19, .load false 1 (.loc 18), some ((.loc 16), false), [12, 10, 9, 8, 7, 6, 5, 4, 3, 2, 1, 0]⟩,
  ⟨.loc 20, .fld 1 (.var 3), some ((.loc 16), false), [10, 9, 8, 7, 6, 5, 4, 3, 2, 1, 0]⟩,
  ⟨.loc 21, .load false 1 (.loc 20), some ((.loc 16), false), [14, 10, 9, 8, 7, 6, 5, 4, 3, 2, 1, 0]⟩,
  ⟨.loc 22, .call (.fn 77) [(.loc 17), (.loc 19), (.loc 21)] [.borrow, .borrow, .borrow], some ((.loc 16), false), [11, 13, 12, 15, 14, 10, 9, 8, 7, 6, 5, 4, 3, 2, 1, 0]⟩,
  ⟨.loc 23, .fld 2 (.var 3), some ((.loc 16), false), [10, 9, 8, 7, 6, 5, 4, 3, 2, 1, 0]⟩,
  ⟨.loc 24, .load false 1 (.loc 23), some ((.loc 16), false), [17, 10, 9, 8, 7, 6, 5, 4, 3, 2, 1, 0]⟩,
  ⟨.loc 25, .bin .int .neq (.loc 22) (.loc 24), some ((.loc 16), false), [16, 11, 13, 12, 15, 14, 18, 17, 10, 9, 8, 7, 6, 5, 4, 3, 2, 1, 0]⟩,
  ⟨.var 26, .pick (.loc 16) (.const (.d (.bool true))) (.loc 25), none, [19, 16, 11, 13, 12, 15, 14, 18, 17, 10, 9, 8, 7, 6, 5, 4, 3, 2, 1, 0]⟩] true
def c_I_openBox_2 : ACode := .reg [⟨.var 4, .mv (.const (.nil 0 1)), none, []⟩,
  ⟨.var 5, .mv (.const (.d (.bool false))), none, []⟩] false
def c_I_openBox_3 : ACode := .reg [⟨.loc 27, .mv (.var 0), none, []⟩,
  ⟨.loc 28, .fld 0 (.var 3), none, []⟩,
  ⟨.loc 29, .load false 1 (.loc 28), none, []⟩,
  ⟨.loc 30, .fld 1 (.var 3), none, []⟩,
  ⟨.loc 31, .load false 1 (.loc 30), none, []⟩,
  ⟨.loc 32, .call (.fn 78) [(.loc 27), (.loc 29), (.loc 31)] [.borrow, .borrow, .borrow], none, []⟩,
  ⟨.var 4, .mv (.loc 32), none, []⟩,
  ⟨.var 5, .mv (.const (.d (.bool true))), none, []⟩] false
def c_I_openBox : ACode := (.seq c_I_openBox_0 (.seq (.seq c_I_openBox_1 (.cond (.var 26) (.seq c_I_openBox_2 .ret) .skip)) (.seq c_I_openBox_3 .ret)))
abbrev F_I_openBox : FuncId := 54
theorem k_I_openBox : comp PP (Tryd.f54.ntmps, pinOf 0 [none, none]) [0, 1, 3, 4, 5, 26] (Tryd.f54.body.getD .skip) = some c_I_openBox.erase := by kernel_rfl
theorem v_I_openBox {GG : GV} (rcs : List C) {cs : List C} {r : C} {os : List (Option C)} (hN : (cs.length == 2 && rcs.length == 2) = true) (hret : retOf rcs = r)
    (hW : W PP [0, 1, 3, 4, 5, 26] (Tryd.f54.ntmps, pinOf 0 [none, none]) (Valid PP GG) c_I_openBox (entry cs) (Fin (Valid PP GG) [(.give, 4, none), (.give, 5, none)] [none, none] rcs os) (fun _ _ => False) (Fin (Valid PP GG) [(.give, 4, none), (.give, 5, none)] [none, none] rcs os)) : Valid PP GG F_I_openBox cs r os :=
  fn_valid_n 2 2 [0, 1, 3, 4, 5, 26] c_I_openBox [(.give, 4, none), (.give, 5, none)] [none, none] rcs Tryd.func54 rfl rfl (by kernel_rfl) k_I_openBox rfl rfl hN hret hW
def c_I_sealBox_0 : ACode := .reg [⟨.var 6, .alloc [.d (.int .i64 0), .nil 0 1, .d (.int .i64 0)], none, []⟩] false
def c_I_sealBox_1 : ACode := .reg [⟨.loc 8, .mv (.var 0), none, []⟩,
  ⟨.loc 9, .mv (.var 1), none, []⟩,
  ⟨.loc 10, .mv (.var 2), none, []⟩,
  ⟨.loc 11, .call (.fn 78) [(.loc 8), (.loc 9), (.loc 10)] [.borrow, .borrow, .borrow], none, []⟩,
  ⟨.var 7, .mv (.loc 11), none, []⟩] false
def c_I_sealBox_2 : ACode := .reg [⟨.loc 12, .mv (.var 1), none, []⟩,
  ⟨.loc 13, .mv (.var 7), none, []⟩,
  ⟨.loc 14, .mv (.var 0), none, []⟩,
  ⟨.loc 15, .mv (.var 1), none, []⟩,
  ⟨.loc 16, .mv (.var 7), none, []⟩,
  ⟨.loc 17, .call (.fn 77) [(.loc 14), (.loc 15), (.loc 16)] [.borrow, .borrow, .borrow], none, []⟩,
  ⟨.loc 18, .build [.d (.int .i64 0), .nil 0 1, .d (.int .i64 0)] [(0, 1, (.loc 12)), (1, 1, (.loc 13)), (2, 1, (.loc 17))], none, []⟩,
  ⟨.none, .store 3 (.var 6) (.loc 18), none, []⟩] false
def c_I_sealBox : ACode := (.seq c_I_sealBox_0 (.seq c_I_sealBox_1 (.seq c_I_sealBox_2 .ret)))
abbrev F_I_sealBox : FuncId := 55
theorem k_I_sealBox : comp PP (Tryd.f55.ntmps, pinOf 0 [none, none, none]) [0, 1, 2, 6, 7] (Tryd.f55.body.getD .skip) = some c_I_sealBox.erase := by kernel_rfl
theorem v_I_sealBox {GG : GV} (rcs : List C) {cs : List C} {r : C} {os : List (Option C)} (hN : (cs.length == 3 && rcs.length == 1) = true) (hret : retOf rcs = r)
    (hW : W PP [0, 1, 2, 6, 7] (Tryd.f55.ntmps, pinOf 0 [none, none, none]) (Valid PP GG) c_I_sealBox (entry cs) (Fin (Valid PP GG) [(.give, 6, some (true, 3))] [none, none, none] rcs os) (fun _ _ => False) (Fin (Valid PP GG) [(.give, 6, some (true, 3))] [none, none, none] rcs os)) : Valid PP GG F_I_sealBox cs r os :=
  fn_valid_n 3 1 [0, 1, 2, 6, 7] c_I_sealBox [(.give, 6, some (true, 3))] [none, none, none] rcs Tryd.func55 rfl rfl (by kernel_rfl) k_I_sealBox rfl rfl hN hret hW
def c_S_l04Key_0 : ACode := .reg [⟨.var 2, .mv (.const (.d (.bool false))), none, []⟩] false
def c_S_l04Key_1 : ACode := .reg [⟨.loc 3, .mv (.var 0), none, []⟩,
  ⟨.loc 4, .call (.fn 47) [(.loc 3), (.const (.d (.int .i64 0))), (.const (.d (.int .i64 1099511627776)))] [.borrow, .borrow, .borrow], none, []⟩,
  ⟨.var 2, .mv (.loc 4), none, []⟩] false
def c_S_l04Key : ACode := (.seq c_S_l04Key_0 (.seq c_S_l04Key_1 .ret))
abbrev F_S_l04Key : FuncId := 57
theorem k_S_l04Key : comp PP (Tryd.f57.ntmps, pinOf 0 [none]) [0, 2] (Tryd.f57.body.getD .skip) = some c_S_l04Key.erase := by kernel_rfl
theorem v_S_l04Key {GG : GV} (rcs : List C) {cs : List C} {r : C} {os : List (Option C)} (hN : (cs.length == 1 && rcs.length == 1) = true) (hret : retOf rcs = r)
    (hW : W PP [0, 2] (Tryd.f57.ntmps, pinOf 0 [none]) (Valid PP GG) c_S_l04Key (entry cs) (Fin (Valid PP GG) [(.give, 2, none)] [none] rcs os) (fun _ _ => False) (Fin (Valid PP GG) [(.give, 2, none)] [none] rcs os)) : Valid PP GG F_S_l04Key cs r os :=
  fn_valid_n 1 1 [0, 2] c_S_l04Key [(.give, 2, none)] [none] rcs Tryd.func57 rfl rfl (by kernel_rfl) k_S_l04Key rfl rfl hN hret hW
def c_S_l01Bytes_0 : ACode := .reg [⟨.var 2, .mv (.const (.nil 0 1)), none, []⟩] false
def c_S_l01Bytes_1 : ACode := .reg [⟨.loc 5, .lit 0 1 0 [.int .u8 0] [], none, []⟩,
  ⟨.var 3, .mv (.loc 5), none, []⟩] false
def c_S_l01Bytes_2 : ACode := .reg [⟨.var 4, .mv (.const (.d (.int .i64 0))), none, []⟩] false
def c_S_l01Bytes_3 : ACode := .reg [⟨.loc 6, .mv (.var 4), none, []⟩,
  ⟨.loc 7, .mv (.var 0), none, []⟩,
  ⟨.loc 8, .len false (.loc 7), none, []⟩,
  ⟨.var 9, .bin .int .lss (.loc 6) (.loc 8), none, []⟩] false
def c_S_l01Bytes_4 : ACode := .reg [⟨.loc 12, .mv (.var 3), none, []⟩,
  ⟨.loc 13, .mv (.var 0), none, []⟩,
  ⟨.loc 14, .mv (.var 4), none, []⟩,
  ⟨.loc 15, .idxA 1 (.loc 13) (.loc 14), none, []⟩,
  ⟨.loc 16, .load false 1 (.loc 15), none, []⟩,
  ⟨.loc 17, .lit 0 1 1 [.int .u8 0] [(0, (.loc 16))], none, []⟩,
  ⟨.loc 18, .app 1 1 (.loc 12) (.loc 17), none, []⟩,
  ⟨.var 3, .mv (.loc 18), none, []⟩] false
def c_S_l01Bytes_5 : ACode := .reg [⟨.loc 10, .mv (.var 4), none, []⟩,
  ⟨.loc 11, .bin .int .add (.loc 10) (.const (.d (.int .i64 1))), none, []⟩,
  ⟨.var 4, .mv (.loc 11), none, []⟩] false
def c_S_l01Bytes_6 : ACode := (.seq (.seq c_S_l01Bytes_3 (.cond (.var 9) .skip (.exit 0))) (.seq (.block 1 c_S_l01Bytes_4) c_S_l01Bytes_5))
def c_S_l01Bytes_7 : ACode := .reg [⟨.loc 19, .mv (.var 3), none, []⟩,
  ⟨.var 2, .mv (.loc 19), none, []⟩] false
def c_S_l01Bytes : ACode := (.seq c_S_l01Bytes_0 (.seq c_S_l01Bytes_1 (.seq (.seq c_S_l01Bytes_2 (.block 0 (.loop [0, 3, 4] c_S_l01Bytes_6))) (.seq c_S_l01Bytes_7 .ret))))
abbrev F_S_l01Bytes : FuncId := 58
theorem k_S_l01Bytes : comp PP (Tryd.f58.ntmps, pinOf 0 [none]) [0, 2, 3, 4, 9] (Tryd.f58.body.getD .skip) = some c_S_l01Bytes.erase := by kernel_rfl
theorem v_S_l01Bytes {GG : GV} (rcs : List C) {cs : List C} {r : C} {os : List (Option C)} (hN : (cs.length == 1 && rcs.length == 1) = true) (hret : retOf rcs = r)
    (hW : W PP [0, 2, 3, 4, 9] (Tryd.f58.ntmps, pinOf 0 [none]) (Valid PP GG) c_S_l01Bytes (entry cs) (Fin (Valid PP GG) [(.give, 2, none)] [none] rcs os) (fun _ _ => False) (Fin (Valid PP GG) [(.give, 2, none)] [none] rcs os)) : Valid PP GG F_S_l01Bytes cs r os :=
  fn_valid_n 1 1 [0, 2, 3, 4, 9] c_S_l01Bytes [(.give, 2, none)] [none] rcs Tryd.func58 rfl rfl (by kernel_rfl) k_S_l01Bytes rfl rfl hN hret hW
def c_I_isPath_0 : ACode := .reg [⟨.var 2, .mv (.const (.d (.bool false))), none, []⟩] false
def c_I_isPath_1 : ACode := .reg [⟨.loc 3, .mv (.var 0), none, []⟩,
  ⟨.loc 4, .call (.fn 81) [(.loc 3)] [.borrow], none, []⟩,
  ⟨.loc 5, .split (.loc 4), none, []⟩,
  ⟨.loc 6, .mv (.var 0), some ((.loc 5), true), []⟩,
  ⟨.loc 7, .call (.fn 82) [(.loc 6), (.const (.d (.str [43, 42])))] [.borrow, .borrow], some ((.loc 5), true), []⟩,
  ⟨.loc 8, .un .not (.loc 7), some ((.loc 5), true), []⟩,
  ⟨.loc 9, .pick (.loc 5) (.loc 8) (.const (.d (.bool false))), none, []⟩,
  ⟨.var 2, .mv (.loc 9), none, []⟩] false
def c_I_isPath : ACode := (.seq c_I_isPath_0 (.seq c_I_isPath_1 .ret))
abbrev F_I_isPath : FuncId := 60
theorem k_I_isPath : comp PP (Tryd.f60.ntmps, pinOf 0 [none]) [0, 2] (Tryd.f60.body.getD .skip) = some c_I_isPath.erase := by kernel_rfl
theorem v_I_isPath {GG : GV} (rcs : List C) {cs : List C} {r : C} {os : List (Option C)} (hN : (cs.length == 1 && rcs.length == 1) = true) (hret : retOf rcs = r)
    (hW : W PP [0, 2] (Tryd.f60.ntmps, pinOf 0 [none]) (Valid PP GG) c_I_isPath (entry cs) (Fin (Valid PP GG) [(.give, 2, none)] [none] rcs os) (fun _ _ => False) (Fin (Valid PP GG) [(.give, 2, none)] [none] rcs os)) : Valid PP GG F_I_isPath cs r os :=
  fn_valid_n 1 1 [0, 2] c_I_isPath [(.give, 2, none)] [none] rcs Tryd.func60 rfl rfl (by kernel_rfl) k_I_isPath rfl rfl hN hret hW
def c_S_l01New_0 : ACode := .reg [⟨.var 2, .mv (.const (.undef)), none, []⟩] false
def c_S_l01New_1 : ACode := .reg [⟨.loc 5, .mv (.var 0), none, []⟩,
  ⟨.loc 6, .len false (.loc 5), none, []⟩,
  ⟨.loc 7, .bin .int .add (.const (.d (.int .i64 705705))) (.loc 6), none, []⟩,
  ⟨.var 3, .mv (.loc 7), none, []⟩] false
def c_S_l01New_2 : ACode := .reg [⟨.var 4, .mv (.const (.d (.int .i64 0))), none, []⟩] false
def c_S_l01New_3 : ACode := .reg [⟨.loc 8, .mv (.var 4), none, []⟩,
  ⟨.loc 9, .mv (.var 0), none, []⟩,
  ⟨.loc 10, .len false (.loc 9), none, []⟩,
  ⟨.loc 11, .bin .int .lss (.loc 8) (.loc 10), none, []⟩,
  ⟨.loc 12, .split (.loc 11), none, []⟩,
  ⟨.loc 13, .mv (.var 4), some ((.loc 12), true), []⟩,
  ⟨.loc 14, .bin .int .lss (.loc 13) (.const (.d (.int .i64 4000))), some ((.loc 12), true), []⟩,
  ⟨.var 15, .pick (.loc 12) (.loc 14) (.const (.d (.bool false))), none, []⟩] false
def c_S_l01New_4 : ACode := .reg [⟨.loc 18, .mv (.var 3), none, []⟩,
  ⟨.loc 19, .bin .int .mul (.loc 18) (.const (.d (.int .i64 149))), none, []⟩,
  ⟨.loc 20, .mv (.var 0), none, []⟩,
  ⟨.loc 21, .mv (.var 4), none, []⟩,
  ⟨.loc 22, .idxA 1 (.loc 20) (.loc 21), none, []⟩,
  ⟨.loc 23, .load false 1 (.loc 22), none, []⟩,
  ⟨.loc 24, .conv .i64 (.loc 23), none, []⟩,
  ⟨.loc 25, .bin .int .add (.loc 19) (.loc 24), none, []⟩,
  ⟨.loc 26, .bin .int .add (.loc 25) (.const (.d (.int .i64 11))), none, []⟩,
  ⟨.loc 27, .bin .int .and (.loc 26) (.const (.d (.int .i64 1073741823))), none, []⟩,
  ⟨.var 3, .mv (.loc 27), none, []⟩] false
def c_S_l01New_5 : ACode := .reg [⟨.loc 16, .mv (.var 4), none, []⟩,
  ⟨.loc 17, .bin .int .add (.loc 16) (.const (.d (.int .i64 1))), none, []⟩,
  ⟨.var 4, .mv (.loc 17), none, []⟩] false
def c_S_l01New_6 : ACode := (.seq (.seq c_S_l01New_3 (.cond (.var 15) .skip (.exit 0))) (.seq (.block 1 c_S_l01New_4) c_S_l01New_5))
def c_S_l01New_7 : ACode := .reg [⟨.loc 28, .mv (.var 0), none, []⟩,
  ⟨.loc 29, .mv (.var 3), none, []⟩,
  ⟨.loc 30, .build [.nil 0 1, .d (.int .i64 0), .d (.int .i64 0)] [(0, 1, (.loc 28)), (2, 1, (.loc 29))], none, []⟩,
  ⟨.loc 31, .box (.loc 30), none, []⟩,
  ⟨.var 2, .mv (.loc 31), none, []⟩] false
def c_S_l01New : ACode := (.seq c_S_l01New_0 (.seq c_S_l01New_1 (.seq (.seq c_S_l01New_2 (.block 0 (.loop [0, 3, 4] c_S_l01New_6))) (.seq c_S_l01New_7 .ret))))
abbrev F_S_l01New : FuncId := 68
theorem k_S_l01New : comp PP (Tryd.f68.ntmps, pinOf 0 [none]) [0, 2, 3, 4, 15] (Tryd.f68.body.getD .skip) = some c_S_l01New.erase := by kernel_rfl
theorem v_S_l01New {GG : GV} (rcs : List C) {cs : List C} {r : C} {os : List (Option C)} (hN : (cs.length == 1 && rcs.length == 1) = true) (hret : retOf rcs = r)
    (hW : W PP [0, 2, 3, 4, 15] (Tryd.f68.ntmps, pinOf 0 [none]) (Valid PP GG) c_S_l01New (entry cs) (Fin (Valid PP GG) [(.box 3, 2, none)] [none] rcs os) (fun _ _ => False) (Fin (Valid PP GG) [(.box 3, 2, none)] [none] rcs os)) : Valid PP GG F_S_l01New cs r os :=
  fn_valid_n 1 1 [0, 2, 3, 4, 15] c_S_l01New [(.box 3, 2, none)] [none] rcs Tryd.func68 rfl rfl (by kernel_rfl) k_S_l01New rfl rfl hN hret hW
def c_S_l14DrawRack_0 : ACode := .reg [⟨.var 4, .alloc [.d (.int .i64 0), .d (.int .i64 0), .nil 1 6], none, []⟩] false
def c_S_l14DrawRack_1 : ACode := .reg [⟨.loc 11, .mv (.var 0), none, []⟩,
  ⟨.loc 12, .call (.fn 84) [(.loc 11)] [.box 3], none, []⟩,
  ⟨.loc 13, .mv (.var 0), none, []⟩,
  ⟨.loc 14, .call (.fn 40) [(.loc 13), (.const (.d (.int .i64 5)))] [.box 3, .borrow], none, []⟩,
  ⟨.loc 15, .bin .int .add (.const (.d (.int .i64 1))) (.loc 14), none, []⟩,
  ⟨.loc 16, .build [.d (.int .i64 0), .d (.int .i64 0), .nil 1 6] [(0, 1, (.loc 12)), (1, 1, (.loc 15))], none, []⟩,
  ⟨.var 5, .alloc [.d (.int .i64 0), .d (.int .i64 0), .nil 1 6], none, []⟩,
  ⟨.none, .store 3 (.var 5) (.loc 16), none, []⟩] false
def c_S_l14DrawRack_2 : ACode := .reg [⟨.var 6, .mv (.const (.d (.int .i64 0))), none, []⟩] false
def c_S_l14DrawRack_3 : ACode := .reg [⟨.loc 17, .mv (.var 6), none, []⟩,
  ⟨.loc 18, .mv (.var 1), none, []⟩,
  ⟨.var 19, .bin .int .lss (.loc 17) (.loc 18), none, []⟩] false
def c_S_l14DrawRack_4 : ACode := .reg [⟨.loc 23, .load true 3 (.var 5), none, []⟩,
  ⟨.loc 24, .mv (.var 0), none, []⟩,
  ⟨.loc 25, .lit 0 1 3 [.str []] [(0, (.const (.d (.str [97])))), (1, (.const (.d (.str [107, 118, 47, 98])))), (2, (.const (.d (.str [100, 98]))))], none, []⟩,
  ⟨.loc 26, .call (.fn 43) [(.loc 24), (.loc 25)] [.box 3, .give], none, [1, 2]⟩,
  ⟨.loc 27, .mv (.var 0), none, []⟩,
  ⟨.loc 28, .mv (.var 0), none, []⟩,
  ⟨.loc 29, .call (.fn 40) [(.loc 28), (.const (.d (.int .i64 7)))] [.box 3, .borrow], none, [5, 3, 1, 2]⟩,
  ⟨.loc 30, .call (.fn 39) [(.loc 27), (.loc 29)] [.box 3, .borrow], none, [4, 6, 5, 3, 1, 2]⟩,
  ⟨.loc 31, .mv (.var 0), none, []⟩,
  ⟨.loc 32, .call (.fn 40) [(.loc 31), (.const (.d (.int .i64 30)))] [.box 3, .borrow], none, [8, 7, 4, 6, 5, 3, 1, 2]⟩,
  ⟨.loc 33, .mv (.var 0), none, []⟩,
  ⟨.loc 34, .call (.fn 40) [(.loc 33), (.const (.d (.int .i64 60)))] [.box 3, .borrow], none, [10, 9, 8, 7, 4, 6, 5, 3, 1, 2]⟩,
  ⟨.loc 35, .bin .int .add (.const (.d (.int .i64 1))) (.loc 34), none, [11, 10, 9, 8, 7, 4, 6, 5, 3, 1, 2]⟩,
  ⟨.loc 36, .call (.fn 17) [(.loc 23), (.loc 26), (.loc 30), (.loc 32), (.loc 35)] [.borrow, .borrow, .borrow, .borrow, .borrow], none, [0, 12, 11, 10, 9, 8, 7, 4, 6, 5, 3, 1, 2]⟩,
  ⟨.loc 22, .mv (.loc 36), none, [13, 0, 12, 11, 10, 9, 8, 7, 4, 6, 5, 3, 1, 2]⟩,
  ⟨.loc 37, .ext (.loc 22) 0, none, [14, 13, 0, 12, 11, 10, 9, 8, 7, 4, 6, 5, 3, 1, 2]⟩,
  ⟨.loc 38, .ext (.loc 22) 1, none, [14, 13, 0, 12, 11, 10, 9, 8, 7, 4, 6, 5, 3, 1, 2]⟩,
  ⟨.loc 39, .ext (.loc 22) 2, none, [14, 13, 0, 12, 11, 10, 9, 8, 7, 4, 6, 5, 3, 1, 2]⟩,
  ⟨.var 7, .alloc [.d (.int .i64 0), .d (.int .i64 0), .nil 1 6], none, []⟩,
  ⟨.none, .store 3 (.var 7) (.loc 37), none, [15, 14, 13, 0, 12, 11, 10, 9, 8, 7, 4, 6, 5, 3, 1, 2, 18]⟩,
  ⟨.loc 8, .mv (.loc 38), none, [16, 19, 15, 14, 13, 0, 12, 11, 10, 9, 8, 7, 4, 6, 5, 3, 1, 2, 18]⟩,
  ⟨.loc 9, .mv (.loc 39), none, [17, 20, 16, 19, 15, 14, 13, 0, 12, 11, 10, 9, 8, 7, 4, 6, 5, 3, 1, 2, 18]⟩] true
def c_S_l14DrawRack_5 : ACode := .reg [⟨.loc 40, .load true 3 (.var 7), none, []⟩,
  ⟨.none, .store 3 (.var 5) (.loc 40), none, []⟩] false
def c_S_l14DrawRack_6 : ACode := .reg [⟨.loc 41, .fld 1 (.var 5), none, []⟩,
  ⟨.loc 42, .load false 1 (.loc 41), none, [0]⟩,
  ⟨.loc 43, .mv (.var 0), none, []⟩,
  ⟨.loc 44, .call (.fn 40) [(.loc 43), (.const (.d (.int .i64 2)))] [.box 3, .borrow], none, [2]⟩,
  ⟨.loc 45, .bin .int .add (.loc 42) (.loc 44), none, [1, 0, 3, 2]⟩,
  ⟨.loc 46, .fld 1 (.var 5), none, [4, 1, 0, 3, 2]⟩,
  ⟨.none, .store 1 (.loc 46) (.loc 45), none, [5, 4, 1, 0, 3, 2]⟩] true
def c_S_l14DrawRack_7 : ACode := .reg [⟨.loc 20, .mv (.var 6), none, []⟩,
  ⟨.loc 21, .bin .int .add (.loc 20) (.const (.d (.int .i64 1))), none, []⟩,
  ⟨.var 6, .mv (.loc 21), none, []⟩] false
def c_S_l14DrawRack_8 : ACode := (.seq (.seq c_S_l14DrawRack_3 (.cond (.var 19) .skip (.exit 0))) (.seq (.block 1 (.seq c_S_l14DrawRack_4 (.seq c_S_l14DrawRack_5 c_S_l14DrawRack_6))) c_S_l14DrawRack_7))
def c_S_l14DrawRack_9 : ACode := .reg [⟨.loc 47, .mv (.var 0), none, []⟩,
  ⟨.loc 48, .call (.fn 42) [(.loc 47), (.const (.d (.int .i64 6)))] [.box 3, .borrow], none, []⟩,
  ⟨.loc 49, .split (.loc 48), none, []⟩,
  ⟨.loc 50, .fld 2 (.var 5), some ((.loc 49), true), []⟩,
  ⟨.loc 51, .load false 1 (.loc 50), some ((.loc 49), true), []⟩,
  ⟨.loc 52, .len false (.loc 51), some ((.loc 49), true), []⟩,
  ⟨.loc 53, .bin .int .gtr (.loc 52) (.const (.d (.int .i64 0))), some ((.loc 49), true), []⟩,
  ⟨.var 54, .pick (.loc 49) (.loc 53) (.const (.d (.bool false))), none, []⟩] false
def c_S_l14DrawRack_10 : ACode := .reg [⟨.loc 55, .mv (.var 0), none, []⟩,
  ⟨.loc 56, .fld 2 (.var 5), none, []⟩,
  ⟨.loc 57, .load false 1 (.loc 56), none, []⟩,
  ⟨.loc 58, .len false (.loc 57), none, []⟩,
  ⟨.loc 59, .call (.fn 40) [(.loc 55), (.loc 58)] [.box 3, .borrow], none, []⟩,
  ⟨.var 10, .mv (.loc 59), none, []⟩] false
def c_S_l14DrawRack_11 : ACode := .reg [⟨.loc 60, .mv (.var 0), none, []⟩,
  ⟨.var 61, .call (.fn 40) [(.loc 60), (.const (.d (.int .i64 5)))] [.box 3, .borrow], none, []⟩] false
def c_S_l14DrawRack_12 : ACode := .reg [⟨.loc 63, .bin .int .eql (.var 61) (.const (.d (.int .i64 0))), none, []⟩,
  ⟨.var 62, .mv (.loc 63), none, []⟩] false
def c_S_l14DrawRack_13 : ACode := .reg [⟨.loc 64, .bin .int .eql (.var 61) (.const (.d (.int .i64 1))), none, []⟩,
  ⟨.var 62, .mv (.loc 64), none, []⟩] false
def c_S_l14DrawRack_14 : ACode := .reg [⟨.loc 65, .fld 2 (.var 5), none, []⟩,
  ⟨.loc 66, .load false 1 (.loc 65), none, [0]⟩,
  ⟨.loc 67, .mv (.var 10), none, []⟩,
  ⟨.loc 68, .fld 2 (.var 5), none, []⟩,
  ⟨.loc 69, .load false 1 (.loc 68), none, [3]⟩,
  ⟨.loc 70, .mv (.var 10), none, []⟩,
  ⟨.loc 71, .idxA 6 (.loc 69) (.loc 70), none, [4, 3, 5]⟩,
  ⟨.loc 72, .fld 3 (.loc 71), none, [6, 4, 3, 5]⟩,
  ⟨.loc 73, .fld 2 (.loc 72), none, [7, 6, 4, 3, 5]⟩,
  ⟨.loc 74, .load false 1 (.loc 73), none, [8, 7, 6, 4, 3, 5]⟩,
  ⟨.loc 75, .bin .int .add (.loc 74) (.const (.d (.int .i64 1))), none, [9, 8, 7, 6, 4, 3, 5]⟩,
  ⟨.loc 76, .idxA 6 (.loc 66) (.loc 67), none, [1, 0, 2, 10, 9, 8, 7, 6, 4, 3, 5]⟩,
  ⟨.loc 77, .fld 3 (.loc 76), none, [11, 1, 0, 2, 10, 9, 8, 7, 6, 4, 3, 5]⟩,
  ⟨.loc 78, .fld 2 (.loc 77), none, [12, 11, 1, 0, 2, 10, 9, 8, 7, 6, 4, 3, 5]⟩,
  ⟨.none, .store 1 (.loc 78) (.loc 75), none, [13, 12, 11, 1, 0, 2, 10, 9, 8, 7, 6, 4, 3, 5]⟩] true
def c_S_l14DrawRack_15 : ACode := .reg [⟨.loc 80, .bin .int .eql (.var 61) (.const (.d (.int .i64 2))), none, []⟩,
  ⟨.var 79, .mv (.loc 80), none, []⟩] false
def c_S_l14DrawRack_16 : ACode := .reg [⟨.loc 81, .fld 2 (.var 5), none, []⟩,
  ⟨.loc 82, .load false 1 (.loc 81), none, [0]⟩,
  ⟨.loc 83, .mv (.var 10), none, []⟩,
  ⟨.loc 84, .mv (.var 0), none, []⟩,
  ⟨.loc 85, .fld 1 (.var 5), none, []⟩,
  ⟨.loc 86, .load false 1 (.loc 85), none, [4]⟩,
  ⟨.loc 87, .fld 2 (.var 5), none, []⟩,
  ⟨.loc 88, .load false 1 (.loc 87), none, [6]⟩,
  ⟨.loc 89, .idxA 6 (.loc 88) (.const (.d (.int .i64 0))), none, [7, 6]⟩,
  ⟨.loc 90, .fld 0 (.loc 89), none, [8, 7, 6]⟩,
  ⟨.loc 91, .load false 1 (.loc 90), none, [9, 8, 7, 6]⟩,
  ⟨.loc 92, .lit 0 1 3 [.int .i64 0] [(0, (.const (.d (.int .i64 0)))), (1, (.loc 86)), (2, (.loc 91))], none, [5, 4, 10, 9, 8, 7, 6]⟩,
  ⟨.loc 93, .call (.fn 45) [(.loc 84), (.loc 92)] [.box 3, .give], none, [3, 11, 5, 4, 10, 9, 8, 7, 6]⟩,
  ⟨.loc 94, .idxA 6 (.loc 82) (.loc 83), none, [1, 0, 2, 12, 3, 11, 5, 4, 10, 9, 8, 7, 6]⟩,
  ⟨.loc 95, .fld 0 (.loc 94), none, [13, 1, 0, 2, 12, 3, 11, 5, 4, 10, 9, 8, 7, 6]⟩,
  ⟨.none, .store 1 (.loc 95) (.loc 93), none, [14, 13, 1, 0, 2, 12, 3, 11, 5, 4, 10, 9, 8, 7, 6]⟩] true
def c_S_l14DrawRack_17 : ACode := .reg [⟨.loc 97, .bin .int .eql (.var 61) (.const (.d (.int .i64 3))), none, []⟩,
  ⟨.var 96, .mv (.loc 97), none, []⟩] false
def c_S_l14DrawRack_18 : ACode := .reg [⟨.loc 98, .fld 2 (.var 5), none, []⟩,
  ⟨.loc 99, .load false 1 (.loc 98), none, [0]⟩,
  ⟨.loc 100, .mv (.var 10), none, []⟩,
  ⟨.loc 101, .mv (.var 0), none, []⟩,
  ⟨.loc 102, .call (.fn 85) [(.loc 101)] [.box 3], none, [3]⟩,
  ⟨.loc 103, .idxA 6 (.loc 99) (.loc 100), none, [1, 0, 2, 4, 3]⟩,
  ⟨.loc 104, .fld 2 (.loc 103), none, [5, 1, 0, 2, 4, 3]⟩,
  ⟨.none, .store 1 (.loc 104) (.loc 102), none, [6, 5, 1, 0, 2, 4, 3]⟩] true
def c_S_l14DrawRack_19 : ACode := .reg [⟨.loc 106, .bin .int .eql (.var 61) (.const (.d (.int .i64 4))), none, []⟩,
  ⟨.var 105, .mv (.loc 106), none, []⟩] false
def c_S_l14DrawRack_20 : ACode := .reg [⟨.loc 107, .fld 2 (.var 5), none, []⟩,
  ⟨.loc 108, .load false 1 (.loc 107), none, [0]⟩,
  ⟨.loc 109, .mv (.var 10), none, []⟩,
  ⟨.loc 110, .mv (.var 0), none, []⟩,
  ⟨.loc 111, .lit 0 1 3 [.int .i64 0] [(0, (.const (.d (.int .i64 0)))), (1, (.const (.d (.int .i64 1000000000)))), (2, (.const (.d (.int .i64 1000000001))))], none, []⟩,
  ⟨.loc 112, .call (.fn 45) [(.loc 110), (.loc 111)] [.box 3, .give], none, [3, 4]⟩,
  ⟨.loc 113, .idxA 6 (.loc 108) (.loc 109), none, [1, 0, 2, 5, 3, 4]⟩,
  ⟨.loc 114, .fld 1 (.loc 113), none, [6, 1, 0, 2, 5, 3, 4]⟩,
  ⟨.none, .store 1 (.loc 114) (.loc 112), none, [7, 6, 1, 0, 2, 5, 3, 4]⟩] true
def c_S_l14DrawRack_21 : ACode := .reg [⟨.loc 115, .mv (.var 0), none, []⟩,
  ⟨.var 116, .call (.fn 42) [(.loc 115), (.const (.d (.int .i64 20)))] [.box 3, .borrow], none, []⟩] false
def c_S_l14DrawRack_22 : ACode := .reg [⟨.loc 117, .mv (.var 0), none, []⟩,
  ⟨.loc 118, .fld 1 (.var 5), none, []⟩,
  ⟨.loc 119, .load false 1 (.loc 118), none, []⟩,
  ⟨.loc 120, .lit 0 1 4 [.int .i64 0] [(0, (.const (.d (.int .i64 0)))), (1, (.const (.d (.int .i64 1000000000)))), (2, (.const (.d (.int .i64 1000000001)))), (3, (.loc 119))], none, []⟩,
  ⟨.loc 121, .call (.fn 45) [(.loc 117), (.loc 120)] [.box 3, .give], none, []⟩,
  ⟨.loc 122, .fld 1 (.var 5), none, []⟩,
  ⟨.none, .store 1 (.loc 122) (.loc 121), none, []⟩] false
def c_S_l14DrawRack_23 : ACode := .reg [⟨.loc 123, .load true 3 (.var 5), none, []⟩,
  ⟨.none, .store 3 (.var 4) (.loc 123), none, []⟩] false
def c_S_l14DrawRack : ACode := (.seq c_S_l14DrawRack_0 (.seq c_S_l14DrawRack_1 (.seq (.seq c_S_l14DrawRack_2 (.block 0 (.loop [0, 1, 4, 5, 6] c_S_l14DrawRack_8))) (.seq (.seq c_S_l14DrawRack_9 (.cond (.var 54) (.seq c_S_l14DrawRack_10 (.seq c_S_l14DrawRack_11 (.block 2 (.seq (.seq c_S_l14DrawRack_12 (.cond (.var 62) .skip c_S_l14DrawRack_13)) (.cond (.var 62) c_S_l14DrawRack_14 (.seq c_S_l14DrawRack_15 (.cond (.var 79) c_S_l14DrawRack_16 (.seq c_S_l14DrawRack_17 (.cond (.var 96) c_S_l14DrawRack_18 (.seq c_S_l14DrawRack_19 (.cond (.var 105) c_S_l14DrawRack_20 .skip))))))))))) .skip)) (.seq (.seq c_S_l14DrawRack_21 (.cond (.var 116) c_S_l14DrawRack_22 .skip)) (.seq c_S_l14DrawRack_23 .ret))))))
abbrev F_S_l14DrawRack : FuncId := 69
theorem k_S_l14DrawRack : comp PP (Tryd.f69.ntmps, pinOf 0 [some (.box 3), none]) [0, 1, 4, 5, 6, 7, 10, 19, 54, 61, 62, 79, 96, 105, 116] (Tryd.f69.body.getD .skip) = some c_S_l14DrawRack.erase := by kernel_rfl
theorem v_S_l14DrawRack {GG : GV} (rcs : List C) {cs : List C} {r : C} {os : List (Option C)} (hN : (cs.length == 2 && rcs.length == 1) = true) (hret : retOf rcs = r)
    (hW : W PP [0, 1, 4, 5, 6, 7, 10, 19, 54, 61, 62, 79, 96, 105, 116] (Tryd.f69.ntmps, pinOf 0 [some (.box 3), none]) (Valid PP GG) c_S_l14DrawRack (entry cs) (Fin (Valid PP GG) [(.give, 4, some (true, 3))] [some (.box 3), none] rcs os) (fun _ _ => False) (Fin (Valid PP GG) [(.give, 4, some (true, 3))] [some (.box 3), none] rcs os)) : Valid PP GG F_S_l14DrawRack cs r os :=
  fn_valid_n 2 1 [0, 1, 4, 5, 6, 7, 10, 19, 54, 61, 62, 79, 96, 105, 116] c_S_l14DrawRack [(.give, 4, some (true, 3))] [some (.box 3), none] rcs Tryd.func69 rfl rfl (by kernel_rfl) k_S_l14DrawRack rfl rfl hN hret hW
def c_S_l01Byte_0 : ACode := .reg [⟨.var 2, .mv (.const (.d (.int .i64 0))), none, []⟩] false
def c_S_l01Byte_1 : ACode := .reg [⟨.loc 4, .mv (.var 0), none, []⟩,
  ⟨.loc 5, .mv (.var 0), none, []⟩,
  ⟨.loc 6, .nchk (.loc 5), none, []⟩,
  ⟨.loc 7, .fld 2 (.loc 6), none, []⟩,
  ⟨.loc 8, .load false 1 (.loc 7), none, []⟩,
  ⟨.loc 9, .bin .int .mul (.loc 8) (.const (.d (.int .i64 6364136223846793005))), none, []⟩,
  ⟨.loc 10, .bin .int .add (.loc 9) (.const (.d (.int .i64 1442695040888963407))), none, []⟩,
  ⟨.loc 11, .nchk (.loc 4), none, []⟩,
  ⟨.loc 12, .fld 2 (.loc 11), none, []⟩,
  ⟨.none, .store 1 (.loc 12) (.loc 10), none, []⟩] false
def c_S_l01Byte_2 : ACode := .reg [⟨.loc 13, .mv (.var 0), none, []⟩,
  ⟨.loc 14, .nchk (.loc 13), none, [0]⟩,
  ⟨.loc 15, .fld 2 (.loc 14), none, [1, 0]⟩,
  ⟨.loc 16, .load false 1 (.loc 15), none, [2, 1, 0]⟩,
  ⟨.loc 17, .bin .int .shr (.loc 16) (.const (.d (.int .u64 33))), none, [3, 2, 1, 0]⟩,
  ⟨.loc 18, .mv (.var 0), none, []⟩,
  ⟨.loc 19, .nchk (.loc 18), none, [5]⟩,
  ⟨.loc 20, .fld 2 (.loc 19), none, [6, 5]⟩,
  ⟨.loc 21, .load false 1 (.loc 20), none, [7, 6, 5]⟩,
  ⟨.loc 22, .bin .int .shr (.loc 21) (.const (.d (.int .u64 45))), none, [8, 7, 6, 5]⟩,
  ⟨.loc 23, .bin .int .xor (.loc 17) (.loc 22), none, [4, 3, 2, 1, 0, 9, 8, 7, 6, 5]⟩,
  ⟨.loc 24, .bin .int .and (.loc 23) (.const (.d (.int .i64 255))), none, [10, 4, 3, 2, 1, 0, 9, 8, 7, 6, 5]⟩,
  ⟨.var 3, .mv (.loc 24), none, [11, 10, 4, 3, 2, 1, 0, 9, 8, 7, 6, 5]⟩] true
def c_S_l01Byte_3 : ACode := .reg [⟨.loc 25, .mv (.var 0), none, []⟩,
  ⟨.loc 26, .nchk (.loc 25), none, [0]⟩,
  ⟨.loc 27, .fld 1 (.loc 26), none, [1, 0]⟩,
  ⟨.loc 28, .load false 1 (.loc 27), none, [2, 1, 0]⟩,
  ⟨.loc 29, .mv (.var 0), none, []⟩,
  ⟨.loc 30, .nchk (.loc 29), none, [4]⟩,
  ⟨.loc 31, .fld 0 (.loc 30), none, [5, 4]⟩,
  ⟨.loc 32, .load false 1 (.loc 31), none, [6, 5, 4]⟩,
  ⟨.loc 33, .len false (.loc 32), none, [7, 6, 5, 4]⟩,
  ⟨.var 34, .bin .int .lss (.loc 28) (.loc 33), none, [3, 2, 1, 0, 8, 7, 6, 5, 4]⟩] true
def c_S_l01Byte_4 : ACode := .reg [⟨.loc 35, .mv (.var 3), none, []⟩,
  ⟨.loc 36, .mv (.var 0), none, []⟩,
  ⟨.loc 37, .nchk (.loc 36), none, [1]⟩,
  ⟨.loc 38, .fld 0 (.loc 37), none, [2, 1]⟩,
  ⟨.loc 39, .load false 1 (.loc 38), none, [3, 2, 1]⟩,
  ⟨.loc 40, .mv (.var 0), none, []⟩,
  ⟨.loc 41, .nchk (.loc 40), none, [5]⟩,
  ⟨.loc 42, .fld 1 (.loc 41), none, [6, 5]⟩,
  ⟨.loc 43, .load false 1 (.loc 42), none, [7, 6, 5]⟩,
  ⟨.loc 44, .idxA 1 (.loc 39) (.loc 43), none, [4, 3, 2, 1, 8, 7, 6, 5]⟩,
  ⟨.loc 45, .load false 1 (.loc 44), none, [9, 4, 3, 2, 1, 8, 7, 6, 5]⟩,
  ⟨.loc 46, .conv .i64 (.loc 45), none, [10, 9, 4, 3, 2, 1, 8, 7, 6, 5]⟩,
  ⟨.loc 47, .bin .int .add (.loc 35) (.loc 46), none, [0, 11, 10, 9, 4, 3, 2, 1, 8, 7, 6, 5]⟩,
  ⟨.loc 48, .bin .int .and (.loc 47) (.const (.d (.int .i64 255))), none, [12, 0, 11, 10, 9, 4, 3, 2, 1, 8, 7, 6, 5]⟩,
  ⟨.var 3, .mv (.loc 48), none, [13, 12, 0, 11, 10, 9, 4, 3, 2, 1, 8, 7, 6, 5]⟩] true
def c_S_l01Byte_5 : ACode := .reg [⟨.loc 49, .mv (.var 0), none, []⟩,
  ⟨.loc 50, .mv (.var 0), none, []⟩,
  ⟨.loc 51, .nchk (.loc 50), none, []⟩,
  ⟨.loc 52, .fld 1 (.loc 51), none, []⟩,
  ⟨.loc 53, .load false 1 (.loc 52), none, []⟩,
  ⟨.loc 54, .bin .int .add (.loc 53) (.const (.d (.int .i64 1))), none, []⟩,
  ⟨.loc 55, .nchk (.loc 49), none, []⟩,
  ⟨.loc 56, .fld 1 (.loc 55), none, []⟩,
  ⟨.none, .store 1 (.loc 56) (.loc 54), none, []⟩] false
def c_S_l01Byte_6 : ACode := .reg [⟨.loc 57, .mv (.var 3), none, []⟩,
  ⟨.var 2, .mv (.loc 57), none, []⟩] false
def c_S_l01Byte : ACode := (.seq c_S_l01Byte_0 (.seq c_S_l01Byte_1 (.seq c_S_l01Byte_2 (.seq (.seq c_S_l01Byte_3 (.cond (.var 34) (.seq c_S_l01Byte_4 c_S_l01Byte_5) .skip)) (.seq c_S_l01Byte_6 .ret)))))
abbrev F_S_l01Byte : FuncId := 70
theorem k_S_l01Byte : comp PP (Tryd.f70.ntmps, pinOf 0 [some (.box 3)]) [0, 2, 3, 34] (Tryd.f70.body.getD .skip) = some c_S_l01Byte.erase := by kernel_rfl
theorem v_S_l01Byte {GG : GV} (rcs : List C) {cs : List C} {r : C} {os : List (Option C)} (hN : (cs.length == 1 && rcs.length == 1) = true) (hret : retOf rcs = r)
    (hW : W PP [0, 2, 3, 34] (Tryd.f70.ntmps, pinOf 0 [some (.box 3)]) (Valid PP GG) c_S_l01Byte (entry cs) (Fin (Valid PP GG) [(.give, 2, none)] [some (.box 3)] rcs os) (fun _ _ => False) (Fin (Valid PP GG) [(.give, 2, none)] [some (.box 3)] rcs os)) : Valid PP GG F_S_l01Byte cs r os :=
  fn_valid_n 1 1 [0, 2, 3, 34] c_S_l01Byte [(.give, 2, none)] [some (.box 3)] rcs Tryd.func70 rfl rfl (by kernel_rfl) k_S_l01Byte rfl rfl hN hret hW
def c_S_GlobOk_0 : ACode := .reg [⟨.var 2, .mv (.const (.d (.bool false))), none, []⟩] false
def c_S_GlobOk_1 : ACode := .reg [⟨.loc 5, .mv (.var 0), none, []⟩,
  ⟨.loc 6, .len true (.loc 5), none, []⟩,
  ⟨.var 7, .bin .int .gtr (.loc 6) (.const (.d (.int .i64 120))), none, []⟩] false
def c_S_GlobOk_2 : ACode := .reg [⟨.var 2, .mv (.const (.d (.bool false))), none, []⟩] false
def c_S_GlobOk_3 : ACode := .reg [⟨.loc 8, .mv (.var 0), none, []⟩,
  ⟨.loc 9, .call (.fn 86) [(.loc 8), (.const (.d (.int .u8 47)))] [.borrow, .borrow], none, []⟩,
  ⟨.var 3, .mv (.loc 9), none, []⟩] false
def c_S_GlobOk_4 : ACode := .reg [⟨.var 4, .mv (.const (.d (.int .i64 0))), none, []⟩] false
def c_S_GlobOk_5 : ACode := .reg [⟨.loc 10, .mv (.var 4), none, []⟩,
  ⟨.loc 11, .mv (.var 3), none, []⟩,
  ⟨.loc 12, .len false (.loc 11), none, []⟩,
  ⟨.var 13, .bin .int .lss (.loc 10) (.loc 12), none, []⟩] false
def c_S_GlobOk_6 : ACode := .reg [⟨.loc 16, .mv (.var 3), none, []⟩,
  ⟨.loc 17, .mv (.var 4), none, []⟩,
  ⟨.loc 18, .idxA 1 (.loc 16) (.loc 17), none, []⟩,
  ⟨.loc 19, .load false 1 (.loc 18), none, []⟩,
  ⟨.loc 20, .call (.fn 87) [(.loc 19)] [.borrow], none, []⟩,
  ⟨.loc 21, .un .not (.loc 20), none, []⟩,
  ⟨.loc 22, .split (.loc 21), none, []⟩,
  ⟨.loc 23, .mv (.var 3), some ((.loc 22), true), []⟩,
  ⟨.loc 24, .mv (.var 4), some ((.loc 22), true), []⟩,
  ⟨.loc 25, .idxA 1 (.loc 23) (.loc 24), some ((.loc 22), true), []⟩,
  ⟨.loc 26, .load false 1 (.loc 25), some ((.loc 22), true), []⟩,
  ⟨.loc 27, .bin .str .neq (.loc 26) (.const (.d (.str [43]))), some ((.loc 22), true), []⟩,
  ⟨.loc 28, .pick (.loc 22) (.loc 27) (.const (.d (.bool false))), none, []⟩,
  ⟨.loc 29, .split (.loc 28), none, []⟩,
  ⟨.loc 30, .mv (.var 3), some ((.loc 29), true), []⟩,
  ⟨.loc 31, .mv (.var 4), some ((.loc 29), true), []⟩,
  ⟨.loc 32, .idxA 1 (.loc 30) (.loc 31), some ((.loc 29), true), []⟩,
  ⟨.loc 33, .load false 1 (.loc 32), some ((.loc 29), true), []⟩,
  ⟨.loc 34, .bin .str .eql (.loc 33) (.const (.d (.str [42]))), some ((.loc 29), true), []⟩,
  ⟨.loc 35, .split (.loc 34), some ((.loc 29), true), []⟩,
  ⟨.loc 36, .mv (.var 4), some ((.loc 35), true), []⟩,
  ⟨.loc 37, .mv (.var 3), some ((.loc 35), true), []⟩,
  ⟨.loc 38, .len false (.loc 37), some ((.loc 35), true), []⟩,
  ⟨.loc 39, .bin .int .sub (.loc 38) (.const (.d (.int .i64 1))), some ((.loc 35), true), []⟩,
  ⟨.loc 40, .bin .int .eql (.loc 36) (.loc 39), some ((.loc 35), true), []⟩,
  ⟨.loc 41, .pick (.loc 35) (.loc 40) (.const (.d (.bool false))), some ((.loc 29), true), []⟩,
  ⟨.loc 42, .un .not (.loc 41), some ((.loc 29), true), []⟩,
  ⟨.var 43, .pick (.loc 29) (.loc 42) (.const (.d (.bool false))), none, []⟩] false
def c_S_GlobOk_7 : ACode := .reg [⟨.var 2, .mv (.const (.d (.bool false))), none, []⟩] false
def c_S_GlobOk_8 : ACode := .reg [⟨.loc 14, .mv (.var 4), none, []⟩,
  ⟨.loc 15, .bin .int .add (.loc 14) (.const (.d (.int .i64 1))), none, []⟩,
  ⟨.var 4, .mv (.loc 15), none, []⟩] false
def c_S_GlobOk_9 : ACode := (.seq (.seq c_S_GlobOk_5 (.cond (.var 13) .skip (.exit 0))) (.seq (.block 1 (.seq c_S_GlobOk_6 (.cond (.var 43) (.seq c_S_GlobOk_7 .ret) .skip))) c_S_GlobOk_8))
def c_S_GlobOk_10 : ACode := .reg [⟨.loc 44, .mv (.var 3), none, []⟩,
  ⟨.loc 45, .len false (.loc 44), none, []⟩,
  ⟨.loc 46, .bin .int .leq (.loc 45) (.const (.d (.int .i64 8))), none, []⟩,
  ⟨.var 2, .mv (.loc 46), none, []⟩] false
def c_S_GlobOk : ACode := (.seq c_S_GlobOk_0 (.seq (.seq c_S_GlobOk_1 (.cond (.var 7) (.seq c_S_GlobOk_2 .ret) .skip)) (.seq c_S_GlobOk_3 (.seq (.seq c_S_GlobOk_4 (.block 0 (.loop [3, 4] c_S_GlobOk_9))) (.seq c_S_GlobOk_10 .ret)))))
abbrev F_S_GlobOk : FuncId := 71
theorem k_S_GlobOk : comp PP (Tryd.f71.ntmps, pinOf 0 [none]) [0, 2, 3, 4, 7, 13, 43] (Tryd.f71.body.getD .skip) = some c_S_GlobOk.erase := by kernel_rfl
theorem v_S_GlobOk {GG : GV} (rcs : List C) {cs : List C} {r : C} {os : List (Option C)} (hN : (cs.length == 1 && rcs.length == 1) = true) (hret : retOf rcs = r)
    (hW : W PP [0, 2, 3, 4, 7, 13, 43] (Tryd.f71.ntmps, pinOf 0 [none]) (Valid PP GG) c_S_GlobOk (entry cs) (Fin (Valid PP GG) [(.give, 2, none)] [none] rcs os) (fun _ _ => False) (Fin (Valid PP GG) [(.give, 2, none)] [none] rcs os)) : Valid PP GG F_S_GlobOk cs r os :=
  fn_valid_n 1 1 [0, 2, 3, 4, 7, 13, 43] c_S_GlobOk [(.give, 2, none)] [none] rcs Tryd.func71 rfl rfl (by kernel_rfl) k_S_GlobOk rfl rfl hN hret hW
def c_S_l04Mask_0 : ACode := .reg [⟨.var 6, .mv (.const (.nil 0 1)), none, []⟩] false
def c_S_l04Mask_1 : ACode := .reg [⟨.loc 10, .lit 0 1 0 [.int .u8 0] [], none, []⟩,
  ⟨.var 7, .mv (.loc 10), none, []⟩] false
def c_S_l04Mask_2 : ACode := .reg [⟨.loc 11, .mv (.var 0), none, []⟩,
  ⟨.loc 12, .mv (.var 1), none, []⟩,
  ⟨.loc 13, .mv (.var 2), none, []⟩,
  ⟨.loc 14, .len false (.loc 13), none, []⟩,
  ⟨.loc 15, .call (.fn 88) [(.loc 11), (.loc 12), (.loc 14)] [.borrow, .borrow, .borrow], none, []⟩,
  ⟨.var 8, .mv (.loc 15), none, []⟩] false
def c_S_l04Mask_3 : ACode := .reg [⟨.var 9, .mv (.const (.d (.int .i64 0))), none, []⟩] false
def c_S_l04Mask_4 : ACode := .reg [⟨.loc 16, .mv (.var 9), none, []⟩,
  ⟨.loc 17, .mv (.var 2), none, []⟩,
  ⟨.loc 18, .len false (.loc 17), none, []⟩,
  ⟨.var 19, .bin .int .lss (.loc 16) (.loc 18), none, []⟩] false
def c_S_l04Mask_5 : ACode := .reg [⟨.loc 22, .mv (.var 7), none, []⟩,
  ⟨.loc 23, .mv (.var 2), none, []⟩,
  ⟨.loc 24, .mv (.var 9), none, []⟩,
  ⟨.loc 25, .idxA 1 (.loc 23) (.loc 24), none, [1, 2]⟩,
  ⟨.loc 26, .load false 1 (.loc 25), none, [3, 1, 2]⟩,
  ⟨.loc 27, .mv (.var 8), none, []⟩,
  ⟨.loc 28, .mv (.var 9), none, []⟩,
  ⟨.loc 29, .idxA 1 (.loc 27) (.loc 28), none, [5, 6]⟩,
  ⟨.loc 30, .load false 1 (.loc 29), none, [7, 5, 6]⟩,
  ⟨.loc 31, .bin .int .xor (.loc 26) (.loc 30), none, [4, 3, 1, 2, 8, 7, 5, 6]⟩,
  ⟨.loc 32, .lit 0 1 1 [.int .u8 0] [(0, (.loc 31))], none, [9, 4, 3, 1, 2, 8, 7, 5, 6]⟩,
  ⟨.loc 33, .app 1 1 (.loc 22) (.loc 32), none, [0, 10, 9, 4, 3, 1, 2, 8, 7, 5, 6]⟩,
  ⟨.var 7, .mv (.loc 33), none, [11, 0, 10, 9, 4, 3, 1, 2, 8, 7, 5, 6]⟩] true
def c_S_l04Mask_6 : ACode := .reg [⟨.loc 20, .mv (.var 9), none, []⟩,
  ⟨.loc 21, .bin .int .add (.loc 20) (.const (.d (.int .i64 1))), none, []⟩,
  ⟨.var 9, .mv (.loc 21), none, []⟩] false
def c_S_l04Mask_7 : ACode := (.seq (.seq c_S_l04Mask_4 (.cond (.var 19) .skip (.exit 0))) (.seq (.block 1 c_S_l04Mask_5) c_S_l04Mask_6))
def c_S_l04Mask_8 : ACode := .reg [⟨.loc 34, .mv (.var 7), none, []⟩,
  ⟨.var 6, .mv (.loc 34), none, []⟩] false
def c_S_l04Mask : ACode := (.seq c_S_l04Mask_0 (.seq c_S_l04Mask_1 (.seq c_S_l04Mask_2 (.seq (.seq c_S_l04Mask_3 (.block 0 (.loop [2, 7, 8, 9] c_S_l04Mask_7))) (.seq c_S_l04Mask_8 .ret)))))
abbrev F_S_l04Mask : FuncId := 72
theorem k_S_l04Mask : comp PP (Tryd.f72.ntmps, pinOf 0 [none, none, none]) [0, 1, 2, 6, 7, 8, 9, 19] (Tryd.f72.body.getD .skip) = some c_S_l04Mask.erase := by kernel_rfl
theorem v_S_l04Mask {GG : GV} (rcs : List C) {cs : List C} {r : C} {os : List (Option C)} (hN : (cs.length == 3 && rcs.length == 1) = true) (hret : retOf rcs = r)
    (hW : W PP [0, 1, 2, 6, 7, 8, 9, 19] (Tryd.f72.ntmps, pinOf 0 [none, none, none]) (Valid PP GG) c_S_l04Mask (entry cs) (Fin (Valid PP GG) [(.give, 6, none)] [none, none, none] rcs os) (fun _ _ => False) (Fin (Valid PP GG) [(.give, 6, none)] [none, none, none] rcs os)) : Valid PP GG F_S_l04Mask cs r os :=
  fn_valid_n 3 1 [0, 1, 2, 6, 7, 8, 9, 19] c_S_l04Mask [(.give, 6, none)] [none, none, none] rcs Tryd.func72 rfl rfl (by kernel_rfl) k_S_l04Mask rfl rfl hN hret hW
def c_S_TagOf_0 : ACode := .reg [⟨.var 6, .mv (.const (.d (.int .i64 0))), none, []⟩] false
def c_S_TagOf_1 : ACode := .reg [⟨.loc 7, .mv (.var 0), none, []⟩,
  ⟨.loc 8, .call (.fn 57) [(.loc 7)] [.borrow], none, []⟩,
  ⟨.loc 9, .un .not (.loc 8), none, []⟩,
  ⟨.loc 10, .split (.loc 9), none, []⟩,
  ⟨.loc 11, .mv (.var 1), some ((.loc 10), false), []⟩,
  ⟨.loc 12, .call (.fn 57) [(.loc 11)] [.borrow], some ((.loc 10), false), []⟩,
  ⟨.loc 13, .un .not (.loc 12), some ((.loc 10), false), []⟩,
  ⟨.loc 14, .pick (.loc 10) (.const (.d (.bool true))) (.loc 13), none, []⟩,
  ⟨.loc 15, .split (.loc 14), none, []⟩,
  ⟨.loc 16, .mv (.var 2), some ((.loc 15), false), []⟩,
  ⟨.loc 17, .len false (.loc 16), some ((.loc 15), false), []⟩,
  ⟨.loc 18, .bin .int .gtr (.loc 17) (.const (.d (.int .i64 2000))), some ((.loc 15), false), []⟩,
  ⟨.var 19, .pick (.loc 15) (.const (.d (.bool true))) (.loc 18), none, []⟩] false
def c_S_TagOf_2 : ACode := .reg [⟨.var 6, .mv (.const (.d (.int .i64 (-1)))), none, []⟩] false
def c_S_TagOf_3 : ACode := .reg [⟨.loc 20, .mv (.var 0), none, []⟩,
  ⟨.loc 21, .call (.fn 91) [(.loc 20)] [.borrow], none, []⟩,
  ⟨.loc 22, .mv (.var 1), none, []⟩,
  ⟨.loc 23, .call (.fn 91) [(.loc 22)] [.borrow], none, []⟩,
  ⟨.loc 24, .call (.fn 90) [(.loc 21), (.loc 23)] [.borrow, .borrow], none, []⟩,
  ⟨.loc 25, .mv (.var 2), none, []⟩,
  ⟨.loc 26, .call (.fn 90) [(.loc 24), (.loc 25)] [.borrow, .borrow], none, []⟩,
  ⟨.loc 27, .call (.fn 89) [(.loc 26)] [.borrow], none, []⟩,
  ⟨.var 6, .mv (.loc 27), none, []⟩] false
def c_S_TagOf : ACode := (.seq c_S_TagOf_0 (.seq (.seq c_S_TagOf_1 (.cond (.var 19) (.seq c_S_TagOf_2 .ret) .skip)) (.seq c_S_TagOf_3 .ret)))
abbrev F_S_TagOf : FuncId := 73
theorem k_S_TagOf : comp PP (Tryd.f73.ntmps, pinOf 0 [none, none, none]) [0, 1, 2, 6, 19] (Tryd.f73.body.getD .skip) = some c_S_TagOf.erase := by kernel_rfl
theorem v_S_TagOf {GG : GV} (rcs : List C) {cs : List C} {r : C} {os : List (Option C)} (hN : (cs.length == 3 && rcs.length == 1) = true) (hret : retOf rcs = r)
    (hW : W PP [0, 1, 2, 6, 19] (Tryd.f73.ntmps, pinOf 0 [none, none, none]) (Valid PP GG) c_S_TagOf (entry cs) (Fin (Valid PP GG) [(.give, 6, none)] [none, none, none] rcs os) (fun _ _ => False) (Fin (Valid PP GG) [(.give, 6, none)] [none, none, none] rcs os)) : Valid PP GG F_S_TagOf cs r os :=
  fn_valid_n 3 1 [0, 1, 2, 6, 19] c_S_TagOf [(.give, 6, none)] [none, none, none] rcs Tryd.func73 rfl rfl (by kernel_rfl) k_S_TagOf rfl rfl hN hret hW
def c_slices_IndexFunc___impl_Wrap_impl_Wrap__0 : ACode := .reg [⟨.var 4, .mv (.const (.d (.int .i64 0))), none, []⟩] false
def c_slices_IndexFunc___impl_Wrap_impl_Wrap__1 : ACode := .reg [⟨.loc 6, .mv (.var 0), none, []⟩,
  ⟨.var 7, .len false (.loc 6), none, []⟩,
  ⟨.var 8, .mv (.const (.d (.int .i64 0))), none, []⟩] false
def c_slices_IndexFunc___impl_Wrap_impl_Wrap__2 : ACode := .reg [⟨.var 9, .bin .int .lss (.var 8) (.var 7), none, []⟩] false
def c_slices_IndexFunc___impl_Wrap_impl_Wrap__3 : ACode := .reg [⟨.loc 10, .mv (.var 8), none, []⟩,
  ⟨.var 5, .mv (.loc 10), none, []⟩] false
def c_slices_IndexFunc___impl_Wrap_impl_Wrap__4 : ACode := .reg [⟨.loc 11, .mv (.var 1), none, []⟩,
  ⟨.loc 12, .mv (.var 0), none, []⟩,
  ⟨.loc 13, .mv (.var 5), none, []⟩,
  ⟨.loc 14, .idxA 6 (.loc 12) (.loc 13), none, []⟩,
  ⟨.loc 15, .load true 6 (.loc 14), none, []⟩,
  ⟨.var 16, .call (.loc 11) [(.loc 15)] [.borrow], none, []⟩] false
def c_slices_IndexFunc___impl_Wrap_impl_Wrap__5 : ACode := .reg [⟨.loc 17, .mv (.var 5), none, []⟩,
  ⟨.var 4, .mv (.loc 17), none, []⟩] false
def c_slices_IndexFunc___impl_Wrap_impl_Wrap__6 : ACode := .reg [⟨.loc 18, .bin .int .add (.var 8) (.const (.d (.int .i64 1))), none, []⟩,
  ⟨.var 8, .mv (.loc 18), none, []⟩] false
def c_slices_IndexFunc___impl_Wrap_impl_Wrap__7 : ACode := (.seq c_slices_IndexFunc___impl_Wrap_impl_Wrap__2 (.seq (.cond (.var 9) .skip (.exit 0)) (.seq (.block 1 (.seq c_slices_IndexFunc___impl_Wrap_impl_Wrap__3 (.seq c_slices_IndexFunc___impl_Wrap_impl_Wrap__4 (.cond (.var 16) (.seq c_slices_IndexFunc___impl_Wrap_impl_Wrap__5 .ret) .skip)))) c_slices_IndexFunc___impl_Wrap_impl_Wrap__6)))
def c_slices_IndexFunc___impl_Wrap_impl_Wrap__8 : ACode := .reg [⟨.var 4, .mv (.const (.d (.int .i64 (-1)))), none, []⟩] false
def c_slices_IndexFunc___impl_Wrap_impl_Wrap_ : ACode := (.seq c_slices_IndexFunc___impl_Wrap_impl_Wrap__0 (.seq (.seq c_slices_IndexFunc___impl_Wrap_impl_Wrap__1 (.block 0 (.loop [0, 1, 7, 8] c_slices_IndexFunc___impl_Wrap_impl_Wrap__7))) (.seq c_slices_IndexFunc___impl_Wrap_impl_Wrap__8 .ret)))
abbrev F_slices_IndexFunc___impl_Wrap_impl_Wrap_ : FuncId := 74
theorem k_slices_IndexFunc___impl_Wrap_impl_Wrap_ : comp PP (Tryd.f74.ntmps, pinOf 0 [none, none]) [0, 1, 4, 5, 7, 8, 9, 16] (Tryd.f74.body.getD .skip) = some c_slices_IndexFunc___impl_Wrap_impl_Wrap_.erase := by kernel_rfl
theorem v_slices_IndexFunc___impl_Wrap_impl_Wrap_ {GG : GV} (rcs : List C) {cs : List C} {r : C} {os : List (Option C)} (hN : (cs.length == 2 && rcs.length == 1) = true) (hret : retOf rcs = r)
    (hW : W PP [0, 1, 4, 5, 7, 8, 9, 16] (Tryd.f74.ntmps, pinOf 0 [none, none]) (Valid PP GG) c_slices_IndexFunc___impl_Wrap_impl_Wrap_ (entry cs) (Fin (Valid PP GG) [(.give, 4, none)] [none, none] rcs os) (fun _ _ => False) (Fin (Valid PP GG) [(.give, 4, none)] [none, none] rcs os)) : Valid PP GG F_slices_IndexFunc___impl_Wrap_impl_Wrap_ cs r os :=
  fn_valid_n 2 1 [0, 1, 4, 5, 7, 8, 9, 16] c_slices_IndexFunc___impl_Wrap_impl_Wrap_ [(.give, 4, none)] [none, none] rcs Tryd.func74 rfl rfl (by kernel_rfl) k_slices_IndexFunc___impl_Wrap_impl_Wrap_ rfl rfl hN hret hW
def c_I_wrapIndex_c1_0 : ACode := .reg [⟨.var 2, .box (.var 0), none, []⟩,
  ⟨.var 3, .mv (.const (.d (.bool false))), none, []⟩] false
def c_I_wrapIndex_c1_1 : ACode := .reg [⟨.loc 4, .fld 0 (.var 2), none, []⟩,
  ⟨.loc 5, .load false 1 (.loc 4), none, []⟩,
  ⟨.loc 6, .load false 1 (.var 1), none, []⟩,
  ⟨.loc 7, .bin .int .eql (.loc 5) (.loc 6), none, []⟩,
  ⟨.var 3, .mv (.loc 7), none, []⟩] false
def c_I_wrapIndex_c1 : ACode := (.seq c_I_wrapIndex_c1_0 (.seq c_I_wrapIndex_c1_1 .ret))
abbrev F_I_wrapIndex_c1 : FuncId := 75
theorem k_I_wrapIndex_c1 : comp PP (Tryd.f75.ntmps, pinOf 0 [none]) [0, 1, 2, 3] (Tryd.f75.body.getD .skip) = some c_I_wrapIndex_c1.erase := by kernel_rfl
theorem v_I_wrapIndex_c1 {GG : GV} (rcs : List C) {cs : List C} {r : C} {os : List (Option C)} (hN : (cs.length == 2 && rcs.length == 1) = true) (hret : retOf rcs = r)
    (hW : W PP [0, 1, 2, 3] (Tryd.f75.ntmps, pinOf 0 [none]) (Valid PP GG) c_I_wrapIndex_c1 (entry cs) (Fin (Valid PP GG) [(.give, 3, none)] [none] rcs os) (fun _ _ => False) (Fin (Valid PP GG) [(.give, 3, none)] [none] rcs os)) : Valid PP GG F_I_wrapIndex_c1 cs r os :=
  fn_valid_n 2 1 [0, 1, 2, 3] c_I_wrapIndex_c1 [(.give, 3, none)] [none] rcs Tryd.func75 rfl rfl (by kernel_rfl) k_I_wrapIndex_c1 rfl rfl hN hret hW
def c_I_tagOf_0 : ACode := .reg [⟨.var 6, .mv (.const (.d (.int .i64 0))), none, []⟩] false
def c_I_tagOf_1 : ACode := .reg [⟨.loc 7, .mv (.var 0), none, []⟩,
  ⟨.loc 8, .call (.fn 94) [(.loc 7)] [.borrow], none, []⟩,
  ⟨.loc 9, .mv (.var 1), none, []⟩,
  ⟨.loc 10, .call (.fn 94) [(.loc 9)] [.borrow], none, []⟩,
  ⟨.loc 11, .mv (.var 2), none, []⟩,
  ⟨.loc 12, .lit 1 1 3 [.slc 1 []] [(0, (.loc 8)), (1, (.loc 10)), (2, (.loc 11))], none, []⟩,
  ⟨.loc 13, .call (.fn 93) [(.loc 12)] [.borrow], none, []⟩,
  ⟨.loc 14, .call (.fn 92) [(.loc 13)] [.borrow], none, []⟩,
  ⟨.var 6, .mv (.loc 14), none, []⟩] false
def c_I_tagOf : ACode := (.seq c_I_tagOf_0 (.seq c_I_tagOf_1 .ret))
abbrev F_I_tagOf : FuncId := 77
theorem k_I_tagOf : comp PP (Tryd.f77.ntmps, pinOf 0 [none, none, none]) [0, 1, 2, 6] (Tryd.f77.body.getD .skip) = some c_I_tagOf.erase := by kernel_rfl
theorem v_I_tagOf {GG : GV} (rcs : List C) {cs : List C} {r : C} {os : List (Option C)} (hN : (cs.length == 3 && rcs.length == 1) = true) (hret : retOf rcs = r)
    (hW : W PP [0, 1, 2, 6] (Tryd.f77.ntmps, pinOf 0 [none, none, none]) (Valid PP GG) c_I_tagOf (entry cs) (Fin (Valid PP GG) [(.give, 6, none)] [none, none, none] rcs os) (fun _ _ => False) (Fin (Valid PP GG) [(.give, 6, none)] [none, none, none] rcs os)) : Valid PP GG F_I_tagOf cs r os :=
  fn_valid_n 3 1 [0, 1, 2, 6] c_I_tagOf [(.give, 6, none)] [none, none, none] rcs Tryd.func77 rfl rfl (by kernel_rfl) k_I_tagOf rfl rfl hN hret hW
def c_I_crossed_0 : ACode := .reg [⟨.var 6, .mv (.const (.nil 0 1)), none, []⟩] false
def c_I_crossed_1 : ACode := .reg [⟨.loc 10, .mv (.var 0), none, []⟩,
  ⟨.loc 11, .mv (.var 1), none, []⟩,
  ⟨.loc 12, .mv (.var 2), none, []⟩,
  ⟨.loc 13, .len false (.loc 12), none, []⟩,
  ⟨.loc 14, .call (.fn 95) [(.loc 10), (.loc 11), (.loc 13)] [.borrow, .borrow, .borrow], none, []⟩,
  ⟨.var 7, .mv (.loc 14), none, []⟩] false
def c_I_crossed_2 : ACode := .reg [⟨.var 15, .mv (.var 2), none, []⟩,
  ⟨.var 16, .len false (.var 15), none, []⟩,
  ⟨.var 17, .mv (.const (.d (.int .i64 0))), none, []⟩] false
def c_I_crossed_3 : ACode := .reg [⟨.var 18, .bin .int .lss (.var 17) (.var 16), none, []⟩] false
def c_I_crossed_4 : ACode := .reg [⟨.loc 19, .mv (.var 17), none, []⟩,
  ⟨.loc 20, .idxA 1 (.var 15) (.var 17), none, []⟩,
  ⟨.loc 21, .load false 1 (.loc 20), none, []⟩,
  ⟨.var 8, .mv (.loc 19), none, []⟩,
  ⟨.var 9, .mv (.loc 21), none, []⟩] false
def c_I_crossed_5 : ACode := .reg [⟨.loc 22, .mv (.var 7), none, []⟩,
  ⟨.loc 23, .mv (.var 8), none, []⟩,
  ⟨.loc 24, .idxA 1 (.loc 22) (.loc 23), none, []⟩,
  ⟨.loc 25, .load false 1 (.loc 24), none, []⟩,
  ⟨.loc 26, .mv (.var 9), none, []⟩,
  ⟨.loc 27, .bin .int .xor (.loc 25) (.loc 26), none, []⟩,
  ⟨.loc 28, .idxA 1 (.loc 22) (.loc 23), none, []⟩,
  ⟨.none, .store 1 (.loc 28) (.loc 27), none, []⟩] false
def c_I_crossed_6 : ACode := .reg [⟨.loc 29, .bin .int .add (.var 17) (.const (.d (.int .i64 1))), none, []⟩,
  ⟨.var 17, .mv (.loc 29), none, []⟩] false
def c_I_crossed_7 : ACode := (.seq c_I_crossed_3 (.seq (.cond (.var 18) .skip (.exit 0)) (.seq (.block 1 (.seq c_I_crossed_4 c_I_crossed_5)) c_I_crossed_6)))
def c_I_crossed_8 : ACode := .reg [⟨.loc 30, .mv (.var 7), none, []⟩,
  ⟨.var 6, .mv (.loc 30), none, []⟩] false
def c_I_crossed : ACode := (.seq c_I_crossed_0 (.seq c_I_crossed_1 (.seq (.seq c_I_crossed_2 (.block 0 (.loop [7, 15, 16, 17] c_I_crossed_7))) (.seq c_I_crossed_8 .ret))))
abbrev F_I_crossed : FuncId := 78
theorem k_I_crossed : comp PP (Tryd.f78.ntmps, pinOf 0 [none, none, none]) [0, 1, 2, 6, 7, 8, 9, 15, 16, 17, 18] (Tryd.f78.body.getD .skip) = some c_I_crossed.erase := by kernel_rfl
theorem v_I_crossed {GG : GV} (rcs : List C) {cs : List C} {r : C} {os : List (Option C)} (hN : (cs.length == 3 && rcs.length == 1) = true) (hret : retOf rcs = r)
    (hW : W PP [0, 1, 2, 6, 7, 8, 9, 15, 16, 17, 18] (Tryd.f78.ntmps, pinOf 0 [none, none, none]) (Valid PP GG) c_I_crossed (entry cs) (Fin (Valid PP GG) [(.give, 6, none)] [none, none, none] rcs os) (fun _ _ => False) (Fin (Valid PP GG) [(.give, 6, none)] [none, none, none] rcs os)) : Valid PP GG F_I_crossed cs r os :=
  fn_valid_n 3 1 [0, 1, 2, 6, 7, 8, 9, 15, 16, 17, 18] c_I_crossed [(.give, 6, none)] [none, none, none] rcs Tryd.func78 rfl rfl (by kernel_rfl) k_I_crossed rfl rfl hN hret hW
def c_I_isGlob_0 : ACode := .reg [⟨.var 2, .mv (.const (.d (.bool false))), none, []⟩] false
def c_I_isGlob_1 : ACode := .reg [⟨.loc 6, .mv (.var 0), none, []⟩,
  ⟨.loc 7, .len true (.loc 6), none, []⟩,
  ⟨.var 8, .bin .int .gtr (.loc 7) (.const (.d (.int .i64 120))), none, []⟩] false
def c_I_isGlob_2 : ACode := .reg [⟨.var 2, .mv (.const (.d (.bool false))), none, []⟩] false
def c_I_isGlob_3 : ACode := .reg [⟨.loc 9, .mv (.var 0), none, []⟩,
  ⟨.loc 10, .call (.fn 98) [(.loc 9), (.const (.d (.str [47])))] [.borrow, .borrow], none, []⟩,
  ⟨.var 3, .mv (.loc 10), none, []⟩] false
def c_I_isGlob_4 : ACode := .reg [⟨.var 11, .mv (.var 3), none, []⟩,
  ⟨.var 12, .len false (.var 11), none, []⟩,
  ⟨.var 13, .mv (.const (.d (.int .i64 0))), none, []⟩] false
def c_I_isGlob_5 : ACode := .reg [⟨.var 14, .bin .int .lss (.var 13) (.var 12), none, []⟩] false
def c_I_isGlob_6 : ACode := .reg [⟨.loc 15, .mv (.var 13), none, []⟩,
  ⟨.loc 16, .idxA 1 (.var 11) (.var 13), none, []⟩,
  ⟨.loc 17, .load false 1 (.loc 16), none, []⟩,
  ⟨.var 4, .mv (.loc 15), none, []⟩,
  ⟨.var 5, .mv (.loc 17), none, []⟩] false
def c_I_isGlob_7 : ACode := .reg [⟨.loc 18, .mv (.var 5), none, []⟩,
  ⟨.loc 19, .bin .str .eql (.loc 18) (.const (.d (.str [43]))), none, []⟩,
  ⟨.loc 20, .split (.loc 19), none, []⟩,
  ⟨.loc 21, .mv (.var 5), some ((.loc 20), false), []⟩,
  ⟨.loc 22, .bin .str .eql (.loc 21) (.const (.d (.str [42]))), some ((.loc 20), false), []⟩,
  ⟨.loc 23, .split (.loc 22), some ((.loc 20), false), []⟩,
  ⟨.loc 24, .mv (.var 4), some ((.loc 23), true), []⟩,
  ⟨.loc 25, .mv (.var 3), some ((.loc 23), true), []⟩,
  ⟨.loc 26, .len false (.loc 25), some ((.loc 23), true), []⟩,
  ⟨.loc 27, .bin .int .sub (.loc 26) (.const (.d (.int .i64 1))), some ((.loc 23), true), []⟩,
  ⟨.loc 28, .bin .int .eql (.loc 24) (.loc 27), some ((.loc 23), true), []⟩,
  ⟨.loc 29, .pick (.loc 23) (.loc 28) (.const (.d (.bool false))), some ((.loc 20), false), []⟩,
  ⟨.var 30, .pick (.loc 20) (.const (.d (.bool true))) (.loc 29), none, []⟩] false
def c_I_isGlob_8 : ACode := .reg [⟨.loc 31, .mv (.var 5), none, []⟩,
  ⟨.loc 32, .len true (.loc 31), none, []⟩,
  ⟨.loc 33, .call (.fn 51) [(.loc 32), (.const (.d (.int .i64 1))), (.const (.d (.int .i64 16)))] [.borrow, .borrow, .borrow], none, []⟩,
  ⟨.loc 34, .un .not (.loc 33), none, []⟩,
  ⟨.loc 35, .split (.loc 34), none, []⟩,
  ⟨.loc 36, .mv (.var 5), some ((.loc 35), false), []⟩,
  ⟨.loc 37, .call (.fn 99) [(.loc 36), (.const (.d (.str [97, 98, 99, 100, 101, 102, 103, 104, 105, 106, 107, 108, 109, 110, 111, 112, 113, 114, 115, 116, 117, 118, 119, 120, 121, 122, 48, 49, 50, 51, 52, 53, 54, 55, 56, 57, 45])))] [.borrow, .borrow], some ((.loc 35), false), []⟩,
  ⟨.loc 38, .un .not (.loc 37), some ((.loc 35), false), []⟩,
  ⟨.var 39, .pick (.loc 35) (.const (.d (.bool true))) (.loc 38), none, []⟩] false
def c_I_isGlob_9 : ACode := .reg [⟨.var 2, .mv (.const (.d (.bool false))), none, []⟩] false
def c_I_isGlob_10 : ACode := .reg [⟨.loc 40, .bin .int .add (.var 13) (.const (.d (.int .i64 1))), none, []⟩,
  ⟨.var 13, .mv (.loc 40), none, []⟩] false
def c_I_isGlob_11 : ACode := (.seq c_I_isGlob_5 (.seq (.cond (.var 14) .skip (.exit 0)) (.seq (.block 1 (.seq c_I_isGlob_6 (.seq (.seq c_I_isGlob_7 (.cond (.var 30) (.exit 1) .skip)) (.seq c_I_isGlob_8 (.cond (.var 39) (.seq c_I_isGlob_9 .ret) .skip))))) c_I_isGlob_10)))
def c_I_isGlob_12 : ACode := .reg [⟨.loc 41, .mv (.var 3), none, []⟩,
  ⟨.loc 42, .len false (.loc 41), none, []⟩,
  ⟨.loc 43, .bin .int .leq (.loc 42) (.const (.d (.int .i64 8))), none, []⟩,
  ⟨.var 2, .mv (.loc 43), none, []⟩] false
def c_I_isGlob : ACode := (.seq c_I_isGlob_0 (.seq (.seq c_I_isGlob_1 (.cond (.var 8) (.seq c_I_isGlob_2 .ret) .skip)) (.seq c_I_isGlob_3 (.seq (.seq c_I_isGlob_4 (.block 0 (.loop [3, 11, 12, 13] c_I_isGlob_11))) (.seq c_I_isGlob_12 .ret)))))
abbrev F_I_isGlob : FuncId := 81
theorem k_I_isGlob : comp PP (Tryd.f81.ntmps, pinOf 0 [none]) [0, 2, 3, 4, 5, 8, 11, 12, 13, 14, 30, 39] (Tryd.f81.body.getD .skip) = some c_I_isGlob.erase := by kernel_rfl
theorem v_I_isGlob {GG : GV} (rcs : List C) {cs : List C} {r : C} {os : List (Option C)} (hN : (cs.length == 1 && rcs.length == 1) = true) (hret : retOf rcs = r)
    (hW : W PP [0, 2, 3, 4, 5, 8, 11, 12, 13, 14, 30, 39] (Tryd.f81.ntmps, pinOf 0 [none]) (Valid PP GG) c_I_isGlob (entry cs) (Fin (Valid PP GG) [(.give, 2, none)] [none] rcs os) (fun _ _ => False) (Fin (Valid PP GG) [(.give, 2, none)] [none] rcs os)) : Valid PP GG F_I_isGlob cs r os :=
  fn_valid_n 1 1 [0, 2, 3, 4, 5, 8, 11, 12, 13, 14, 30, 39] c_I_isGlob [(.give, 2, none)] [none] rcs Tryd.func81 rfl rfl (by kernel_rfl) k_I_isGlob rfl rfl hN hret hW
def c_S_l04DrawGood_0 : ACode := .reg [⟨.var 2, .mv (.const (.d (.int .i64 0))), none, []⟩] false
def c_S_l04DrawGood_1 : ACode := .reg [⟨.loc 3, .mv (.var 0), none, []⟩,
  ⟨.loc 4, .call (.fn 40) [(.loc 3), (.const (.d (.int .i64 16777216)))] [.box 3, .borrow], none, []⟩,
  ⟨.loc 5, .bin .int .mul (.loc 4) (.const (.d (.int .i64 65536))), none, []⟩,
  ⟨.loc 6, .mv (.var 0), none, []⟩,
  ⟨.loc 7, .call (.fn 40) [(.loc 6), (.const (.d (.int .i64 65536)))] [.box 3, .borrow], none, []⟩,
  ⟨.loc 8, .bin .int .add (.loc 5) (.loc 7), none, []⟩,
  ⟨.var 2, .mv (.loc 8), none, []⟩] false
def c_S_l04DrawGood : ACode := (.seq c_S_l04DrawGood_0 (.seq c_S_l04DrawGood_1 .ret))
abbrev F_S_l04DrawGood : FuncId := 84
theorem k_S_l04DrawGood : comp PP (Tryd.f84.ntmps, pinOf 0 [some (.box 3)]) [0, 2] (Tryd.f84.body.getD .skip) = some c_S_l04DrawGood.erase := by kernel_rfl
theorem v_S_l04DrawGood {GG : GV} (rcs : List C) {cs : List C} {r : C} {os : List (Option C)} (hN : (cs.length == 1 && rcs.length == 1) = true) (hret : retOf rcs = r)
    (hW : W PP [0, 2] (Tryd.f84.ntmps, pinOf 0 [some (.box 3)]) (Valid PP GG) c_S_l04DrawGood (entry cs) (Fin (Valid PP GG) [(.give, 2, none)] [some (.box 3)] rcs os) (fun _ _ => False) (Fin (Valid PP GG) [(.give, 2, none)] [some (.box 3)] rcs os)) : Valid PP GG F_S_l04DrawGood cs r os :=
  fn_valid_n 1 1 [0, 2] c_S_l04DrawGood [(.give, 2, none)] [some (.box 3)] rcs Tryd.func84 rfl rfl (by kernel_rfl) k_S_l04DrawGood rfl rfl hN hret hW
def c_S_l01DrawPath_0 : ACode := .reg [⟨.var 2, .mv (.const (.d (.str []))), none, []⟩] false
def c_S_l01DrawPath_1 : ACode := .reg [⟨.loc 6, .mv (.var 0), none, []⟩,
  ⟨.loc 7, .call (.fn 102) [(.loc 6)] [.box 3], none, []⟩,
  ⟨.var 3, .mv (.loc 7), none, []⟩] false
def c_S_l01DrawPath_2 : ACode := .reg [⟨.loc 8, .mv (.var 0), none, []⟩,
  ⟨.loc 9, .call (.fn 40) [(.loc 8), (.const (.d (.int .i64 4)))] [.box 3, .borrow], none, []⟩,
  ⟨.var 4, .mv (.loc 9), none, []⟩] false
def c_S_l01DrawPath_3 : ACode := .reg [⟨.loc 10, .mv (.var 0), none, []⟩,
  ⟨.var 11, .call (.fn 42) [(.loc 10), (.const (.d (.int .i64 20)))] [.box 3, .borrow], none, []⟩] false
def c_S_l01DrawPath_4 : ACode := .reg [⟨.loc 12, .mv (.var 0), none, []⟩,
  ⟨.loc 13, .call (.fn 40) [(.loc 12), (.const (.d (.int .i64 2)))] [.box 3, .borrow], none, []⟩,
  ⟨.loc 14, .bin .int .add (.const (.d (.int .i64 7))) (.loc 13), none, []⟩,
  ⟨.var 4, .mv (.loc 14), none, []⟩] false
def c_S_l01DrawPath_5 : ACode := .reg [⟨.var 5, .mv (.const (.d (.int .i64 0))), none, []⟩] false
def c_S_l01DrawPath_6 : ACode := .reg [⟨.loc 15, .mv (.var 5), none, []⟩,
  ⟨.loc 16, .mv (.var 4), none, []⟩,
  ⟨.var 17, .bin .int .lss (.loc 15) (.loc 16), none, []⟩] false
def c_S_l01DrawPath_7 : ACode := .reg [⟨.loc 20, .mv (.var 3), none, []⟩,
  ⟨.loc 21, .bin .str .add (.loc 20) (.const (.d (.str [47]))), none, []⟩,
  ⟨.loc 22, .mv (.var 0), none, []⟩,
  ⟨.loc 23, .call (.fn 102) [(.loc 22)] [.box 3], none, []⟩,
  ⟨.loc 24, .bin .str .add (.loc 21) (.loc 23), none, []⟩,
  ⟨.var 3, .mv (.loc 24), none, []⟩] false
def c_S_l01DrawPath_8 : ACode := .reg [⟨.loc 18, .mv (.var 5), none, []⟩,
  ⟨.loc 19, .bin .int .add (.loc 18) (.const (.d (.int .i64 1))), none, []⟩,
  ⟨.var 5, .mv (.loc 19), none, []⟩] false
def c_S_l01DrawPath_9 : ACode := (.seq (.seq c_S_l01DrawPath_6 (.cond (.var 17) .skip (.exit 0))) (.seq (.block 1 c_S_l01DrawPath_7) c_S_l01DrawPath_8))
def c_S_l01DrawPath_10 : ACode := .reg [⟨.loc 25, .mv (.var 3), none, []⟩,
  ⟨.var 2, .mv (.loc 25), none, []⟩] false
def c_S_l01DrawPath : ACode := (.seq c_S_l01DrawPath_0 (.seq c_S_l01DrawPath_1 (.seq c_S_l01DrawPath_2 (.seq (.seq c_S_l01DrawPath_3 (.cond (.var 11) c_S_l01DrawPath_4 .skip)) (.seq (.seq c_S_l01DrawPath_5 (.block 0 (.loop [0, 3, 4, 5] c_S_l01DrawPath_9))) (.seq c_S_l01DrawPath_10 .ret))))))
abbrev F_S_l01DrawPath : FuncId := 85
theorem k_S_l01DrawPath : comp PP (Tryd.f85.ntmps, pinOf 0 [some (.box 3)]) [0, 2, 3, 4, 5, 11, 17] (Tryd.f85.body.getD .skip) = some c_S_l01DrawPath.erase := by kernel_rfl
theorem v_S_l01DrawPath {GG : GV} (rcs : List C) {cs : List C} {r : C} {os : List (Option C)} (hN : (cs.length == 1 && rcs.length == 1) = true) (hret : retOf rcs = r)
    (hW : W PP [0, 2, 3, 4, 5, 11, 17] (Tryd.f85.ntmps, pinOf 0 [some (.box 3)]) (Valid PP GG) c_S_l01DrawPath (entry cs) (Fin (Valid PP GG) [(.give, 2, none)] [some (.box 3)] rcs os) (fun _ _ => False) (Fin (Valid PP GG) [(.give, 2, none)] [some (.box 3)] rcs os)) : Valid PP GG F_S_l01DrawPath cs r os :=
  fn_valid_n 1 1 [0, 2, 3, 4, 5, 11, 17] c_S_l01DrawPath [(.give, 2, none)] [some (.box 3)] rcs Tryd.func85 rfl rfl (by kernel_rfl) k_S_l01DrawPath rfl rfl hN hret hW
def c_S_l01Parts_0 : ACode := .reg [⟨.var 4, .mv (.const (.nil 0 1)), none, []⟩] false
def c_S_l01Parts_1 : ACode := .reg [⟨.loc 8, .lit 0 1 0 [.str []] [], none, []⟩,
  ⟨.var 5, .mv (.loc 8), none, []⟩] false
def c_S_l01Parts_2 : ACode := .reg [⟨.var 6, .mv (.const (.d (.int .i64 0))), none, []⟩] false
def c_S_l01Parts_3 : ACode := .reg [⟨.var 7, .mv (.const (.d (.int .i64 0))), none, []⟩] false
def c_S_l01Parts_4 : ACode := .reg [⟨.loc 9, .mv (.var 7), none, []⟩,
  ⟨.loc 10, .mv (.var 0), none, []⟩,
  ⟨.loc 11, .len true (.loc 10), none, []⟩,
  ⟨.var 12, .bin .int .leq (.loc 9) (.loc 11), none, []⟩] false
def c_S_l01Parts_5 : ACode := .reg [⟨.loc 15, .mv (.var 7), none, []⟩,
  ⟨.loc 16, .mv (.var 0), none, []⟩,
  ⟨.loc 17, .len true (.loc 16), none, []⟩,
  ⟨.loc 18, .bin .int .eql (.loc 15) (.loc 17), none, []⟩,
  ⟨.loc 19, .split (.loc 18), none, []⟩,
  ⟨.loc 20, .mv (.var 0), some ((.loc 19), false), []⟩,
  ⟨.loc 21, .mv (.var 7), some ((.loc 19), false), []⟩,
  ⟨.loc 22, .idxS (.loc 20) (.loc 21), some ((.loc 19), false), []⟩,
  ⟨.loc 23, .mv (.var 1), some ((.loc 19), false), []⟩,
  ⟨.loc 24, .bin .int .eql (.loc 22) (.loc 23), some ((.loc 19), false), []⟩,
  ⟨.var 25, .pick (.loc 19) (.const (.d (.bool true))) (.loc 24), none, []⟩] false
def c_S_l01Parts_6 : ACode := .reg [⟨.loc 26, .mv (.var 5), none, []⟩,
  ⟨.loc 27, .mv (.var 0), none, []⟩,
  ⟨.loc 28, .mv (.var 6), none, []⟩,
  ⟨.loc 29, .mv (.var 7), none, []⟩,
  ⟨.loc 30, .sliceS (.loc 27) (some (.loc 28)) (some (.loc 29)), none, []⟩,
  ⟨.loc 31, .lit 0 1 1 [.str []] [(0, (.loc 30))], none, []⟩,
  ⟨.loc 32, .app 1 16 (.loc 26) (.loc 31), none, []⟩,
  ⟨.var 5, .mv (.loc 32), none, []⟩] false
def c_S_l01Parts_7 : ACode := .reg [⟨.loc 33, .mv (.var 7), none, []⟩,
  ⟨.loc 34, .bin .int .add (.loc 33) (.const (.d (.int .i64 1))), none, []⟩,
  ⟨.var 6, .mv (.loc 34), none, []⟩] false
def c_S_l01Parts_8 : ACode := .reg [⟨.loc 13, .mv (.var 7), none, []⟩,
  ⟨.loc 14, .bin .int .add (.loc 13) (.const (.d (.int .i64 1))), none, []⟩,
  ⟨.var 7, .mv (.loc 14), none, []⟩] false
def c_S_l01Parts_9 : ACode := (.seq (.seq c_S_l01Parts_4 (.cond (.var 12) .skip (.exit 0))) (.seq (.block 1 (.seq c_S_l01Parts_5 (.cond (.var 25) (.seq c_S_l01Parts_6 c_S_l01Parts_7) .skip))) c_S_l01Parts_8))
def c_S_l01Parts_10 : ACode := .reg [⟨.loc 35, .mv (.var 5), none, []⟩,
  ⟨.var 4, .mv (.loc 35), none, []⟩] false
def c_S_l01Parts : ACode := (.seq c_S_l01Parts_0 (.seq c_S_l01Parts_1 (.seq c_S_l01Parts_2 (.seq (.seq c_S_l01Parts_3 (.block 0 (.loop [0, 1, 5, 6, 7] c_S_l01Parts_9))) (.seq c_S_l01Parts_10 .ret)))))
abbrev F_S_l01Parts : FuncId := 86
theorem k_S_l01Parts : comp PP (Tryd.f86.ntmps, pinOf 0 [none, none]) [0, 1, 4, 5, 6, 7, 12, 25] (Tryd.f86.body.getD .skip) = some c_S_l01Parts.erase := by kernel_rfl
theorem v_S_l01Parts {GG : GV} (rcs : List C) {cs : List C} {r : C} {os : List (Option C)} (hN : (cs.length == 2 && rcs.length == 1) = true) (hret : retOf rcs = r)
    (hW : W PP [0, 1, 4, 5, 6, 7, 12, 25] (Tryd.f86.ntmps, pinOf 0 [none, none]) (Valid PP GG) c_S_l01Parts (entry cs) (Fin (Valid PP GG) [(.give, 4, none)] [none, none] rcs os) (fun _ _ => False) (Fin (Valid PP GG) [(.give, 4, none)] [none, none] rcs os)) : Valid PP GG F_S_l01Parts cs r os :=
  fn_valid_n 2 1 [0, 1, 4, 5, 6, 7, 12, 25] c_S_l01Parts [(.give, 4, none)] [none, none] rcs Tryd.func86 rfl rfl (by kernel_rfl) k_S_l01Parts rfl rfl hN hret hW
def c_S_l01Segment_0 : ACode := .reg [⟨.var 2, .mv (.const (.d (.bool false))), none, []⟩] false
def c_S_l01Segment_1 : ACode := .reg [⟨.loc 5, .mv (.var 0), none, []⟩,
  ⟨.loc 6, .len true (.loc 5), none, []⟩,
  ⟨.loc 7, .call (.fn 47) [(.loc 6), (.const (.d (.int .i64 1))), (.const (.d (.int .i64 16)))] [.borrow, .borrow, .borrow], none, []⟩,
  ⟨.var 8, .un .not (.loc 7), none, []⟩] false
def c_S_l01Segment_2 : ACode := .reg [⟨.var 2, .mv (.const (.d (.bool false))), none, []⟩] false
def c_S_l01Segment_3 : ACode := .reg [⟨.var 3, .mv (.const (.d (.int .i64 0))), none, []⟩] false
def c_S_l01Segment_4 : ACode := .reg [⟨.loc 9, .mv (.var 3), none, []⟩,
  ⟨.loc 10, .mv (.var 0), none, []⟩,
  ⟨.loc 11, .len true (.loc 10), none, []⟩,
  ⟨.var 12, .bin .int .lss (.loc 9) (.loc 11), none, []⟩] false
def c_S_l01Segment_5 : ACode := .reg [⟨.loc 15, .mv (.var 0), none, []⟩,
  ⟨.loc 16, .mv (.var 3), none, []⟩,
  ⟨.loc 17, .idxS (.loc 15) (.loc 16), none, []⟩,
  ⟨.var 4, .mv (.loc 17), none, []⟩] false
def c_S_l01Segment_6 : ACode := .reg [⟨.loc 18, .mv (.var 4), none, []⟩,
  ⟨.loc 19, .bin .int .geq (.loc 18) (.const (.d (.int .u8 97))), none, []⟩,
  ⟨.loc 20, .split (.loc 19), none, []⟩,
  ⟨.loc 21, .mv (.var 4), some ((.loc 20), true), []⟩,
  ⟨.loc 22, .bin .int .leq (.loc 21) (.const (.d (.int .u8 122))), some ((.loc 20), true), []⟩,
  ⟨.loc 23, .pick (.loc 20) (.loc 22) (.const (.d (.bool false))), none, []⟩,
  ⟨.loc 24, .un .not (.loc 23), none, []⟩,
  ⟨.loc 25, .split (.loc 24), none, []⟩,
  ⟨.loc 26, .mv (.var 4), some ((.loc 25), true), []⟩,
  ⟨.loc 27, .bin .int .geq (.loc 26) (.const (.d (.int .u8 48))), some ((.loc 25), true), []⟩,
  ⟨.loc 28, .split (.loc 27), some ((.loc 25), true), []⟩,
  ⟨.loc 29, .mv (.var 4), some ((.loc 28), true), []⟩,
  ⟨.loc 30, .bin .int .leq (.loc 29) (.const (.d (.int .u8 57))), some ((.loc 28), true), []⟩,
  ⟨.loc 31, .pick (.loc 28) (.loc 30) (.const (.d (.bool false))), some ((.loc 25), true), []⟩,
  ⟨.loc 32, .un .not (.loc 31), some ((.loc 25), true), []⟩,
  ⟨.loc 33, .pick (.loc 25) (.loc 32) (.const (.d (.bool false))), none, []⟩,
  ⟨.loc 34, .split (.loc 33), none, []⟩,
  ⟨.loc 35, .mv (.var 4), some ((.loc 34), true), []⟩,
  ⟨.loc 36, .bin .int .neq (.loc 35) (.const (.d (.int .u8 45))), some ((.loc 34), true), []⟩,
  ⟨.var 37, .pick (.loc 34) (.loc 36) (.const (.d (.bool false))), none, []⟩] false
def c_S_l01Segment_7 : ACode := .reg [⟨.var 2, .mv (.const (.d (.bool false))), none, []⟩] false
def c_S_l01Segment_8 : ACode := .reg [⟨.loc 13, .mv (.var 3), none, []⟩,
  ⟨.loc 14, .bin .int .add (.loc 13) (.const (.d (.int .i64 1))), none, []⟩,
  ⟨.var 3, .mv (.loc 14), none, []⟩] false
def c_S_l01Segment_9 : ACode := (.seq (.seq c_S_l01Segment_4 (.cond (.var 12) .skip (.exit 0))) (.seq (.block 1 (.seq c_S_l01Segment_5 (.seq c_S_l01Segment_6 (.cond (.var 37) (.seq c_S_l01Segment_7 .ret) .skip)))) c_S_l01Segment_8))
def c_S_l01Segment_10 : ACode := .reg [⟨.var 2, .mv (.const (.d (.bool true))), none, []⟩] false
def c_S_l01Segment : ACode := (.seq c_S_l01Segment_0 (.seq (.seq c_S_l01Segment_1 (.cond (.var 8) (.seq c_S_l01Segment_2 .ret) .skip)) (.seq (.seq c_S_l01Segment_3 (.block 0 (.loop [0, 3] c_S_l01Segment_9))) (.seq c_S_l01Segment_10 .ret))))
abbrev F_S_l01Segment : FuncId := 87
theorem k_S_l01Segment : comp PP (Tryd.f87.ntmps, pinOf 0 [none]) [0, 2, 3, 4, 8, 12, 37] (Tryd.f87.body.getD .skip) = some c_S_l01Segment.erase := by kernel_rfl
theorem v_S_l01Segment {GG : GV} (rcs : List C) {cs : List C} {r : C} {os : List (Option C)} (hN : (cs.length == 1 && rcs.length == 1) = true) (hret : retOf rcs = r)
    (hW : W PP [0, 2, 3, 4, 8, 12, 37] (Tryd.f87.ntmps, pinOf 0 [none]) (Valid PP GG) c_S_l01Segment (entry cs) (Fin (Valid PP GG) [(.give, 2, none)] [none] rcs os) (fun _ _ => False) (Fin (Valid PP GG) [(.give, 2, none)] [none] rcs os)) : Valid PP GG F_S_l01Segment cs r os :=
  fn_valid_n 1 1 [0, 2, 3, 4, 8, 12, 37] c_S_l01Segment [(.give, 2, none)] [none] rcs Tryd.func87 rfl rfl (by kernel_rfl) k_S_l01Segment rfl rfl hN hret hW
def c_S_Stream_0 : ACode := .reg [⟨.var 6, .mv (.const (.nil 0 1)), none, []⟩] false
def c_S_Stream_1 : ACode := .reg [⟨.loc 11, .lit 0 1 0 [.int .u8 0] [], none, []⟩,
  ⟨.var 7, .mv (.loc 11), none, []⟩] false
def c_S_Stream_2 : ACode := .reg [⟨.loc 12, .mv (.var 0), none, []⟩,
  ⟨.loc 13, .call (.fn 57) [(.loc 12)] [.borrow], none, []⟩,
  ⟨.loc 14, .un .not (.loc 13), none, []⟩,
  ⟨.loc 15, .split (.loc 14), none, []⟩,
  ⟨.loc 16, .mv (.var 1), some ((.loc 15), false), []⟩,
  ⟨.loc 17, .call (.fn 57) [(.loc 16)] [.borrow], some ((.loc 15), false), []⟩,
  ⟨.loc 18, .un .not (.loc 17), some ((.loc 15), false), []⟩,
  ⟨.loc 19, .pick (.loc 15) (.const (.d (.bool true))) (.loc 18), none, []⟩,
  ⟨.loc 20, .split (.loc 19), none, []⟩,
  ⟨.loc 21, .mv (.var 2), some ((.loc 20), false), []⟩,
  ⟨.loc 22, .call (.fn 47) [(.loc 21), (.const (.d (.int .i64 0))), (.const (.d (.int .i64 2000)))] [.borrow, .borrow, .borrow], some ((.loc 20), false), []⟩,
  ⟨.loc 23, .un .not (.loc 22), some ((.loc 20), false), []⟩,
  ⟨.var 24, .pick (.loc 20) (.const (.d (.bool true))) (.loc 23), none, []⟩] false
def c_S_Stream_3 : ACode := .reg [⟨.var 6, .mv (.const (.nil 0 1)), none, []⟩] false
def c_S_Stream_4 : ACode := .reg [⟨.var 8, .mv (.const (.d (.int .i64 2147483629))), none, []⟩] false
def c_S_Stream_5 : ACode := .reg [⟨.loc 25, .mv (.var 0), none, []⟩,
  ⟨.loc 26, .mv (.var 8), none, []⟩,
  ⟨.loc 27, .bin .int .rem (.loc 25) (.loc 26), none, [0, 1]⟩,
  ⟨.loc 28, .mv (.var 1), none, []⟩,
  ⟨.loc 29, .mv (.var 8), none, []⟩,
  ⟨.loc 30, .bin .int .rem (.loc 28) (.loc 29), none, [3, 4]⟩,
  ⟨.loc 31, .bin .int .mul (.const (.d (.int .i64 2))) (.loc 30), none, [5, 3, 4]⟩,
  ⟨.loc 32, .bin .int .add (.loc 27) (.loc 31), none, [2, 0, 1, 6, 5, 3, 4]⟩,
  ⟨.loc 33, .bin .int .add (.loc 32) (.const (.d (.int .i64 1))), none, [7, 2, 0, 1, 6, 5, 3, 4]⟩,
  ⟨.loc 34, .mv (.var 8), none, []⟩,
  ⟨.loc 35, .bin .int .rem (.loc 33) (.loc 34), none, [8, 7, 2, 0, 1, 6, 5, 3, 4, 9]⟩,
  ⟨.var 9, .mv (.loc 35), none, [10, 8, 7, 2, 0, 1, 6, 5, 3, 4, 9]⟩] true
def c_S_Stream_6 : ACode := .reg [⟨.var 10, .mv (.const (.d (.int .i64 0))), none, []⟩] false
def c_S_Stream_7 : ACode := .reg [⟨.loc 36, .mv (.var 10), none, []⟩,
  ⟨.loc 37, .mv (.var 2), none, []⟩,
  ⟨.var 38, .bin .int .lss (.loc 36) (.loc 37), none, []⟩] false
def c_S_Stream_8 : ACode := .reg [⟨.loc 41, .mv (.var 9), none, []⟩,
  ⟨.loc 42, .bin .int .mul (.const (.d (.int .i64 48271))) (.loc 41), none, []⟩,
  ⟨.loc 43, .mv (.var 0), none, []⟩,
  ⟨.loc 44, .bin .int .rem (.loc 43) (.const (.d (.int .i64 65521))), none, []⟩,
  ⟨.loc 45, .bin .int .add (.loc 42) (.loc 44), none, []⟩,
  ⟨.loc 46, .bin .int .add (.loc 45) (.const (.d (.int .i64 1))), none, []⟩,
  ⟨.loc 47, .mv (.var 8), none, []⟩,
  ⟨.loc 48, .bin .int .rem (.loc 46) (.loc 47), none, []⟩,
  ⟨.var 9, .mv (.loc 48), none, []⟩] false
def c_S_Stream_9 : ACode := .reg [⟨.loc 49, .mv (.var 7), none, []⟩,
  ⟨.loc 50, .mv (.var 9), none, []⟩,
  ⟨.loc 51, .bin .int .quo (.loc 50) (.const (.d (.int .i64 1024))), none, []⟩,
  ⟨.loc 52, .bin .int .rem (.loc 51) (.const (.d (.int .i64 256))), none, []⟩,
  ⟨.loc 53, .conv .u8 (.loc 52), none, []⟩,
  ⟨.loc 54, .lit 0 1 1 [.int .u8 0] [(0, (.loc 53))], none, []⟩,
  ⟨.loc 55, .app 1 1 (.loc 49) (.loc 54), none, []⟩,
  ⟨.var 7, .mv (.loc 55), none, []⟩] false
def c_S_Stream_10 : ACode := .reg [⟨.loc 39, .mv (.var 10), none, []⟩,
  ⟨.loc 40, .bin .int .add (.loc 39) (.const (.d (.int .i64 1))), none, []⟩,
  ⟨.var 10, .mv (.loc 40), none, []⟩] false
def c_S_Stream_11 : ACode := (.seq (.seq c_S_Stream_7 (.cond (.var 38) .skip (.exit 0))) (.seq (.block 1 (.seq c_S_Stream_8 c_S_Stream_9)) c_S_Stream_10))
def c_S_Stream_12 : ACode := .reg [⟨.loc 56, .mv (.var 7), none, []⟩,
  ⟨.var 6, .mv (.loc 56), none, []⟩] false
def c_S_Stream : ACode := (.seq c_S_Stream_0 (.seq c_S_Stream_1 (.seq (.seq c_S_Stream_2 (.cond (.var 24) (.seq c_S_Stream_3 .ret) .skip)) (.seq c_S_Stream_4 (.seq c_S_Stream_5 (.seq (.seq c_S_Stream_6 (.block 0 (.loop [0, 2, 7, 8, 9, 10] c_S_Stream_11))) (.seq c_S_Stream_12 .ret)))))))
abbrev F_S_Stream : FuncId := 88
theorem k_S_Stream : comp PP (Tryd.f88.ntmps, pinOf 0 [none, none, none]) [0, 1, 2, 6, 7, 8, 9, 10, 24, 38] (Tryd.f88.body.getD .skip) = some c_S_Stream.erase := by kernel_rfl
theorem v_S_Stream {GG : GV} (rcs : List C) {cs : List C} {r : C} {os : List (Option C)} (hN : (cs.length == 3 && rcs.length == 1) = true) (hret : retOf rcs = r)
    (hW : W PP [0, 1, 2, 6, 7, 8, 9, 10, 24, 38] (Tryd.f88.ntmps, pinOf 0 [none, none, none]) (Valid PP GG) c_S_Stream (entry cs) (Fin (Valid PP GG) [(.give, 6, none)] [none, none, none] rcs os) (fun _ _ => False) (Fin (Valid PP GG) [(.give, 6, none)] [none, none, none] rcs os)) : Valid PP GG F_S_Stream cs r os :=
  fn_valid_n 3 1 [0, 1, 2, 6, 7, 8, 9, 10, 24, 38] c_S_Stream [(.give, 6, none)] [none, none, none] rcs Tryd.func88 rfl rfl (by kernel_rfl) k_S_Stream rfl rfl hN hret hW
def c_S_Digest_0 : ACode := .reg [⟨.var 2, .mv (.const (.d (.int .i64 0))), none, []⟩] false
def c_S_Digest_1 : ACode := .reg [⟨.var 3, .mv (.const (.d (.int .i64 7))), none, []⟩] false
def c_S_Digest_2 : ACode := .reg [⟨.var 4, .mv (.const (.d (.int .i64 11))), none, []⟩] false
def c_S_Digest_3 : ACode := .reg [⟨.var 5, .mv (.const (.d (.int .i64 0))), none, []⟩] false
def c_S_Digest_4 : ACode := .reg [⟨.loc 6, .mv (.var 5), none, []⟩,
  ⟨.loc 7, .mv (.var 0), none, []⟩,
  ⟨.loc 8, .len false (.loc 7), none, []⟩,
  ⟨.var 9, .bin .int .lss (.loc 6) (.loc 8), none, []⟩] false
def c_S_Digest_5 : ACode := .reg [⟨.loc 12, .mv (.var 3), none, []⟩,
  ⟨.loc 13, .bin .int .mul (.const (.d (.int .i64 131))) (.loc 12), none, []⟩,
  ⟨.loc 14, .mv (.var 0), none, []⟩,
  ⟨.loc 15, .mv (.var 5), none, []⟩,
  ⟨.loc 16, .idxA 1 (.loc 14) (.loc 15), none, []⟩,
  ⟨.loc 17, .load false 1 (.loc 16), none, []⟩,
  ⟨.loc 18, .conv .i64 (.loc 17), none, []⟩,
  ⟨.loc 19, .bin .int .add (.loc 13) (.loc 18), none, []⟩,
  ⟨.loc 20, .bin .int .add (.loc 19) (.const (.d (.int .i64 1))), none, []⟩,
  ⟨.loc 21, .bin .int .rem (.loc 20) (.const (.d (.int .i64 2147483647))), none, []⟩,
  ⟨.var 3, .mv (.loc 21), none, []⟩] false
def c_S_Digest_6 : ACode := .reg [⟨.loc 22, .mv (.var 4), none, []⟩,
  ⟨.loc 23, .bin .int .mul (.const (.d (.int .i64 137))) (.loc 22), none, []⟩,
  ⟨.loc 24, .mv (.var 0), none, []⟩,
  ⟨.loc 25, .mv (.var 5), none, []⟩,
  ⟨.loc 26, .idxA 1 (.loc 24) (.loc 25), none, []⟩,
  ⟨.loc 27, .load false 1 (.loc 26), none, []⟩,
  ⟨.loc 28, .conv .i64 (.loc 27), none, []⟩,
  ⟨.loc 29, .bin .int .add (.loc 23) (.loc 28), none, []⟩,
  ⟨.loc 30, .bin .int .add (.loc 29) (.const (.d (.int .i64 3))), none, []⟩,
  ⟨.loc 31, .bin .int .rem (.loc 30) (.const (.d (.int .i64 2147483629))), none, []⟩,
  ⟨.var 4, .mv (.loc 31), none, []⟩] false
def c_S_Digest_7 : ACode := .reg [⟨.loc 10, .mv (.var 5), none, []⟩,
  ⟨.loc 11, .bin .int .add (.loc 10) (.const (.d (.int .i64 1))), none, []⟩,
  ⟨.var 5, .mv (.loc 11), none, []⟩] false
def c_S_Digest_8 : ACode := (.seq (.seq c_S_Digest_4 (.cond (.var 9) .skip (.exit 0))) (.seq (.block 1 (.seq c_S_Digest_5 c_S_Digest_6)) c_S_Digest_7))
def c_S_Digest_9 : ACode := .reg [⟨.loc 32, .mv (.var 3), none, []⟩,
  ⟨.loc 33, .bin .int .mul (.const (.d (.int .i64 2147483648))) (.loc 32), none, []⟩,
  ⟨.loc 34, .mv (.var 4), none, []⟩,
  ⟨.loc 35, .bin .int .add (.loc 33) (.loc 34), none, []⟩,
  ⟨.var 2, .mv (.loc 35), none, []⟩] false
def c_S_Digest : ACode := (.seq c_S_Digest_0 (.seq c_S_Digest_1 (.seq c_S_Digest_2 (.seq (.seq c_S_Digest_3 (.block 0 (.loop [0, 3, 4, 5] c_S_Digest_8))) (.seq c_S_Digest_9 .ret)))))
abbrev F_S_Digest : FuncId := 89
theorem k_S_Digest : comp PP (Tryd.f89.ntmps, pinOf 0 [none]) [0, 2, 3, 4, 5, 9] (Tryd.f89.body.getD .skip) = some c_S_Digest.erase := by kernel_rfl
theorem v_S_Digest {GG : GV} (rcs : List C) {cs : List C} {r : C} {os : List (Option C)} (hN : (cs.length == 1 && rcs.length == 1) = true) (hret : retOf rcs = r)
    (hW : W PP [0, 2, 3, 4, 5, 9] (Tryd.f89.ntmps, pinOf 0 [none]) (Valid PP GG) c_S_Digest (entry cs) (Fin (Valid PP GG) [(.give, 2, none)] [none] rcs os) (fun _ _ => False) (Fin (Valid PP GG) [(.give, 2, none)] [none] rcs os)) : Valid PP GG F_S_Digest cs r os :=
  fn_valid_n 1 1 [0, 2, 3, 4, 5, 9] c_S_Digest [(.give, 2, none)] [none] rcs Tryd.func89 rfl rfl (by kernel_rfl) k_S_Digest rfl rfl hN hret hW
def c_S_l01Join_0 : ACode := .reg [⟨.var 4, .mv (.const (.nil 0 1)), none, []⟩] false
def c_S_l01Join_1 : ACode := .reg [⟨.loc 7, .mv (.var 0), none, []⟩,
  ⟨.loc 8, .call (.fn 58) [(.loc 7)] [.borrow], none, []⟩,
  ⟨.var 5, .mv (.loc 8), none, []⟩] false
def c_S_l01Join_2 : ACode := .reg [⟨.var 6, .mv (.const (.d (.int .i64 0))), none, []⟩] false
def c_S_l01Join_3 : ACode := .reg [⟨.loc 9, .mv (.var 6), none, []⟩,
  ⟨.loc 10, .mv (.var 1), none, []⟩,
  ⟨.loc 11, .len false (.loc 10), none, []⟩,
  ⟨.var 12, .bin .int .lss (.loc 9) (.loc 11), none, []⟩] false
def c_S_l01Join_4 : ACode := .reg [⟨.loc 15, .mv (.var 5), none, []⟩,
  ⟨.loc 16, .mv (.var 1), none, []⟩,
  ⟨.loc 17, .mv (.var 6), none, []⟩,
  ⟨.loc 18, .idxA 1 (.loc 16) (.loc 17), none, []⟩,
  ⟨.loc 19, .load false 1 (.loc 18), none, []⟩,
  ⟨.loc 20, .lit 0 1 1 [.int .u8 0] [(0, (.loc 19))], none, []⟩,
  ⟨.loc 21, .app 1 1 (.loc 15) (.loc 20), none, []⟩,
  ⟨.var 5, .mv (.loc 21), none, []⟩] false
def c_S_l01Join_5 : ACode := .reg [⟨.loc 13, .mv (.var 6), none, []⟩,
  ⟨.loc 14, .bin .int .add (.loc 13) (.const (.d (.int .i64 1))), none, []⟩,
  ⟨.var 6, .mv (.loc 14), none, []⟩] false
def c_S_l01Join_6 : ACode := (.seq (.seq c_S_l01Join_3 (.cond (.var 12) .skip (.exit 0))) (.seq (.block 1 c_S_l01Join_4) c_S_l01Join_5))
def c_S_l01Join_7 : ACode := .reg [⟨.loc 22, .mv (.var 5), none, []⟩,
  ⟨.var 4, .mv (.loc 22), none, []⟩] false
def c_S_l01Join : ACode := (.seq c_S_l01Join_0 (.seq c_S_l01Join_1 (.seq (.seq c_S_l01Join_2 (.block 0 (.loop [1, 5, 6] c_S_l01Join_6))) (.seq c_S_l01Join_7 .ret))))
abbrev F_S_l01Join : FuncId := 90
theorem k_S_l01Join : comp PP (Tryd.f90.ntmps, pinOf 0 [none, none]) [0, 1, 4, 5, 6, 12] (Tryd.f90.body.getD .skip) = some c_S_l01Join.erase := by kernel_rfl
theorem v_S_l01Join {GG : GV} (rcs : List C) {cs : List C} {r : C} {os : List (Option C)} (hN : (cs.length == 2 && rcs.length == 1) = true) (hret : retOf rcs = r)
    (hW : W PP [0, 1, 4, 5, 6, 12] (Tryd.f90.ntmps, pinOf 0 [none, none]) (Valid PP GG) c_S_l01Join (entry cs) (Fin (Valid PP GG) [(.give, 4, none)] [none, none] rcs os) (fun _ _ => False) (Fin (Valid PP GG) [(.give, 4, none)] [none, none] rcs os)) : Valid PP GG F_S_l01Join cs r os :=
  fn_valid_n 2 1 [0, 1, 4, 5, 6, 12] c_S_l01Join [(.give, 4, none)] [none, none] rcs Tryd.func90 rfl rfl (by kernel_rfl) k_S_l01Join rfl rfl hN hret hW
def c_S_PutWide_0 : ACode := .reg [⟨.var 2, .mv (.const (.nil 0 1)), none, []⟩] false
def c_S_PutWide_1 : ACode := .reg [⟨.loc 5, .lit 0 1 0 [.int .u8 0] [], none, []⟩,
  ⟨.var 3, .mv (.loc 5), none, []⟩] false
def c_S_PutWide_2 : ACode := .reg [⟨.loc 6, .mv (.var 0), none, []⟩,
  ⟨.loc 7, .call (.fn 57) [(.loc 6)] [.borrow], none, []⟩,
  ⟨.var 8, .un .not (.loc 7), none, []⟩] false
def c_S_PutWide_3 : ACode := .reg [⟨.var 2, .mv (.const (.nil 0 1)), none, []⟩] false
def c_S_PutWide_4 : ACode := .reg [⟨.var 4, .mv (.const (.d (.int .i64 0))), none, []⟩] false
def c_S_PutWide_5 : ACode := .reg [⟨.loc 9, .mv (.var 4), none, []⟩,
  ⟨.var 10, .bin .int .lss (.loc 9) (.const (.d (.int .i64 8))), none, []⟩] false
def c_S_PutWide_6 : ACode := .reg [⟨.loc 13, .mv (.var 3), none, []⟩,
  ⟨.loc 14, .mv (.var 0), none, []⟩,
  ⟨.loc 15, .mv (.var 4), none, []⟩,
  ⟨.loc 16, .bin .int .mul (.const (.d (.int .i64 8))) (.loc 15), none, []⟩,
  ⟨.loc 17, .conv .u64 (.loc 16), none, []⟩,
  ⟨.loc 18, .bin .int .shr (.loc 14) (.loc 17), none, []⟩,
  ⟨.loc 19, .bin .int .and (.loc 18) (.const (.d (.int .i64 255))), none, []⟩,
  ⟨.loc 20, .conv .u8 (.loc 19), none, []⟩,
  ⟨.loc 21, .lit 0 1 1 [.int .u8 0] [(0, (.loc 20))], none, []⟩,
  ⟨.loc 22, .app 1 1 (.loc 13) (.loc 21), none, []⟩,
  ⟨.var 3, .mv (.loc 22), none, []⟩] false
def c_S_PutWide_7 : ACode := .reg [⟨.loc 11, .mv (.var 4), none, []⟩,
  ⟨.loc 12, .bin .int .add (.loc 11) (.const (.d (.int .i64 1))), none, []⟩,
  ⟨.var 4, .mv (.loc 12), none, []⟩] false
def c_S_PutWide_8 : ACode := (.seq (.seq c_S_PutWide_5 (.cond (.var 10) .skip (.exit 0))) (.seq (.block 1 c_S_PutWide_6) c_S_PutWide_7))
def c_S_PutWide_9 : ACode := .reg [⟨.loc 23, .mv (.var 3), none, []⟩,
  ⟨.var 2, .mv (.loc 23), none, []⟩] false
def c_S_PutWide : ACode := (.seq c_S_PutWide_0 (.seq c_S_PutWide_1 (.seq (.seq c_S_PutWide_2 (.cond (.var 8) (.seq c_S_PutWide_3 .ret) .skip)) (.seq (.seq c_S_PutWide_4 (.block 0 (.loop [0, 3, 4] c_S_PutWide_8))) (.seq c_S_PutWide_9 .ret)))))
abbrev F_S_PutWide : FuncId := 91
theorem k_S_PutWide : comp PP (Tryd.f91.ntmps, pinOf 0 [none]) [0, 2, 3, 4, 8, 10] (Tryd.f91.body.getD .skip) = some c_S_PutWide.erase := by kernel_rfl
theorem v_S_PutWide {GG : GV} (rcs : List C) {cs : List C} {r : C} {os : List (Option C)} (hN : (cs.length == 1 && rcs.length == 1) = true) (hret : retOf rcs = r)
    (hW : W PP [0, 2, 3, 4, 8, 10] (Tryd.f91.ntmps, pinOf 0 [none]) (Valid PP GG) c_S_PutWide (entry cs) (Fin (Valid PP GG) [(.give, 2, none)] [none] rcs os) (fun _ _ => False) (Fin (Valid PP GG) [(.give, 2, none)] [none] rcs os)) : Valid PP GG F_S_PutWide cs r os :=
  fn_valid_n 1 1 [0, 2, 3, 4, 8, 10] c_S_PutWide [(.give, 2, none)] [none] rcs Tryd.func91 rfl rfl (by kernel_rfl) k_S_PutWide rfl rfl hN hret hW
def c_I_digest_0 : ACode := .reg [⟨.var 2, .mv (.const (.d (.int .i64 0))), none, []⟩] false
def c_I_digest_1 : ACode := .reg [⟨.var 3, .mv (.const (.d (.int .i64 7))), none, []⟩,
  ⟨.var 4, .mv (.const (.d (.int .i64 11))), none, []⟩] false
def c_I_digest_2 : ACode := .reg [⟨.var 7, .mv (.var 0), none, []⟩,
  ⟨.var 8, .len false (.var 7), none, []⟩,
  ⟨.var 9, .mv (.const (.d (.int .i64 0))), none, []⟩] false
def c_I_digest_3 : ACode := .reg [⟨.var 10, .bin .int .lss (.var 9) (.var 8), none, []⟩] false
def c_I_digest_4 : ACode := .reg [⟨.loc 11, .idxA 1 (.var 7) (.var 9), none, []⟩,
  ⟨.loc 12, .load false 1 (.loc 11), none, []⟩,
  ⟨.var 6, .mv (.loc 12), none, []⟩] false
def c_I_digest_5 : ACode := .reg [⟨.loc 13, .mv (.var 3), none, []⟩,
  ⟨.loc 14, .bin .int .mul (.const (.d (.int .i64 131))) (.loc 13), none, []⟩,
  ⟨.loc 15, .mv (.var 6), none, []⟩,
  ⟨.loc 16, .conv .i64 (.loc 15), none, []⟩,
  ⟨.loc 17, .bin .int .add (.loc 14) (.loc 16), none, []⟩,
  ⟨.loc 18, .bin .int .add (.loc 17) (.const (.d (.int .i64 1))), none, []⟩,
  ⟨.loc 19, .bin .int .rem (.loc 18) (.const (.d (.int .i64 2147483647))), none, []⟩,
  ⟨.var 3, .mv (.loc 19), none, []⟩] false
def c_I_digest_6 : ACode := .reg [⟨.loc 20, .mv (.var 4), none, []⟩,
  ⟨.loc 21, .bin .int .mul (.const (.d (.int .i64 137))) (.loc 20), none, []⟩,
  ⟨.loc 22, .mv (.var 6), none, []⟩,
  ⟨.loc 23, .conv .i64 (.loc 22), none, []⟩,
  ⟨.loc 24, .bin .int .add (.loc 21) (.loc 23), none, []⟩,
  ⟨.loc 25, .bin .int .add (.loc 24) (.const (.d (.int .i64 3))), none, []⟩,
  ⟨.loc 26, .bin .int .rem (.loc 25) (.const (.d (.int .i64 2147483629))), none, []⟩,
  ⟨.var 4, .mv (.loc 26), none, []⟩] false
def c_I_digest_7 : ACode := .reg [⟨.loc 27, .bin .int .add (.var 9) (.const (.d (.int .i64 1))), none, []⟩,
  ⟨.var 9, .mv (.loc 27), none, []⟩] false
def c_I_digest_8 : ACode := (.seq c_I_digest_3 (.seq (.cond (.var 10) .skip (.exit 0)) (.seq (.block 1 (.seq c_I_digest_4 (.seq c_I_digest_5 c_I_digest_6))) c_I_digest_7)))
def c_I_digest_9 : ACode := .reg [⟨.loc 28, .mv (.var 3), none, []⟩,
  ⟨.loc 29, .bin .int .mul (.const (.d (.int .i64 2147483648))) (.loc 28), none, []⟩,
  ⟨.loc 30, .mv (.var 4), none, []⟩,
  ⟨.loc 31, .bin .int .add (.loc 29) (.loc 30), none, []⟩,
  ⟨.var 2, .mv (.loc 31), none, []⟩] false
def c_I_digest : ACode := (.seq c_I_digest_0 (.seq c_I_digest_1 (.seq (.seq c_I_digest_2 (.block 0 (.loop [3, 4, 7, 8, 9] c_I_digest_8))) (.seq c_I_digest_9 .ret))))
abbrev F_I_digest : FuncId := 92
theorem k_I_digest : comp PP (Tryd.f92.ntmps, pinOf 0 [none]) [0, 2, 3, 4, 6, 7, 8, 9, 10] (Tryd.f92.body.getD .skip) = some c_I_digest.erase := by kernel_rfl
theorem v_I_digest {GG : GV} (rcs : List C) {cs : List C} {r : C} {os : List (Option C)} (hN : (cs.length == 1 && rcs.length == 1) = true) (hret : retOf rcs = r)
    (hW : W PP [0, 2, 3, 4, 6, 7, 8, 9, 10] (Tryd.f92.ntmps, pinOf 0 [none]) (Valid PP GG) c_I_digest (entry cs) (Fin (Valid PP GG) [(.give, 2, none)] [none] rcs os) (fun _ _ => False) (Fin (Valid PP GG) [(.give, 2, none)] [none] rcs os)) : Valid PP GG F_I_digest cs r os :=
  fn_valid_n 1 1 [0, 2, 3, 4, 6, 7, 8, 9, 10] c_I_digest [(.give, 2, none)] [none] rcs Tryd.func92 rfl rfl (by kernel_rfl) k_I_digest rfl rfl hN hret hW
def c_slices_Concat___byte_byte__0 : ACode := .reg [⟨.var 2, .mv (.const (.nil 0 1)), none, []⟩] false
def c_slices_Concat___byte_byte__1 : ACode := .reg [⟨.var 3, .mv (.const (.d (.int .i64 0))), none, []⟩] false
def c_slices_Concat___byte_byte__2 : ACode := .reg [⟨.var 9, .mv (.var 0), none, []⟩,
  ⟨.var 10, .len false (.var 9), none, []⟩,
  ⟨.var 11, .mv (.const (.d (.int .i64 0))), none, []⟩] false
def c_slices_Concat___byte_byte__3 : ACode := .reg [⟨.var 12, .bin .int .lss (.var 11) (.var 10), none, []⟩] false
def c_slices_Concat___byte_byte__4 : ACode := .reg [⟨.loc 13, .idxA 1 (.var 9) (.var 11), none, []⟩,
  ⟨.loc 14, .load false 1 (.loc 13), none, []⟩,
  ⟨.var 5, .mv (.loc 14), none, []⟩] false
def c_slices_Concat___byte_byte__5 : ACode := .reg [⟨.loc 15, .mv (.var 3), none, []⟩,
  ⟨.loc 16, .mv (.var 5), none, []⟩,
  ⟨.loc 17, .len false (.loc 16), none, []⟩,
  ⟨.loc 18, .bin .int .add (.loc 15) (.loc 17), none, []⟩,
  ⟨.var 3, .mv (.loc 18), none, []⟩] false
def c_slices_Concat___byte_byte__6 : ACode := .reg [⟨.loc 19, .mv (.var 3), none, []⟩,
  ⟨.var 20, .bin .int .lss (.loc 19) (.const (.d (.int .i64 0))), none, []⟩] false
def c_slices_Concat___byte_byte__7 : ACode := .reg [⟨.loc 21, .bad, none, []⟩,
  ⟨.none, .bad, none, []⟩] false
def c_slices_Concat___byte_byte__8 : ACode := .reg [⟨.loc 22, .bin .int .add (.var 11) (.const (.d (.int .i64 1))), none, []⟩,
  ⟨.var 11, .mv (.loc 22), none, []⟩] false
def c_slices_Concat___byte_byte__9 : ACode := (.seq c_slices_Concat___byte_byte__3 (.seq (.cond (.var 12) .skip (.exit 0)) (.seq (.block 1 (.seq c_slices_Concat___byte_byte__4 (.seq c_slices_Concat___byte_byte__5 (.seq c_slices_Concat___byte_byte__6 (.cond (.var 20) c_slices_Concat___byte_byte__7 .skip))))) c_slices_Concat___byte_byte__8)))
def c_slices_Concat___byte_byte__10 : ACode := .reg [⟨.loc 23, .mv (.var 3), none, []⟩,
  ⟨.loc 24, .call (.fn 103) [(.const (.nil 0 1)), (.loc 23)] [.nil, .borrow], none, []⟩,
  ⟨.var 6, .mv (.loc 24), none, []⟩] false
def c_slices_Concat___byte_byte__11 : ACode := .reg [⟨.var 25, .mv (.var 0), none, []⟩,
  ⟨.var 26, .len false (.var 25), none, []⟩,
  ⟨.var 27, .mv (.const (.d (.int .i64 0))), none, []⟩] false
def c_slices_Concat___byte_byte__12 : ACode := .reg [⟨.var 28, .bin .int .lss (.var 27) (.var 26), none, []⟩] false
def c_slices_Concat___byte_byte__13 : ACode := .reg [⟨.loc 29, .idxA 1 (.var 25) (.var 27), none, []⟩,
  ⟨.loc 30, .load false 1 (.loc 29), none, []⟩,
  ⟨.var 8, .mv (.loc 30), none, []⟩] false
def c_slices_Concat___byte_byte__14 : ACode := .reg [⟨.loc 31, .mv (.var 6), none, []⟩,
  ⟨.loc 32, .mv (.var 8), none, []⟩,
  ⟨.loc 33, .app 1 1 (.loc 31) (.loc 32), none, []⟩,
  ⟨.var 6, .mv (.loc 33), none, []⟩] false
def c_slices_Concat___byte_byte__15 : ACode := .reg [⟨.loc 34, .bin .int .add (.var 27) (.const (.d (.int .i64 1))), none, []⟩,
  ⟨.var 27, .mv (.loc 34), none, []⟩] false
def c_slices_Concat___byte_byte__16 : ACode := (.seq c_slices_Concat___byte_byte__12 (.seq (.cond (.var 28) .skip (.exit 2)) (.seq (.block 3 (.seq c_slices_Concat___byte_byte__13 c_slices_Concat___byte_byte__14)) c_slices_Concat___byte_byte__15)))
def c_slices_Concat___byte_byte__17 : ACode := .reg [⟨.loc 35, .mv (.var 6), none, []⟩,
  ⟨.var 2, .mv (.loc 35), none, []⟩] false
def c_slices_Concat___byte_byte_ : ACode := (.seq c_slices_Concat___byte_byte__0 (.seq c_slices_Concat___byte_byte__1 (.seq (.seq c_slices_Concat___byte_byte__2 (.block 0 (.loop [0, 3, 9, 10, 11] c_slices_Concat___byte_byte__9))) (.seq c_slices_Concat___byte_byte__10 (.seq (.seq c_slices_Concat___byte_byte__11 (.block 2 (.loop [6, 25, 26, 27] c_slices_Concat___byte_byte__16))) (.seq c_slices_Concat___byte_byte__17 .ret))))))
abbrev F_slices_Concat___byte_byte_ : FuncId := 93
theorem k_slices_Concat___byte_byte_ : comp PP (Tryd.f93.ntmps, pinOf 0 [none]) [0, 2, 3, 5, 6, 8, 9, 10, 11, 12, 20, 25, 26, 27, 28] (Tryd.f93.body.getD .skip) = some c_slices_Concat___byte_byte_.erase := by kernel_rfl
theorem v_slices_Concat___byte_byte_ {GG : GV} (rcs : List C) {cs : List C} {r : C} {os : List (Option C)} (hN : (cs.length == 1 && rcs.length == 1) = true) (hret : retOf rcs = r)
    (hW : W PP [0, 2, 3, 5, 6, 8, 9, 10, 11, 12, 20, 25, 26, 27, 28] (Tryd.f93.ntmps, pinOf 0 [none]) (Valid PP GG) c_slices_Concat___byte_byte_ (entry cs) (Fin (Valid PP GG) [(.give, 2, none)] [none] rcs os) (fun _ _ => False) (Fin (Valid PP GG) [(.give, 2, none)] [none] rcs os)) : Valid PP GG F_slices_Concat___byte_byte_ cs r os :=
  fn_valid_n 1 1 [0, 2, 3, 5, 6, 8, 9, 10, 11, 12, 20, 25, 26, 27, 28] c_slices_Concat___byte_byte_ [(.give, 2, none)] [none] rcs Tryd.func93 rfl rfl (by kernel_rfl) k_slices_Concat___byte_byte_ rfl rfl hN hret hW
def c_I_putWide_0 : ACode := .reg [⟨.var 2, .mv (.const (.nil 0 1)), none, []⟩] false
end Go.Proofs.YtmihpclfdicfkaaDoor.Ab
