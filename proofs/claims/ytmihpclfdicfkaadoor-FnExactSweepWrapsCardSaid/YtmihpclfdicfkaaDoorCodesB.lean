/-
  A part of a proof about the given program; what is proved is said where each theorem stands.
-/
import Derived.Test.YtmihpclfdicfkaaDoorFrameA
import Derived.Test.YtmihpclfdicfkaaDoorFrameB
import Derived.Test.YtmihpclfdicfkaaDoorFrameC
import Derived.Test.YtmihpclfdicfkaaDoorFrameD
import Derived.Test.YtmihpclfdicfkaaDoorFrameE
import Derived.Test.YtmihpclfdicfkaaDoorShelf
import Derived.Test.YtmihpclfdicfkaaDoorCodesA
set_option maxRecDepth 100000
namespace Go.Proofs.YtmihpclfdicfkaaDoor.Ab
open Go.Proofs
def c_S_l01Parts_7 : ACode := .reg [⟨.loc 33, .mv (.var 7), none, []⟩,
  ⟨.loc 34, .bin .int .add (.loc 33) (.const (.d (.int .i64 1))), none, []⟩,
  ⟨.var 6, .mv (.loc 34), none, []⟩] false
def c_S_l01Parts_8 : ACode := .reg [⟨.loc 13, .mv (.var 7), none, []⟩,
  ⟨.loc 14, .bin .int .add (.loc 13) (.const (.d (.int .i64 1))), none, []⟩,
  ⟨.var 7, .mv (.loc 14), none, []⟩] false
def c_S_l01Parts_9 : ACode := (.seq (.seq c_S_l01Parts_4 (.cond (.var 12) .skip (.exit 0))) (.seq (.block 1 (.seq c_S_l01Parts_5 (.cond (.var 25) (.seq c_S_l01Parts_6 c_S_l01Parts_7) .skip))) c_S_l01Parts_8))
def c_S_l01Parts_10 : ACode := .reg [⟨.loc 35, .mv (.var 5), none, []⟩,
  ⟨.var 4, .mv (.loc 35), none, []⟩] false
def c_S_l01Parts : ACode := (.seq c_S_l01Parts_0 (.seq c_S_l01Parts_1 (.seq c_S_l01Parts_2 (.seq (.seq c_S_l01Parts_3 (.block 0 (.loop [0, 1, 5, 6, 7] c_S_l01Parts_9))) (.seq c_S_l01Parts_10 .ret)))))
abbrev F_S_l01Parts : FuncId := 86
theorem k_S_l01Parts : comp PP (Tryd.f86.ntmps, pinOf 0 [none, none]) [0, 1, 4, 5, 6, 7, 12, 25] (Tryd.f86.body.getD .skip) = some c_S_l01Parts.erase := by kernel_rfl
theorem v_S_l01Parts {GG : GV} (rcs : List C) {cs : List C} {r : C} {os : List (Option C)} (hN : (cs.length == 2 && rcs.length == 1) = true) (hret : retOf rcs = r)
    (hW : W PP [0, 1, 4, 5, 6, 7, 12, 25] (Tryd.f86.ntmps, pinOf 0 [none, none]) (Valid PP GG) c_S_l01Parts (entry cs) (Fin (Valid PP GG) [(.give, 4, none)] [none, none] rcs os) (fun _ _ => False) (Fin (Valid PP GG) [(.give, 4, none)] [none, none] rcs os)) : Valid PP GG F_S_l01Parts cs r os :=
  fn_valid_n 2 1 [0, 1, 4, 5, 6, 7, 12, 25] c_S_l01Parts [(.give, 4, none)] [none, none] rcs Tryd.func86 rfl rfl (by kernel_rfl) k_S_l01Parts rfl rfl hN hret hW
def c_S_l01Segment_0 : ACode := .reg [⟨.var 2, .mv (.const (.d (.bool false))), none, []⟩] false
def c_S_l01Segment_1 : ACode := .reg [⟨.loc 5, .mv (.var 0), none, []⟩,
  ⟨.loc 6, .len true (.loc 5), none, []⟩,
  ⟨.loc 7, .call (.fn 47) [(.loc 6), (.const (.d (.int .i64 1))), (.const (.d (.int .i64 16)))] [.borrow, .borrow, .borrow], none, []⟩,
  ⟨.var 8, .un .not (.loc 7), none, []⟩] false
def c_S_l01Segment_2 : ACode := .reg [⟨.var 2, .mv (.const (.d (.bool false))), none, []⟩] false
def c_S_l01Segment_3 : ACode := .reg [⟨.var 3, .mv (.const (.d (.int .i64 0))), none, []⟩] false
def c_S_l01Segment_4 : ACode := .reg [⟨.loc 9, .mv (.var 3), none, []⟩,
  ⟨.loc 10, .mv (.var 0), none, []⟩,
  ⟨.loc 11, .len true (.loc 10), none, []⟩,
  ⟨.var 12, .bin .int .lss (.loc 9) (.loc 11), none, []⟩] false
def c_S_l01Segment_5 : ACode := .reg [⟨.loc 15, .mv (.var 0), none, []⟩,
  ⟨.loc 16, .mv (.var 3), none, []⟩,
  ⟨.loc 17, .idxS (.loc 15) (.loc 16), none, []⟩,
  ⟨.var 4, .mv (.loc 17), none, []⟩] false
def c_S_l01Segment_6 : ACode := .reg [⟨.loc 18, .mv (.var 4), none, []⟩,
  ⟨.loc 19, .bin .int .geq (.loc 18) (.const (.d (.int .u8 97))), none, []⟩,
  ⟨.loc 20, .split (.loc 19), none, []⟩,
  ⟨.loc 21, .mv (.var 4), some ((.loc 20), true), []⟩,
  ⟨.loc 22, .bin .int .leq (.loc 21) (.const (.d (.int .u8 122))), some ((.loc 20), true), []⟩,
  ⟨.loc 23, .pick (.loc 20) (.loc 22) (.const (.d (.bool false))), none, []⟩,
  ⟨.loc 24, .un .not (.loc 23), none, []⟩,
  ⟨.loc 25, .split (.loc 24), none, []⟩,
  ⟨.loc 26, .mv (.var 4), some ((.loc 25), true), []⟩,
  ⟨.loc 27, .bin .int .geq (.loc 26) (.const (.d (.int .u8 48))), some ((.loc 25), true), []⟩,
  ⟨.loc 28, .split (.loc 27), some ((.loc 25), true), []⟩,
  ⟨.loc 29, .mv (.var 4), some ((.loc 28), true), []⟩,
  ⟨.loc 30, .bin .int .leq (.loc 29) (.const (.d (.int .u8 57))), some ((.loc 28), true), []⟩,
  ⟨.loc 31, .pick (.loc 28) (.loc 30) (.const (.d (.bool false))), some ((.loc 25), true), []⟩,
  ⟨.loc 32, .un .not (.loc 31), some ((.loc 25), true), []⟩,
  ⟨.loc 33, .pick (.loc 25) (.loc 32) (.const (.d (.bool false))), none, []⟩,
  ⟨.loc 34, .split (.loc 33), none, []⟩,
  ⟨.loc 35, .mv (.var 4), some ((.loc 34), true), []⟩,
  ⟨.loc 36, .bin .int .neq (.loc 35) (.const (.d (.int .u8 45))), some ((.loc 34), true), []⟩,
  ⟨.var 37, .pick (.loc 34) (.loc 36) (.const (.d (.bool false))), none, []⟩] false
def c_S_l01Segment_7 : ACode := .reg [⟨.var 2, .mv (.const (.d (.bool false))), none, []⟩] false
def c_S_l01Segment_8 : ACode := .reg [⟨.loc 13, .mv (.var 3), none, []⟩,
  ⟨.loc 14, .bin .int .add (.loc 13) (.const (.d (.int .i64 1))), none, []⟩,
  ⟨.var 3, .mv (.loc 14), none, []⟩] false
def c_S_l01Segment_9 : ACode := (.seq (.seq c_S_l01Segment_4 (.cond (.var 12) .skip (.exit 0))) (.seq (.block 1 (.seq c_S_l01Segment_5 (.seq c_S_l01Segment_6 (.cond (.var 37) (.seq c_S_l01Segment_7 .ret) .skip)))) c_S_l01Segment_8))
def c_S_l01Segment_10 : ACode := .reg [⟨.var 2, .mv (.const (.d (.bool true))), none, []⟩] false
def c_S_l01Segment : ACode := (.seq c_S_l01Segment_0 (.seq (.seq c_S_l01Segment_1 (.cond (.var 8) (.seq c_S_l01Segment_2 .ret) .skip)) (.seq (.seq c_S_l01Segment_3 (.block 0 (.loop [0, 3] c_S_l01Segment_9))) (.seq c_S_l01Segment_10 .ret))))
abbrev F_S_l01Segment : FuncId := 87
theorem k_S_l01Segment : comp PP (Tryd.f87.ntmps, pinOf 0 [none]) [0, 2, 3, 4, 8, 12, 37] (Tryd.f87.body.getD .skip) = some c_S_l01Segment.erase := by kernel_rfl
theorem v_S_l01Segment {GG : GV} (rcs : List C) {cs : List C} {r : C} {os : List (Option C)} (hN : (cs.length == 1 && rcs.length == 1) = true) (hret : retOf rcs = r)
    (hW : W PP [0, 2, 3, 4, 8, 12, 37] (Tryd.f87.ntmps, pinOf 0 [none]) (Valid PP GG) c_S_l01Segment (entry cs) (Fin (Valid PP GG) [(.give, 2, none)] [none] rcs os) (fun _ _ => False) (Fin (Valid PP GG) [(.give, 2, none)] [none] rcs os)) : Valid PP GG F_S_l01Segment cs r os :=
  fn_valid_n 1 1 [0, 2, 3, 4, 8, 12, 37] c_S_l01Segment [(.give, 2, none)] [none] rcs Tryd.func87 rfl rfl (by kernel_rfl) k_S_l01Segment rfl rfl hN hret hW
def c_L_szByteS_0 : ACode := .reg [⟨.var 4, .mv (.const (.d (.int .i64 0))), none, []⟩] false
def c_L_szByteS_1 : ACode := .reg [⟨.loc 5, .mv (.var 1), none, []⟩,
  ⟨.loc 6, .mv (.var 0), none, []⟩,
  ⟨.loc 7, .len false (.loc 6), none, []⟩,
  ⟨.loc 8, .bin .int .sub (.loc 5) (.loc 7), none, []⟩,
  ⟨.var 1, .mv (.loc 8), none, []⟩] false
def c_L_szByteS_2 : ACode := .reg [⟨.loc 9, .mv (.var 1), none, []⟩,
  ⟨.var 10, .bin .int .lss (.loc 9) (.const (.d (.int .i64 0))), none, []⟩] false
def c_L_szByteS_3 : ACode := .reg [⟨.var 4, .mv (.const (.d (.int .i64 (-1)))), none, []⟩] false
def c_L_szByteS_4 : ACode := .reg [⟨.loc 11, .mv (.var 1), none, []⟩,
  ⟨.var 4, .mv (.loc 11), none, []⟩] false
def c_L_szByteS : ACode := (.seq c_L_szByteS_0 (.seq c_L_szByteS_1 (.seq (.seq c_L_szByteS_2 (.cond (.var 10) (.seq c_L_szByteS_3 .ret) .skip)) (.seq c_L_szByteS_4 .ret))))
abbrev F_L_szByteS : FuncId := 96
theorem k_L_szByteS : comp PP (Tryd.f96.ntmps, pinOf 0 [none, none]) [0, 1, 4, 10] (Tryd.f96.body.getD .skip) = some c_L_szByteS.erase := by kernel_rfl
theorem v_L_szByteS {GG : GV} (rcs : List C) {cs : List C} {r : C} {os : List (Option C)} (hN : (cs.length == 2 && rcs.length == 1) = true) (hret : retOf rcs = r)
    (hW : W PP [0, 1, 4, 10] (Tryd.f96.ntmps, pinOf 0 [none, none]) (Valid PP GG) c_L_szByteS (entry cs) (Fin (Valid PP GG) [(.give, 4, none)] [none, none] rcs os) (fun _ _ => False) (Fin (Valid PP GG) [(.give, 4, none)] [none, none] rcs os)) : Valid PP GG F_L_szByteS cs r os :=
  fn_valid_n 2 1 [0, 1, 4, 10] c_L_szByteS [(.give, 4, none)] [none, none] rcs Tryd.func96 rfl rfl (by kernel_rfl) k_L_szByteS rfl rfl hN hret hW
def c_L_toByteS_0 : ACode := .reg [⟨.var 2, .mv (.const (.nil 0 1)), none, []⟩] false
def c_L_toByteS_1 : ACode := .reg [⟨.loc 5, .mv (.var 0), none, []⟩,
  ⟨.loc 6, .len false (.loc 5), none, []⟩,
  ⟨.loc 7, .mkslice 0 1 1 [.int .u8 0] (.loc 6) (.loc 6), none, []⟩,
  ⟨.var 3, .mv (.loc 7), none, []⟩] false
def c_L_toByteS_2 : ACode := .reg [⟨.var 4, .mv (.const (.d (.int .i64 0))), none, []⟩] false
def c_L_toByteS_3 : ACode := .reg [⟨.loc 8, .mv (.var 4), none, []⟩,
  ⟨.loc 9, .mv (.var 0), none, []⟩,
  ⟨.loc 10, .len false (.loc 9), none, []⟩,
  ⟨.var 11, .bin .int .lss (.loc 8) (.loc 10), none, []⟩] false
def c_L_toByteS_4 : ACode := .reg [⟨.loc 14, .mv (.var 3), none, []⟩,
  ⟨.loc 15, .mv (.var 4), none, []⟩,
  ⟨.loc 16, .mv (.var 0), none, []⟩,
  ⟨.loc 17, .mv (.var 4), none, []⟩,
  ⟨.loc 18, .idxA 1 (.loc 16) (.loc 17), none, []⟩,
  ⟨.loc 19, .load false 1 (.loc 18), none, []⟩,
  ⟨.loc 20, .idxA 1 (.loc 14) (.loc 15), none, []⟩,
  ⟨.none, .store 1 (.loc 20) (.loc 19), none, []⟩] false
def c_L_toByteS_5 : ACode := .reg [⟨.loc 12, .mv (.var 4), none, []⟩,
  ⟨.loc 13, .bin .int .add (.loc 12) (.const (.d (.int .i64 1))), none, []⟩,
  ⟨.var 4, .mv (.loc 13), none, []⟩] false
def c_L_toByteS_6 : ACode := (.seq (.seq c_L_toByteS_3 (.cond (.var 11) .skip (.exit 0))) (.seq (.block 1 c_L_toByteS_4) c_L_toByteS_5))
def c_L_toByteS_7 : ACode := .reg [⟨.loc 21, .mv (.var 3), none, []⟩,
  ⟨.var 2, .mv (.loc 21), none, []⟩] false
def c_L_toByteS : ACode := (.seq c_L_toByteS_0 (.seq c_L_toByteS_1 (.seq (.seq c_L_toByteS_2 (.block 0 (.loop [0, 3, 4] c_L_toByteS_6))) (.seq c_L_toByteS_7 .ret))))
abbrev F_L_toByteS : FuncId := 97
theorem k_L_toByteS : comp PP (Tryd.f97.ntmps, pinOf 0 [none]) [0, 2, 3, 4, 11] (Tryd.f97.body.getD .skip) = some c_L_toByteS.erase := by kernel_rfl
theorem v_L_toByteS {GG : GV} (rcs : List C) {cs : List C} {r : C} {os : List (Option C)} (hN : (cs.length == 1 && rcs.length == 1) = true) (hret : retOf rcs = r)
    (hW : W PP [0, 2, 3, 4, 11] (Tryd.f97.ntmps, pinOf 0 [none]) (Valid PP GG) c_L_toByteS (entry cs) (Fin (Valid PP GG) [(.give, 2, none)] [none] rcs os) (fun _ _ => False) (Fin (Valid PP GG) [(.give, 2, none)] [none] rcs os)) : Valid PP GG F_L_toByteS cs r os :=
  fn_valid_n 1 1 [0, 2, 3, 4, 11] c_L_toByteS [(.give, 2, none)] [none] rcs Tryd.func97 rfl rfl (by kernel_rfl) k_L_toByteS rfl rfl hN hret hW
def c_I_onlyOf_0 : ACode := .reg [⟨.var 4, .mv (.const (.d (.bool false))), none, []⟩] false
def c_I_onlyOf_1 : ACode := .reg [⟨.loc 6, .mv (.var 0), none, []⟩,
  ⟨.var 7, .len true (.loc 6), none, []⟩,
  ⟨.var 8, .mv (.const (.d (.int .i64 0))), none, []⟩] false
def c_I_onlyOf_2 : ACode := .reg [⟨.var 9, .bin .int .lss (.var 8) (.var 7), none, []⟩] false
def c_I_onlyOf_3 : ACode := .reg [⟨.loc 10, .mv (.var 8), none, []⟩,
  ⟨.var 5, .mv (.loc 10), none, []⟩] false
def c_I_onlyOf_4 : ACode := .reg [⟨.loc 11, .mv (.var 1), none, []⟩,
  ⟨.loc 12, .mv (.var 0), none, []⟩,
  ⟨.loc 13, .mv (.var 5), none, []⟩,
  ⟨.loc 14, .idxS (.loc 12) (.loc 13), none, []⟩,
  ⟨.loc 15, .call (.fn 105) [(.loc 11), (.loc 14)] [.borrow, .borrow], none, []⟩,
  ⟨.var 16, .bin .int .lss (.loc 15) (.const (.d (.int .i64 0))), none, []⟩] false
def c_I_onlyOf_5 : ACode := .reg [⟨.var 4, .mv (.const (.d (.bool false))), none, []⟩] false
def c_I_onlyOf_6 : ACode := .reg [⟨.loc 17, .bin .int .add (.var 8) (.const (.d (.int .i64 1))), none, []⟩,
  ⟨.var 8, .mv (.loc 17), none, []⟩] false
def c_I_onlyOf_7 : ACode := (.seq c_I_onlyOf_2 (.seq (.cond (.var 9) .skip (.exit 0)) (.seq (.block 1 (.seq c_I_onlyOf_3 (.seq c_I_onlyOf_4 (.cond (.var 16) (.seq c_I_onlyOf_5 .ret) .skip)))) c_I_onlyOf_6)))
def c_I_onlyOf_8 : ACode := .reg [⟨.var 4, .mv (.const (.d (.bool true))), none, []⟩] false
def c_I_onlyOf : ACode := (.seq c_I_onlyOf_0 (.seq (.seq c_I_onlyOf_1 (.block 0 (.loop [0, 1, 7, 8] c_I_onlyOf_7))) (.seq c_I_onlyOf_8 .ret)))
abbrev F_I_onlyOf : FuncId := 99
theorem k_I_onlyOf : comp PP (Tryd.f99.ntmps, pinOf 0 [none, none]) [0, 1, 4, 5, 7, 8, 9, 16] (Tryd.f99.body.getD .skip) = some c_I_onlyOf.erase := by kernel_rfl
theorem v_I_onlyOf {GG : GV} (rcs : List C) {cs : List C} {r : C} {os : List (Option C)} (hN : (cs.length == 2 && rcs.length == 1) = true) (hret : retOf rcs = r)
    (hW : W PP [0, 1, 4, 5, 7, 8, 9, 16] (Tryd.f99.ntmps, pinOf 0 [none, none]) (Valid PP GG) c_I_onlyOf (entry cs) (Fin (Valid PP GG) [(.give, 4, none)] [none, none] rcs os) (fun _ _ => False) (Fin (Valid PP GG) [(.give, 4, none)] [none, none] rcs os)) : Valid PP GG F_I_onlyOf cs r os :=
  fn_valid_n 2 1 [0, 1, 4, 5, 7, 8, 9, 16] c_I_onlyOf [(.give, 4, none)] [none, none] rcs Tryd.func99 rfl rfl (by kernel_rfl) k_I_onlyOf rfl rfl hN hret hW
def c_L_eqByteS_0 : ACode := .reg [⟨.var 4, .mv (.const (.d (.bool false))), none, []⟩] false
def c_L_eqByteS_1 : ACode := .reg [⟨.loc 6, .mv (.var 0), none, []⟩,
  ⟨.loc 7, .len false (.loc 6), none, []⟩,
  ⟨.loc 8, .mv (.var 1), none, []⟩,
  ⟨.loc 9, .len false (.loc 8), none, []⟩,
  ⟨.var 10, .bin .int .neq (.loc 7) (.loc 9), none, []⟩] false
def c_L_eqByteS_2 : ACode := .reg [⟨.var 4, .mv (.const (.d (.bool false))), none, []⟩] false
def c_L_eqByteS_3 : ACode := .reg [⟨.var 5, .mv (.const (.d (.int .i64 0))), none, []⟩] false
def c_L_eqByteS_4 : ACode := .reg [⟨.loc 11, .mv (.var 5), none, []⟩,
  ⟨.loc 12, .mv (.var 0), none, []⟩,
  ⟨.loc 13, .len false (.loc 12), none, []⟩,
  ⟨.var 14, .bin .int .lss (.loc 11) (.loc 13), none, []⟩] false
def c_L_eqByteS_5 : ACode := .reg [⟨.loc 17, .mv (.var 0), none, []⟩,
  ⟨.loc 18, .mv (.var 5), none, []⟩,
  ⟨.loc 19, .idxA 1 (.loc 17) (.loc 18), none, [0, 1]⟩,
  ⟨.loc 20, .load false 1 (.loc 19), none, [2, 0, 1]⟩,
  ⟨.loc 21, .mv (.var 1), none, []⟩,
  ⟨.loc 22, .mv (.var 5), none, []⟩,
  ⟨.loc 23, .idxA 1 (.loc 21) (.loc 22), none, [4, 5]⟩,
  ⟨.loc 24, .load false 1 (.loc 23), none, [6, 4, 5]⟩,
  ⟨.var 25, .bin .int .neq (.loc 20) (.loc 24), none, [3, 2, 0, 1, 7, 6, 4, 5]⟩] true
def c_L_eqByteS_6 : ACode := .reg [⟨.var 4, .mv (.const (.d (.bool false))), none, []⟩] false
def c_L_eqByteS_7 : ACode := .reg [⟨.loc 15, .mv (.var 5), none, []⟩,
  ⟨.loc 16, .bin .int .add (.loc 15) (.const (.d (.int .i64 1))), none, []⟩,
  ⟨.var 5, .mv (.loc 16), none, []⟩] false
def c_L_eqByteS_8 : ACode := (.seq (.seq c_L_eqByteS_4 (.cond (.var 14) .skip (.exit 0))) (.seq (.block 1 (.seq c_L_eqByteS_5 (.cond (.var 25) (.seq c_L_eqByteS_6 .ret) .skip))) c_L_eqByteS_7))
def c_L_eqByteS_9 : ACode := .reg [⟨.var 4, .mv (.const (.d (.bool true))), none, []⟩] false
def c_L_eqByteS : ACode := (.seq c_L_eqByteS_0 (.seq (.seq c_L_eqByteS_1 (.cond (.var 10) (.seq c_L_eqByteS_2 .ret) .skip)) (.seq (.seq c_L_eqByteS_3 (.block 0 (.loop [0, 1, 5] c_L_eqByteS_8))) (.seq c_L_eqByteS_9 .ret))))
abbrev F_L_eqByteS : FuncId := 101
theorem k_L_eqByteS : comp PP (Tryd.f101.ntmps, pinOf 0 [none, none]) [0, 1, 4, 5, 10, 14, 25] (Tryd.f101.body.getD .skip) = some c_L_eqByteS.erase := by kernel_rfl
theorem v_L_eqByteS {GG : GV} (rcs : List C) {cs : List C} {r : C} {os : List (Option C)} (hN : (cs.length == 2 && rcs.length == 1) = true) (hret : retOf rcs = r)
    (hW : W PP [0, 1, 4, 5, 10, 14, 25] (Tryd.f101.ntmps, pinOf 0 [none, none]) (Valid PP GG) c_L_eqByteS (entry cs) (Fin (Valid PP GG) [(.give, 4, none)] [none, none] rcs os) (fun _ _ => False) (Fin (Valid PP GG) [(.give, 4, none)] [none, none] rcs os)) : Valid PP GG F_L_eqByteS cs r os :=
  fn_valid_n 2 1 [0, 1, 4, 5, 10, 14, 25] c_L_eqByteS [(.give, 4, none)] [none, none] rcs Tryd.func101 rfl rfl (by kernel_rfl) k_L_eqByteS rfl rfl hN hret hW

end Go.Proofs.YtmihpclfdicfkaaDoor.Ab
