/-
  A part of a proof about the given program; what is proved is said where each theorem stands.
-/
import Derived.Test.YtgoknpcippfjbaaDoorFrameA
import Derived.Test.YtgoknpcippfjbaaDoorFrameB
import Derived.Test.YtgoknpcippfjbaaDoorFrameC
import Derived.Test.YtgoknpcippfjbaaDoorFrameD
import Derived.Test.YtgoknpcippfjbaaDoorFrameE
import Derived.Test.YtgoknpcippfjbaaDoorShelf
import Derived.Test.YtgoknpcippfjbaaDoorCodesA
set_option maxRecDepth 100000
namespace Go.Proofs.YtgoknpcippfjbaaDoor.Ab
open Go.Proofs
def c_I_deskForm_take_4 : ACode := .reg [⟨.loc 27, .mv (.var 10), none, []⟩,
  ⟨.var 8, .mv (.loc 27), none, []⟩] false
def c_I_deskForm_take_5 : ACode := .reg [⟨.loc 28, .mv (.var 3), none, []⟩,
  ⟨.loc 29, .call (.fn 46) [(.loc 28)] [.borrow], none, []⟩,
  ⟨.var 30, .un .not (.loc 29), none, []⟩] false
def c_I_deskForm_take_6 : ACode := .reg [⟨.var 8, .mv (.const (.d (.bool false))), none, []⟩] false
def c_I_deskForm_take_7 : ACode := .reg [⟨.loc 31, .fld 3 (.var 4), none, []⟩,
  ⟨.loc 32, .load false 1 (.loc 31), none, []⟩,
  ⟨.loc 33, .mv (.var 2), none, []⟩,
  ⟨.var 34, .idxS (.loc 32) (.loc 33), none, []⟩] false
def c_I_deskForm_take_8 : ACode := .reg [⟨.loc 64, .bin .int .eql (.var 34) (.const (.d (.int .u8 112))), none, []⟩,
  ⟨.var 63, .mv (.loc 64), none, []⟩] false
def c_I_deskForm_take_9 : ACode := .reg [⟨.loc 65, .mv (.var 1), none, []⟩,
  ⟨.loc 66, .mv (.var 3), none, []⟩,
  ⟨.loc 67, .nchk (.loc 65), none, []⟩,
  ⟨.loc 68, .fld 3 (.loc 67), none, []⟩,
  ⟨.none, .store 1 (.loc 68) (.loc 66), none, []⟩] false
def c_I_deskForm_take_10 : ACode := .reg [⟨.loc 70, .bin .int .eql (.var 34) (.const (.d (.int .u8 109))), none, []⟩,
  ⟨.var 69, .mv (.loc 70), none, []⟩] false
def c_I_deskForm_take_11 : ACode := .reg [⟨.loc 71, .mv (.var 1), none, []⟩,
  ⟨.loc 72, .mv (.var 3), none, []⟩,
  ⟨.loc 73, .nchk (.loc 71), none, []⟩,
  ⟨.loc 74, .fld 2 (.loc 73), none, []⟩,
  ⟨.none, .store 1 (.loc 74) (.loc 72), none, []⟩] false
def c_I_deskForm_take_12 : ACode := .reg [⟨.loc 35, .mv (.var 3), none, []⟩,
  ⟨.var 36, .bin .str .eql (.loc 35) (.const (.d (.str [46]))), none, []⟩] false
def c_I_deskForm_take_13 : ACode := .reg [⟨.var 8, .mv (.const (.d (.bool true))), none, []⟩] false
def c_I_deskForm_take_14 : ACode := .reg [⟨.loc 37, .fld 3 (.var 4), none, []⟩,
  ⟨.loc 38, .load false 1 (.loc 37), none, []⟩,
  ⟨.loc 39, .mv (.var 2), none, []⟩,
  ⟨.loc 40, .idxS (.loc 38) (.loc 39), none, []⟩,
  ⟨.var 41, .bin .int .eql (.loc 40) (.const (.d (.int .u8 113))), none, []⟩] false
def c_I_deskForm_take_15 : ACode := .reg [⟨.loc 42, .mv (.var 1), none, []⟩,
  ⟨.loc 43, .mv (.var 3), none, []⟩,
  ⟨.loc 44, .nchk (.loc 42), none, []⟩,
  ⟨.loc 45, .fld 3 (.loc 44), none, []⟩,
  ⟨.none, .store 1 (.loc 45) (.loc 43), none, []⟩] false
def c_I_deskForm_take_16 : ACode := .reg [⟨.var 8, .mv (.const (.d (.bool true))), none, []⟩] false
def c_I_deskForm_take_17 : ACode := .reg [⟨.loc 46, .mv (.var 1), none, []⟩,
  ⟨.loc 47, .mv (.var 3), none, []⟩,
  ⟨.loc 48, .nchk (.loc 46), none, []⟩,
  ⟨.loc 49, .fld 4 (.loc 48), none, []⟩,
  ⟨.none, .store 1 (.loc 49) (.loc 47), none, []⟩] false
def c_I_deskForm_take_18 : ACode := .reg [⟨.loc 50, .fld 1 (.var 4), none, []⟩,
  ⟨.loc 51, .load false 1 (.loc 50), none, []⟩,
  ⟨.var 52, .bin .int .eql (.loc 51) (.const (.d (.int .i64 0))), none, []⟩] false
def c_I_deskForm_take_19 : ACode := .reg [⟨.loc 54, .mv (.var 3), none, []⟩,
  ⟨.loc 55, .call (.fn 47) [(.loc 54)] [.borrow], none, []⟩,
  ⟨.loc 53, .mv (.loc 55), none, []⟩,
  ⟨.loc 56, .ext (.loc 53) 0, none, []⟩,
  ⟨.loc 57, .ext (.loc 53) 1, none, []⟩,
  ⟨.var 11, .mv (.loc 56), none, []⟩,
  ⟨.var 12, .mv (.loc 57), none, []⟩] false
def c_I_deskForm_take_20 : ACode := .reg [⟨.loc 58, .mv (.var 1), none, []⟩,
  ⟨.loc 59, .mv (.var 11), none, []⟩,
  ⟨.loc 60, .nchk (.loc 58), none, []⟩,
  ⟨.loc 61, .fld 4 (.loc 60), none, []⟩,
  ⟨.none, .store 1 (.loc 61) (.loc 59), none, []⟩] false
def c_I_deskForm_take_21 : ACode := .reg [⟨.loc 62, .mv (.var 12), none, []⟩,
  ⟨.var 8, .mv (.loc 62), none, []⟩] false
def c_I_deskForm_take_22 : ACode := .reg [⟨.var 8, .mv (.const (.d (.bool true))), none, []⟩] false
def c_I_deskForm_take : ACode := (.seq c_I_deskForm_take_0 (.seq (.seq c_I_deskForm_take_1 (.cond (.var 17) (.seq c_I_deskForm_take_2 (.seq c_I_deskForm_take_3 (.seq c_I_deskForm_take_4 .ret))) .skip)) (.seq (.seq c_I_deskForm_take_5 (.cond (.var 30) (.seq c_I_deskForm_take_6 .ret) .skip)) (.seq (.seq c_I_deskForm_take_7 (.block 0 (.seq c_I_deskForm_take_8 (.cond (.var 63) c_I_deskForm_take_9 (.seq c_I_deskForm_take_10 (.cond (.var 69) c_I_deskForm_take_11 (.seq (.seq c_I_deskForm_take_12 (.cond (.var 36) (.seq c_I_deskForm_take_13 .ret) .skip)) (.seq (.seq c_I_deskForm_take_14 (.cond (.var 41) (.seq c_I_deskForm_take_15 (.seq c_I_deskForm_take_16 .ret)) .skip)) (.seq c_I_deskForm_take_17 (.seq c_I_deskForm_take_18 (.cond (.var 52) (.seq c_I_deskForm_take_19 (.seq c_I_deskForm_take_20 (.seq c_I_deskForm_take_21 .ret))) .skip))))))))))) (.seq c_I_deskForm_take_22 .ret)))))
abbrev F_I_deskForm_take : FuncId := 39
theorem k_I_deskForm_take : comp PP (Tryd.f39.ntmps, pinOf 0 [none, some (.box 6), none, none]) [0, 1, 2, 3, 4, 8, 9, 10, 11, 12, 17, 30, 34, 36, 41, 52, 63, 69] (Tryd.f39.body.getD .skip) = some c_I_deskForm_take.erase := by kernel_rfl
theorem v_I_deskForm_take {GG : GV} (rcs : List C) {cs : List C} {r : C} {os : List (Option C)} (hN : (cs.length == 4 && rcs.length == 1) = true) (hret : retOf rcs = r)
    (hW : W PP [0, 1, 2, 3, 4, 8, 9, 10, 11, 12, 17, 30, 34, 36, 41, 52, 63, 69] (Tryd.f39.ntmps, pinOf 0 [none, some (.box 6), none, none]) (Valid PP GG) c_I_deskForm_take (entry cs) (Fin (Valid PP GG) [(.give, 8, none)] [none, some (.box 6), none, none] rcs os) (fun _ _ => False) (Fin (Valid PP GG) [(.give, 8, none)] [none, some (.box 6), none, none] rcs os)) : Valid PP GG F_I_deskForm_take cs r os :=
  fn_valid_n 4 1 [0, 1, 2, 3, 4, 8, 9, 10, 11, 12, 17, 30, 34, 36, 41, 52, 63, 69] c_I_deskForm_take [(.give, 8, none)] [none, some (.box 6), none, none] rcs Tryd.func39 rfl rfl (by kernel_rfl) k_I_deskForm_take rfl rfl hN hret hW
def c_I_isDeskWord_0 : ACode := .reg [⟨.var 2, .mv (.const (.d (.bool false))), none, []⟩] false
def c_I_isDeskWord_1 : ACode := .reg [⟨.loc 4, .mv (.var 0), none, []⟩,
  ⟨.var 5, .len true (.loc 4), none, []⟩,
  ⟨.var 6, .mv (.const (.d (.int .i64 0))), none, []⟩] false
def c_I_isDeskWord_2 : ACode := .reg [⟨.var 7, .bin .int .lss (.var 6) (.var 5), none, []⟩] false
def c_I_isDeskWord_3 : ACode := .reg [⟨.loc 8, .mv (.var 6), none, []⟩,
  ⟨.var 3, .mv (.loc 8), none, []⟩] false
def c_I_isDeskWord_4 : ACode := .reg [⟨.loc 9, .mv (.var 0), none, []⟩,
  ⟨.loc 10, .mv (.var 3), none, []⟩,
  ⟨.loc 11, .idxS (.loc 9) (.loc 10), none, []⟩,
  ⟨.loc 12, .bin .int .lss (.loc 11) (.const (.d (.int .u8 33))), none, []⟩,
  ⟨.loc 13, .split (.loc 12), none, []⟩,
  ⟨.loc 14, .mv (.var 0), some ((.loc 13), false), []⟩,
  ⟨.loc 15, .mv (.var 3), some ((.loc 13), false), []⟩,
  ⟨.loc 16, .idxS (.loc 14) (.loc 15), some ((.loc 13), false), []⟩,
  ⟨.loc 17, .bin .int .gtr (.loc 16) (.const (.d (.int .u8 126))), some ((.loc 13), false), []⟩,
  ⟨.var 18, .pick (.loc 13) (.const (.d (.bool true))) (.loc 17), none, []⟩] false
def c_I_isDeskWord_5 : ACode := .reg [⟨.var 2, .mv (.const (.d (.bool false))), none, []⟩] false
def c_I_isDeskWord_6 : ACode := .reg [⟨.loc 19, .bin .int .add (.var 6) (.const (.d (.int .i64 1))), none, []⟩,
  ⟨.var 6, .mv (.loc 19), none, []⟩] false
def c_I_isDeskWord_7 : ACode := (.seq c_I_isDeskWord_2 (.seq (.cond (.var 7) .skip (.exit 0)) (.seq (.block 1 (.seq c_I_isDeskWord_3 (.seq c_I_isDeskWord_4 (.cond (.var 18) (.seq c_I_isDeskWord_5 .ret) .skip)))) c_I_isDeskWord_6)))
def c_I_isDeskWord_8 : ACode := .reg [⟨.loc 20, .mv (.var 0), none, []⟩,
  ⟨.loc 21, .len true (.loc 20), none, []⟩,
  ⟨.loc 22, .call (.fn 31) [(.loc 21), (.const (.d (.int .i64 1))), (.const (.d (.int .i64 100)))] [.borrow, .borrow, .borrow], none, []⟩,
  ⟨.var 2, .mv (.loc 22), none, []⟩] false
def c_I_isDeskWord : ACode := (.seq c_I_isDeskWord_0 (.seq (.seq c_I_isDeskWord_1 (.block 0 (.loop [0, 5, 6] c_I_isDeskWord_7))) (.seq c_I_isDeskWord_8 .ret)))
abbrev F_I_isDeskWord : FuncId := 46
theorem k_I_isDeskWord : comp PP (Tryd.f46.ntmps, pinOf 0 [none]) [0, 2, 3, 5, 6, 7, 18] (Tryd.f46.body.getD .skip) = some c_I_isDeskWord.erase := by kernel_rfl
theorem v_I_isDeskWord {GG : GV} (rcs : List C) {cs : List C} {r : C} {os : List (Option C)} (hN : (cs.length == 1 && rcs.length == 1) = true) (hret : retOf rcs = r)
    (hW : W PP [0, 2, 3, 5, 6, 7, 18] (Tryd.f46.ntmps, pinOf 0 [none]) (Valid PP GG) c_I_isDeskWord (entry cs) (Fin (Valid PP GG) [(.give, 2, none)] [none] rcs os) (fun _ _ => False) (Fin (Valid PP GG) [(.give, 2, none)] [none] rcs os)) : Valid PP GG F_I_isDeskWord cs r os :=
  fn_valid_n 1 1 [0, 2, 3, 5, 6, 7, 18] c_I_isDeskWord [(.give, 2, none)] [none] rcs Tryd.func46 rfl rfl (by kernel_rfl) k_I_isDeskWord rfl rfl hN hret hW
def c_I_policyData_0 : ACode := .reg [⟨.var 2, .mv (.const (.d (.str []))), none, []⟩,
  ⟨.var 3, .mv (.const (.d (.bool false))), none, []⟩] false
def c_I_policyData_1 : ACode := .reg [⟨.var 4, .mv (.const (.d (.str []))), none, []⟩] false
def c_I_policyData_2 : ACode := .reg [⟨.loc 8, .mv (.var 0), none, []⟩,
  ⟨.var 9, .call (.fn 37) [(.loc 8), (.const (.d (.str [59])))] [.borrow, .borrow], none, []⟩,
  ⟨.var 10, .len false (.var 9), none, []⟩,
  ⟨.var 11, .mv (.const (.d (.int .i64 0))), none, []⟩] false
def c_I_policyData_3 : ACode := .reg [⟨.var 12, .bin .int .lss (.var 11) (.var 10), none, []⟩] false
def c_I_policyData_4 : ACode := .reg [⟨.loc 13, .idxA 1 (.var 9) (.var 11), none, []⟩,
  ⟨.loc 14, .load false 1 (.loc 13), none, []⟩,
  ⟨.var 6, .mv (.loc 14), none, []⟩] false
def c_I_policyData_5 : ACode := .reg [⟨.loc 15, .mv (.var 6), none, []⟩,
  ⟨.loc 16, .call (.fn 57) [(.loc 15), (.const (.d (.int .u8 61)))] [.borrow, .borrow], none, []⟩,
  ⟨.var 7, .mv (.loc 16), none, []⟩] false
def c_I_policyData_6 : ACode := .reg [⟨.loc 17, .mv (.var 7), none, []⟩,
  ⟨.var 18, .bin .int .lss (.loc 17) (.const (.d (.int .i64 0))), none, []⟩] false
def c_I_policyData_7 : ACode := .reg [⟨.var 2, .mv (.const (.d (.str []))), none, []⟩,
  ⟨.var 3, .mv (.const (.d (.bool false))), none, []⟩] false
def c_I_policyData_8 : ACode := .reg [⟨.loc 19, .mv (.var 4), none, []⟩,
  ⟨.loc 20, .mv (.var 6), none, []⟩,
  ⟨.loc 21, .mv (.var 7), none, []⟩,
  ⟨.loc 22, .sliceS (.loc 20) none (some (.loc 21)), none, [1, 2]⟩,
  ⟨.loc 23, .bin .str .add (.loc 22) (.const (.d (.str [32]))), none, [3, 1, 2]⟩,
  ⟨.loc 24, .mv (.var 6), none, []⟩,
  ⟨.loc 25, .mv (.var 7), none, []⟩,
  ⟨.loc 26, .bin .int .add (.loc 25) (.const (.d (.int .i64 1))), none, [6]⟩,
  ⟨.loc 27, .sliceS (.loc 24) (some (.loc 26)) none, none, [5, 7, 6]⟩,
  ⟨.loc 28, .bin .str .add (.loc 23) (.loc 27), none, [4, 3, 1, 2, 8, 5, 7, 6]⟩,
  ⟨.loc 29, .bin .str .add (.loc 28) (.const (.d (.str [10]))), none, [9, 4, 3, 1, 2, 8, 5, 7, 6]⟩,
  ⟨.loc 30, .bin .str .add (.loc 19) (.loc 29), none, [0, 10, 9, 4, 3, 1, 2, 8, 5, 7, 6]⟩,
  ⟨.var 4, .mv (.loc 30), none, [11, 0, 10, 9, 4, 3, 1, 2, 8, 5, 7, 6]⟩] true
def c_I_policyData_9 : ACode := .reg [⟨.loc 31, .bin .int .add (.var 11) (.const (.d (.int .i64 1))), none, []⟩,
  ⟨.var 11, .mv (.loc 31), none, []⟩] false
def c_I_policyData_10 : ACode := (.seq c_I_policyData_3 (.seq (.cond (.var 12) .skip (.exit 0)) (.seq (.block 1 (.seq c_I_policyData_4 (.seq c_I_policyData_5 (.seq (.seq c_I_policyData_6 (.cond (.var 18) (.seq c_I_policyData_7 .ret) .skip)) c_I_policyData_8)))) c_I_policyData_9)))
def c_I_policyData_11 : ACode := .reg [⟨.loc 32, .mv (.var 4), none, []⟩,
  ⟨.var 2, .mv (.loc 32), none, []⟩,
  ⟨.var 3, .mv (.const (.d (.bool true))), none, []⟩] false
def c_I_policyData : ACode := (.seq c_I_policyData_0 (.seq c_I_policyData_1 (.seq (.seq c_I_policyData_2 (.block 0 (.loop [4, 9, 10, 11] c_I_policyData_10))) (.seq c_I_policyData_11 .ret))))
abbrev F_I_policyData : FuncId := 47
theorem k_I_policyData : comp PP (Tryd.f47.ntmps, pinOf 0 [none]) [0, 2, 3, 4, 6, 7, 9, 10, 11, 12, 18] (Tryd.f47.body.getD .skip) = some c_I_policyData.erase := by kernel_rfl
theorem v_I_policyData {GG : GV} (rcs : List C) {cs : List C} {r : C} {os : List (Option C)} (hN : (cs.length == 1 && rcs.length == 2) = true) (hret : retOf rcs = r)
    (hW : W PP [0, 2, 3, 4, 6, 7, 9, 10, 11, 12, 18] (Tryd.f47.ntmps, pinOf 0 [none]) (Valid PP GG) c_I_policyData (entry cs) (Fin (Valid PP GG) [(.give, 2, none), (.give, 3, none)] [none] rcs os) (fun _ _ => False) (Fin (Valid PP GG) [(.give, 2, none), (.give, 3, none)] [none] rcs os)) : Valid PP GG F_I_policyData cs r os :=
  fn_valid_n 1 2 [0, 2, 3, 4, 6, 7, 9, 10, 11, 12, 18] c_I_policyData [(.give, 2, none), (.give, 3, none)] [none] rcs Tryd.func47 rfl rfl (by kernel_rfl) k_I_policyData rfl rfl hN hret hW

end Go.Proofs.YtgoknpcippfjbaaDoor.Ab
