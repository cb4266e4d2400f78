/-
  A part of a proof about the given program; what is proved is said where each theorem stands.
-/
import Derived.Test.YtdckkojgnkoabaaGreatDoorFrameA
import Derived.Test.YtdckkojgnkoabaaGreatDoorFrameB
import Derived.Test.YtdckkojgnkoabaaGreatDoorFrameC
import Derived.Test.YtdckkojgnkoabaaGreatDoorFrameD
import Derived.Test.YtdckkojgnkoabaaGreatDoorFrameE
import Derived.Test.YtdckkojgnkoabaaGreatDoorCodesA
set_option maxRecDepth 100000
namespace Go.Proofs.YtdckkojgnkoabaaGreatDoor.Ab
open Go.Proofs
def c_L_eqToken_5 : ACode := .reg [⟨.loc 15, .fld 2 (.var 2), none, []⟩,
  ⟨.loc 16, .load false 1 (.loc 15), none, []⟩,
  ⟨.loc 17, .fld 2 (.var 3), none, []⟩,
  ⟨.loc 18, .load false 1 (.loc 17), none, []⟩,
  ⟨.loc 19, .call (.fn 18) [(.loc 16), (.loc 18)] [.borrow, .borrow], none, []⟩,
  ⟨.var 20, .un .not (.loc 19), none, []⟩] false
def c_L_eqToken_6 : ACode := .reg [⟨.var 4, .mv (.const (.d (.bool false))), none, []⟩] false
def c_L_eqToken_7 : ACode := .reg [⟨.loc 21, .fld 3 (.var 2), none, []⟩,
  ⟨.loc 22, .load false 1 (.loc 21), none, []⟩,
  ⟨.loc 23, .fld 3 (.var 3), none, []⟩,
  ⟨.loc 24, .load false 1 (.loc 23), none, []⟩,
  ⟨.var 25, .bin .int .neq (.loc 22) (.loc 24), none, []⟩] false
def c_L_eqToken_8 : ACode := .reg [⟨.var 4, .mv (.const (.d (.bool false))), none, []⟩] false
def c_L_eqToken_9 : ACode := .reg [⟨.loc 26, .fld 4 (.var 2), none, []⟩,
  ⟨.loc 27, .load false 1 (.loc 26), none, []⟩,
  ⟨.loc 28, .fld 4 (.var 3), none, []⟩,
  ⟨.loc 29, .load false 1 (.loc 28), none, []⟩,
  ⟨.var 30, .bin .int .neq (.loc 27) (.loc 29), none, []⟩] false
def c_L_eqToken_10 : ACode := .reg [⟨.var 4, .mv (.const (.d (.bool false))), none, []⟩] false
def c_L_eqToken_11 : ACode := .reg [⟨.loc 31, .fld 5 (.var 2), none, []⟩,
  ⟨.loc 32, .load false 1 (.loc 31), none, []⟩,
  ⟨.loc 33, .fld 5 (.var 3), none, []⟩,
  ⟨.loc 34, .load false 1 (.loc 33), none, []⟩,
  ⟨.var 35, .bin .int .neq (.loc 32) (.loc 34), none, []⟩] false
def c_L_eqToken_12 : ACode := .reg [⟨.var 4, .mv (.const (.d (.bool false))), none, []⟩] false
def c_L_eqToken_13 : ACode := .reg [⟨.loc 36, .fld 6 (.var 2), none, []⟩,
  ⟨.loc 37, .load false 1 (.loc 36), none, []⟩,
  ⟨.loc 38, .fld 6 (.var 3), none, []⟩,
  ⟨.loc 39, .load false 1 (.loc 38), none, []⟩,
  ⟨.var 40, .bin .int .neq (.loc 37) (.loc 39), none, []⟩] false
def c_L_eqToken_14 : ACode := .reg [⟨.var 4, .mv (.const (.d (.bool false))), none, []⟩] false
def c_L_eqToken_15 : ACode := .reg [⟨.var 4, .mv (.const (.d (.bool true))), none, []⟩] false
def c_L_eqToken : ACode := (.seq c_L_eqToken_0 (.seq (.seq c_L_eqToken_1 (.cond (.var 9) (.seq c_L_eqToken_2 .ret) .skip)) (.seq (.seq c_L_eqToken_3 (.cond (.var 14) (.seq c_L_eqToken_4 .ret) .skip)) (.seq (.seq c_L_eqToken_5 (.cond (.var 20) (.seq c_L_eqToken_6 .ret) .skip)) (.seq (.seq c_L_eqToken_7 (.cond (.var 25) (.seq c_L_eqToken_8 .ret) .skip)) (.seq (.seq c_L_eqToken_9 (.cond (.var 30) (.seq c_L_eqToken_10 .ret) .skip)) (.seq (.seq c_L_eqToken_11 (.cond (.var 35) (.seq c_L_eqToken_12 .ret) .skip)) (.seq (.seq c_L_eqToken_13 (.cond (.var 40) (.seq c_L_eqToken_14 .ret) .skip)) (.seq c_L_eqToken_15 .ret)))))))))
abbrev F_L_eqToken : FuncId := 194
theorem k_L_eqToken : comp PP (Tryz.f194.ntmps, pinOf 0 [none, none]) [0, 1, 2, 3, 4, 9, 14, 20, 25, 30, 35, 40] (Tryz.f194.body.getD .skip) = some c_L_eqToken.erase := by kernel_rfl
theorem v_L_eqToken {GG : GV} (rcs : List C) {cs : List C} {r : C} {os : List (Option C)} (hN : (cs.length == 2 && rcs.length == 1) = true) (hret : retOf rcs = r) (hW : WX GG [0, 1, 2, 3, 4, 9, 14, 20, 25, 30, 35, 40] Tryz.f194.ntmps [none, none] [(.give, 4, none)] c_L_eqToken rcs cs os) : Valid PP GG F_L_eqToken cs r os :=
  fn_valid_n 2 1 _ _ _ _ rcs Tryz.func194 rfl rfl (by kernel_rfl) k_L_eqToken rfl rfl hN hret hW
def c_L_eqLease_0 : ACode := .reg [⟨.var 2, .box (.var 0), none, []⟩,
  ⟨.var 3, .box (.var 1), none, []⟩,
  ⟨.var 4, .mv (.const (.d (.bool false))), none, []⟩] false
def c_L_eqLease_1 : ACode := .reg [⟨.loc 5, .fld 0 (.var 2), none, []⟩,
  ⟨.loc 6, .load false 1 (.loc 5), none, []⟩,
  ⟨.loc 7, .fld 0 (.var 3), none, []⟩,
  ⟨.loc 8, .load false 1 (.loc 7), none, []⟩,
  ⟨.var 9, .bin .int .neq (.loc 6) (.loc 8), none, []⟩] false
def c_L_eqLease_2 : ACode := .reg [⟨.var 4, .mv (.const (.d (.bool false))), none, []⟩] false
def c_L_eqLease_3 : ACode := .reg [⟨.loc 10, .fld 1 (.var 2), none, []⟩,
  ⟨.loc 11, .load false 1 (.loc 10), none, []⟩,
  ⟨.loc 12, .fld 1 (.var 3), none, []⟩,
  ⟨.loc 13, .load false 1 (.loc 12), none, []⟩,
  ⟨.var 14, .bin .int .neq (.loc 11) (.loc 13), none, []⟩] false
def c_L_eqLease_4 : ACode := .reg [⟨.var 4, .mv (.const (.d (.bool false))), none, []⟩] false
def c_L_eqLease_5 : ACode := .reg [⟨.loc 15, .fld 2 (.var 2), none, []⟩,
  ⟨.loc 16, .load false 1 (.loc 15), none, []⟩,
  ⟨.loc 17, .fld 2 (.var 3), none, []⟩,
  ⟨.loc 18, .load false 1 (.loc 17), none, []⟩,
  ⟨.var 19, .bin .str .neq (.loc 16) (.loc 18), none, []⟩] false
def c_L_eqLease_6 : ACode := .reg [⟨.var 4, .mv (.const (.d (.bool false))), none, []⟩] false
def c_L_eqLease_7 : ACode := .reg [⟨.loc 20, .fld 3 (.var 2), none, []⟩,
  ⟨.loc 21, .load false 1 (.loc 20), none, []⟩,
  ⟨.loc 22, .fld 3 (.var 3), none, []⟩,
  ⟨.loc 23, .load false 1 (.loc 22), none, []⟩,
  ⟨.var 24, .bin .int .neq (.loc 21) (.loc 23), none, []⟩] false
def c_L_eqLease_8 : ACode := .reg [⟨.var 4, .mv (.const (.d (.bool false))), none, []⟩] false
def c_L_eqLease_9 : ACode := .reg [⟨.loc 25, .fld 4 (.var 2), none, []⟩,
  ⟨.loc 26, .load false 1 (.loc 25), none, []⟩,
  ⟨.loc 27, .fld 4 (.var 3), none, []⟩,
  ⟨.loc 28, .load false 1 (.loc 27), none, []⟩,
  ⟨.var 29, .bin .int .neq (.loc 26) (.loc 28), none, []⟩] false
def c_L_eqLease_10 : ACode := .reg [⟨.var 4, .mv (.const (.d (.bool false))), none, []⟩] false
def c_L_eqLease_11 : ACode := .reg [⟨.loc 30, .fld 5 (.var 2), none, []⟩,
  ⟨.loc 31, .load false 1 (.loc 30), none, []⟩,
  ⟨.loc 32, .fld 5 (.var 3), none, []⟩,
  ⟨.loc 33, .load false 1 (.loc 32), none, []⟩,
  ⟨.var 34, .bin .int .neq (.loc 31) (.loc 33), none, []⟩] false
def c_L_eqLease_12 : ACode := .reg [⟨.var 4, .mv (.const (.d (.bool false))), none, []⟩] false
def c_L_eqLease_13 : ACode := .reg [⟨.var 4, .mv (.const (.d (.bool true))), none, []⟩] false
def c_L_eqLease : ACode := (.seq c_L_eqLease_0 (.seq (.seq c_L_eqLease_1 (.cond (.var 9) (.seq c_L_eqLease_2 .ret) .skip)) (.seq (.seq c_L_eqLease_3 (.cond (.var 14) (.seq c_L_eqLease_4 .ret) .skip)) (.seq (.seq c_L_eqLease_5 (.cond (.var 19) (.seq c_L_eqLease_6 .ret) .skip)) (.seq (.seq c_L_eqLease_7 (.cond (.var 24) (.seq c_L_eqLease_8 .ret) .skip)) (.seq (.seq c_L_eqLease_9 (.cond (.var 29) (.seq c_L_eqLease_10 .ret) .skip)) (.seq (.seq c_L_eqLease_11 (.cond (.var 34) (.seq c_L_eqLease_12 .ret) .skip)) (.seq c_L_eqLease_13 .ret))))))))
abbrev F_L_eqLease : FuncId := 195
theorem k_L_eqLease : comp PP (Tryz.f195.ntmps, pinOf 0 [none, none]) [0, 1, 2, 3, 4, 9, 14, 19, 24, 29, 34] (Tryz.f195.body.getD .skip) = some c_L_eqLease.erase := by kernel_rfl
theorem v_L_eqLease {GG : GV} (rcs : List C) {cs : List C} {r : C} {os : List (Option C)} (hN : (cs.length == 2 && rcs.length == 1) = true) (hret : retOf rcs = r) (hW : WX GG [0, 1, 2, 3, 4, 9, 14, 19, 24, 29, 34] Tryz.f195.ntmps [none, none] [(.give, 4, none)] c_L_eqLease rcs cs os) : Valid PP GG F_L_eqLease cs r os :=
  fn_valid_n 2 1 _ _ _ _ rcs Tryz.func195 rfl rfl (by kernel_rfl) k_L_eqLease rfl rfl hN hret hW
def c_L_eqJob_0 : ACode := .reg [⟨.var 2, .box (.var 0), none, []⟩,
  ⟨.var 3, .box (.var 1), none, []⟩,
  ⟨.var 4, .mv (.const (.d (.bool false))), none, []⟩] false
def c_L_eqJob_1 : ACode := .reg [⟨.loc 5, .fld 0 (.var 2), none, []⟩,
  ⟨.loc 6, .load false 1 (.loc 5), none, []⟩,
  ⟨.loc 7, .fld 0 (.var 3), none, []⟩,
  ⟨.loc 8, .load false 1 (.loc 7), none, []⟩,
  ⟨.var 9, .bin .str .neq (.loc 6) (.loc 8), none, []⟩] false
def c_L_eqJob_2 : ACode := .reg [⟨.var 4, .mv (.const (.d (.bool false))), none, []⟩] false
def c_L_eqJob_3 : ACode := .reg [⟨.loc 10, .fld 1 (.var 2), none, []⟩,
  ⟨.loc 11, .load false 1 (.loc 10), none, []⟩,
  ⟨.loc 12, .fld 1 (.var 3), none, []⟩,
  ⟨.loc 13, .load false 1 (.loc 12), none, []⟩,
  ⟨.var 14, .bin .int .neq (.loc 11) (.loc 13), none, []⟩] false
def c_L_eqJob_4 : ACode := .reg [⟨.var 4, .mv (.const (.d (.bool false))), none, []⟩] false
def c_L_eqJob_5 : ACode := .reg [⟨.loc 15, .fld 2 (.var 2), none, []⟩,
  ⟨.loc 16, .load false 1 (.loc 15), none, []⟩,
  ⟨.loc 17, .fld 2 (.var 3), none, []⟩,
  ⟨.loc 18, .load false 1 (.loc 17), none, []⟩,
  ⟨.var 19, .bin .int .neq (.loc 16) (.loc 18), none, []⟩] false
def c_L_eqJob_6 : ACode := .reg [⟨.var 4, .mv (.const (.d (.bool false))), none, []⟩] false
def c_L_eqJob_7 : ACode := .reg [⟨.var 4, .mv (.const (.d (.bool true))), none, []⟩] false
def c_L_eqJob : ACode := (.seq c_L_eqJob_0 (.seq (.seq c_L_eqJob_1 (.cond (.var 9) (.seq c_L_eqJob_2 .ret) .skip)) (.seq (.seq c_L_eqJob_3 (.cond (.var 14) (.seq c_L_eqJob_4 .ret) .skip)) (.seq (.seq c_L_eqJob_5 (.cond (.var 19) (.seq c_L_eqJob_6 .ret) .skip)) (.seq c_L_eqJob_7 .ret)))))
abbrev F_L_eqJob : FuncId := 196
theorem k_L_eqJob : comp PP (Tryz.f196.ntmps, pinOf 0 [none, none]) [0, 1, 2, 3, 4, 9, 14, 19] (Tryz.f196.body.getD .skip) = some c_L_eqJob.erase := by kernel_rfl
theorem v_L_eqJob {GG : GV} (rcs : List C) {cs : List C} {r : C} {os : List (Option C)} (hN : (cs.length == 2 && rcs.length == 1) = true) (hret : retOf rcs = r) (hW : WX GG [0, 1, 2, 3, 4, 9, 14, 19] Tryz.f196.ntmps [none, none] [(.give, 4, none)] c_L_eqJob rcs cs os) : Valid PP GG F_L_eqJob cs r os :=
  fn_valid_n 2 1 _ _ _ _ rcs Tryz.func196 rfl rfl (by kernel_rfl) k_L_eqJob rfl rfl hN hret hW
def c_slices_IndexFunc___impl_Job_impl_Job__0 : ACode := .reg [⟨.var 4, .mv (.const (.d (.int .i64 0))), none, []⟩] false
def c_slices_IndexFunc___impl_Job_impl_Job__1 : ACode := .reg [⟨.loc 6, .mv (.var 0), none, []⟩,
  ⟨.var 7, .len false (.loc 6), none, []⟩,
  ⟨.var 8, .mv (.const (.d (.int .i64 0))), none, []⟩] false
def c_slices_IndexFunc___impl_Job_impl_Job__2 : ACode := .reg [⟨.var 9, .bin .int .lss (.var 8) (.var 7), none, []⟩] false
def c_slices_IndexFunc___impl_Job_impl_Job__3 : ACode := .reg [⟨.loc 10, .mv (.var 8), none, []⟩,
  ⟨.var 5, .mv (.loc 10), none, []⟩] false
def c_slices_IndexFunc___impl_Job_impl_Job__4 : ACode := .reg [⟨.loc 11, .mv (.var 1), none, []⟩,
  ⟨.loc 12, .mv (.var 0), none, []⟩,
  ⟨.loc 13, .mv (.var 5), none, []⟩,
  ⟨.loc 14, .idxA 3 (.loc 12) (.loc 13), none, []⟩,
  ⟨.loc 15, .load true 3 (.loc 14), none, []⟩,
  ⟨.var 16, .call (.loc 11) [(.loc 15)] [.borrow], none, []⟩] false
def c_slices_IndexFunc___impl_Job_impl_Job__5 : ACode := .reg [⟨.loc 17, .mv (.var 5), none, []⟩,
  ⟨.var 4, .mv (.loc 17), none, []⟩] false
def c_slices_IndexFunc___impl_Job_impl_Job__6 : ACode := .reg [⟨.loc 18, .bin .int .add (.var 8) (.const (.d (.int .i64 1))), none, []⟩,
  ⟨.var 8, .mv (.loc 18), none, []⟩] false
def c_slices_IndexFunc___impl_Job_impl_Job__7 : ACode := (.seq c_slices_IndexFunc___impl_Job_impl_Job__2 (.seq (.cond (.var 9) .skip (.exit 0)) (.seq (.block 1 (.seq c_slices_IndexFunc___impl_Job_impl_Job__3 (.seq c_slices_IndexFunc___impl_Job_impl_Job__4 (.cond (.var 16) (.seq c_slices_IndexFunc___impl_Job_impl_Job__5 .ret) .skip)))) c_slices_IndexFunc___impl_Job_impl_Job__6)))
def c_slices_IndexFunc___impl_Job_impl_Job__8 : ACode := .reg [⟨.var 4, .mv (.const (.d (.int .i64 (-1)))), none, []⟩] false
def c_slices_IndexFunc___impl_Job_impl_Job_ : ACode := (.seq c_slices_IndexFunc___impl_Job_impl_Job__0 (.seq (.seq c_slices_IndexFunc___impl_Job_impl_Job__1 (.block 0 (.loop [0, 1, 7, 8] c_slices_IndexFunc___impl_Job_impl_Job__7))) (.seq c_slices_IndexFunc___impl_Job_impl_Job__8 .ret)))
abbrev F_slices_IndexFunc___impl_Job_impl_Job_ : FuncId := 197
theorem k_slices_IndexFunc___impl_Job_impl_Job_ : comp PP (Tryz.f197.ntmps, pinOf 0 [none, none]) [0, 1, 4, 5, 7, 8, 9, 16] (Tryz.f197.body.getD .skip) = some c_slices_IndexFunc___impl_Job_impl_Job_.erase := by kernel_rfl
theorem v_slices_IndexFunc___impl_Job_impl_Job_ {GG : GV} (rcs : List C) {cs : List C} {r : C} {os : List (Option C)} (hN : (cs.length == 2 && rcs.length == 1) = true) (hret : retOf rcs = r) (hW : WX GG [0, 1, 4, 5, 7, 8, 9, 16] Tryz.f197.ntmps [none, none] [(.give, 4, none)] c_slices_IndexFunc___impl_Job_impl_Job_ rcs cs os) : Valid PP GG F_slices_IndexFunc___impl_Job_impl_Job_ cs r os :=
  fn_valid_n 2 1 _ _ _ _ rcs Tryz.func197 rfl rfl (by kernel_rfl) k_slices_IndexFunc___impl_Job_impl_Job_ rfl rfl hN hret hW
def c_L_szStringS_0 : ACode := .reg [⟨.var 4, .mv (.const (.d (.int .i64 0))), none, []⟩] false
def c_L_szStringS_1 : ACode := .reg [⟨.loc 6, .mv (.var 1), none, []⟩,
  ⟨.loc 7, .mv (.var 0), none, []⟩,
  ⟨.loc 8, .len false (.loc 7), none, []⟩,
  ⟨.loc 9, .bin .int .sub (.loc 6) (.loc 8), none, []⟩,
  ⟨.var 1, .mv (.loc 9), none, []⟩] false
def c_L_szStringS_2 : ACode := .reg [⟨.loc 10, .mv (.var 1), none, []⟩,
  ⟨.var 11, .bin .int .lss (.loc 10) (.const (.d (.int .i64 0))), none, []⟩] false
def c_L_szStringS_3 : ACode := .reg [⟨.var 4, .mv (.const (.d (.int .i64 (-1)))), none, []⟩] false
def c_L_szStringS_4 : ACode := .reg [⟨.var 5, .mv (.const (.d (.int .i64 0))), none, []⟩] false
def c_L_szStringS_5 : ACode := .reg [⟨.loc 12, .mv (.var 5), none, []⟩,
  ⟨.loc 13, .mv (.var 0), none, []⟩,
  ⟨.loc 14, .len false (.loc 13), none, []⟩,
  ⟨.var 15, .bin .int .lss (.loc 12) (.loc 14), none, []⟩] false
def c_L_szStringS_6 : ACode := .reg [⟨.loc 18, .mv (.var 1), none, []⟩,
  ⟨.loc 19, .mv (.var 0), none, []⟩,
  ⟨.loc 20, .mv (.var 5), none, []⟩,
  ⟨.loc 21, .idxA 1 (.loc 19) (.loc 20), none, []⟩,
  ⟨.loc 22, .load false 1 (.loc 21), none, []⟩,
  ⟨.loc 23, .len true (.loc 22), none, []⟩,
  ⟨.loc 24, .bin .int .sub (.loc 18) (.loc 23), none, []⟩,
  ⟨.var 1, .mv (.loc 24), none, []⟩] false
def c_L_szStringS_7 : ACode := .reg [⟨.loc 25, .mv (.var 1), none, []⟩,
  ⟨.var 26, .bin .int .lss (.loc 25) (.const (.d (.int .i64 0))), none, []⟩] false
def c_L_szStringS_8 : ACode := .reg [⟨.var 4, .mv (.const (.d (.int .i64 (-1)))), none, []⟩] false
def c_L_szStringS_9 : ACode := .reg [⟨.loc 16, .mv (.var 5), none, []⟩,
  ⟨.loc 17, .bin .int .add (.loc 16) (.const (.d (.int .i64 1))), none, []⟩,
  ⟨.var 5, .mv (.loc 17), none, []⟩] false
def c_L_szStringS_10 : ACode := (.seq (.seq c_L_szStringS_5 (.cond (.var 15) .skip (.exit 0))) (.seq (.block 1 (.seq c_L_szStringS_6 (.seq c_L_szStringS_7 (.cond (.var 26) (.seq c_L_szStringS_8 .ret) .skip)))) c_L_szStringS_9))
def c_L_szStringS_11 : ACode := .reg [⟨.loc 27, .mv (.var 1), none, []⟩,
  ⟨.var 4, .mv (.loc 27), none, []⟩] false
def c_L_szStringS : ACode := (.seq c_L_szStringS_0 (.seq c_L_szStringS_1 (.seq (.seq c_L_szStringS_2 (.cond (.var 11) (.seq c_L_szStringS_3 .ret) .skip)) (.seq (.seq c_L_szStringS_4 (.block 0 (.loop [0, 1, 5] c_L_szStringS_10))) (.seq c_L_szStringS_11 .ret)))))
abbrev F_L_szStringS : FuncId := 219
theorem k_L_szStringS : comp PP (Tryz.f219.ntmps, pinOf 0 [none, none]) [0, 1, 4, 5, 11, 15, 26] (Tryz.f219.body.getD .skip) = some c_L_szStringS.erase := by kernel_rfl
theorem v_L_szStringS {GG : GV} (rcs : List C) {cs : List C} {r : C} {os : List (Option C)} (hN : (cs.length == 2 && rcs.length == 1) = true) (hret : retOf rcs = r) (hW : WX GG [0, 1, 4, 5, 11, 15, 26] Tryz.f219.ntmps [none, none] [(.give, 4, none)] c_L_szStringS rcs cs os) : Valid PP GG F_L_szStringS cs r os :=
  fn_valid_n 2 1 _ _ _ _ rcs Tryz.func219 rfl rfl (by kernel_rfl) k_L_szStringS rfl rfl hN hret hW
def c_S_GlobOk_0 : ACode := .reg [⟨.var 2, .mv (.const (.d (.bool false))), none, []⟩] false
def c_S_GlobOk_1 : ACode := .reg [⟨.loc 5, .mv (.var 0), none, []⟩,
  ⟨.loc 6, .len true (.loc 5), none, []⟩,
  ⟨.var 7, .bin .int .gtr (.loc 6) (.const (.d (.int .i64 120))), none, []⟩] false
def c_S_GlobOk_2 : ACode := .reg [⟨.var 2, .mv (.const (.d (.bool false))), none, []⟩] false
def c_S_GlobOk_3 : ACode := .reg [⟨.loc 8, .mv (.var 0), none, []⟩,
  ⟨.loc 9, .call (.fn 238) [(.loc 8), (.const (.d (.int .u8 47)))] [.borrow, .borrow], none, []⟩,
  ⟨.var 3, .mv (.loc 9), none, []⟩] false
def c_S_GlobOk_4 : ACode := .reg [⟨.var 4, .mv (.const (.d (.int .i64 0))), none, []⟩] false
def c_S_GlobOk_5 : ACode := .reg [⟨.loc 10, .mv (.var 4), none, []⟩,
  ⟨.loc 11, .mv (.var 3), none, []⟩,
  ⟨.loc 12, .len false (.loc 11), none, []⟩,
  ⟨.var 13, .bin .int .lss (.loc 10) (.loc 12), none, []⟩] false
def c_S_GlobOk_6 : ACode := .reg [⟨.loc 16, .mv (.var 3), none, []⟩,
  ⟨.loc 17, .mv (.var 4), none, []⟩,
  ⟨.loc 18, .idxA 1 (.loc 16) (.loc 17), none, []⟩,
  ⟨.loc 19, .load false 1 (.loc 18), none, []⟩,
  ⟨.loc 20, .call (.fn 239) [(.loc 19)] [.borrow], none, []⟩,
  ⟨.loc 21, .un .not (.loc 20), none, []⟩,
  ⟨.loc 22, .split (.loc 21), none, []⟩,
  ⟨.loc 23, .mv (.var 3), some ((.loc 22), true), []⟩,
  ⟨.loc 24, .mv (.var 4), some ((.loc 22), true), []⟩,
  ⟨.loc 25, .idxA 1 (.loc 23) (.loc 24), some ((.loc 22), true), []⟩,
  ⟨.loc 26, .load false 1 (.loc 25), some ((.loc 22), true), []⟩,
  ⟨.loc 27, .bin .str .neq (.loc 26) (.const (.d (.str [43]))), some ((.loc 22), true), []⟩,
  ⟨.loc 28, .pick (.loc 22) (.loc 27) (.const (.d (.bool false))), none, []⟩,
  ⟨.loc 29, .split (.loc 28), none, []⟩,
  ⟨.loc 30, .mv (.var 3), some ((.loc 29), true), []⟩,
  ⟨.loc 31, .mv (.var 4), some ((.loc 29), true), []⟩,
  ⟨.loc 32, .idxA 1 (.loc 30) (.loc 31), some ((.loc 29), true), []⟩,
  ⟨.loc 33, .load false 1 (.loc 32), some ((.loc 29), true), []⟩,
  ⟨.loc 34, .bin .str .eql (.loc 33) (.const (.d (.str [42]))), some ((.loc 29), true), []⟩,
  ⟨.loc 35, .split (.loc 34), some ((.loc 29), true), []⟩,
  ⟨.loc 36, .mv (.var 4), some ((.loc 35), true), []⟩,
  ⟨.loc 37, .mv (.var 3), some ((.loc 35), true), []⟩,
  ⟨.loc 38, .len false (.loc 37), some ((.loc 35), true), []⟩,
  ⟨.loc 39, .bin .int .sub (.loc 38) (.const (.d (.int .i64 1))), some ((.loc 35), true), []⟩,
  ⟨.loc 40, .bin .int .eql (.loc 36) (.loc 39), some ((.loc 35), true), []⟩,
  ⟨.loc 41, .pick (.loc 35) (.loc 40) (.const (.d (.bool false))), some ((.loc 29), true), []⟩,
  ⟨.loc 42, .un .not (.loc 41), some ((.loc 29), true), []⟩,
  ⟨.var 43, .pick (.loc 29) (.loc 42) (.const (.d (.bool false))), none, []⟩] false
def c_S_GlobOk_7 : ACode := .reg [⟨.var 2, .mv (.const (.d (.bool false))), none, []⟩] false
def c_S_GlobOk_8 : ACode := .reg [⟨.loc 14, .mv (.var 4), none, []⟩,
  ⟨.loc 15, .bin .int .add (.loc 14) (.const (.d (.int .i64 1))), none, []⟩,
  ⟨.var 4, .mv (.loc 15), none, []⟩] false
def c_S_GlobOk_9 : ACode := (.seq (.seq c_S_GlobOk_5 (.cond (.var 13) .skip (.exit 0))) (.seq (.block 1 (.seq c_S_GlobOk_6 (.cond (.var 43) (.seq c_S_GlobOk_7 .ret) .skip))) c_S_GlobOk_8))
def c_S_GlobOk_10 : ACode := .reg [⟨.loc 44, .mv (.var 3), none, []⟩,
  ⟨.loc 45, .len false (.loc 44), none, []⟩,
  ⟨.loc 46, .bin .int .leq (.loc 45) (.const (.d (.int .i64 8))), none, []⟩,
  ⟨.var 2, .mv (.loc 46), none, []⟩] false
def c_S_GlobOk : ACode := (.seq c_S_GlobOk_0 (.seq (.seq c_S_GlobOk_1 (.cond (.var 7) (.seq c_S_GlobOk_2 .ret) .skip)) (.seq c_S_GlobOk_3 (.seq (.seq c_S_GlobOk_4 (.block 0 (.loop [3, 4] c_S_GlobOk_9))) (.seq c_S_GlobOk_10 .ret)))))
abbrev F_S_GlobOk : FuncId := 220
theorem k_S_GlobOk : comp PP (Tryz.f220.ntmps, pinOf 0 [none]) [0, 2, 3, 4, 7, 13, 43] (Tryz.f220.body.getD .skip) = some c_S_GlobOk.erase := by kernel_rfl
theorem v_S_GlobOk {GG : GV} (rcs : List C) {cs : List C} {r : C} {os : List (Option C)} (hN : (cs.length == 1 && rcs.length == 1) = true) (hret : retOf rcs = r) (hW : WX GG [0, 2, 3, 4, 7, 13, 43] Tryz.f220.ntmps [none] [(.give, 2, none)] c_S_GlobOk rcs cs os) : Valid PP GG F_S_GlobOk cs r os :=
  fn_valid_n 1 1 _ _ _ _ rcs Tryz.func220 rfl rfl (by kernel_rfl) k_S_GlobOk rfl rfl hN hret hW
def c_L_toStringS_0 : ACode := .reg [⟨.var 2, .mv (.const (.nil 0 1)), none, []⟩] false
def c_L_toStringS_1 : ACode := .reg [⟨.loc 5, .mv (.var 0), none, []⟩,
  ⟨.loc 6, .len false (.loc 5), none, []⟩,
  ⟨.loc 7, .mkslice 0 1 16 [.str []] (.loc 6) (.loc 6), none, []⟩,
  ⟨.var 3, .mv (.loc 7), none, []⟩] false
def c_L_toStringS_2 : ACode := .reg [⟨.var 4, .mv (.const (.d (.int .i64 0))), none, []⟩] false
def c_L_toStringS_3 : ACode := .reg [⟨.loc 8, .mv (.var 4), none, []⟩,
  ⟨.loc 9, .mv (.var 0), none, []⟩,
  ⟨.loc 10, .len false (.loc 9), none, []⟩,
  ⟨.var 11, .bin .int .lss (.loc 8) (.loc 10), none, []⟩] false
def c_L_toStringS_4 : ACode := .reg [⟨.loc 14, .mv (.var 3), none, []⟩,
  ⟨.loc 15, .mv (.var 4), none, []⟩,
  ⟨.loc 16, .mv (.var 0), none, []⟩,
  ⟨.loc 17, .mv (.var 4), none, []⟩,
  ⟨.loc 18, .idxA 1 (.loc 16) (.loc 17), none, []⟩,
  ⟨.loc 19, .load false 1 (.loc 18), none, []⟩,
  ⟨.loc 20, .idxA 1 (.loc 14) (.loc 15), none, []⟩,
  ⟨.none, .store 1 (.loc 20) (.loc 19), none, []⟩] false
def c_L_toStringS_5 : ACode := .reg [⟨.loc 12, .mv (.var 4), none, []⟩,
  ⟨.loc 13, .bin .int .add (.loc 12) (.const (.d (.int .i64 1))), none, []⟩,
  ⟨.var 4, .mv (.loc 13), none, []⟩] false
def c_L_toStringS_6 : ACode := (.seq (.seq c_L_toStringS_3 (.cond (.var 11) .skip (.exit 0))) (.seq (.block 1 c_L_toStringS_4) c_L_toStringS_5))
def c_L_toStringS_7 : ACode := .reg [⟨.loc 21, .mv (.var 3), none, []⟩,
  ⟨.var 2, .mv (.loc 21), none, []⟩] false
def c_L_toStringS : ACode := (.seq c_L_toStringS_0 (.seq c_L_toStringS_1 (.seq (.seq c_L_toStringS_2 (.block 0 (.loop [0, 3, 4] c_L_toStringS_6))) (.seq c_L_toStringS_7 .ret))))
abbrev F_L_toStringS : FuncId := 221
theorem k_L_toStringS : comp PP (Tryz.f221.ntmps, pinOf 0 [none]) [0, 2, 3, 4, 11] (Tryz.f221.body.getD .skip) = some c_L_toStringS.erase := by kernel_rfl
theorem v_L_toStringS {GG : GV} (rcs : List C) {cs : List C} {r : C} {os : List (Option C)} (hN : (cs.length == 1 && rcs.length == 1) = true) (hret : retOf rcs = r) (hW : WX GG [0, 2, 3, 4, 11] Tryz.f221.ntmps [none] [(.give, 2, none)] c_L_toStringS rcs cs os) : Valid PP GG F_L_toStringS cs r os :=
  fn_valid_n 1 1 _ _ _ _ rcs Tryz.func221 rfl rfl (by kernel_rfl) k_L_toStringS rfl rfl hN hret hW
def c_I_areNames_0 : ACode := .reg [⟨.var 2, .mv (.const (.d (.bool false))), none, []⟩] false
def c_I_areNames_1 : ACode := .reg [⟨.var 5, .mv (.var 0), none, []⟩,
  ⟨.var 6, .len false (.var 5), none, []⟩,
  ⟨.var 7, .mv (.const (.d (.int .i64 0))), none, []⟩] false
def c_I_areNames_2 : ACode := .reg [⟨.var 8, .bin .int .lss (.var 7) (.var 6), none, []⟩] false
def c_I_areNames_3 : ACode := .reg [⟨.loc 9, .mv (.var 7), none, []⟩,
  ⟨.loc 10, .idxA 1 (.var 5) (.var 7), none, []⟩,
  ⟨.loc 11, .load false 1 (.loc 10), none, []⟩,
  ⟨.var 3, .mv (.loc 9), none, []⟩,
  ⟨.var 4, .mv (.loc 11), none, []⟩] false
def c_I_areNames_4 : ACode := .reg [⟨.loc 12, .mv (.var 4), none, []⟩,
  ⟨.loc 13, .call (.fn 126) [(.loc 12)] [.borrow], none, []⟩,
  ⟨.loc 14, .un .not (.loc 13), none, []⟩,
  ⟨.loc 15, .split (.loc 14), none, []⟩,
  ⟨.loc 16, .mv (.var 3), some ((.loc 15), false), []⟩,
  ⟨.loc 17, .bin .int .gtr (.loc 16) (.const (.d (.int .i64 0))), some ((.loc 15), false), []⟩,
  ⟨.loc 18, .split (.loc 17), some ((.loc 15), false), []⟩,
  ⟨.loc 19, .mv (.var 0), some ((.loc 18), true), []⟩,
  ⟨.loc 20, .mv (.var 3), some ((.loc 18), true), []⟩,
  ⟨.loc 21, .bin .int .sub (.loc 20) (.const (.d (.int .i64 1))), some ((.loc 18), true), []⟩,
  ⟨.loc 22, .idxA 1 (.loc 19) (.loc 21), some ((.loc 18), true), []⟩,
  ⟨.loc 23, .load false 1 (.loc 22), some ((.loc 18), true), []⟩,
  ⟨.loc 24, .mv (.var 4), some ((.loc 18), true), []⟩,
  ⟨.loc 25, .bin .str .geq (.loc 23) (.loc 24), some ((.loc 18), true), []⟩,
  ⟨.loc 26, .pick (.loc 18) (.loc 25) (.const (.d (.bool false))), some ((.loc 15), false), []⟩,
  ⟨.var 27, .pick (.loc 15) (.const (.d (.bool true))) (.loc 26), none, []⟩] false
def c_I_areNames_5 : ACode := .reg [⟨.var 2, .mv (.const (.d (.bool false))), none, []⟩] false
def c_I_areNames_6 : ACode := .reg [⟨.loc 28, .bin .int .add (.var 7) (.const (.d (.int .i64 1))), none, []⟩,
  ⟨.var 7, .mv (.loc 28), none, []⟩] false
def c_I_areNames_7 : ACode := (.seq c_I_areNames_2 (.seq (.cond (.var 8) .skip (.exit 0)) (.seq (.block 1 (.seq c_I_areNames_3 (.seq c_I_areNames_4 (.cond (.var 27) (.seq c_I_areNames_5 .ret) .skip)))) c_I_areNames_6)))
def c_I_areNames_8 : ACode := .reg [⟨.loc 29, .mv (.var 0), none, []⟩,
  ⟨.loc 30, .len false (.loc 29), none, []⟩,
  ⟨.loc 31, .bin .int .leq (.loc 30) (.const (.d (.int .i64 6))), none, []⟩,
  ⟨.var 2, .mv (.loc 31), none, []⟩] false
def c_I_areNames : ACode := (.seq c_I_areNames_0 (.seq (.seq c_I_areNames_1 (.block 0 (.loop [0, 5, 6, 7] c_I_areNames_7))) (.seq c_I_areNames_8 .ret)))
abbrev F_I_areNames : FuncId := 222
theorem k_I_areNames : comp PP (Tryz.f222.ntmps, pinOf 0 [none]) [0, 2, 3, 4, 5, 6, 7, 8, 27] (Tryz.f222.body.getD .skip) = some c_I_areNames.erase := by kernel_rfl
theorem v_I_areNames {GG : GV} (rcs : List C) {cs : List C} {r : C} {os : List (Option C)} (hN : (cs.length == 1 && rcs.length == 1) = true) (hret : retOf rcs = r) (hW : WX GG [0, 2, 3, 4, 5, 6, 7, 8, 27] Tryz.f222.ntmps [none] [(.give, 2, none)] c_I_areNames rcs cs os) : Valid PP GG F_I_areNames cs r os :=
  fn_valid_n 1 1 _ _ _ _ rcs Tryz.func222 rfl rfl (by kernel_rfl) k_I_areNames rfl rfl hN hret hW
def c_I_isPath_0 : ACode := .reg [⟨.var 2, .mv (.const (.d (.bool false))), none, []⟩] false
def c_I_isPath_1 : ACode := .reg [⟨.loc 3, .mv (.var 0), none, []⟩,
  ⟨.loc 4, .call (.fn 240) [(.loc 3)] [.borrow], none, []⟩,
  ⟨.loc 5, .split (.loc 4), none, []⟩,
  ⟨.loc 6, .mv (.var 0), some ((.loc 5), true), []⟩,
  ⟨.loc 7, .call (.fn 241) [(.loc 6), (.const (.d (.str [43, 42])))] [.borrow, .borrow], some ((.loc 5), true), []⟩,
  ⟨.loc 8, .un .not (.loc 7), some ((.loc 5), true), []⟩,
  ⟨.loc 9, .pick (.loc 5) (.loc 8) (.const (.d (.bool false))), none, []⟩,
  ⟨.var 2, .mv (.loc 9), none, []⟩] false
def c_I_isPath : ACode := (.seq c_I_isPath_0 (.seq c_I_isPath_1 .ret))
abbrev F_I_isPath : FuncId := 223
theorem k_I_isPath : comp PP (Tryz.f223.ntmps, pinOf 0 [none]) [0, 2] (Tryz.f223.body.getD .skip) = some c_I_isPath.erase := by kernel_rfl
theorem v_I_isPath {GG : GV} (rcs : List C) {cs : List C} {r : C} {os : List (Option C)} (hN : (cs.length == 1 && rcs.length == 1) = true) (hret : retOf rcs = r) (hW : WX GG [0, 2] Tryz.f223.ntmps [none] [(.give, 2, none)] c_I_isPath rcs cs os) : Valid PP GG F_I_isPath cs r os :=
  fn_valid_n 1 1 _ _ _ _ rcs Tryz.func223 rfl rfl (by kernel_rfl) k_I_isPath rfl rfl hN hret hW
def c_S_l01Parts_0 : ACode := .reg [⟨.var 4, .mv (.const (.nil 0 1)), none, []⟩] false
def c_S_l01Parts_1 : ACode := .reg [⟨.loc 8, .lit 0 1 0 [.str []] [], none, []⟩,
  ⟨.var 5, .mv (.loc 8), none, []⟩] false
def c_S_l01Parts_2 : ACode := .reg [⟨.var 6, .mv (.const (.d (.int .i64 0))), none, []⟩] false
def c_S_l01Parts_3 : ACode := .reg [⟨.var 7, .mv (.const (.d (.int .i64 0))), none, []⟩] false
def c_S_l01Parts_4 : ACode := .reg [⟨.loc 9, .mv (.var 7), none, []⟩,
  ⟨.loc 10, .mv (.var 0), none, []⟩,
  ⟨.loc 11, .len true (.loc 10), none, []⟩,
  ⟨.var 12, .bin .int .leq (.loc 9) (.loc 11), none, []⟩] false
def c_S_l01Parts_5 : ACode := .reg [⟨.loc 15, .mv (.var 7), none, []⟩,
  ⟨.loc 16, .mv (.var 0), none, []⟩,
  ⟨.loc 17, .len true (.loc 16), none, []⟩,
  ⟨.loc 18, .bin .int .eql (.loc 15) (.loc 17), none, []⟩,
  ⟨.loc 19, .split (.loc 18), none, []⟩,
  ⟨.loc 20, .mv (.var 0), some ((.loc 19), false), []⟩,
  ⟨.loc 21, .mv (.var 7), some ((.loc 19), false), []⟩,
  ⟨.loc 22, .idxS (.loc 20) (.loc 21), some ((.loc 19), false), []⟩,
  ⟨.loc 23, .mv (.var 1), some ((.loc 19), false), []⟩,
  ⟨.loc 24, .bin .int .eql (.loc 22) (.loc 23), some ((.loc 19), false), []⟩,
  ⟨.var 25, .pick (.loc 19) (.const (.d (.bool true))) (.loc 24), none, []⟩] false
def c_S_l01Parts_6 : ACode := .reg [⟨.loc 26, .mv (.var 5), none, []⟩,
  ⟨.loc 27, .mv (.var 0), none, []⟩,
  ⟨.loc 28, .mv (.var 6), none, []⟩,
  ⟨.loc 29, .mv (.var 7), none, []⟩,
  ⟨.loc 30, .sliceS (.loc 27) (some (.loc 28)) (some (.loc 29)), none, []⟩,
  ⟨.loc 31, .lit 0 1 1 [.str []] [(0, (.loc 30))], none, []⟩,
  ⟨.loc 32, .app 1 16 (.loc 26) (.loc 31), none, []⟩,
  ⟨.var 5, .mv (.loc 32), none, []⟩] false
def c_S_l01Parts_7 : ACode := .reg [⟨.loc 33, .mv (.var 7), none, []⟩,
  ⟨.loc 34, .bin .int .add (.loc 33) (.const (.d (.int .i64 1))), none, []⟩,
  ⟨.var 6, .mv (.loc 34), none, []⟩] false
def c_S_l01Parts_8 : ACode := .reg [⟨.loc 13, .mv (.var 7), none, []⟩,
  ⟨.loc 14, .bin .int .add (.loc 13) (.const (.d (.int .i64 1))), none, []⟩,
  ⟨.var 7, .mv (.loc 14), none, []⟩] false
def c_S_l01Parts_9 : ACode := (.seq (.seq c_S_l01Parts_4 (.cond (.var 12) .skip (.exit 0))) (.seq (.block 1 (.seq c_S_l01Parts_5 (.cond (.var 25) (.seq c_S_l01Parts_6 c_S_l01Parts_7) .skip))) c_S_l01Parts_8))
def c_S_l01Parts_10 : ACode := .reg [⟨.loc 35, .mv (.var 5), none, []⟩,
  ⟨.var 4, .mv (.loc 35), none, []⟩] false
def c_S_l01Parts : ACode := (.seq c_S_l01Parts_0 (.seq c_S_l01Parts_1 (.seq c_S_l01Parts_2 (.seq (.seq c_S_l01Parts_3 (.block 0 (.loop [0, 1, 5, 6, 7] c_S_l01Parts_9))) (.seq c_S_l01Parts_10 .ret)))))
abbrev F_S_l01Parts : FuncId := 238
theorem k_S_l01Parts : comp PP (Tryz.f238.ntmps, pinOf 0 [none, none]) [0, 1, 4, 5, 6, 7, 12, 25] (Tryz.f238.body.getD .skip) = some c_S_l01Parts.erase := by kernel_rfl
theorem v_S_l01Parts {GG : GV} (rcs : List C) {cs : List C} {r : C} {os : List (Option C)} (hN : (cs.length == 2 && rcs.length == 1) = true) (hret : retOf rcs = r) (hW : WX GG [0, 1, 4, 5, 6, 7, 12, 25] Tryz.f238.ntmps [none, none] [(.give, 4, none)] c_S_l01Parts rcs cs os) : Valid PP GG F_S_l01Parts cs r os :=
  fn_valid_n 2 1 _ _ _ _ rcs Tryz.func238 rfl rfl (by kernel_rfl) k_S_l01Parts rfl rfl hN hret hW
def c_S_l01Segment_0 : ACode := .reg [⟨.var 2, .mv (.const (.d (.bool false))), none, []⟩] false
def c_S_l01Segment_1 : ACode := .reg [⟨.loc 5, .mv (.var 0), none, []⟩,
  ⟨.loc 6, .len true (.loc 5), none, []⟩,
  ⟨.loc 7, .call (.fn 49) [(.loc 6), (.const (.d (.int .i64 1))), (.const (.d (.int .i64 16)))] [.borrow, .borrow, .borrow], none, []⟩,
  ⟨.var 8, .un .not (.loc 7), none, []⟩] false
def c_S_l01Segment_2 : ACode := .reg [⟨.var 2, .mv (.const (.d (.bool false))), none, []⟩] false
def c_S_l01Segment_3 : ACode := .reg [⟨.var 3, .mv (.const (.d (.int .i64 0))), none, []⟩] false
def c_S_l01Segment_4 : ACode := .reg [⟨.loc 9, .mv (.var 3), none, []⟩,
  ⟨.loc 10, .mv (.var 0), none, []⟩,
  ⟨.loc 11, .len true (.loc 10), none, []⟩,
  ⟨.var 12, .bin .int .lss (.loc 9) (.loc 11), none, []⟩] false
def c_S_l01Segment_5 : ACode := .reg [⟨.loc 15, .mv (.var 0), none, []⟩,
  ⟨.loc 16, .mv (.var 3), none, []⟩,
  ⟨.loc 17, .idxS (.loc 15) (.loc 16), none, []⟩,
  ⟨.var 4, .mv (.loc 17), none, []⟩] false
def c_S_l01Segment_6 : ACode := .reg [⟨.loc 18, .mv (.var 4), none, []⟩,
  ⟨.loc 19, .bin .int .geq (.loc 18) (.const (.d (.int .u8 97))), none, []⟩,
  ⟨.loc 20, .split (.loc 19), none, []⟩,
  ⟨.loc 21, .mv (.var 4), some ((.loc 20), true), []⟩,
  ⟨.loc 22, .bin .int .leq (.loc 21) (.const (.d (.int .u8 122))), some ((.loc 20), true), []⟩,
  ⟨.loc 23, .pick (.loc 20) (.loc 22) (.const (.d (.bool false))), none, []⟩,
  ⟨.loc 24, .un .not (.loc 23), none, []⟩,
  ⟨.loc 25, .split (.loc 24), none, []⟩,
  ⟨.loc 26, .mv (.var 4), some ((.loc 25), true), []⟩,
  ⟨.loc 27, .bin .int .geq (.loc 26) (.const (.d (.int .u8 48))), some ((.loc 25), true), []⟩,
  ⟨.loc 28, .split (.loc 27), some ((.loc 25), true), []⟩,
  ⟨.loc 29, .mv (.var 4), some ((.loc 28), true), []⟩,
  ⟨.loc 30, .bin .int .leq (.loc 29) (.const (.d (.int .u8 57))), some ((.loc 28), true), []⟩,
  ⟨.loc 31, .pick (.loc 28) (.loc 30) (.const (.d (.bool false))), some ((.loc 25), true), []⟩,
  ⟨.loc 32, .un .not (.loc 31), some ((.loc 25), true), []⟩,
  ⟨.loc 33, .pick (.loc 25) (.loc 32) (.const (.d (.bool false))), none, []⟩,
  ⟨.loc 34, .split (.loc 33), none, []⟩,
  ⟨.loc 35, .mv (.var 4), some ((.loc 34), true), []⟩,
  ⟨.loc 36, .bin .int .neq (.loc 35) (.const (.d (.int .u8 45))), some ((.loc 34), true), []⟩,
  ⟨.var 37, .pick (.loc 34) (.loc 36) (.const (.d (.bool false))), none, []⟩] false
def c_S_l01Segment_7 : ACode := .reg [⟨.var 2, .mv (.const (.d (.bool false))), none, []⟩] false
def c_S_l01Segment_8 : ACode := .reg [⟨.loc 13, .mv (.var 3), none, []⟩,
  ⟨.loc 14, .bin .int .add (.loc 13) (.const (.d (.int .i64 1))), none, []⟩,
  ⟨.var 3, .mv (.loc 14), none, []⟩] false
def c_S_l01Segment_9 : ACode := (.seq (.seq c_S_l01Segment_4 (.cond (.var 12) .skip (.exit 0))) (.seq (.block 1 (.seq c_S_l01Segment_5 (.seq c_S_l01Segment_6 (.cond (.var 37) (.seq c_S_l01Segment_7 .ret) .skip)))) c_S_l01Segment_8))
def c_S_l01Segment_10 : ACode := .reg [⟨.var 2, .mv (.const (.d (.bool true))), none, []⟩] false
def c_S_l01Segment : ACode := (.seq c_S_l01Segment_0 (.seq (.seq c_S_l01Segment_1 (.cond (.var 8) (.seq c_S_l01Segment_2 .ret) .skip)) (.seq (.seq c_S_l01Segment_3 (.block 0 (.loop [0, 3] c_S_l01Segment_9))) (.seq c_S_l01Segment_10 .ret))))
abbrev F_S_l01Segment : FuncId := 239
theorem k_S_l01Segment : comp PP (Tryz.f239.ntmps, pinOf 0 [none]) [0, 2, 3, 4, 8, 12, 37] (Tryz.f239.body.getD .skip) = some c_S_l01Segment.erase := by kernel_rfl
theorem v_S_l01Segment {GG : GV} (rcs : List C) {cs : List C} {r : C} {os : List (Option C)} (hN : (cs.length == 1 && rcs.length == 1) = true) (hret : retOf rcs = r) (hW : WX GG [0, 2, 3, 4, 8, 12, 37] Tryz.f239.ntmps [none] [(.give, 2, none)] c_S_l01Segment rcs cs os) : Valid PP GG F_S_l01Segment cs r os :=
  fn_valid_n 1 1 _ _ _ _ rcs Tryz.func239 rfl rfl (by kernel_rfl) k_S_l01Segment rfl rfl hN hret hW
def c_I_isGlob_0 : ACode := .reg [⟨.var 2, .mv (.const (.d (.bool false))), none, []⟩] false
def c_I_isGlob_1 : ACode := .reg [⟨.loc 6, .mv (.var 0), none, []⟩,
  ⟨.loc 7, .len true (.loc 6), none, []⟩,
  ⟨.var 8, .bin .int .gtr (.loc 7) (.const (.d (.int .i64 120))), none, []⟩] false
def c_I_isGlob_2 : ACode := .reg [⟨.var 2, .mv (.const (.d (.bool false))), none, []⟩] false
def c_I_isGlob_3 : ACode := .reg [⟨.loc 9, .mv (.var 0), none, []⟩,
  ⟨.loc 10, .call (.fn 249) [(.loc 9), (.const (.d (.str [47])))] [.borrow, .borrow], none, []⟩,
  ⟨.var 3, .mv (.loc 10), none, []⟩] false
def c_I_isGlob_4 : ACode := .reg [⟨.var 11, .mv (.var 3), none, []⟩,
  ⟨.var 12, .len false (.var 11), none, []⟩,
  ⟨.var 13, .mv (.const (.d (.int .i64 0))), none, []⟩] false
def c_I_isGlob_5 : ACode := .reg [⟨.var 14, .bin .int .lss (.var 13) (.var 12), none, []⟩] false
def c_I_isGlob_6 : ACode := .reg [⟨.loc 15, .mv (.var 13), none, []⟩,
  ⟨.loc 16, .idxA 1 (.var 11) (.var 13), none, []⟩,
  ⟨.loc 17, .load false 1 (.loc 16), none, []⟩,
  ⟨.var 4, .mv (.loc 15), none, []⟩,
  ⟨.var 5, .mv (.loc 17), none, []⟩] false
def c_I_isGlob_7 : ACode := .reg [⟨.loc 18, .mv (.var 5), none, []⟩,
  ⟨.loc 19, .bin .str .eql (.loc 18) (.const (.d (.str [43]))), none, []⟩,
  ⟨.loc 20, .split (.loc 19), none, []⟩,
  ⟨.loc 21, .mv (.var 5), some ((.loc 20), false), []⟩,
  ⟨.loc 22, .bin .str .eql (.loc 21) (.const (.d (.str [42]))), some ((.loc 20), false), []⟩,
  ⟨.loc 23, .split (.loc 22), some ((.loc 20), false), []⟩,
  ⟨.loc 24, .mv (.var 4), some ((.loc 23), true), []⟩,
  ⟨.loc 25, .mv (.var 3), some ((.loc 23), true), []⟩,
  ⟨.loc 26, .len false (.loc 25), some ((.loc 23), true), []⟩,
  ⟨.loc 27, .bin .int .sub (.loc 26) (.const (.d (.int .i64 1))), some ((.loc 23), true), []⟩,
  ⟨.loc 28, .bin .int .eql (.loc 24) (.loc 27), some ((.loc 23), true), []⟩,
  ⟨.loc 29, .pick (.loc 23) (.loc 28) (.const (.d (.bool false))), some ((.loc 20), false), []⟩,
  ⟨.var 30, .pick (.loc 20) (.const (.d (.bool true))) (.loc 29), none, []⟩] false
def c_I_isGlob_8 : ACode := .reg [⟨.loc 31, .mv (.var 5), none, []⟩,
  ⟨.loc 32, .len true (.loc 31), none, []⟩,
  ⟨.loc 33, .call (.fn 103) [(.loc 32), (.const (.d (.int .i64 1))), (.const (.d (.int .i64 16)))] [.borrow, .borrow, .borrow], none, []⟩,
  ⟨.loc 34, .un .not (.loc 33), none, []⟩,
  ⟨.loc 35, .split (.loc 34), none, []⟩,
  ⟨.loc 36, .mv (.var 5), some ((.loc 35), false), []⟩,
  ⟨.loc 37, .call (.fn 193) [(.loc 36), (.const (.d (.str [97, 98, 99, 100, 101, 102, 103, 104, 105, 106, 107, 108, 109, 110, 111, 112, 113, 114, 115, 116, 117, 118, 119, 120, 121, 122, 48, 49, 50, 51, 52, 53, 54, 55, 56, 57, 45])))] [.borrow, .borrow], some ((.loc 35), false), []⟩,
  ⟨.loc 38, .un .not (.loc 37), some ((.loc 35), false), []⟩,
  ⟨.var 39, .pick (.loc 35) (.const (.d (.bool true))) (.loc 38), none, []⟩] false
def c_I_isGlob_9 : ACode := .reg [⟨.var 2, .mv (.const (.d (.bool false))), none, []⟩] false
def c_I_isGlob_10 : ACode := .reg [⟨.loc 40, .bin .int .add (.var 13) (.const (.d (.int .i64 1))), none, []⟩,
  ⟨.var 13, .mv (.loc 40), none, []⟩] false
def c_I_isGlob_11 : ACode := (.seq c_I_isGlob_5 (.seq (.cond (.var 14) .skip (.exit 0)) (.seq (.block 1 (.seq c_I_isGlob_6 (.seq (.seq c_I_isGlob_7 (.cond (.var 30) (.exit 1) .skip)) (.seq c_I_isGlob_8 (.cond (.var 39) (.seq c_I_isGlob_9 .ret) .skip))))) c_I_isGlob_10)))
def c_I_isGlob_12 : ACode := .reg [⟨.loc 41, .mv (.var 3), none, []⟩,
  ⟨.loc 42, .len false (.loc 41), none, []⟩,
  ⟨.loc 43, .bin .int .leq (.loc 42) (.const (.d (.int .i64 8))), none, []⟩,
  ⟨.var 2, .mv (.loc 43), none, []⟩] false
def c_I_isGlob : ACode := (.seq c_I_isGlob_0 (.seq (.seq c_I_isGlob_1 (.cond (.var 8) (.seq c_I_isGlob_2 .ret) .skip)) (.seq c_I_isGlob_3 (.seq (.seq c_I_isGlob_4 (.block 0 (.loop [3, 11, 12, 13] c_I_isGlob_11))) (.seq c_I_isGlob_12 .ret)))))
abbrev F_I_isGlob : FuncId := 240
theorem k_I_isGlob : comp PP (Tryz.f240.ntmps, pinOf 0 [none]) [0, 2, 3, 4, 5, 8, 11, 12, 13, 14, 30, 39] (Tryz.f240.body.getD .skip) = some c_I_isGlob.erase := by kernel_rfl
theorem v_I_isGlob {GG : GV} (rcs : List C) {cs : List C} {r : C} {os : List (Option C)} (hN : (cs.length == 1 && rcs.length == 1) = true) (hret : retOf rcs = r) (hW : WX GG [0, 2, 3, 4, 5, 8, 11, 12, 13, 14, 30, 39] Tryz.f240.ntmps [none] [(.give, 2, none)] c_I_isGlob rcs cs os) : Valid PP GG F_I_isGlob cs r os :=
  fn_valid_n 1 1 _ _ _ _ rcs Tryz.func240 rfl rfl (by kernel_rfl) k_I_isGlob rfl rfl hN hret hW

end Go.Proofs.YtdckkojgnkoabaaGreatDoor.Ab
