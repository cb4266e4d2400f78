/-
  A part of a proof about the given program; what is proved is said where each theorem stands.
-/
import Derived.Test.YtdckkojgnkoabaaGreatDoorFrameA
import Derived.Test.YtdckkojgnkoabaaGreatDoorFrameB
import Derived.Test.YtdckkojgnkoabaaGreatDoorFrameC
import Derived.Test.YtdckkojgnkoabaaGreatDoorFrameD
import Derived.Test.YtdckkojgnkoabaaGreatDoorFrameE
import Derived.Test.YtdckkojgnkoabaaGreatDoorCodesA
set_option maxRecDepth 100000
namespace Go.Proofs.YtdckkojgnkoabaaGreatDoor.Ab
open Go.Proofs
def c_S_l08Under_2 : ACode := .reg [o1 (.loc 9) (.mv (.var 1)),
  o1 (.loc 10) (.mv (.var 2)),
  o1 (.var 11) (.bin .int .eql (.loc 9) (.loc 10))] false
def c_S_l08Under_3 : ACode := .reg [o1 (.var 6) (.mv (.const (.d (.bool true))))] false
def c_S_l08Under_4 : ACode := .reg [o1 (.loc 12) (.fld 0 (.var 3)),
  ⟨.loc 13, .load false 1 (.loc 12), none, [0]⟩,
  o1 (.loc 14) (.load true 1 (.var 3)),
  o1 (.loc 15) (.mv (.var 1)),
  ⟨.loc 16, .call (.fn 115) [(.loc 14), (.loc 15)] [.borrow, .borrow], none, [2, 3]⟩,
  ⟨.loc 17, .idxA 7 (.loc 13) (.loc 16), none, [1, 0, 4, 2, 3]⟩,
  ⟨.loc 18, .fld 1 (.loc 17), none, [5, 1, 0, 4, 2, 3]⟩,
  ⟨.loc 19, .load false 1 (.loc 18), none, [6, 5, 1, 0, 4, 2, 3]⟩,
  ⟨.var 1, .mv (.loc 19), none, [7, 6, 5, 1, 0, 4, 2, 3]⟩] true
def c_S_l08Under_5 : ACode := (.seq (.seq c_S_l08Under_1 (.cond (.var 8) .skip (.exit 0))) (.block 1 (.seq (.seq c_S_l08Under_2 (.cond (.var 11) (.seq c_S_l08Under_3 .ret) .skip)) c_S_l08Under_4)))
def c_S_l08Under_6 : ACode := .reg [o1 (.var 6) (.mv (.const (.d (.bool false))))] false
def c_S_l08Under : ACode := (.seq c_S_l08Under_0 (.seq (.block 0 (.loop [1, 2, 3] c_S_l08Under_5)) (.seq c_S_l08Under_6 .ret)))
abbrev F_S_l08Under : FuncId := 140
theorem k_S_l08Under : comp PP (Tryz.f140.ntmps, pinOf 0 [none, none, none]) [0, 1, 2, 3, 6, 8, 11] (Tryz.f140.body.getD .skip) = some c_S_l08Under.erase := by kernel_rfl
theorem v_S_l08Under {GG : GV} (rcs : List C) {cs : List C} {r : C} {os : List (Option C)} (hN : (cs.length == 3 && rcs.length == 1) = true) (hret : retOf rcs = r) (hW : WX GG [0, 1, 2, 3, 6, 8, 11] Tryz.f140.ntmps [none, none, none] [(.give, 6, none)] c_S_l08Under rcs cs os) : Valid PP GG F_S_l08Under cs r os :=
  fn_valid_n 3 1 _ _ _ _ rcs Tryz.func140 rfl rfl (by kernel_rfl) k_S_l08Under rfl rfl hN hret hW
def c_I_cloneToken_0 : ACode := .reg [o1 (.var 1) (.box (.var 0)),
  o1 (.var 2) (.alloc [.d (.int .i64 0), .d (.int .i64 0), .nil 0 1, .d (.int .i64 0), .d (.int .i64 0), .d (.int .i64 0), .d (.int .i64 0)])] false
def c_I_cloneToken_1 : ACode := .reg [o1 (.loc 3) (.fld 2 (.var 1)),
  o1 (.loc 4) (.load false 1 (.loc 3)),
  o1 (.loc 5) (.call (.fn 198) [(.loc 4)] [.borrow]),
  o1 (.loc 6) (.fld 2 (.var 1)),
  o1 .none (.store 1 (.loc 6) (.loc 5))] false
def c_I_cloneToken_2 : ACode := .reg [o1 (.loc 7) (.load true 7 (.var 1)),
  o1 .none (.store 7 (.var 2) (.loc 7))] false
def c_I_cloneToken : ACode := (.seq c_I_cloneToken_0 (.seq c_I_cloneToken_1 (.seq c_I_cloneToken_2 .ret)))
abbrev F_I_cloneToken : FuncId := 141
theorem k_I_cloneToken : comp PP (Tryz.f141.ntmps, pinOf 0 [none]) [0, 1, 2] (Tryz.f141.body.getD .skip) = some c_I_cloneToken.erase := by kernel_rfl
theorem v_I_cloneToken {GG : GV} (rcs : List C) {cs : List C} {r : C} {os : List (Option C)} (hN : (cs.length == 1 && rcs.length == 1) = true) (hret : retOf rcs = r) (hW : WX GG [0, 1, 2] Tryz.f141.ntmps [none] [(.give, 2, some (true, 7))] c_I_cloneToken rcs cs os) : Valid PP GG F_I_cloneToken cs r os :=
  fn_valid_n 1 1 _ _ _ _ rcs Tryz.func141 rfl rfl (by kernel_rfl) k_I_cloneToken rfl rfl hN hret hW
def c_slices_Index___int_int__0 : ACode := .reg [o1 (.var 4) (.mv (.const (.d (.int .i64 0))))] false
def c_slices_Index___int_int__1 : ACode := .reg [o1 (.loc 6) (.mv (.var 0)),
  o1 (.var 7) (.len false (.loc 6)),
  o1 (.var 8) (.mv (.const (.d (.int .i64 0))))] false
def c_slices_Index___int_int__2 : ACode := .reg [o1 (.var 9) (.bin .int .lss (.var 8) (.var 7))] false
def c_slices_Index___int_int__3 : ACode := .reg [o1 (.loc 10) (.mv (.var 8)),
  o1 (.var 5) (.mv (.loc 10))] false
def c_slices_Index___int_int__4 : ACode := .reg [o1 (.loc 11) (.mv (.var 1)),
  o1 (.loc 12) (.mv (.var 0)),
  o1 (.loc 13) (.mv (.var 5)),
  o1 (.loc 14) (.idxA 1 (.loc 12) (.loc 13)),
  o1 (.loc 15) (.load false 1 (.loc 14)),
  o1 (.var 16) (.bin .int .eql (.loc 11) (.loc 15))] false
def c_slices_Index___int_int__5 : ACode := .reg [o1 (.loc 17) (.mv (.var 5)),
  o1 (.var 4) (.mv (.loc 17))] false
def c_slices_Index___int_int__6 : ACode := .reg [o1 (.loc 18) (.bin .int .add (.var 8) (.const (.d (.int .i64 1)))),
  o1 (.var 8) (.mv (.loc 18))] false
def c_slices_Index___int_int__7 : ACode := (.seq c_slices_Index___int_int__2 (.seq (.cond (.var 9) .skip (.exit 0)) (.seq (.block 1 (.seq c_slices_Index___int_int__3 (.seq c_slices_Index___int_int__4 (.cond (.var 16) (.seq c_slices_Index___int_int__5 .ret) .skip)))) c_slices_Index___int_int__6)))
def c_slices_Index___int_int__8 : ACode := .reg [o1 (.var 4) (.mv (.const (.d (.int .i64 (-1)))))] false
def c_slices_Index___int_int_ : ACode := (.seq c_slices_Index___int_int__0 (.seq (.seq c_slices_Index___int_int__1 (.block 0 (.loop [0, 1, 7, 8] c_slices_Index___int_int__7))) (.seq c_slices_Index___int_int__8 .ret)))
abbrev F_slices_Index___int_int_ : FuncId := 142
theorem k_slices_Index___int_int_ : comp PP (Tryz.f142.ntmps, pinOf 0 [none, none]) [0, 1, 4, 5, 7, 8, 9, 16] (Tryz.f142.body.getD .skip) = some c_slices_Index___int_int_.erase := by kernel_rfl
theorem v_slices_Index___int_int_ {GG : GV} (rcs : List C) {cs : List C} {r : C} {os : List (Option C)} (hN : (cs.length == 2 && rcs.length == 1) = true) (hret : retOf rcs = r) (hW : WX GG [0, 1, 4, 5, 7, 8, 9, 16] Tryz.f142.ntmps [none, none] [(.give, 4, none)] c_slices_Index___int_int_ rcs cs os) : Valid PP GG F_slices_Index___int_int_ cs r os :=
  fn_valid_n 2 1 _ _ _ _ rcs Tryz.func142 rfl rfl (by kernel_rfl) k_slices_Index___int_int_ rfl rfl hN hret hW
def c_slices_IndexFunc___impl_Lease_impl_Lease__0 : ACode := .reg [o1 (.var 4) (.mv (.const (.d (.int .i64 0))))] false
def c_slices_IndexFunc___impl_Lease_impl_Lease__1 : ACode := .reg [o1 (.loc 6) (.mv (.var 0)),
  o1 (.var 7) (.len false (.loc 6)),
  o1 (.var 8) (.mv (.const (.d (.int .i64 0))))] false
def c_slices_IndexFunc___impl_Lease_impl_Lease__2 : ACode := .reg [o1 (.var 9) (.bin .int .lss (.var 8) (.var 7))] false
def c_slices_IndexFunc___impl_Lease_impl_Lease__3 : ACode := .reg [o1 (.loc 10) (.mv (.var 8)),
  o1 (.var 5) (.mv (.loc 10))] false
def c_slices_IndexFunc___impl_Lease_impl_Lease__4 : ACode := .reg [o1 (.loc 11) (.mv (.var 1)),
  o1 (.loc 12) (.mv (.var 0)),
  o1 (.loc 13) (.mv (.var 5)),
  o1 (.loc 14) (.idxA 6 (.loc 12) (.loc 13)),
  o1 (.loc 15) (.load true 6 (.loc 14)),
  o1 (.var 16) (.call (.loc 11) [(.loc 15)] [.borrow])] false
def c_slices_IndexFunc___impl_Lease_impl_Lease__5 : ACode := .reg [o1 (.loc 17) (.mv (.var 5)),
  o1 (.var 4) (.mv (.loc 17))] false
def c_slices_IndexFunc___impl_Lease_impl_Lease__6 : ACode := .reg [o1 (.loc 18) (.bin .int .add (.var 8) (.const (.d (.int .i64 1)))),
  o1 (.var 8) (.mv (.loc 18))] false
def c_slices_IndexFunc___impl_Lease_impl_Lease__7 : ACode := (.seq c_slices_IndexFunc___impl_Lease_impl_Lease__2 (.seq (.cond (.var 9) .skip (.exit 0)) (.seq (.block 1 (.seq c_slices_IndexFunc___impl_Lease_impl_Lease__3 (.seq c_slices_IndexFunc___impl_Lease_impl_Lease__4 (.cond (.var 16) (.seq c_slices_IndexFunc___impl_Lease_impl_Lease__5 .ret) .skip)))) c_slices_IndexFunc___impl_Lease_impl_Lease__6)))
def c_slices_IndexFunc___impl_Lease_impl_Lease__8 : ACode := .reg [o1 (.var 4) (.mv (.const (.d (.int .i64 (-1)))))] false
def c_slices_IndexFunc___impl_Lease_impl_Lease_ : ACode := (.seq c_slices_IndexFunc___impl_Lease_impl_Lease__0 (.seq (.seq c_slices_IndexFunc___impl_Lease_impl_Lease__1 (.block 0 (.loop [0, 1, 7, 8] c_slices_IndexFunc___impl_Lease_impl_Lease__7))) (.seq c_slices_IndexFunc___impl_Lease_impl_Lease__8 .ret)))
abbrev F_slices_IndexFunc___impl_Lease_impl_Lease_ : FuncId := 162
theorem k_slices_IndexFunc___impl_Lease_impl_Lease_ : comp PP (Tryz.f162.ntmps, pinOf 0 [none, none]) [0, 1, 4, 5, 7, 8, 9, 16] (Tryz.f162.body.getD .skip) = some c_slices_IndexFunc___impl_Lease_impl_Lease_.erase := by kernel_rfl
theorem v_slices_IndexFunc___impl_Lease_impl_Lease_ {GG : GV} (rcs : List C) {cs : List C} {r : C} {os : List (Option C)} (hN : (cs.length == 2 && rcs.length == 1) = true) (hret : retOf rcs = r) (hW : WX GG [0, 1, 4, 5, 7, 8, 9, 16] Tryz.f162.ntmps [none, none] [(.give, 4, none)] c_slices_IndexFunc___impl_Lease_impl_Lease_ rcs cs os) : Valid PP GG F_slices_IndexFunc___impl_Lease_impl_Lease_ cs r os :=
  fn_valid_n 2 1 _ _ _ _ rcs Tryz.func162 rfl rfl (by kernel_rfl) k_slices_IndexFunc___impl_Lease_impl_Lease_ rfl rfl hN hret hW
def c_I_leaseIndex_c1_0 : ACode := .reg [o1 (.var 2) (.box (.var 0)),
  o1 (.var 3) (.mv (.const (.d (.bool false))))] false
def c_I_leaseIndex_c1_1 : ACode := .reg [o1 (.loc 4) (.fld 0 (.var 2)),
  o1 (.loc 5) (.load false 1 (.loc 4)),
  o1 (.loc 6) (.load false 1 (.var 1)),
  o1 (.loc 7) (.bin .int .eql (.loc 5) (.loc 6)),
  o1 (.var 3) (.mv (.loc 7))] false
def c_I_leaseIndex_c1 : ACode := (.seq c_I_leaseIndex_c1_0 (.seq c_I_leaseIndex_c1_1 .ret))
abbrev F_I_leaseIndex_c1 : FuncId := 163
theorem k_I_leaseIndex_c1 : comp PP (Tryz.f163.ntmps, pinOf 0 [none]) [0, 1, 2, 3] (Tryz.f163.body.getD .skip) = some c_I_leaseIndex_c1.erase := by kernel_rfl
theorem v_I_leaseIndex_c1 {GG : GV} (rcs : List C) {cs : List C} {r : C} {os : List (Option C)} (hN : (cs.length == 2 && rcs.length == 1) = true) (hret : retOf rcs = r) (hW : WX GG [0, 1, 2, 3] Tryz.f163.ntmps [none] [(.give, 3, none)] c_I_leaseIndex_c1 rcs cs os) : Valid PP GG F_I_leaseIndex_c1 cs r os :=
  fn_valid_n 2 1 _ _ _ _ rcs Tryz.func163 rfl rfl (by kernel_rfl) k_I_leaseIndex_c1 rfl rfl hN hret hW
def c_slices_IndexFunc___impl_Token_impl_Token__0 : ACode := .reg [o1 (.var 4) (.mv (.const (.d (.int .i64 0))))] false
def c_slices_IndexFunc___impl_Token_impl_Token__1 : ACode := .reg [o1 (.loc 6) (.mv (.var 0)),
  o1 (.var 7) (.len false (.loc 6)),
  o1 (.var 8) (.mv (.const (.d (.int .i64 0))))] false
def c_slices_IndexFunc___impl_Token_impl_Token__2 : ACode := .reg [o1 (.var 9) (.bin .int .lss (.var 8) (.var 7))] false
def c_slices_IndexFunc___impl_Token_impl_Token__3 : ACode := .reg [o1 (.loc 10) (.mv (.var 8)),
  o1 (.var 5) (.mv (.loc 10))] false
def c_slices_IndexFunc___impl_Token_impl_Token__4 : ACode := .reg [o1 (.loc 11) (.mv (.var 1)),
  o1 (.loc 12) (.mv (.var 0)),
  o1 (.loc 13) (.mv (.var 5)),
  o1 (.loc 14) (.idxA 7 (.loc 12) (.loc 13)),
  o1 (.loc 15) (.load true 7 (.loc 14)),
  o1 (.var 16) (.call (.loc 11) [(.loc 15)] [.borrow])] false
def c_slices_IndexFunc___impl_Token_impl_Token__5 : ACode := .reg [o1 (.loc 17) (.mv (.var 5)),
  o1 (.var 4) (.mv (.loc 17))] false
def c_slices_IndexFunc___impl_Token_impl_Token__6 : ACode := .reg [o1 (.loc 18) (.bin .int .add (.var 8) (.const (.d (.int .i64 1)))),
  o1 (.var 8) (.mv (.loc 18))] false
def c_slices_IndexFunc___impl_Token_impl_Token__7 : ACode := (.seq c_slices_IndexFunc___impl_Token_impl_Token__2 (.seq (.cond (.var 9) .skip (.exit 0)) (.seq (.block 1 (.seq c_slices_IndexFunc___impl_Token_impl_Token__3 (.seq c_slices_IndexFunc___impl_Token_impl_Token__4 (.cond (.var 16) (.seq c_slices_IndexFunc___impl_Token_impl_Token__5 .ret) .skip)))) c_slices_IndexFunc___impl_Token_impl_Token__6)))
def c_slices_IndexFunc___impl_Token_impl_Token__8 : ACode := .reg [o1 (.var 4) (.mv (.const (.d (.int .i64 (-1)))))] false
def c_slices_IndexFunc___impl_Token_impl_Token_ : ACode := (.seq c_slices_IndexFunc___impl_Token_impl_Token__0 (.seq (.seq c_slices_IndexFunc___impl_Token_impl_Token__1 (.block 0 (.loop [0, 1, 7, 8] c_slices_IndexFunc___impl_Token_impl_Token__7))) (.seq c_slices_IndexFunc___impl_Token_impl_Token__8 .ret)))
abbrev F_slices_IndexFunc___impl_Token_impl_Token_ : FuncId := 169
theorem k_slices_IndexFunc___impl_Token_impl_Token_ : comp PP (Tryz.f169.ntmps, pinOf 0 [none, none]) [0, 1, 4, 5, 7, 8, 9, 16] (Tryz.f169.body.getD .skip) = some c_slices_IndexFunc___impl_Token_impl_Token_.erase := by kernel_rfl
theorem v_slices_IndexFunc___impl_Token_impl_Token_ {GG : GV} (rcs : List C) {cs : List C} {r : C} {os : List (Option C)} (hN : (cs.length == 2 && rcs.length == 1) = true) (hret : retOf rcs = r) (hW : WX GG [0, 1, 4, 5, 7, 8, 9, 16] Tryz.f169.ntmps [none, none] [(.give, 4, none)] c_slices_IndexFunc___impl_Token_impl_Token_ rcs cs os) : Valid PP GG F_slices_IndexFunc___impl_Token_impl_Token_ cs r os :=
  fn_valid_n 2 1 _ _ _ _ rcs Tryz.func169 rfl rfl (by kernel_rfl) k_slices_IndexFunc___impl_Token_impl_Token_ rfl rfl hN hret hW
def c_I_tokenIndex_c1_0 : ACode := .reg [o1 (.var 2) (.box (.var 0)),
  o1 (.var 3) (.mv (.const (.d (.bool false))))] false
def c_I_tokenIndex_c1_1 : ACode := .reg [o1 (.loc 4) (.fld 0 (.var 2)),
  o1 (.loc 5) (.load false 1 (.loc 4)),
  o1 (.loc 6) (.load false 1 (.var 1)),
  o1 (.loc 7) (.bin .int .eql (.loc 5) (.loc 6)),
  o1 (.var 3) (.mv (.loc 7))] false
def c_I_tokenIndex_c1 : ACode := (.seq c_I_tokenIndex_c1_0 (.seq c_I_tokenIndex_c1_1 .ret))
abbrev F_I_tokenIndex_c1 : FuncId := 170
theorem k_I_tokenIndex_c1 : comp PP (Tryz.f170.ntmps, pinOf 0 [none]) [0, 1, 2, 3] (Tryz.f170.body.getD .skip) = some c_I_tokenIndex_c1.erase := by kernel_rfl
theorem v_I_tokenIndex_c1 {GG : GV} (rcs : List C) {cs : List C} {r : C} {os : List (Option C)} (hN : (cs.length == 2 && rcs.length == 1) = true) (hret : retOf rcs = r) (hW : WX GG [0, 1, 2, 3] Tryz.f170.ntmps [none] [(.give, 3, none)] c_I_tokenIndex_c1 rcs cs os) : Valid PP GG F_I_tokenIndex_c1 cs r os :=
  fn_valid_n 2 1 _ _ _ _ rcs Tryz.func170 rfl rfl (by kernel_rfl) k_I_tokenIndex_c1 rfl rfl hN hret hW
def c_L_szToken_0 : ACode := .reg [o1 (.var 2) (.box (.var 0)),
  o1 (.var 4) (.mv (.const (.d (.int .i64 0))))] false
def c_L_szToken_1 : ACode := .reg [o1 (.loc 5) (.fld 2 (.var 2)),
  o1 (.loc 6) (.load false 1 (.loc 5)),
  o1 (.loc 7) (.mv (.var 1)),
  o1 (.loc 8) (.call (.fn 219) [(.loc 6), (.loc 7)] [.borrow, .borrow]),
  o1 (.var 1) (.mv (.loc 8))] false
def c_L_szToken_2 : ACode := .reg [o1 (.loc 9) (.mv (.var 1)),
  o1 (.var 10) (.bin .int .lss (.loc 9) (.const (.d (.int .i64 0))))] false
def c_L_szToken_3 : ACode := .reg [o1 (.var 4) (.mv (.const (.d (.int .i64 (-1)))))] false
def c_L_szToken_4 : ACode := .reg [o1 (.loc 11) (.mv (.var 1)),
  o1 (.var 4) (.mv (.loc 11))] false
def c_L_szToken : ACode := (.seq c_L_szToken_0 (.seq c_L_szToken_1 (.seq (.seq c_L_szToken_2 (.cond (.var 10) (.seq c_L_szToken_3 .ret) .skip)) (.seq c_L_szToken_4 .ret))))
abbrev F_L_szToken : FuncId := 181
theorem k_L_szToken : comp PP (Tryz.f181.ntmps, pinOf 0 [none, none]) [0, 1, 2, 4, 10] (Tryz.f181.body.getD .skip) = some c_L_szToken.erase := by kernel_rfl
theorem v_L_szToken {GG : GV} (rcs : List C) {cs : List C} {r : C} {os : List (Option C)} (hN : (cs.length == 2 && rcs.length == 1) = true) (hret : retOf rcs = r) (hW : WX GG [0, 1, 2, 4, 10] Tryz.f181.ntmps [none, none] [(.give, 4, none)] c_L_szToken rcs cs os) : Valid PP GG F_L_szToken cs r os :=
  fn_valid_n 2 1 _ _ _ _ rcs Tryz.func181 rfl rfl (by kernel_rfl) k_L_szToken rfl rfl hN hret hW
def c_L_szLease_0 : ACode := .reg [o1 (.var 2) (.box (.var 0)),
  o1 (.var 4) (.mv (.const (.d (.int .i64 0))))] false
def c_L_szLease_1 : ACode := .reg [o1 (.loc 5) (.mv (.var 1)),
  o1 (.loc 6) (.fld 2 (.var 2)),
  o1 (.loc 7) (.load false 1 (.loc 6)),
  o1 (.loc 8) (.len true (.loc 7)),
  o1 (.loc 9) (.bin .int .sub (.loc 5) (.loc 8)),
  o1 (.var 1) (.mv (.loc 9))] false
def c_L_szLease_2 : ACode := .reg [o1 (.loc 10) (.mv (.var 1)),
  o1 (.var 11) (.bin .int .lss (.loc 10) (.const (.d (.int .i64 0))))] false
def c_L_szLease_3 : ACode := .reg [o1 (.var 4) (.mv (.const (.d (.int .i64 (-1)))))] false
def c_L_szLease_4 : ACode := .reg [o1 (.loc 12) (.mv (.var 1)),
  o1 (.var 4) (.mv (.loc 12))] false
def c_L_szLease : ACode := (.seq c_L_szLease_0 (.seq c_L_szLease_1 (.seq (.seq c_L_szLease_2 (.cond (.var 11) (.seq c_L_szLease_3 .ret) .skip)) (.seq c_L_szLease_4 .ret))))
abbrev F_L_szLease : FuncId := 182
theorem k_L_szLease : comp PP (Tryz.f182.ntmps, pinOf 0 [none, none]) [0, 1, 2, 4, 11] (Tryz.f182.body.getD .skip) = some c_L_szLease.erase := by kernel_rfl
theorem v_L_szLease {GG : GV} (rcs : List C) {cs : List C} {r : C} {os : List (Option C)} (hN : (cs.length == 2 && rcs.length == 1) = true) (hret : retOf rcs = r) (hW : WX GG [0, 1, 2, 4, 11] Tryz.f182.ntmps [none, none] [(.give, 4, none)] c_L_szLease rcs cs os) : Valid PP GG F_L_szLease cs r os :=
  fn_valid_n 2 1 _ _ _ _ rcs Tryz.func182 rfl rfl (by kernel_rfl) k_L_szLease rfl rfl hN hret hW
def c_L_szUser_0 : ACode := .reg [o1 (.var 2) (.box (.var 0)),
  o1 (.var 4) (.mv (.const (.d (.int .i64 0))))] false
def c_L_szUser_1 : ACode := .reg [o1 (.loc 5) (.mv (.var 1)),
  o1 (.loc 6) (.fld 0 (.var 2)),
  o1 (.loc 7) (.load false 1 (.loc 6)),
  o1 (.loc 8) (.len true (.loc 7)),
  o1 (.loc 9) (.bin .int .sub (.loc 5) (.loc 8)),
  o1 (.var 1) (.mv (.loc 9))] false
def c_L_szUser_2 : ACode := .reg [o1 (.loc 10) (.mv (.var 1)),
  o1 (.var 11) (.bin .int .lss (.loc 10) (.const (.d (.int .i64 0))))] false
def c_L_szUser_3 : ACode := .reg [o1 (.var 4) (.mv (.const (.d (.int .i64 (-1)))))] false
def c_L_szUser_4 : ACode := .reg [o1 (.loc 12) (.mv (.var 1)),
  o1 (.loc 13) (.fld 1 (.var 2)),
  o1 (.loc 14) (.load false 1 (.loc 13)),
  o1 (.loc 15) (.len true (.loc 14)),
  o1 (.loc 16) (.bin .int .sub (.loc 12) (.loc 15)),
  o1 (.var 1) (.mv (.loc 16))] false
def c_L_szUser_5 : ACode := .reg [o1 (.loc 17) (.mv (.var 1)),
  o1 (.var 18) (.bin .int .lss (.loc 17) (.const (.d (.int .i64 0))))] false
def c_L_szUser_6 : ACode := .reg [o1 (.var 4) (.mv (.const (.d (.int .i64 (-1)))))] false
def c_L_szUser_7 : ACode := .reg [o1 (.loc 19) (.mv (.var 1)),
  o1 (.var 4) (.mv (.loc 19))] false
def c_L_szUser : ACode := (.seq c_L_szUser_0 (.seq c_L_szUser_1 (.seq (.seq c_L_szUser_2 (.cond (.var 11) (.seq c_L_szUser_3 .ret) .skip)) (.seq c_L_szUser_4 (.seq (.seq c_L_szUser_5 (.cond (.var 18) (.seq c_L_szUser_6 .ret) .skip)) (.seq c_L_szUser_7 .ret))))))
abbrev F_L_szUser : FuncId := 183
theorem k_L_szUser : comp PP (Tryz.f183.ntmps, pinOf 0 [none, none]) [0, 1, 2, 4, 11, 18] (Tryz.f183.body.getD .skip) = some c_L_szUser.erase := by kernel_rfl
theorem v_L_szUser {GG : GV} (rcs : List C) {cs : List C} {r : C} {os : List (Option C)} (hN : (cs.length == 2 && rcs.length == 1) = true) (hret : retOf rcs = r) (hW : WX GG [0, 1, 2, 4, 11, 18] Tryz.f183.ntmps [none, none] [(.give, 4, none)] c_L_szUser rcs cs os) : Valid PP GG F_L_szUser cs r os :=
  fn_valid_n 2 1 _ _ _ _ rcs Tryz.func183 rfl rfl (by kernel_rfl) k_L_szUser rfl rfl hN hret hW
def c_L_szJob_0 : ACode := .reg [o1 (.var 2) (.box (.var 0)),
  o1 (.var 4) (.mv (.const (.d (.int .i64 0))))] false
def c_L_szJob_1 : ACode := .reg [o1 (.loc 5) (.mv (.var 1)),
  o1 (.loc 6) (.fld 0 (.var 2)),
  o1 (.loc 7) (.load false 1 (.loc 6)),
  o1 (.loc 8) (.len true (.loc 7)),
  o1 (.loc 9) (.bin .int .sub (.loc 5) (.loc 8)),
  o1 (.var 1) (.mv (.loc 9))] false
def c_L_szJob_2 : ACode := .reg [o1 (.loc 10) (.mv (.var 1)),
  o1 (.var 11) (.bin .int .lss (.loc 10) (.const (.d (.int .i64 0))))] false
def c_L_szJob_3 : ACode := .reg [o1 (.var 4) (.mv (.const (.d (.int .i64 (-1)))))] false
def c_L_szJob_4 : ACode := .reg [o1 (.loc 12) (.mv (.var 1)),
  o1 (.var 4) (.mv (.loc 12))] false
def c_L_szJob : ACode := (.seq c_L_szJob_0 (.seq c_L_szJob_1 (.seq (.seq c_L_szJob_2 (.cond (.var 11) (.seq c_L_szJob_3 .ret) .skip)) (.seq c_L_szJob_4 .ret))))
abbrev F_L_szJob : FuncId := 184
theorem k_L_szJob : comp PP (Tryz.f184.ntmps, pinOf 0 [none, none]) [0, 1, 2, 4, 11] (Tryz.f184.body.getD .skip) = some c_L_szJob.erase := by kernel_rfl
theorem v_L_szJob {GG : GV} (rcs : List C) {cs : List C} {r : C} {os : List (Option C)} (hN : (cs.length == 2 && rcs.length == 1) = true) (hret : retOf rcs = r) (hW : WX GG [0, 1, 2, 4, 11] Tryz.f184.ntmps [none, none] [(.give, 4, none)] c_L_szJob rcs cs os) : Valid PP GG F_L_szJob cs r os :=
  fn_valid_n 2 1 _ _ _ _ rcs Tryz.func184 rfl rfl (by kernel_rfl) k_L_szJob rfl rfl hN hret hW
def c_S_l08Names_0 : ACode := .reg [o1 (.var 2) (.mv (.const (.d (.bool false))))] false
def c_S_l08Names_1 : ACode := .reg [o1 (.loc 4) (.mv (.var 0)),
  o1 (.loc 5) (.len false (.loc 4)),
  o1 (.var 6) (.bin .int .gtr (.loc 5) (.const (.d (.int .i64 6))))] false
def c_S_l08Names_2 : ACode := .reg [o1 (.var 2) (.mv (.const (.d (.bool false))))] false
def c_S_l08Names_3 : ACode := .reg [o1 (.var 3) (.mv (.const (.d (.int .i64 0))))] false
def c_S_l08Names_4 : ACode := .reg [o1 (.loc 7) (.mv (.var 3)),
  o1 (.loc 8) (.mv (.var 0)),
  o1 (.loc 9) (.len false (.loc 8)),
  o1 (.var 10) (.bin .int .lss (.loc 7) (.loc 9))] false
def c_S_l08Names_5 : ACode := .reg [o1 (.loc 13) (.mv (.var 0)),
  o1 (.loc 14) (.mv (.var 3)),
  ⟨.loc 15, .idxA 1 (.loc 13) (.loc 14), none, [0, 1]⟩,
  ⟨.loc 16, .load false 1 (.loc 15), none, [2, 0, 1]⟩,
  ⟨.loc 17, .call (.fn 55) [(.loc 16)] [.borrow], none, [3, 2, 0, 1]⟩,
  ⟨.loc 18, .un .not (.loc 17), none, [4, 3, 2, 0, 1]⟩,
  ⟨.loc 19, .split (.loc 18), none, [5, 4, 3, 2, 0, 1]⟩,
  ⟨.loc 20, .mv (.var 3), some ((.loc 19), false), [6, 5, 4, 3, 2, 0, 1]⟩,
  ⟨.loc 21, .bin .int .gtr (.loc 20) (.const (.d (.int .i64 0))), some ((.loc 19), false), [7, 6, 5, 4, 3, 2, 0, 1]⟩,
  ⟨.loc 22, .split (.loc 21), some ((.loc 19), false), [8, 7, 6, 5, 4, 3, 2, 0, 1]⟩,
  ⟨.loc 23, .mv (.var 0), some ((.loc 22), true), [9, 8, 7, 6, 5, 4, 3, 2, 0, 1]⟩,
  ⟨.loc 24, .mv (.var 3), some ((.loc 22), true), [9, 8, 7, 6, 5, 4, 3, 2, 0, 1]⟩,
  ⟨.loc 25, .bin .int .sub (.loc 24) (.const (.d (.int .i64 1))), some ((.loc 22), true), [11, 9, 8, 7, 6, 5, 4, 3, 2, 0, 1]⟩,
  ⟨.loc 26, .idxA 1 (.loc 23) (.loc 25), some ((.loc 22), true), [10, 12, 11, 9, 8, 7, 6, 5, 4, 3, 2, 0, 1]⟩,
  ⟨.loc 27, .load false 1 (.loc 26), some ((.loc 22), true), [13, 10, 12, 11, 9, 8, 7, 6, 5, 4, 3, 2, 0, 1]⟩,
  ⟨.loc 28, .mv (.var 0), some ((.loc 22), true), [9, 8, 7, 6, 5, 4, 3, 2, 0, 1]⟩,
  ⟨.loc 29, .mv (.var 3), some ((.loc 22), true), [9, 8, 7, 6, 5, 4, 3, 2, 0, 1]⟩,
  ⟨.loc 30, .idxA 1 (.loc 28) (.loc 29), some ((.loc 22), true), [15, 16, 9, 8, 7, 6, 5, 4, 3, 2, 0, 1]⟩,
  ⟨.loc 31, .load false 1 (.loc 30), some ((.loc 22), true), [17, 15, 16, 9, 8, 7, 6, 5, 4, 3, 2, 0, 1]⟩,
  ⟨.loc 32, .bin .str .geq (.loc 27) (.loc 31), some ((.loc 22), true), [14, 13, 10, 12, 11, 18, 17, 15, 16, 9, 8, 7, 6, 5, 4, 3, 2, 0, 1]⟩,
  ⟨.loc 33, .pick (.loc 22) (.loc 32) (.const (.d (.bool false))), some ((.loc 19), false), [19, 14, 13, 10, 12, 11, 18, 17, 15, 16, 9, 8, 7, 6, 5, 4, 3, 2, 0, 1]⟩,
  ⟨.var 34, .pick (.loc 19) (.const (.d (.bool true))) (.loc 33), none, [20, 19, 14, 13, 10, 12, 11, 18, 17, 15, 16, 9, 8, 7, 6, 5, 4, 3, 2, 0, 1]⟩] true
def c_S_l08Names_6 : ACode := .reg [o1 (.var 2) (.mv (.const (.d (.bool false))))] false
def c_S_l08Names_7 : ACode := .reg [o1 (.loc 11) (.mv (.var 3)),
  o1 (.loc 12) (.bin .int .add (.loc 11) (.const (.d (.int .i64 1)))),
  o1 (.var 3) (.mv (.loc 12))] false
def c_S_l08Names_8 : ACode := (.seq (.seq c_S_l08Names_4 (.cond (.var 10) .skip (.exit 0))) (.seq (.block 1 (.seq c_S_l08Names_5 (.cond (.var 34) (.seq c_S_l08Names_6 .ret) .skip))) c_S_l08Names_7))
def c_S_l08Names_9 : ACode := .reg [o1 (.var 2) (.mv (.const (.d (.bool true))))] false
def c_S_l08Names : ACode := (.seq c_S_l08Names_0 (.seq (.seq c_S_l08Names_1 (.cond (.var 6) (.seq c_S_l08Names_2 .ret) .skip)) (.seq (.seq c_S_l08Names_3 (.block 0 (.loop [0, 3] c_S_l08Names_8))) (.seq c_S_l08Names_9 .ret))))
abbrev F_S_l08Names : FuncId := 185
theorem k_S_l08Names : comp PP (Tryz.f185.ntmps, pinOf 0 [none]) [0, 2, 3, 6, 10, 34] (Tryz.f185.body.getD .skip) = some c_S_l08Names.erase := by kernel_rfl
theorem v_S_l08Names {GG : GV} (rcs : List C) {cs : List C} {r : C} {os : List (Option C)} (hN : (cs.length == 1 && rcs.length == 1) = true) (hret : retOf rcs = r) (hW : WX GG [0, 2, 3, 6, 10, 34] Tryz.f185.ntmps [none] [(.give, 2, none)] c_S_l08Names rcs cs os) : Valid PP GG F_S_l08Names cs r os :=
  fn_valid_n 1 1 _ _ _ _ rcs Tryz.func185 rfl rfl (by kernel_rfl) k_S_l08Names rfl rfl hN hret hW
def c_S_PathOk_0 : ACode := .reg [o1 (.var 2) (.mv (.const (.d (.bool false))))] false
def c_S_PathOk_1 : ACode := .reg [o1 (.loc 4) (.mv (.var 0)),
  o1 (.loc 5) (.call (.fn 220) [(.loc 4)] [.borrow]),
  o1 (.var 6) (.un .not (.loc 5))] false
def c_S_PathOk_2 : ACode := .reg [o1 (.var 2) (.mv (.const (.d (.bool false))))] false
def c_S_PathOk_3 : ACode := .reg [o1 (.var 3) (.mv (.const (.d (.int .i64 0))))] false
def c_S_PathOk_4 : ACode := .reg [o1 (.loc 7) (.mv (.var 3)),
  o1 (.loc 8) (.mv (.var 0)),
  o1 (.loc 9) (.len true (.loc 8)),
  o1 (.var 10) (.bin .int .lss (.loc 7) (.loc 9))] false
def c_S_PathOk_5 : ACode := .reg [o1 (.loc 13) (.mv (.var 0)),
  o1 (.loc 14) (.mv (.var 3)),
  o1 (.loc 15) (.idxS (.loc 13) (.loc 14)),
  o1 (.loc 16) (.bin .int .eql (.loc 15) (.const (.d (.int .u8 43)))),
  o1 (.loc 17) (.split (.loc 16)),
  ⟨.loc 18, .mv (.var 0), some ((.loc 17), false), []⟩,
  ⟨.loc 19, .mv (.var 3), some ((.loc 17), false), []⟩,
  ⟨.loc 20, .idxS (.loc 18) (.loc 19), some ((.loc 17), false), []⟩,
  ⟨.loc 21, .bin .int .eql (.loc 20) (.const (.d (.int .u8 42))), some ((.loc 17), false), []⟩,
  o1 (.var 22) (.pick (.loc 17) (.const (.d (.bool true))) (.loc 21))] false
def c_S_PathOk_6 : ACode := .reg [o1 (.var 2) (.mv (.const (.d (.bool false))))] false
def c_S_PathOk_7 : ACode := .reg [o1 (.loc 11) (.mv (.var 3)),
  o1 (.loc 12) (.bin .int .add (.loc 11) (.const (.d (.int .i64 1)))),
  o1 (.var 3) (.mv (.loc 12))] false
def c_S_PathOk_8 : ACode := (.seq (.seq c_S_PathOk_4 (.cond (.var 10) .skip (.exit 0))) (.seq (.block 1 (.seq c_S_PathOk_5 (.cond (.var 22) (.seq c_S_PathOk_6 .ret) .skip))) c_S_PathOk_7))
def c_S_PathOk_9 : ACode := .reg [o1 (.var 2) (.mv (.const (.d (.bool true))))] false
def c_S_PathOk : ACode := (.seq c_S_PathOk_0 (.seq (.seq c_S_PathOk_1 (.cond (.var 6) (.seq c_S_PathOk_2 .ret) .skip)) (.seq (.seq c_S_PathOk_3 (.block 0 (.loop [0, 3] c_S_PathOk_8))) (.seq c_S_PathOk_9 .ret))))
abbrev F_S_PathOk : FuncId := 186
theorem k_S_PathOk : comp PP (Tryz.f186.ntmps, pinOf 0 [none]) [0, 2, 3, 6, 10, 22] (Tryz.f186.body.getD .skip) = some c_S_PathOk.erase := by kernel_rfl
theorem v_S_PathOk {GG : GV} (rcs : List C) {cs : List C} {r : C} {os : List (Option C)} (hN : (cs.length == 1 && rcs.length == 1) = true) (hret : retOf rcs = r) (hW : WX GG [0, 2, 3, 6, 10, 22] Tryz.f186.ntmps [none] [(.give, 2, none)] c_S_PathOk rcs cs os) : Valid PP GG F_S_PathOk cs r os :=
  fn_valid_n 1 1 _ _ _ _ rcs Tryz.func186 rfl rfl (by kernel_rfl) k_S_PathOk rfl rfl hN hret hW
def c_L_toToken_0 : ACode := .reg [o1 (.var 1) (.box (.var 0)),
  o1 (.var 2) (.alloc [.d (.int .i64 0), .d (.int .i64 0), .nil 0 1, .d (.int .i64 0), .d (.int .i64 0), .d (.int .i64 0), .d (.int .i64 0)])] false
def c_L_toToken_1 : ACode := .reg [o1 (.var 3) (.alloc [.d (.int .i64 0), .d (.int .i64 0), .nil 0 1, .d (.int .i64 0), .d (.int .i64 0), .d (.int .i64 0), .d (.int .i64 0)])] false
def c_L_toToken_2 : ACode := .reg [o1 (.loc 4) (.fld 0 (.var 1)),
  o1 (.loc 5) (.load false 1 (.loc 4)),
  o1 (.loc 6) (.fld 0 (.var 3)),
  o1 .none (.store 1 (.loc 6) (.loc 5))] false
def c_L_toToken_3 : ACode := .reg [o1 (.loc 7) (.fld 1 (.var 1)),
  o1 (.loc 8) (.load false 1 (.loc 7)),
  o1 (.loc 9) (.fld 1 (.var 3)),
  o1 .none (.store 1 (.loc 9) (.loc 8))] false
def c_L_toToken_4 : ACode := .reg [o1 (.loc 10) (.fld 2 (.var 1)),
  o1 (.loc 11) (.load false 1 (.loc 10)),
  o1 (.loc 12) (.call (.fn 221) [(.loc 11)] [.borrow]),
  o1 (.loc 13) (.fld 2 (.var 3)),
  o1 .none (.store 1 (.loc 13) (.loc 12))] false
def c_L_toToken_5 : ACode := .reg [o1 (.loc 14) (.fld 3 (.var 1)),
  o1 (.loc 15) (.load false 1 (.loc 14)),
  o1 (.loc 16) (.fld 3 (.var 3)),
  o1 .none (.store 1 (.loc 16) (.loc 15))] false
def c_L_toToken_6 : ACode := .reg [o1 (.loc 17) (.fld 4 (.var 1)),
  o1 (.loc 18) (.load false 1 (.loc 17)),
  o1 (.loc 19) (.fld 4 (.var 3)),
  o1 .none (.store 1 (.loc 19) (.loc 18))] false
def c_L_toToken_7 : ACode := .reg [o1 (.loc 20) (.fld 5 (.var 1)),
  o1 (.loc 21) (.load false 1 (.loc 20)),
  o1 (.loc 22) (.fld 5 (.var 3)),
  o1 .none (.store 1 (.loc 22) (.loc 21))] false
def c_L_toToken_8 : ACode := .reg [o1 (.loc 23) (.fld 6 (.var 1)),
  o1 (.loc 24) (.load false 1 (.loc 23)),
  o1 (.loc 25) (.fld 6 (.var 3)),
  o1 .none (.store 1 (.loc 25) (.loc 24))] false
def c_L_toToken_9 : ACode := .reg [o1 (.loc 26) (.load true 7 (.var 3)),
  o1 .none (.store 7 (.var 2) (.loc 26))] false
def c_L_toToken : ACode := (.seq c_L_toToken_0 (.seq c_L_toToken_1 (.seq c_L_toToken_2 (.seq c_L_toToken_3 (.seq c_L_toToken_4 (.seq c_L_toToken_5 (.seq c_L_toToken_6 (.seq c_L_toToken_7 (.seq c_L_toToken_8 (.seq c_L_toToken_9 .ret))))))))))
abbrev F_L_toToken : FuncId := 187
theorem k_L_toToken : comp PP (Tryz.f187.ntmps, pinOf 0 [none]) [0, 1, 2, 3] (Tryz.f187.body.getD .skip) = some c_L_toToken.erase := by kernel_rfl
theorem v_L_toToken {GG : GV} (rcs : List C) {cs : List C} {r : C} {os : List (Option C)} (hN : (cs.length == 1 && rcs.length == 1) = true) (hret : retOf rcs = r) (hW : WX GG [0, 1, 2, 3] Tryz.f187.ntmps [none] [(.give, 2, some (true, 7))] c_L_toToken rcs cs os) : Valid PP GG F_L_toToken cs r os :=
  fn_valid_n 1 1 _ _ _ _ rcs Tryz.func187 rfl rfl (by kernel_rfl) k_L_toToken rfl rfl hN hret hW
def c_L_toLease_0 : ACode := .reg [o1 (.var 1) (.box (.var 0)),
  o1 (.var 2) (.alloc [.d (.int .i64 0), .d (.int .i64 0), .d (.str []), .d (.int .i64 0), .d (.int .i64 0), .d (.int .i64 0)])] false
def c_L_toLease_1 : ACode := .reg [o1 (.var 3) (.alloc [.d (.int .i64 0), .d (.int .i64 0), .d (.str []), .d (.int .i64 0), .d (.int .i64 0), .d (.int .i64 0)])] false
def c_L_toLease_2 : ACode := .reg [o1 (.loc 4) (.fld 0 (.var 1)),
  o1 (.loc 5) (.load false 1 (.loc 4)),
  o1 (.loc 6) (.fld 0 (.var 3)),
  o1 .none (.store 1 (.loc 6) (.loc 5))] false
def c_L_toLease_3 : ACode := .reg [o1 (.loc 7) (.fld 1 (.var 1)),
  o1 (.loc 8) (.load false 1 (.loc 7)),
  o1 (.loc 9) (.fld 1 (.var 3)),
  o1 .none (.store 1 (.loc 9) (.loc 8))] false
def c_L_toLease_4 : ACode := .reg [o1 (.loc 10) (.fld 2 (.var 1)),
  o1 (.loc 11) (.load false 1 (.loc 10)),
  o1 (.loc 12) (.fld 2 (.var 3)),
  o1 .none (.store 1 (.loc 12) (.loc 11))] false
def c_L_toLease_5 : ACode := .reg [o1 (.loc 13) (.fld 3 (.var 1)),
  o1 (.loc 14) (.load false 1 (.loc 13)),
  o1 (.loc 15) (.fld 3 (.var 3)),
  o1 .none (.store 1 (.loc 15) (.loc 14))] false
def c_L_toLease_6 : ACode := .reg [o1 (.loc 16) (.fld 4 (.var 1)),
  o1 (.loc 17) (.load false 1 (.loc 16)),
  o1 (.loc 18) (.fld 4 (.var 3)),
  o1 .none (.store 1 (.loc 18) (.loc 17))] false
def c_L_toLease_7 : ACode := .reg [o1 (.loc 19) (.fld 5 (.var 1)),
  o1 (.loc 20) (.load false 1 (.loc 19)),
  o1 (.loc 21) (.fld 5 (.var 3)),
  o1 .none (.store 1 (.loc 21) (.loc 20))] false
def c_L_toLease_8 : ACode := .reg [o1 (.loc 22) (.load true 6 (.var 3)),
  o1 .none (.store 6 (.var 2) (.loc 22))] false
def c_L_toLease : ACode := (.seq c_L_toLease_0 (.seq c_L_toLease_1 (.seq c_L_toLease_2 (.seq c_L_toLease_3 (.seq c_L_toLease_4 (.seq c_L_toLease_5 (.seq c_L_toLease_6 (.seq c_L_toLease_7 (.seq c_L_toLease_8 .ret)))))))))
abbrev F_L_toLease : FuncId := 188
theorem k_L_toLease : comp PP (Tryz.f188.ntmps, pinOf 0 [none]) [0, 1, 2, 3] (Tryz.f188.body.getD .skip) = some c_L_toLease.erase := by kernel_rfl
theorem v_L_toLease {GG : GV} (rcs : List C) {cs : List C} {r : C} {os : List (Option C)} (hN : (cs.length == 1 && rcs.length == 1) = true) (hret : retOf rcs = r) (hW : WX GG [0, 1, 2, 3] Tryz.f188.ntmps [none] [(.give, 2, some (true, 6))] c_L_toLease rcs cs os) : Valid PP GG F_L_toLease cs r os :=
  fn_valid_n 1 1 _ _ _ _ rcs Tryz.func188 rfl rfl (by kernel_rfl) k_L_toLease rfl rfl hN hret hW
def c_L_toUser_0 : ACode := .reg [o1 (.var 1) (.box (.var 0)),
  o1 (.var 2) (.alloc [.d (.str []), .d (.str [])])] false
def c_L_toUser_1 : ACode := .reg [o1 (.var 3) (.alloc [.d (.str []), .d (.str [])])] false
def c_L_toUser_2 : ACode := .reg [o1 (.loc 4) (.fld 0 (.var 1)),
  o1 (.loc 5) (.load false 1 (.loc 4)),
  o1 (.loc 6) (.fld 0 (.var 3)),
  o1 .none (.store 1 (.loc 6) (.loc 5))] false
def c_L_toUser_3 : ACode := .reg [o1 (.loc 7) (.fld 1 (.var 1)),
  o1 (.loc 8) (.load false 1 (.loc 7)),
  o1 (.loc 9) (.fld 1 (.var 3)),
  o1 .none (.store 1 (.loc 9) (.loc 8))] false
def c_L_toUser_4 : ACode := .reg [o1 (.loc 10) (.load true 2 (.var 3)),
  o1 .none (.store 2 (.var 2) (.loc 10))] false
def c_L_toUser : ACode := (.seq c_L_toUser_0 (.seq c_L_toUser_1 (.seq c_L_toUser_2 (.seq c_L_toUser_3 (.seq c_L_toUser_4 .ret)))))
abbrev F_L_toUser : FuncId := 189
theorem k_L_toUser : comp PP (Tryz.f189.ntmps, pinOf 0 [none]) [0, 1, 2, 3] (Tryz.f189.body.getD .skip) = some c_L_toUser.erase := by kernel_rfl
theorem v_L_toUser {GG : GV} (rcs : List C) {cs : List C} {r : C} {os : List (Option C)} (hN : (cs.length == 1 && rcs.length == 1) = true) (hret : retOf rcs = r) (hW : WX GG [0, 1, 2, 3] Tryz.f189.ntmps [none] [(.give, 2, some (true, 2))] c_L_toUser rcs cs os) : Valid PP GG F_L_toUser cs r os :=
  fn_valid_n 1 1 _ _ _ _ rcs Tryz.func189 rfl rfl (by kernel_rfl) k_L_toUser rfl rfl hN hret hW
def c_L_toJob_0 : ACode := .reg [o1 (.var 1) (.box (.var 0)),
  o1 (.var 2) (.alloc [.d (.str []), .d (.int .i64 0), .d (.int .i64 0)])] false
def c_L_toJob_1 : ACode := .reg [o1 (.var 3) (.alloc [.d (.str []), .d (.int .i64 0), .d (.int .i64 0)])] false
def c_L_toJob_2 : ACode := .reg [o1 (.loc 4) (.fld 0 (.var 1)),
  o1 (.loc 5) (.load false 1 (.loc 4)),
  o1 (.loc 6) (.fld 0 (.var 3)),
  o1 .none (.store 1 (.loc 6) (.loc 5))] false
def c_L_toJob_3 : ACode := .reg [o1 (.loc 7) (.fld 1 (.var 1)),
  o1 (.loc 8) (.load false 1 (.loc 7)),
  o1 (.loc 9) (.fld 1 (.var 3)),
  o1 .none (.store 1 (.loc 9) (.loc 8))] false
def c_L_toJob_4 : ACode := .reg [o1 (.loc 10) (.fld 2 (.var 1)),
  o1 (.loc 11) (.load false 1 (.loc 10)),
  o1 (.loc 12) (.fld 2 (.var 3)),
  o1 .none (.store 1 (.loc 12) (.loc 11))] false
def c_L_toJob_5 : ACode := .reg [o1 (.loc 13) (.load true 3 (.var 3)),
  o1 .none (.store 3 (.var 2) (.loc 13))] false
def c_L_toJob : ACode := (.seq c_L_toJob_0 (.seq c_L_toJob_1 (.seq c_L_toJob_2 (.seq c_L_toJob_3 (.seq c_L_toJob_4 (.seq c_L_toJob_5 .ret))))))
abbrev F_L_toJob : FuncId := 190
theorem k_L_toJob : comp PP (Tryz.f190.ntmps, pinOf 0 [none]) [0, 1, 2, 3] (Tryz.f190.body.getD .skip) = some c_L_toJob.erase := by kernel_rfl
theorem v_L_toJob {GG : GV} (rcs : List C) {cs : List C} {r : C} {os : List (Option C)} (hN : (cs.length == 1 && rcs.length == 1) = true) (hret : retOf rcs = r) (hW : WX GG [0, 1, 2, 3] Tryz.f190.ntmps [none] [(.give, 2, some (true, 3))] c_L_toJob rcs cs os) : Valid PP GG F_L_toJob cs r os :=
  fn_valid_n 1 1 _ _ _ _ rcs Tryz.func190 rfl rfl (by kernel_rfl) k_L_toJob rfl rfl hN hret hW
def c_I_isToken_0 : ACode := .reg [o1 (.var 1) (.box (.var 0)),
  o1 (.var 2) (.mv (.const (.d (.bool false))))] false
def c_I_isToken_1 : ACode := .reg [o1 (.loc 5) (.fld 4 (.var 1)),
  o1 (.loc 6) (.load false 1 (.loc 5)),
  o1 (.loc 7) (.bin .int .eql (.loc 6) (.const (.d (.int .i64 0)))),
  o1 (.loc 8) (.split (.loc 7)),
  ⟨.loc 9, .fld 4 (.var 1), some ((.loc 8), false), []⟩,
  ⟨.loc 10, .load false 1 (.loc 9), some ((.loc 8), false), []⟩,
  ⟨.loc 11, .fld 3 (.var 1), some ((.loc 8), false), []⟩,
  ⟨.loc 12, .load false 1 (.loc 11), some ((.loc 8), false), []⟩,
  ⟨.loc 13, .bin .int .add (.loc 12) (.const (.d (.int .i64 1))), some ((.loc 8), false), []⟩,
  ⟨.loc 14, .call (.fn 103) [(.loc 10), (.loc 13), (.const (.d (.int .i64 1000000000)))] [.borrow, .borrow, .borrow], some ((.loc 8), false), []⟩,
  o1 (.loc 15) (.pick (.loc 8) (.const (.d (.bool true))) (.loc 14)),
  o1 (.var 3) (.mv (.loc 15))] false
def c_I_isToken_2 : ACode := .reg [o1 (.loc 16) (.fld 5 (.var 1)),
  o1 (.loc 17) (.load false 1 (.loc 16)),
  o1 (.loc 18) (.bin .int .eql (.loc 17) (.const (.d (.int .i64 0)))),
  o1 (.loc 19) (.split (.loc 18)),
  ⟨.loc 20, .fld 5 (.var 1), some ((.loc 19), false), []⟩,
  ⟨.loc 21, .load false 1 (.loc 20), some ((.loc 19), false), []⟩,
  ⟨.loc 22, .fld 3 (.var 1), some ((.loc 19), false), []⟩,
  ⟨.loc 23, .load false 1 (.loc 22), some ((.loc 19), false), []⟩,
  ⟨.loc 24, .bin .int .add (.loc 23) (.const (.d (.int .i64 1))), some ((.loc 19), false), []⟩,
  ⟨.loc 25, .call (.fn 103) [(.loc 21), (.loc 24), (.const (.d (.int .i64 1000000000)))] [.borrow, .borrow, .borrow], some ((.loc 19), false), []⟩,
  ⟨.loc 26, .split (.loc 25), some ((.loc 19), false), []⟩,
  ⟨.loc 27, .fld 4 (.var 1), some ((.loc 26), true), []⟩,
  ⟨.loc 28, .load false 1 (.loc 27), some ((.loc 26), true), []⟩,
  ⟨.loc 29, .bin .int .neq (.loc 28) (.const (.d (.int .i64 0))), some ((.loc 26), true), []⟩,
  ⟨.loc 30, .pick (.loc 26) (.loc 29) (.const (.d (.bool false))), some ((.loc 19), false), []⟩,
  ⟨.loc 31, .split (.loc 30), some ((.loc 19), false), []⟩,
  ⟨.loc 32, .fld 4 (.var 1), some ((.loc 31), true), []⟩,
  ⟨.loc 33, .load false 1 (.loc 32), some ((.loc 31), true), []⟩,
  ⟨.loc 34, .fld 5 (.var 1), some ((.loc 31), true), []⟩,
  ⟨.loc 35, .load false 1 (.loc 34), some ((.loc 31), true), []⟩,
  ⟨.loc 36, .bin .int .leq (.loc 33) (.loc 35), some ((.loc 31), true), []⟩,
  ⟨.loc 37, .pick (.loc 31) (.loc 36) (.const (.d (.bool false))), some ((.loc 19), false), []⟩,
  o1 (.loc 38) (.pick (.loc 19) (.const (.d (.bool true))) (.loc 37)),
  o1 (.var 4) (.mv (.loc 38))] false
def c_I_isToken_3 : ACode := .reg [o1 (.loc 39) (.fld 0 (.var 1)),
  o1 (.loc 40) (.load false 1 (.loc 39)),
  o1 (.loc 41) (.call (.fn 103) [(.loc 40), (.const (.d (.int .i64 1))), (.const (.d (.int .i64 1000000000)))] [.borrow, .borrow, .borrow]),
  o1 (.loc 42) (.split (.loc 41)),
  ⟨.loc 43, .fld 1 (.var 1), some ((.loc 42), true), []⟩,
  ⟨.loc 44, .load false 1 (.loc 43), some ((.loc 42), true), []⟩,
  ⟨.loc 45, .fld 0 (.var 1), some ((.loc 42), true), []⟩,
  ⟨.loc 46, .load false 1 (.loc 45), some ((.loc 42), true), []⟩,
  ⟨.loc 47, .bin .int .sub (.loc 46) (.const (.d (.int .i64 1))), some ((.loc 42), true), []⟩,
  ⟨.loc 48, .call (.fn 103) [(.loc 44), (.const (.d (.int .i64 0))), (.loc 47)] [.borrow, .borrow, .borrow], some ((.loc 42), true), []⟩,
  o1 (.loc 49) (.pick (.loc 42) (.loc 48) (.const (.d (.bool false)))),
  o1 (.loc 50) (.split (.loc 49)),
  ⟨.loc 51, .fld 2 (.var 1), some ((.loc 50), true), []⟩,
  ⟨.loc 52, .load false 1 (.loc 51), some ((.loc 50), true), []⟩,
  ⟨.loc 53, .call (.fn 222) [(.loc 52)] [.borrow], some ((.loc 50), true), []⟩,
  o1 (.loc 54) (.pick (.loc 50) (.loc 53) (.const (.d (.bool false)))),
  o1 (.loc 55) (.split (.loc 54)),
  ⟨.loc 56, .fld 3 (.var 1), some ((.loc 55), true), []⟩,
  ⟨.loc 57, .load false 1 (.loc 56), some ((.loc 55), true), []⟩,
  ⟨.loc 58, .call (.fn 103) [(.loc 57), (.const (.d (.int .i64 0))), (.const (.d (.int .i64 1000000000)))] [.borrow, .borrow, .borrow], some ((.loc 55), true), []⟩,
  o1 (.loc 59) (.pick (.loc 55) (.loc 58) (.const (.d (.bool false)))),
  o1 (.loc 60) (.split (.loc 59)),
  ⟨.loc 61, .mv (.var 3), some ((.loc 60), true), []⟩,
  o1 (.loc 62) (.pick (.loc 60) (.loc 61) (.const (.d (.bool false)))),
  o1 (.loc 63) (.split (.loc 62)),
  ⟨.loc 64, .mv (.var 4), some ((.loc 63), true), []⟩,
  o1 (.loc 65) (.pick (.loc 63) (.loc 64) (.const (.d (.bool false)))),
  o1 (.loc 66) (.split (.loc 65)),
  ⟨.loc 67, .fld 6 (.var 1), some ((.loc 66), true), []⟩,
  ⟨.loc 68, .load false 1 (.loc 67), some ((.loc 66), true), []⟩,
  ⟨.loc 69, .call (.fn 103) [(.loc 68), (.const (.d (.int .i64 0))), (.const (.d (.int .i64 1000)))] [.borrow, .borrow, .borrow], some ((.loc 66), true), []⟩,
  o1 (.loc 70) (.pick (.loc 66) (.loc 69) (.const (.d (.bool false)))),
  o1 (.var 2) (.mv (.loc 70))] false
def c_I_isToken : ACode := (.seq c_I_isToken_0 (.seq c_I_isToken_1 (.seq c_I_isToken_2 (.seq c_I_isToken_3 .ret))))
abbrev F_I_isToken : FuncId := 191
theorem k_I_isToken : comp PP (Tryz.f191.ntmps, pinOf 0 [none]) [0, 1, 2, 3, 4] (Tryz.f191.body.getD .skip) = some c_I_isToken.erase := by kernel_rfl
theorem v_I_isToken {GG : GV} (rcs : List C) {cs : List C} {r : C} {os : List (Option C)} (hN : (cs.length == 1 && rcs.length == 1) = true) (hret : retOf rcs = r) (hW : WX GG [0, 1, 2, 3, 4] Tryz.f191.ntmps [none] [(.give, 2, none)] c_I_isToken rcs cs os) : Valid PP GG F_I_isToken cs r os :=
  fn_valid_n 1 1 _ _ _ _ rcs Tryz.func191 rfl rfl (by kernel_rfl) k_I_isToken rfl rfl hN hret hW
def c_I_isLease_0 : ACode := .reg [o1 (.var 1) (.box (.var 0)),
  o1 (.var 2) (.mv (.const (.d (.bool false))))] false
def c_I_isLease_1 : ACode := .reg [o1 (.loc 3) (.fld 0 (.var 1)),
  o1 (.loc 4) (.load false 1 (.loc 3)),
  o1 (.loc 5) (.call (.fn 103) [(.loc 4), (.const (.d (.int .i64 1))), (.const (.d (.int .i64 1000000000)))] [.borrow, .borrow, .borrow]),
  o1 (.loc 6) (.split (.loc 5)),
  ⟨.loc 7, .fld 1 (.var 1), some ((.loc 6), true), []⟩,
  ⟨.loc 8, .load false 1 (.loc 7), some ((.loc 6), true), []⟩,
  ⟨.loc 9, .call (.fn 103) [(.loc 8), (.const (.d (.int .i64 0))), (.const (.d (.int .i64 1000000000)))] [.borrow, .borrow, .borrow], some ((.loc 6), true), []⟩,
  o1 (.loc 10) (.pick (.loc 6) (.loc 9) (.const (.d (.bool false)))),
  o1 (.loc 11) (.split (.loc 10)),
  ⟨.loc 12, .fld 2 (.var 1), some ((.loc 11), true), []⟩,
  ⟨.loc 13, .load false 1 (.loc 12), some ((.loc 11), true), []⟩,
  ⟨.loc 14, .call (.fn 223) [(.loc 13)] [.borrow], some ((.loc 11), true), []⟩,
  o1 (.loc 15) (.pick (.loc 11) (.loc 14) (.const (.d (.bool false)))),
  o1 (.loc 16) (.split (.loc 15)),
  ⟨.loc 17, .fld 3 (.var 1), some ((.loc 16), true), []⟩,
  ⟨.loc 18, .load false 1 (.loc 17), some ((.loc 16), true), []⟩,
  ⟨.loc 19, .call (.fn 103) [(.loc 18), (.const (.d (.int .i64 0))), (.const (.d (.int .i64 1000000000)))] [.borrow, .borrow, .borrow], some ((.loc 16), true), []⟩,
  o1 (.loc 20) (.pick (.loc 16) (.loc 19) (.const (.d (.bool false)))),
  o1 (.loc 21) (.split (.loc 20)),
  ⟨.loc 22, .fld 5 (.var 1), some ((.loc 21), true), []⟩,
  ⟨.loc 23, .load false 1 (.loc 22), some ((.loc 21), true), []⟩,
  ⟨.loc 24, .fld 3 (.var 1), some ((.loc 21), true), []⟩,
  ⟨.loc 25, .load false 1 (.loc 24), some ((.loc 21), true), []⟩,
  ⟨.loc 26, .bin .int .add (.loc 25) (.const (.d (.int .i64 1))), some ((.loc 21), true), []⟩,
  ⟨.loc 27, .call (.fn 103) [(.loc 23), (.loc 26), (.const (.d (.int .i64 1000000000)))] [.borrow, .borrow, .borrow], some ((.loc 21), true), []⟩,
  o1 (.loc 28) (.pick (.loc 21) (.loc 27) (.const (.d (.bool false)))),
  o1 (.loc 29) (.split (.loc 28)),
  ⟨.loc 30, .fld 4 (.var 1), some ((.loc 29), true), []⟩,
  ⟨.loc 31, .load false 1 (.loc 30), some ((.loc 29), true), []⟩,
  ⟨.loc 32, .fld 3 (.var 1), some ((.loc 29), true), []⟩,
  ⟨.loc 33, .load false 1 (.loc 32), some ((.loc 29), true), []⟩,
  ⟨.loc 34, .bin .int .add (.loc 33) (.const (.d (.int .i64 1))), some ((.loc 29), true), []⟩,
  ⟨.loc 35, .fld 5 (.var 1), some ((.loc 29), true), []⟩,
  ⟨.loc 36, .load false 1 (.loc 35), some ((.loc 29), true), []⟩,
  ⟨.loc 37, .call (.fn 103) [(.loc 31), (.loc 34), (.loc 36)] [.borrow, .borrow, .borrow], some ((.loc 29), true), []⟩,
  o1 (.loc 38) (.pick (.loc 29) (.loc 37) (.const (.d (.bool false)))),
  o1 (.var 2) (.mv (.loc 38))] false
def c_I_isLease : ACode := (.seq c_I_isLease_0 (.seq c_I_isLease_1 .ret))
abbrev F_I_isLease : FuncId := 192
theorem k_I_isLease : comp PP (Tryz.f192.ntmps, pinOf 0 [none]) [0, 1, 2] (Tryz.f192.body.getD .skip) = some c_I_isLease.erase := by kernel_rfl
theorem v_I_isLease {GG : GV} (rcs : List C) {cs : List C} {r : C} {os : List (Option C)} (hN : (cs.length == 1 && rcs.length == 1) = true) (hret : retOf rcs = r) (hW : WX GG [0, 1, 2] Tryz.f192.ntmps [none] [(.give, 2, none)] c_I_isLease rcs cs os) : Valid PP GG F_I_isLease cs r os :=
  fn_valid_n 1 1 _ _ _ _ rcs Tryz.func192 rfl rfl (by kernel_rfl) k_I_isLease rfl rfl hN hret hW
def c_I_onlyOf_0 : ACode := .reg [o1 (.var 4) (.mv (.const (.d (.bool false))))] false
def c_I_onlyOf_1 : ACode := .reg [o1 (.loc 6) (.mv (.var 0)),
  o1 (.var 7) (.len true (.loc 6)),
  o1 (.var 8) (.mv (.const (.d (.int .i64 0))))] false
def c_I_onlyOf_2 : ACode := .reg [o1 (.var 9) (.bin .int .lss (.var 8) (.var 7))] false
def c_I_onlyOf_3 : ACode := .reg [o1 (.loc 10) (.mv (.var 8)),
  o1 (.var 5) (.mv (.loc 10))] false
def c_I_onlyOf_4 : ACode := .reg [o1 (.loc 11) (.mv (.var 1)),
  o1 (.loc 12) (.mv (.var 0)),
  o1 (.loc 13) (.mv (.var 5)),
  o1 (.loc 14) (.idxS (.loc 12) (.loc 13)),
  o1 (.loc 15) (.call (.fn 224) [(.loc 11), (.loc 14)] [.borrow, .borrow]),
  o1 (.var 16) (.bin .int .lss (.loc 15) (.const (.d (.int .i64 0))))] false
def c_I_onlyOf_5 : ACode := .reg [o1 (.var 4) (.mv (.const (.d (.bool false))))] false
def c_I_onlyOf_6 : ACode := .reg [o1 (.loc 17) (.bin .int .add (.var 8) (.const (.d (.int .i64 1)))),
  o1 (.var 8) (.mv (.loc 17))] false
def c_I_onlyOf_7 : ACode := (.seq c_I_onlyOf_2 (.seq (.cond (.var 9) .skip (.exit 0)) (.seq (.block 1 (.seq c_I_onlyOf_3 (.seq c_I_onlyOf_4 (.cond (.var 16) (.seq c_I_onlyOf_5 .ret) .skip)))) c_I_onlyOf_6)))
def c_I_onlyOf_8 : ACode := .reg [o1 (.var 4) (.mv (.const (.d (.bool true))))] false
def c_I_onlyOf : ACode := (.seq c_I_onlyOf_0 (.seq (.seq c_I_onlyOf_1 (.block 0 (.loop [0, 1, 7, 8] c_I_onlyOf_7))) (.seq c_I_onlyOf_8 .ret)))
abbrev F_I_onlyOf : FuncId := 193
theorem k_I_onlyOf : comp PP (Tryz.f193.ntmps, pinOf 0 [none, none]) [0, 1, 4, 5, 7, 8, 9, 16] (Tryz.f193.body.getD .skip) = some c_I_onlyOf.erase := by kernel_rfl
theorem v_I_onlyOf {GG : GV} (rcs : List C) {cs : List C} {r : C} {os : List (Option C)} (hN : (cs.length == 2 && rcs.length == 1) = true) (hret : retOf rcs = r) (hW : WX GG [0, 1, 4, 5, 7, 8, 9, 16] Tryz.f193.ntmps [none, none] [(.give, 4, none)] c_I_onlyOf rcs cs os) : Valid PP GG F_I_onlyOf cs r os :=
  fn_valid_n 2 1 _ _ _ _ rcs Tryz.func193 rfl rfl (by kernel_rfl) k_I_onlyOf rfl rfl hN hret hW
def c_L_eqToken_0 : ACode := .reg [o1 (.var 2) (.box (.var 0)),
  o1 (.var 3) (.box (.var 1)),
  o1 (.var 4) (.mv (.const (.d (.bool false))))] false
def c_L_eqToken_1 : ACode := .reg [o1 (.loc 5) (.fld 0 (.var 2)),
  o1 (.loc 6) (.load false 1 (.loc 5)),
  o1 (.loc 7) (.fld 0 (.var 3)),
  o1 (.loc 8) (.load false 1 (.loc 7)),
  o1 (.var 9) (.bin .int .neq (.loc 6) (.loc 8))] false
def c_L_eqToken_2 : ACode := .reg [o1 (.var 4) (.mv (.const (.d (.bool false))))] false
def c_L_eqToken_3 : ACode := .reg [o1 (.loc 10) (.fld 1 (.var 2)),
  o1 (.loc 11) (.load false 1 (.loc 10)),
  o1 (.loc 12) (.fld 1 (.var 3)),
  o1 (.loc 13) (.load false 1 (.loc 12)),
  o1 (.var 14) (.bin .int .neq (.loc 11) (.loc 13))] false
def c_L_eqToken_4 : ACode := .reg [o1 (.var 4) (.mv (.const (.d (.bool false))))] false
def c_L_eqToken_5 : ACode := .reg [o1 (.loc 15) (.fld 2 (.var 2)),
  o1 (.loc 16) (.load false 1 (.loc 15)),
  o1 (.loc 17) (.fld 2 (.var 3)),
  o1 (.loc 18) (.load false 1 (.loc 17)),
  o1 (.loc 19) (.call (.fn 18) [(.loc 16), (.loc 18)] [.borrow, .borrow]),
  o1 (.var 20) (.un .not (.loc 19))] false
def c_L_eqToken_6 : ACode := .reg [o1 (.var 4) (.mv (.const (.d (.bool false))))] false
def c_L_eqToken_7 : ACode := .reg [o1 (.loc 21) (.fld 3 (.var 2)),
  o1 (.loc 22) (.load false 1 (.loc 21)),
  o1 (.loc 23) (.fld 3 (.var 3)),
  o1 (.loc 24) (.load false 1 (.loc 23)),
  o1 (.var 25) (.bin .int .neq (.loc 22) (.loc 24))] false
def c_L_eqToken_8 : ACode := .reg [o1 (.var 4) (.mv (.const (.d (.bool false))))] false
def c_L_eqToken_9 : ACode := .reg [o1 (.loc 26) (.fld 4 (.var 2)),
  o1 (.loc 27) (.load false 1 (.loc 26)),
  o1 (.loc 28) (.fld 4 (.var 3)),
  o1 (.loc 29) (.load false 1 (.loc 28)),
  o1 (.var 30) (.bin .int .neq (.loc 27) (.loc 29))] false
def c_L_eqToken_10 : ACode := .reg [o1 (.var 4) (.mv (.const (.d (.bool false))))] false
def c_L_eqToken_11 : ACode := .reg [o1 (.loc 31) (.fld 5 (.var 2)),
  o1 (.loc 32) (.load false 1 (.loc 31)),
  o1 (.loc 33) (.fld 5 (.var 3)),
  o1 (.loc 34) (.load false 1 (.loc 33)),
  o1 (.var 35) (.bin .int .neq (.loc 32) (.loc 34))] false
def c_L_eqToken_12 : ACode := .reg [o1 (.var 4) (.mv (.const (.d (.bool false))))] false
def c_L_eqToken_13 : ACode := .reg [o1 (.loc 36) (.fld 6 (.var 2)),
  o1 (.loc 37) (.load false 1 (.loc 36)),
  o1 (.loc 38) (.fld 6 (.var 3)),
  o1 (.loc 39) (.load false 1 (.loc 38)),
  o1 (.var 40) (.bin .int .neq (.loc 37) (.loc 39))] false
def c_L_eqToken_14 : ACode := .reg [o1 (.var 4) (.mv (.const (.d (.bool false))))] false
def c_L_eqToken_15 : ACode := .reg [o1 (.var 4) (.mv (.const (.d (.bool true))))] false
def c_L_eqToken : ACode := (.seq c_L_eqToken_0 (.seq (.seq c_L_eqToken_1 (.cond (.var 9) (.seq c_L_eqToken_2 .ret) .skip)) (.seq (.seq c_L_eqToken_3 (.cond (.var 14) (.seq c_L_eqToken_4 .ret) .skip)) (.seq (.seq c_L_eqToken_5 (.cond (.var 20) (.seq c_L_eqToken_6 .ret) .skip)) (.seq (.seq c_L_eqToken_7 (.cond (.var 25) (.seq c_L_eqToken_8 .ret) .skip)) (.seq (.seq c_L_eqToken_9 (.cond (.var 30) (.seq c_L_eqToken_10 .ret) .skip)) (.seq (.seq c_L_eqToken_11 (.cond (.var 35) (.seq c_L_eqToken_12 .ret) .skip)) (.seq (.seq c_L_eqToken_13 (.cond (.var 40) (.seq c_L_eqToken_14 .ret) .skip)) (.seq c_L_eqToken_15 .ret)))))))))
abbrev F_L_eqToken : FuncId := 194
theorem k_L_eqToken : comp PP (Tryz.f194.ntmps, pinOf 0 [none, none]) [0, 1, 2, 3, 4, 9, 14, 20, 25, 30, 35, 40] (Tryz.f194.body.getD .skip) = some c_L_eqToken.erase := by kernel_rfl
theorem v_L_eqToken {GG : GV} (rcs : List C) {cs : List C} {r : C} {os : List (Option C)} (hN : (cs.length == 2 && rcs.length == 1) = true) (hret : retOf rcs = r) (hW : WX GG [0, 1, 2, 3, 4, 9, 14, 20, 25, 30, 35, 40] Tryz.f194.ntmps [none, none] [(.give, 4, none)] c_L_eqToken rcs cs os) : Valid PP GG F_L_eqToken cs r os :=
  fn_valid_n 2 1 _ _ _ _ rcs Tryz.func194 rfl rfl (by kernel_rfl) k_L_eqToken rfl rfl hN hret hW
def c_L_eqLease_0 : ACode := .reg [o1 (.var 2) (.box (.var 0)),
  o1 (.var 3) (.box (.var 1)),
  o1 (.var 4) (.mv (.const (.d (.bool false))))] false
def c_L_eqLease_1 : ACode := .reg [o1 (.loc 5) (.fld 0 (.var 2)),
  o1 (.loc 6) (.load false 1 (.loc 5)),
  o1 (.loc 7) (.fld 0 (.var 3)),
  o1 (.loc 8) (.load false 1 (.loc 7)),
  o1 (.var 9) (.bin .int .neq (.loc 6) (.loc 8))] false
def c_L_eqLease_2 : ACode := .reg [o1 (.var 4) (.mv (.const (.d (.bool false))))] false
def c_L_eqLease_3 : ACode := .reg [o1 (.loc 10) (.fld 1 (.var 2)),
  o1 (.loc 11) (.load false 1 (.loc 10)),
  o1 (.loc 12) (.fld 1 (.var 3)),
  o1 (.loc 13) (.load false 1 (.loc 12)),
  o1 (.var 14) (.bin .int .neq (.loc 11) (.loc 13))] false
def c_L_eqLease_4 : ACode := .reg [o1 (.var 4) (.mv (.const (.d (.bool false))))] false
def c_L_eqLease_5 : ACode := .reg [o1 (.loc 15) (.fld 2 (.var 2)),
  o1 (.loc 16) (.load false 1 (.loc 15)),
  o1 (.loc 17) (.fld 2 (.var 3)),
  o1 (.loc 18) (.load false 1 (.loc 17)),
  o1 (.var 19) (.bin .str .neq (.loc 16) (.loc 18))] false
def c_L_eqLease_6 : ACode := .reg [o1 (.var 4) (.mv (.const (.d (.bool false))))] false
def c_L_eqLease_7 : ACode := .reg [o1 (.loc 20) (.fld 3 (.var 2)),
  o1 (.loc 21) (.load false 1 (.loc 20)),
  o1 (.loc 22) (.fld 3 (.var 3)),
  o1 (.loc 23) (.load false 1 (.loc 22)),
  o1 (.var 24) (.bin .int .neq (.loc 21) (.loc 23))] false
def c_L_eqLease_8 : ACode := .reg [o1 (.var 4) (.mv (.const (.d (.bool false))))] false
def c_L_eqLease_9 : ACode := .reg [o1 (.loc 25) (.fld 4 (.var 2)),
  o1 (.loc 26) (.load false 1 (.loc 25)),
  o1 (.loc 27) (.fld 4 (.var 3)),
  o1 (.loc 28) (.load false 1 (.loc 27)),
  o1 (.var 29) (.bin .int .neq (.loc 26) (.loc 28))] false
def c_L_eqLease_10 : ACode := .reg [o1 (.var 4) (.mv (.const (.d (.bool false))))] false
def c_L_eqLease_11 : ACode := .reg [o1 (.loc 30) (.fld 5 (.var 2)),
  o1 (.loc 31) (.load false 1 (.loc 30)),
  o1 (.loc 32) (.fld 5 (.var 3)),
  o1 (.loc 33) (.load false 1 (.loc 32)),
  o1 (.var 34) (.bin .int .neq (.loc 31) (.loc 33))] false
def c_L_eqLease_12 : ACode := .reg [o1 (.var 4) (.mv (.const (.d (.bool false))))] false
def c_L_eqLease_13 : ACode := .reg [o1 (.var 4) (.mv (.const (.d (.bool true))))] false
def c_L_eqLease : ACode := (.seq c_L_eqLease_0 (.seq (.seq c_L_eqLease_1 (.cond (.var 9) (.seq c_L_eqLease_2 .ret) .skip)) (.seq (.seq c_L_eqLease_3 (.cond (.var 14) (.seq c_L_eqLease_4 .ret) .skip)) (.seq (.seq c_L_eqLease_5 (.cond (.var 19) (.seq c_L_eqLease_6 .ret) .skip)) (.seq (.seq c_L_eqLease_7 (.cond (.var 24) (.seq c_L_eqLease_8 .ret) .skip)) (.seq (.seq c_L_eqLease_9 (.cond (.var 29) (.seq c_L_eqLease_10 .ret) .skip)) (.seq (.seq c_L_eqLease_11 (.cond (.var 34) (.seq c_L_eqLease_12 .ret) .skip)) (.seq c_L_eqLease_13 .ret))))))))
abbrev F_L_eqLease : FuncId := 195
theorem k_L_eqLease : comp PP (Tryz.f195.ntmps, pinOf 0 [none, none]) [0, 1, 2, 3, 4, 9, 14, 19, 24, 29, 34] (Tryz.f195.body.getD .skip) = some c_L_eqLease.erase := by kernel_rfl
theorem v_L_eqLease {GG : GV} (rcs : List C) {cs : List C} {r : C} {os : List (Option C)} (hN : (cs.length == 2 && rcs.length == 1) = true) (hret : retOf rcs = r) (hW : WX GG [0, 1, 2, 3, 4, 9, 14, 19, 24, 29, 34] Tryz.f195.ntmps [none, none] [(.give, 4, none)] c_L_eqLease rcs cs os) : Valid PP GG F_L_eqLease cs r os :=
  fn_valid_n 2 1 _ _ _ _ rcs Tryz.func195 rfl rfl (by kernel_rfl) k_L_eqLease rfl rfl hN hret hW
def c_L_eqJob_0 : ACode := .reg [o1 (.var 2) (.box (.var 0)),
  o1 (.var 3) (.box (.var 1)),
  o1 (.var 4) (.mv (.const (.d (.bool false))))] false
def c_L_eqJob_1 : ACode := .reg [o1 (.loc 5) (.fld 0 (.var 2)),
  o1 (.loc 6) (.load false 1 (.loc 5)),
  o1 (.loc 7) (.fld 0 (.var 3)),
  o1 (.loc 8) (.load false 1 (.loc 7)),
  o1 (.var 9) (.bin .str .neq (.loc 6) (.loc 8))] false
def c_L_eqJob_2 : ACode := .reg [o1 (.var 4) (.mv (.const (.d (.bool false))))] false
def c_L_eqJob_3 : ACode := .reg [o1 (.loc 10) (.fld 1 (.var 2)),
  o1 (.loc 11) (.load false 1 (.loc 10)),
  o1 (.loc 12) (.fld 1 (.var 3)),
  o1 (.loc 13) (.load false 1 (.loc 12)),
  o1 (.var 14) (.bin .int .neq (.loc 11) (.loc 13))] false
def c_L_eqJob_4 : ACode := .reg [o1 (.var 4) (.mv (.const (.d (.bool false))))] false
def c_L_eqJob_5 : ACode := .reg [o1 (.loc 15) (.fld 2 (.var 2)),
  o1 (.loc 16) (.load false 1 (.loc 15)),
  o1 (.loc 17) (.fld 2 (.var 3)),
  o1 (.loc 18) (.load false 1 (.loc 17)),
  o1 (.var 19) (.bin .int .neq (.loc 16) (.loc 18))] false
def c_L_eqJob_6 : ACode := .reg [o1 (.var 4) (.mv (.const (.d (.bool false))))] false
def c_L_eqJob_7 : ACode := .reg [o1 (.var 4) (.mv (.const (.d (.bool true))))] false
def c_L_eqJob : ACode := (.seq c_L_eqJob_0 (.seq (.seq c_L_eqJob_1 (.cond (.var 9) (.seq c_L_eqJob_2 .ret) .skip)) (.seq (.seq c_L_eqJob_3 (.cond (.var 14) (.seq c_L_eqJob_4 .ret) .skip)) (.seq (.seq c_L_eqJob_5 (.cond (.var 19) (.seq c_L_eqJob_6 .ret) .skip)) (.seq c_L_eqJob_7 .ret)))))
abbrev F_L_eqJob : FuncId := 196
theorem k_L_eqJob : comp PP (Tryz.f196.ntmps, pinOf 0 [none, none]) [0, 1, 2, 3, 4, 9, 14, 19] (Tryz.f196.body.getD .skip) = some c_L_eqJob.erase := by kernel_rfl
theorem v_L_eqJob {GG : GV} (rcs : List C) {cs : List C} {r : C} {os : List (Option C)} (hN : (cs.length == 2 && rcs.length == 1) = true) (hret : retOf rcs = r) (hW : WX GG [0, 1, 2, 3, 4, 9, 14, 19] Tryz.f196.ntmps [none, none] [(.give, 4, none)] c_L_eqJob rcs cs os) : Valid PP GG F_L_eqJob cs r os :=
  fn_valid_n 2 1 _ _ _ _ rcs Tryz.func196 rfl rfl (by kernel_rfl) k_L_eqJob rfl rfl hN hret hW
def c_slices_IndexFunc___impl_Job_impl_Job__0 : ACode := .reg [o1 (.var 4) (.mv (.const (.d (.int .i64 0))))] false
def c_slices_IndexFunc___impl_Job_impl_Job__1 : ACode := .reg [o1 (.loc 6) (.mv (.var 0)),
  o1 (.var 7) (.len false (.loc 6)),
  o1 (.var 8) (.mv (.const (.d (.int .i64 0))))] false
def c_slices_IndexFunc___impl_Job_impl_Job__2 : ACode := .reg [o1 (.var 9) (.bin .int .lss (.var 8) (.var 7))] false
def c_slices_IndexFunc___impl_Job_impl_Job__3 : ACode := .reg [o1 (.loc 10) (.mv (.var 8)),
  o1 (.var 5) (.mv (.loc 10))] false
def c_slices_IndexFunc___impl_Job_impl_Job__4 : ACode := .reg [o1 (.loc 11) (.mv (.var 1)),
  o1 (.loc 12) (.mv (.var 0)),
  o1 (.loc 13) (.mv (.var 5)),
  o1 (.loc 14) (.idxA 3 (.loc 12) (.loc 13)),
  o1 (.loc 15) (.load true 3 (.loc 14)),
  o1 (.var 16) (.call (.loc 11) [(.loc 15)] [.borrow])] false
def c_slices_IndexFunc___impl_Job_impl_Job__5 : ACode := .reg [o1 (.loc 17) (.mv (.var 5)),
  o1 (.var 4) (.mv (.loc 17))] false
def c_slices_IndexFunc___impl_Job_impl_Job__6 : ACode := .reg [o1 (.loc 18) (.bin .int .add (.var 8) (.const (.d (.int .i64 1)))),
  o1 (.var 8) (.mv (.loc 18))] false
def c_slices_IndexFunc___impl_Job_impl_Job__7 : ACode := (.seq c_slices_IndexFunc___impl_Job_impl_Job__2 (.seq (.cond (.var 9) .skip (.exit 0)) (.seq (.block 1 (.seq c_slices_IndexFunc___impl_Job_impl_Job__3 (.seq c_slices_IndexFunc___impl_Job_impl_Job__4 (.cond (.var 16) (.seq c_slices_IndexFunc___impl_Job_impl_Job__5 .ret) .skip)))) c_slices_IndexFunc___impl_Job_impl_Job__6)))
def c_slices_IndexFunc___impl_Job_impl_Job__8 : ACode := .reg [o1 (.var 4) (.mv (.const (.d (.int .i64 (-1)))))] false
def c_slices_IndexFunc___impl_Job_impl_Job_ : ACode := (.seq c_slices_IndexFunc___impl_Job_impl_Job__0 (.seq (.seq c_slices_IndexFunc___impl_Job_impl_Job__1 (.block 0 (.loop [0, 1, 7, 8] c_slices_IndexFunc___impl_Job_impl_Job__7))) (.seq c_slices_IndexFunc___impl_Job_impl_Job__8 .ret)))
abbrev F_slices_IndexFunc___impl_Job_impl_Job_ : FuncId := 197
theorem k_slices_IndexFunc___impl_Job_impl_Job_ : comp PP (Tryz.f197.ntmps, pinOf 0 [none, none]) [0, 1, 4, 5, 7, 8, 9, 16] (Tryz.f197.body.getD .skip) = some c_slices_IndexFunc___impl_Job_impl_Job_.erase := by kernel_rfl
theorem v_slices_IndexFunc___impl_Job_impl_Job_ {GG : GV} (rcs : List C) {cs : List C} {r : C} {os : List (Option C)} (hN : (cs.length == 2 && rcs.length == 1) = true) (hret : retOf rcs = r) (hW : WX GG [0, 1, 4, 5, 7, 8, 9, 16] Tryz.f197.ntmps [none, none] [(.give, 4, none)] c_slices_IndexFunc___impl_Job_impl_Job_ rcs cs os) : Valid PP GG F_slices_IndexFunc___impl_Job_impl_Job_ cs r os :=
  fn_valid_n 2 1 _ _ _ _ rcs Tryz.func197 rfl rfl (by kernel_rfl) k_slices_IndexFunc___impl_Job_impl_Job_ rfl rfl hN hret hW
def c_L_szStringS_0 : ACode := .reg [o1 (.var 4) (.mv (.const (.d (.int .i64 0))))] false
def c_L_szStringS_1 : ACode := .reg [o1 (.loc 6) (.mv (.var 1)),
  o1 (.loc 7) (.mv (.var 0)),
  o1 (.loc 8) (.len false (.loc 7)),
  o1 (.loc 9) (.bin .int .sub (.loc 6) (.loc 8)),
  o1 (.var 1) (.mv (.loc 9))] false
def c_L_szStringS_2 : ACode := .reg [o1 (.loc 10) (.mv (.var 1)),
  o1 (.var 11) (.bin .int .lss (.loc 10) (.const (.d (.int .i64 0))))] false
def c_L_szStringS_3 : ACode := .reg [o1 (.var 4) (.mv (.const (.d (.int .i64 (-1)))))] false
def c_L_szStringS_4 : ACode := .reg [o1 (.var 5) (.mv (.const (.d (.int .i64 0))))] false
def c_L_szStringS_5 : ACode := .reg [o1 (.loc 12) (.mv (.var 5)),
  o1 (.loc 13) (.mv (.var 0)),
  o1 (.loc 14) (.len false (.loc 13)),
  o1 (.var 15) (.bin .int .lss (.loc 12) (.loc 14))] false
def c_L_szStringS_6 : ACode := .reg [o1 (.loc 18) (.mv (.var 1)),
  o1 (.loc 19) (.mv (.var 0)),
  o1 (.loc 20) (.mv (.var 5)),
  o1 (.loc 21) (.idxA 1 (.loc 19) (.loc 20)),
  o1 (.loc 22) (.load false 1 (.loc 21)),
  o1 (.loc 23) (.len true (.loc 22)),
  o1 (.loc 24) (.bin .int .sub (.loc 18) (.loc 23)),
  o1 (.var 1) (.mv (.loc 24))] false
def c_L_szStringS_7 : ACode := .reg [o1 (.loc 25) (.mv (.var 1)),
  o1 (.var 26) (.bin .int .lss (.loc 25) (.const (.d (.int .i64 0))))] false
def c_L_szStringS_8 : ACode := .reg [o1 (.var 4) (.mv (.const (.d (.int .i64 (-1)))))] false
def c_L_szStringS_9 : ACode := .reg [o1 (.loc 16) (.mv (.var 5)),
  o1 (.loc 17) (.bin .int .add (.loc 16) (.const (.d (.int .i64 1)))),
  o1 (.var 5) (.mv (.loc 17))] false
def c_L_szStringS_10 : ACode := (.seq (.seq c_L_szStringS_5 (.cond (.var 15) .skip (.exit 0))) (.seq (.block 1 (.seq c_L_szStringS_6 (.seq c_L_szStringS_7 (.cond (.var 26) (.seq c_L_szStringS_8 .ret) .skip)))) c_L_szStringS_9))
def c_L_szStringS_11 : ACode := .reg [o1 (.loc 27) (.mv (.var 1)),
  o1 (.var 4) (.mv (.loc 27))] false
def c_L_szStringS : ACode := (.seq c_L_szStringS_0 (.seq c_L_szStringS_1 (.seq (.seq c_L_szStringS_2 (.cond (.var 11) (.seq c_L_szStringS_3 .ret) .skip)) (.seq (.seq c_L_szStringS_4 (.block 0 (.loop [0, 1, 5] c_L_szStringS_10))) (.seq c_L_szStringS_11 .ret)))))
abbrev F_L_szStringS : FuncId := 219
theorem k_L_szStringS : comp PP (Tryz.f219.ntmps, pinOf 0 [none, none]) [0, 1, 4, 5, 11, 15, 26] (Tryz.f219.body.getD .skip) = some c_L_szStringS.erase := by kernel_rfl
theorem v_L_szStringS {GG : GV} (rcs : List C) {cs : List C} {r : C} {os : List (Option C)} (hN : (cs.length == 2 && rcs.length == 1) = true) (hret : retOf rcs = r) (hW : WX GG [0, 1, 4, 5, 11, 15, 26] Tryz.f219.ntmps [none, none] [(.give, 4, none)] c_L_szStringS rcs cs os) : Valid PP GG F_L_szStringS cs r os :=
  fn_valid_n 2 1 _ _ _ _ rcs Tryz.func219 rfl rfl (by kernel_rfl) k_L_szStringS rfl rfl hN hret hW
def c_S_GlobOk_0 : ACode := .reg [o1 (.var 2) (.mv (.const (.d (.bool false))))] false
def c_S_GlobOk_1 : ACode := .reg [o1 (.loc 5) (.mv (.var 0)),
  o1 (.loc 6) (.len true (.loc 5)),
  o1 (.var 7) (.bin .int .gtr (.loc 6) (.const (.d (.int .i64 120))))] false
def c_S_GlobOk_2 : ACode := .reg [o1 (.var 2) (.mv (.const (.d (.bool false))))] false
def c_S_GlobOk_3 : ACode := .reg [o1 (.loc 8) (.mv (.var 0)),
  o1 (.loc 9) (.call (.fn 238) [(.loc 8), (.const (.d (.int .u8 47)))] [.borrow, .borrow]),
  o1 (.var 3) (.mv (.loc 9))] false
def c_S_GlobOk_4 : ACode := .reg [o1 (.var 4) (.mv (.const (.d (.int .i64 0))))] false
def c_S_GlobOk_5 : ACode := .reg [o1 (.loc 10) (.mv (.var 4)),
  o1 (.loc 11) (.mv (.var 3)),
  o1 (.loc 12) (.len false (.loc 11)),
  o1 (.var 13) (.bin .int .lss (.loc 10) (.loc 12))] false
def c_S_GlobOk_6 : ACode := .reg [o1 (.loc 16) (.mv (.var 3)),
  o1 (.loc 17) (.mv (.var 4)),
  o1 (.loc 18) (.idxA 1 (.loc 16) (.loc 17)),
  o1 (.loc 19) (.load false 1 (.loc 18)),
  o1 (.loc 20) (.call (.fn 239) [(.loc 19)] [.borrow]),
  o1 (.loc 21) (.un .not (.loc 20)),
  o1 (.loc 22) (.split (.loc 21)),
  ⟨.loc 23, .mv (.var 3), some ((.loc 22), true), []⟩,
  ⟨.loc 24, .mv (.var 4), some ((.loc 22), true), []⟩,
  ⟨.loc 25, .idxA 1 (.loc 23) (.loc 24), some ((.loc 22), true), []⟩,
  ⟨.loc 26, .load false 1 (.loc 25), some ((.loc 22), true), []⟩,
  ⟨.loc 27, .bin .str .neq (.loc 26) (.const (.d (.str [43]))), some ((.loc 22), true), []⟩,
  o1 (.loc 28) (.pick (.loc 22) (.loc 27) (.const (.d (.bool false)))),
  o1 (.loc 29) (.split (.loc 28)),
  ⟨.loc 30, .mv (.var 3), some ((.loc 29), true), []⟩,
  ⟨.loc 31, .mv (.var 4), some ((.loc 29), true), []⟩,
  ⟨.loc 32, .idxA 1 (.loc 30) (.loc 31), some ((.loc 29), true), []⟩,
  ⟨.loc 33, .load false 1 (.loc 32), some ((.loc 29), true), []⟩,
  ⟨.loc 34, .bin .str .eql (.loc 33) (.const (.d (.str [42]))), some ((.loc 29), true), []⟩,
  ⟨.loc 35, .split (.loc 34), some ((.loc 29), true), []⟩,
  ⟨.loc 36, .mv (.var 4), some ((.loc 35), true), []⟩,
  ⟨.loc 37, .mv (.var 3), some ((.loc 35), true), []⟩,
  ⟨.loc 38, .len false (.loc 37), some ((.loc 35), true), []⟩,
  ⟨.loc 39, .bin .int .sub (.loc 38) (.const (.d (.int .i64 1))), some ((.loc 35), true), []⟩,
  ⟨.loc 40, .bin .int .eql (.loc 36) (.loc 39), some ((.loc 35), true), []⟩,
  ⟨.loc 41, .pick (.loc 35) (.loc 40) (.const (.d (.bool false))), some ((.loc 29), true), []⟩,
  ⟨.loc 42, .un .not (.loc 41), some ((.loc 29), true), []⟩,
  o1 (.var 43) (.pick (.loc 29) (.loc 42) (.const (.d (.bool false))))] false
def c_S_GlobOk_7 : ACode := .reg [o1 (.var 2) (.mv (.const (.d (.bool false))))] false
def c_S_GlobOk_8 : ACode := .reg [o1 (.loc 14) (.mv (.var 4)),
  o1 (.loc 15) (.bin .int .add (.loc 14) (.const (.d (.int .i64 1)))),
  o1 (.var 4) (.mv (.loc 15))] false
def c_S_GlobOk_9 : ACode := (.seq (.seq c_S_GlobOk_5 (.cond (.var 13) .skip (.exit 0))) (.seq (.block 1 (.seq c_S_GlobOk_6 (.cond (.var 43) (.seq c_S_GlobOk_7 .ret) .skip))) c_S_GlobOk_8))
def c_S_GlobOk_10 : ACode := .reg [o1 (.loc 44) (.mv (.var 3)),
  o1 (.loc 45) (.len false (.loc 44)),
  o1 (.loc 46) (.bin .int .leq (.loc 45) (.const (.d (.int .i64 8)))),
  o1 (.var 2) (.mv (.loc 46))] false
def c_S_GlobOk : ACode := (.seq c_S_GlobOk_0 (.seq (.seq c_S_GlobOk_1 (.cond (.var 7) (.seq c_S_GlobOk_2 .ret) .skip)) (.seq c_S_GlobOk_3 (.seq (.seq c_S_GlobOk_4 (.block 0 (.loop [3, 4] c_S_GlobOk_9))) (.seq c_S_GlobOk_10 .ret)))))
abbrev F_S_GlobOk : FuncId := 220
theorem k_S_GlobOk : comp PP (Tryz.f220.ntmps, pinOf 0 [none]) [0, 2, 3, 4, 7, 13, 43] (Tryz.f220.body.getD .skip) = some c_S_GlobOk.erase := by kernel_rfl
theorem v_S_GlobOk {GG : GV} (rcs : List C) {cs : List C} {r : C} {os : List (Option C)} (hN : (cs.length == 1 && rcs.length == 1) = true) (hret : retOf rcs = r) (hW : WX GG [0, 2, 3, 4, 7, 13, 43] Tryz.f220.ntmps [none] [(.give, 2, none)] c_S_GlobOk rcs cs os) : Valid PP GG F_S_GlobOk cs r os :=
  fn_valid_n 1 1 _ _ _ _ rcs Tryz.func220 rfl rfl (by kernel_rfl) k_S_GlobOk rfl rfl hN hret hW
def c_L_toStringS_0 : ACode := .reg [o1 (.var 2) (.mv (.const (.nil 0 1)))] false
def c_L_toStringS_1 : ACode := .reg [o1 (.loc 5) (.mv (.var 0)),
  o1 (.loc 6) (.len false (.loc 5)),
  o1 (.loc 7) (.mkslice 0 1 16 [.str []] (.loc 6) (.loc 6)),
  o1 (.var 3) (.mv (.loc 7))] false
def c_L_toStringS_2 : ACode := .reg [o1 (.var 4) (.mv (.const (.d (.int .i64 0))))] false
def c_L_toStringS_3 : ACode := .reg [o1 (.loc 8) (.mv (.var 4)),
  o1 (.loc 9) (.mv (.var 0)),
  o1 (.loc 10) (.len false (.loc 9)),
  o1 (.var 11) (.bin .int .lss (.loc 8) (.loc 10))] false
def c_L_toStringS_4 : ACode := .reg [o1 (.loc 14) (.mv (.var 3)),
  o1 (.loc 15) (.mv (.var 4)),
  o1 (.loc 16) (.mv (.var 0)),
  o1 (.loc 17) (.mv (.var 4)),
  o1 (.loc 18) (.idxA 1 (.loc 16) (.loc 17)),
  o1 (.loc 19) (.load false 1 (.loc 18)),
  o1 (.loc 20) (.idxA 1 (.loc 14) (.loc 15)),
  o1 .none (.store 1 (.loc 20) (.loc 19))] false
def c_L_toStringS_5 : ACode := .reg [o1 (.loc 12) (.mv (.var 4)),
  o1 (.loc 13) (.bin .int .add (.loc 12) (.const (.d (.int .i64 1)))),
  o1 (.var 4) (.mv (.loc 13))] false
def c_L_toStringS_6 : ACode := (.seq (.seq c_L_toStringS_3 (.cond (.var 11) .skip (.exit 0))) (.seq (.block 1 c_L_toStringS_4) c_L_toStringS_5))
def c_L_toStringS_7 : ACode := .reg [o1 (.loc 21) (.mv (.var 3)),
  o1 (.var 2) (.mv (.loc 21))] false
def c_L_toStringS : ACode := (.seq c_L_toStringS_0 (.seq c_L_toStringS_1 (.seq (.seq c_L_toStringS_2 (.block 0 (.loop [0, 3, 4] c_L_toStringS_6))) (.seq c_L_toStringS_7 .ret))))
abbrev F_L_toStringS : FuncId := 221
theorem k_L_toStringS : comp PP (Tryz.f221.ntmps, pinOf 0 [none]) [0, 2, 3, 4, 11] (Tryz.f221.body.getD .skip) = some c_L_toStringS.erase := by kernel_rfl
theorem v_L_toStringS {GG : GV} (rcs : List C) {cs : List C} {r : C} {os : List (Option C)} (hN : (cs.length == 1 && rcs.length == 1) = true) (hret : retOf rcs = r) (hW : WX GG [0, 2, 3, 4, 11] Tryz.f221.ntmps [none] [(.give, 2, none)] c_L_toStringS rcs cs os) : Valid PP GG F_L_toStringS cs r os :=
  fn_valid_n 1 1 _ _ _ _ rcs Tryz.func221 rfl rfl (by kernel_rfl) k_L_toStringS rfl rfl hN hret hW
def c_I_areNames_0 : ACode := .reg [o1 (.var 2) (.mv (.const (.d (.bool false))))] false
def c_I_areNames_1 : ACode := .reg [o1 (.var 5) (.mv (.var 0)),
  o1 (.var 6) (.len false (.var 5)),
  o1 (.var 7) (.mv (.const (.d (.int .i64 0))))] false
def c_I_areNames_2 : ACode := .reg [o1 (.var 8) (.bin .int .lss (.var 7) (.var 6))] false
def c_I_areNames_3 : ACode := .reg [o1 (.loc 9) (.mv (.var 7)),
  o1 (.loc 10) (.idxA 1 (.var 5) (.var 7)),
  o1 (.loc 11) (.load false 1 (.loc 10)),
  o1 (.var 3) (.mv (.loc 9)),
  o1 (.var 4) (.mv (.loc 11))] false
def c_I_areNames_4 : ACode := .reg [o1 (.loc 12) (.mv (.var 4)),
  o1 (.loc 13) (.call (.fn 126) [(.loc 12)] [.borrow]),
  o1 (.loc 14) (.un .not (.loc 13)),
  o1 (.loc 15) (.split (.loc 14)),
  ⟨.loc 16, .mv (.var 3), some ((.loc 15), false), []⟩,
  ⟨.loc 17, .bin .int .gtr (.loc 16) (.const (.d (.int .i64 0))), some ((.loc 15), false), []⟩,
  ⟨.loc 18, .split (.loc 17), some ((.loc 15), false), []⟩,
  ⟨.loc 19, .mv (.var 0), some ((.loc 18), true), []⟩,
  ⟨.loc 20, .mv (.var 3), some ((.loc 18), true), []⟩,
  ⟨.loc 21, .bin .int .sub (.loc 20) (.const (.d (.int .i64 1))), some ((.loc 18), true), []⟩,
  ⟨.loc 22, .idxA 1 (.loc 19) (.loc 21), some ((.loc 18), true), []⟩,
  ⟨.loc 23, .load false 1 (.loc 22), some ((.loc 18), true), []⟩,
  ⟨.loc 24, .mv (.var 4), some ((.loc 18), true), []⟩,
  ⟨.loc 25, .bin .str .geq (.loc 23) (.loc 24), some ((.loc 18), true), []⟩,
  ⟨.loc 26, .pick (.loc 18) (.loc 25) (.const (.d (.bool false))), some ((.loc 15), false), []⟩,
  o1 (.var 27) (.pick (.loc 15) (.const (.d (.bool true))) (.loc 26))] false
def c_I_areNames_5 : ACode := .reg [o1 (.var 2) (.mv (.const (.d (.bool false))))] false
def c_I_areNames_6 : ACode := .reg [o1 (.loc 28) (.bin .int .add (.var 7) (.const (.d (.int .i64 1)))),
  o1 (.var 7) (.mv (.loc 28))] false
def c_I_areNames_7 : ACode := (.seq c_I_areNames_2 (.seq (.cond (.var 8) .skip (.exit 0)) (.seq (.block 1 (.seq c_I_areNames_3 (.seq c_I_areNames_4 (.cond (.var 27) (.seq c_I_areNames_5 .ret) .skip)))) c_I_areNames_6)))
def c_I_areNames_8 : ACode := .reg [o1 (.loc 29) (.mv (.var 0)),
  o1 (.loc 30) (.len false (.loc 29)),
  o1 (.loc 31) (.bin .int .leq (.loc 30) (.const (.d (.int .i64 6)))),
  o1 (.var 2) (.mv (.loc 31))] false
def c_I_areNames : ACode := (.seq c_I_areNames_0 (.seq (.seq c_I_areNames_1 (.block 0 (.loop [0, 5, 6, 7] c_I_areNames_7))) (.seq c_I_areNames_8 .ret)))
abbrev F_I_areNames : FuncId := 222
theorem k_I_areNames : comp PP (Tryz.f222.ntmps, pinOf 0 [none]) [0, 2, 3, 4, 5, 6, 7, 8, 27] (Tryz.f222.body.getD .skip) = some c_I_areNames.erase := by kernel_rfl
theorem v_I_areNames {GG : GV} (rcs : List C) {cs : List C} {r : C} {os : List (Option C)} (hN : (cs.length == 1 && rcs.length == 1) = true) (hret : retOf rcs = r) (hW : WX GG [0, 2, 3, 4, 5, 6, 7, 8, 27] Tryz.f222.ntmps [none] [(.give, 2, none)] c_I_areNames rcs cs os) : Valid PP GG F_I_areNames cs r os :=
  fn_valid_n 1 1 _ _ _ _ rcs Tryz.func222 rfl rfl (by kernel_rfl) k_I_areNames rfl rfl hN hret hW
def c_I_isPath_0 : ACode := .reg [o1 (.var 2) (.mv (.const (.d (.bool false))))] false
def c_I_isPath_1 : ACode := .reg [o1 (.loc 3) (.mv (.var 0)),
  o1 (.loc 4) (.call (.fn 240) [(.loc 3)] [.borrow]),
  o1 (.loc 5) (.split (.loc 4)),
  ⟨.loc 6, .mv (.var 0), some ((.loc 5), true), []⟩,
  ⟨.loc 7, .call (.fn 241) [(.loc 6), (.const (.d (.str [43, 42])))] [.borrow, .borrow], some ((.loc 5), true), []⟩,
  ⟨.loc 8, .un .not (.loc 7), some ((.loc 5), true), []⟩,
  o1 (.loc 9) (.pick (.loc 5) (.loc 8) (.const (.d (.bool false)))),
  o1 (.var 2) (.mv (.loc 9))] false
def c_I_isPath : ACode := (.seq c_I_isPath_0 (.seq c_I_isPath_1 .ret))
abbrev F_I_isPath : FuncId := 223
theorem k_I_isPath : comp PP (Tryz.f223.ntmps, pinOf 0 [none]) [0, 2] (Tryz.f223.body.getD .skip) = some c_I_isPath.erase := by kernel_rfl
theorem v_I_isPath {GG : GV} (rcs : List C) {cs : List C} {r : C} {os : List (Option C)} (hN : (cs.length == 1 && rcs.length == 1) = true) (hret : retOf rcs = r) (hW : WX GG [0, 2] Tryz.f223.ntmps [none] [(.give, 2, none)] c_I_isPath rcs cs os) : Valid PP GG F_I_isPath cs r os :=
  fn_valid_n 1 1 _ _ _ _ rcs Tryz.func223 rfl rfl (by kernel_rfl) k_I_isPath rfl rfl hN hret hW
def c_S_l01Parts_0 : ACode := .reg [o1 (.var 4) (.mv (.const (.nil 0 1)))] false
def c_S_l01Parts_1 : ACode := .reg [o1 (.loc 8) (.lit 0 1 0 [.str []] []),
  o1 (.var 5) (.mv (.loc 8))] false
def c_S_l01Parts_2 : ACode := .reg [o1 (.var 6) (.mv (.const (.d (.int .i64 0))))] false
def c_S_l01Parts_3 : ACode := .reg [o1 (.var 7) (.mv (.const (.d (.int .i64 0))))] false
def c_S_l01Parts_4 : ACode := .reg [o1 (.loc 9) (.mv (.var 7)),
  o1 (.loc 10) (.mv (.var 0)),
  o1 (.loc 11) (.len true (.loc 10)),
  o1 (.var 12) (.bin .int .leq (.loc 9) (.loc 11))] false
def c_S_l01Parts_5 : ACode := .reg [o1 (.loc 15) (.mv (.var 7)),
  o1 (.loc 16) (.mv (.var 0)),
  o1 (.loc 17) (.len true (.loc 16)),
  o1 (.loc 18) (.bin .int .eql (.loc 15) (.loc 17)),
  o1 (.loc 19) (.split (.loc 18)),
  ⟨.loc 20, .mv (.var 0), some ((.loc 19), false), []⟩,
  ⟨.loc 21, .mv (.var 7), some ((.loc 19), false), []⟩,
  ⟨.loc 22, .idxS (.loc 20) (.loc 21), some ((.loc 19), false), []⟩,
  ⟨.loc 23, .mv (.var 1), some ((.loc 19), false), []⟩,
  ⟨.loc 24, .bin .int .eql (.loc 22) (.loc 23), some ((.loc 19), false), []⟩,
  o1 (.var 25) (.pick (.loc 19) (.const (.d (.bool true))) (.loc 24))] false
def c_S_l01Parts_6 : ACode := .reg [o1 (.loc 26) (.mv (.var 5)),
  o1 (.loc 27) (.mv (.var 0)),
  o1 (.loc 28) (.mv (.var 6)),
  o1 (.loc 29) (.mv (.var 7)),
  o1 (.loc 30) (.sliceS (.loc 27) (some (.loc 28)) (some (.loc 29))),
  o1 (.loc 31) (.lit 0 1 1 [.str []] [(0, (.loc 30))]),
  o1 (.loc 32) (.app 1 16 (.loc 26) (.loc 31)),
  o1 (.var 5) (.mv (.loc 32))] false
def c_S_l01Parts_7 : ACode := .reg [o1 (.loc 33) (.mv (.var 7)),
  o1 (.loc 34) (.bin .int .add (.loc 33) (.const (.d (.int .i64 1)))),
  o1 (.var 6) (.mv (.loc 34))] false
def c_S_l01Parts_8 : ACode := .reg [o1 (.loc 13) (.mv (.var 7)),
  o1 (.loc 14) (.bin .int .add (.loc 13) (.const (.d (.int .i64 1)))),
  o1 (.var 7) (.mv (.loc 14))] false
def c_S_l01Parts_9 : ACode := (.seq (.seq c_S_l01Parts_4 (.cond (.var 12) .skip (.exit 0))) (.seq (.block 1 (.seq c_S_l01Parts_5 (.cond (.var 25) (.seq c_S_l01Parts_6 c_S_l01Parts_7) .skip))) c_S_l01Parts_8))
def c_S_l01Parts_10 : ACode := .reg [o1 (.loc 35) (.mv (.var 5)),
  o1 (.var 4) (.mv (.loc 35))] false
def c_S_l01Parts : ACode := (.seq c_S_l01Parts_0 (.seq c_S_l01Parts_1 (.seq c_S_l01Parts_2 (.seq (.seq c_S_l01Parts_3 (.block 0 (.loop [0, 1, 5, 6, 7] c_S_l01Parts_9))) (.seq c_S_l01Parts_10 .ret)))))
abbrev F_S_l01Parts : FuncId := 238
theorem k_S_l01Parts : comp PP (Tryz.f238.ntmps, pinOf 0 [none, none]) [0, 1, 4, 5, 6, 7, 12, 25] (Tryz.f238.body.getD .skip) = some c_S_l01Parts.erase := by kernel_rfl
theorem v_S_l01Parts {GG : GV} (rcs : List C) {cs : List C} {r : C} {os : List (Option C)} (hN : (cs.length == 2 && rcs.length == 1) = true) (hret : retOf rcs = r) (hW : WX GG [0, 1, 4, 5, 6, 7, 12, 25] Tryz.f238.ntmps [none, none] [(.give, 4, none)] c_S_l01Parts rcs cs os) : Valid PP GG F_S_l01Parts cs r os :=
  fn_valid_n 2 1 _ _ _ _ rcs Tryz.func238 rfl rfl (by kernel_rfl) k_S_l01Parts rfl rfl hN hret hW
def c_S_l01Segment_0 : ACode := .reg [o1 (.var 2) (.mv (.const (.d (.bool false))))] false
def c_S_l01Segment_1 : ACode := .reg [o1 (.loc 5) (.mv (.var 0)),
  o1 (.loc 6) (.len true (.loc 5)),
  o1 (.loc 7) (.call (.fn 49) [(.loc 6), (.const (.d (.int .i64 1))), (.const (.d (.int .i64 16)))] [.borrow, .borrow, .borrow]),
  o1 (.var 8) (.un .not (.loc 7))] false
def c_S_l01Segment_2 : ACode := .reg [o1 (.var 2) (.mv (.const (.d (.bool false))))] false
def c_S_l01Segment_3 : ACode := .reg [o1 (.var 3) (.mv (.const (.d (.int .i64 0))))] false
def c_S_l01Segment_4 : ACode := .reg [o1 (.loc 9) (.mv (.var 3)),
  o1 (.loc 10) (.mv (.var 0)),
  o1 (.loc 11) (.len true (.loc 10)),
  o1 (.var 12) (.bin .int .lss (.loc 9) (.loc 11))] false
def c_S_l01Segment_5 : ACode := .reg [o1 (.loc 15) (.mv (.var 0)),
  o1 (.loc 16) (.mv (.var 3)),
  o1 (.loc 17) (.idxS (.loc 15) (.loc 16)),
  o1 (.var 4) (.mv (.loc 17))] false
def c_S_l01Segment_6 : ACode := .reg [o1 (.loc 18) (.mv (.var 4)),
  o1 (.loc 19) (.bin .int .geq (.loc 18) (.const (.d (.int .u8 97)))),
  o1 (.loc 20) (.split (.loc 19)),
  ⟨.loc 21, .mv (.var 4), some ((.loc 20), true), []⟩,
  ⟨.loc 22, .bin .int .leq (.loc 21) (.const (.d (.int .u8 122))), some ((.loc 20), true), []⟩,
  o1 (.loc 23) (.pick (.loc 20) (.loc 22) (.const (.d (.bool false)))),
  o1 (.loc 24) (.un .not (.loc 23)),
  o1 (.loc 25) (.split (.loc 24)),
  ⟨.loc 26, .mv (.var 4), some ((.loc 25), true), []⟩,
  ⟨.loc 27, .bin .int .geq (.loc 26) (.const (.d (.int .u8 48))), some ((.loc 25), true), []⟩,
  ⟨.loc 28, .split (.loc 27), some ((.loc 25), true), []⟩,
  ⟨.loc 29, .mv (.var 4), some ((.loc 28), true), []⟩,
  ⟨.loc 30, .bin .int .leq (.loc 29) (.const (.d (.int .u8 57))), some ((.loc 28), true), []⟩,
  ⟨.loc 31, .pick (.loc 28) (.loc 30) (.const (.d (.bool false))), some ((.loc 25), true), []⟩,
  ⟨.loc 32, .un .not (.loc 31), some ((.loc 25), true), []⟩,
  o1 (.loc 33) (.pick (.loc 25) (.loc 32) (.const (.d (.bool false)))),
  o1 (.loc 34) (.split (.loc 33)),
  ⟨.loc 35, .mv (.var 4), some ((.loc 34), true), []⟩,
  ⟨.loc 36, .bin .int .neq (.loc 35) (.const (.d (.int .u8 45))), some ((.loc 34), true), []⟩,
  o1 (.var 37) (.pick (.loc 34) (.loc 36) (.const (.d (.bool false))))] false
def c_S_l01Segment_7 : ACode := .reg [o1 (.var 2) (.mv (.const (.d (.bool false))))] false
def c_S_l01Segment_8 : ACode := .reg [o1 (.loc 13) (.mv (.var 3)),
  o1 (.loc 14) (.bin .int .add (.loc 13) (.const (.d (.int .i64 1)))),
  o1 (.var 3) (.mv (.loc 14))] false
def c_S_l01Segment_9 : ACode := (.seq (.seq c_S_l01Segment_4 (.cond (.var 12) .skip (.exit 0))) (.seq (.block 1 (.seq c_S_l01Segment_5 (.seq c_S_l01Segment_6 (.cond (.var 37) (.seq c_S_l01Segment_7 .ret) .skip)))) c_S_l01Segment_8))
def c_S_l01Segment_10 : ACode := .reg [o1 (.var 2) (.mv (.const (.d (.bool true))))] false
def c_S_l01Segment : ACode := (.seq c_S_l01Segment_0 (.seq (.seq c_S_l01Segment_1 (.cond (.var 8) (.seq c_S_l01Segment_2 .ret) .skip)) (.seq (.seq c_S_l01Segment_3 (.block 0 (.loop [0, 3] c_S_l01Segment_9))) (.seq c_S_l01Segment_10 .ret))))
abbrev F_S_l01Segment : FuncId := 239
theorem k_S_l01Segment : comp PP (Tryz.f239.ntmps, pinOf 0 [none]) [0, 2, 3, 4, 8, 12, 37] (Tryz.f239.body.getD .skip) = some c_S_l01Segment.erase := by kernel_rfl
theorem v_S_l01Segment {GG : GV} (rcs : List C) {cs : List C} {r : C} {os : List (Option C)} (hN : (cs.length == 1 && rcs.length == 1) = true) (hret : retOf rcs = r) (hW : WX GG [0, 2, 3, 4, 8, 12, 37] Tryz.f239.ntmps [none] [(.give, 2, none)] c_S_l01Segment rcs cs os) : Valid PP GG F_S_l01Segment cs r os :=
  fn_valid_n 1 1 _ _ _ _ rcs Tryz.func239 rfl rfl (by kernel_rfl) k_S_l01Segment rfl rfl hN hret hW
def c_I_isGlob_0 : ACode := .reg [o1 (.var 2) (.mv (.const (.d (.bool false))))] false
def c_I_isGlob_1 : ACode := .reg [o1 (.loc 6) (.mv (.var 0)),
  o1 (.loc 7) (.len true (.loc 6)),
  o1 (.var 8) (.bin .int .gtr (.loc 7) (.const (.d (.int .i64 120))))] false
def c_I_isGlob_2 : ACode := .reg [o1 (.var 2) (.mv (.const (.d (.bool false))))] false
def c_I_isGlob_3 : ACode := .reg [o1 (.loc 9) (.mv (.var 0)),
  o1 (.loc 10) (.call (.fn 249) [(.loc 9), (.const (.d (.str [47])))] [.borrow, .borrow]),
  o1 (.var 3) (.mv (.loc 10))] false
def c_I_isGlob_4 : ACode := .reg [o1 (.var 11) (.mv (.var 3)),
  o1 (.var 12) (.len false (.var 11)),
  o1 (.var 13) (.mv (.const (.d (.int .i64 0))))] false
def c_I_isGlob_5 : ACode := .reg [o1 (.var 14) (.bin .int .lss (.var 13) (.var 12))] false
def c_I_isGlob_6 : ACode := .reg [o1 (.loc 15) (.mv (.var 13)),
  o1 (.loc 16) (.idxA 1 (.var 11) (.var 13)),
  o1 (.loc 17) (.load false 1 (.loc 16)),
  o1 (.var 4) (.mv (.loc 15)),
  o1 (.var 5) (.mv (.loc 17))] false
def c_I_isGlob_7 : ACode := .reg [o1 (.loc 18) (.mv (.var 5)),
  o1 (.loc 19) (.bin .str .eql (.loc 18) (.const (.d (.str [43])))),
  o1 (.loc 20) (.split (.loc 19)),
  ⟨.loc 21, .mv (.var 5), some ((.loc 20), false), []⟩,
  ⟨.loc 22, .bin .str .eql (.loc 21) (.const (.d (.str [42]))), some ((.loc 20), false), []⟩,
  ⟨.loc 23, .split (.loc 22), some ((.loc 20), false), []⟩,
  ⟨.loc 24, .mv (.var 4), some ((.loc 23), true), []⟩,
  ⟨.loc 25, .mv (.var 3), some ((.loc 23), true), []⟩,
  ⟨.loc 26, .len false (.loc 25), some ((.loc 23), true), []⟩,
  ⟨.loc 27, .bin .int .sub (.loc 26) (.const (.d (.int .i64 1))), some ((.loc 23), true), []⟩,
  ⟨.loc 28, .bin .int .eql (.loc 24) (.loc 27), some ((.loc 23), true), []⟩,
  ⟨.loc 29, .pick (.loc 23) (.loc 28) (.const (.d (.bool false))), some ((.loc 20), false), []⟩,
  o1 (.var 30) (.pick (.loc 20) (.const (.d (.bool true))) (.loc 29))] false
def c_I_isGlob_8 : ACode := .reg [o1 (.loc 31) (.mv (.var 5)),
  o1 (.loc 32) (.len true (.loc 31)),
  o1 (.loc 33) (.call (.fn 103) [(.loc 32), (.const (.d (.int .i64 1))), (.const (.d (.int .i64 16)))] [.borrow, .borrow, .borrow]),
  o1 (.loc 34) (.un .not (.loc 33)),
  o1 (.loc 35) (.split (.loc 34)),
  ⟨.loc 36, .mv (.var 5), some ((.loc 35), false), []⟩,
  ⟨.loc 37, .call (.fn 193) [(.loc 36), (.const (.d (.str [97, 98, 99, 100, 101, 102, 103, 104, 105, 106, 107, 108, 109, 110, 111, 112, 113, 114, 115, 116, 117, 118, 119, 120, 121, 122, 48, 49, 50, 51, 52, 53, 54, 55, 56, 57, 45])))] [.borrow, .borrow], some ((.loc 35), false), []⟩,
  ⟨.loc 38, .un .not (.loc 37), some ((.loc 35), false), []⟩,
  o1 (.var 39) (.pick (.loc 35) (.const (.d (.bool true))) (.loc 38))] false
def c_I_isGlob_9 : ACode := .reg [o1 (.var 2) (.mv (.const (.d (.bool false))))] false
def c_I_isGlob_10 : ACode := .reg [o1 (.loc 40) (.bin .int .add (.var 13) (.const (.d (.int .i64 1)))),
  o1 (.var 13) (.mv (.loc 40))] false
def c_I_isGlob_11 : ACode := (.seq c_I_isGlob_5 (.seq (.cond (.var 14) .skip (.exit 0)) (.seq (.block 1 (.seq c_I_isGlob_6 (.seq (.seq c_I_isGlob_7 (.cond (.var 30) (.exit 1) .skip)) (.seq c_I_isGlob_8 (.cond (.var 39) (.seq c_I_isGlob_9 .ret) .skip))))) c_I_isGlob_10)))
def c_I_isGlob_12 : ACode := .reg [o1 (.loc 41) (.mv (.var 3)),
  o1 (.loc 42) (.len false (.loc 41)),
  o1 (.loc 43) (.bin .int .leq (.loc 42) (.const (.d (.int .i64 8)))),
  o1 (.var 2) (.mv (.loc 43))] false
def c_I_isGlob : ACode := (.seq c_I_isGlob_0 (.seq (.seq c_I_isGlob_1 (.cond (.var 8) (.seq c_I_isGlob_2 .ret) .skip)) (.seq c_I_isGlob_3 (.seq (.seq c_I_isGlob_4 (.block 0 (.loop [3, 11, 12, 13] c_I_isGlob_11))) (.seq c_I_isGlob_12 .ret)))))
abbrev F_I_isGlob : FuncId := 240
theorem k_I_isGlob : comp PP (Tryz.f240.ntmps, pinOf 0 [none]) [0, 2, 3, 4, 5, 8, 11, 12, 13, 14, 30, 39] (Tryz.f240.body.getD .skip) = some c_I_isGlob.erase := by kernel_rfl
theorem v_I_isGlob {GG : GV} (rcs : List C) {cs : List C} {r : C} {os : List (Option C)} (hN : (cs.length == 1 && rcs.length == 1) = true) (hret : retOf rcs = r) (hW : WX GG [0, 2, 3, 4, 5, 8, 11, 12, 13, 14, 30, 39] Tryz.f240.ntmps [none] [(.give, 2, none)] c_I_isGlob rcs cs os) : Valid PP GG F_I_isGlob cs r os :=
  fn_valid_n 1 1 _ _ _ _ rcs Tryz.func240 rfl rfl (by kernel_rfl) k_I_isGlob rfl rfl hN hret hW

end Go.Proofs.YtdckkojgnkoabaaGreatDoor.Ab
