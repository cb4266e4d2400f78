/-
  A part of a proof about the given program; what is proved is said where each theorem stands.
-/
import Derived.Test.YtdckkojgnkoabaaGreatDoorFrameA
import Derived.Test.YtdckkojgnkoabaaGreatDoorFrameB
import Derived.Test.YtdckkojgnkoabaaGreatDoorFrameC
import Derived.Test.YtdckkojgnkoabaaGreatDoorFrameD
import Derived.Test.YtdckkojgnkoabaaGreatDoorFrameE
import Derived.Test.YtdckkojgnkoabaaGreatDoorCodesA
set_option maxRecDepth 100000
namespace Go.Proofs.YtdckkojgnkoabaaGreatDoor.Ab
open Go.Proofs
def c161_11:= rg [Qb 55 0 11,
Qd 56 1 55,
Qi 57 3 15,
Qcp 58 0 3 1 0 0 0 57,
Qbc 59 3 32 56 58,
Qb 60 0 11,
Qk 1 60 59]
def c161_12:= rg [Qi 62 3 10,
Qb 63 0 15,
Qd 64 1 63,
Qr 65 203 62 64,
Qbg 61 65,
Qae 66 61 0,
Qae 67 61 1,
Qat 16 0 2 0 0,
Ql 3 16 66,
Qc 17 67]
def c161_13:= rg [Qi 68 3 16,
Ql 3 10 68]
def c161_14:= rg [Qa 69 17,
Qcv 70 69 0]
def c161_15:= rg [Qa 71 12,
Qb 72 0 15,
Qd 73 1 72,
Qcq 74 0 1 1 0 73,
Qbc 75 1 16 71 74,
Qc 12 75]
def c161_16:= rg [Qb 76 2 15,
Qd 77 1 76,
Qg 78 77 1,
Qb 79 2 15,
Qk 1 79 78]
def c161_17:= rg [Qb 80 2 15,
Qd 81 1 80,
Qcv 82 81 6]
def c161_18:= rg [Qa 83 13,
Qb 84 0 15,
Qd 85 1 84,
Qcq 86 0 1 1 0 85,
Qbc 87 1 16 83 86,
Qc 13 87]
def c161_19:= rg [Qa 88 2,
Qb 89 2 15,
Qd 90 1 89,
⟨.loc 91, .conv .u64 (.loc 90), none, []⟩,
⟨.loc 92, .bin .int .shl (.const (.d (.int .i64 1))) (.loc 91), none, []⟩,
Qct 93 88 92,
Qb 94 1 15,
Qk 1 94 93]
def c161_20:= rg [Qb 95 0 11,
Qd 96 1 95,
Qi 97 3 15,
Qcp 98 0 3 1 0 0 0 97,
Qbc 99 3 32 96 98,
Qb 100 0 11,
Qk 1 100 99]
def c161_21:= rg [Qa 44 14,
Qg 45 44 1,
Qc 14 45]
def c161_22 : ACode := (.seq (.seq c161_8 (.cond (.var 43) .skip (.exit 0))) (.seq (.block 1 (.seq c161_9 (.seq (.seq c161_10 (.cond (.var 54) (.seq c161_11 (.exit 1)) .skip)) (.seq c161_12 (.seq c161_13 (.seq (.seq c161_14 (.cond (.var 70) (.seq c161_15 (.exit 1)) .skip)) (.seq c161_16 (.seq (.seq c161_17 (.cond (.var 82) (.seq c161_18 (.exit 1)) .skip)) (.seq c161_19 c161_20))))))))) c161_21))
def c161_23 : ACode := .reg [Qi 101 1 11,
  Qi 102 3 10,
  Qa 103 12,
  Qa 104 13,
  Qbv 1 6 101 [0],
  Qbv 3 7 102 [1,4,0],
  Qbw 8 103 [2,5,1,4,0],
  Qbw 9 104 [3,6,2,5,1,4,0]] true
def c161 : ACode := (.seq c161_0 (.seq c161_1 (.seq (.seq c161_2 (.cond (.var 32) (.seq c161_3 .ret) .skip)) (.seq c161_4 (.seq c161_5 (.seq c161_6 (.seq (.seq c161_7 (.block 0 (.loop [2, 3, 6, 7, 10, 11, 12, 13, 14] c161_22))) (.seq c161_23 .ret))))))))
abbrev F_S_RunQueue : FuncId := 161
theorem v_S_RunQueue : VT 3 4 Tryz.f161 161 [0,1,2,3,4,6,7,8,9,10,11,12,13,14,15,16,17,32,43,54,70,82] [none, none, none] [(.give, 6, some (true, 1)), (.give, 7, some (true, 3)), (.give, 8, none), (.give, 9, none)] c161 := mkV Tryz.func161 rfl rfl (by kernel_rfl) (by kernel_rfl) rfl rfl
def c162_0:= rg [Qe 4 0]
def c162_1:= rg [Qa 6 0,
⟨.var 7, .len false (.loc 6), none, []⟩,
Qe 8 0]
def c162_2:= rg [Qaz 9 8 7]
def c162_3:= rg [Qa 10 8,
Qc 5 10]
def c162_4:= rg [Qa 11 1,
Qa 12 0,
Qa 13 5,
Qm 14 6 12 13,
Qo 15 6 14,
⟨.var 16, .call (.loc 11) [(.loc 15)] [.borrow], none, []⟩]
def c162_5:= rg [Qa 17 5,
Qc 4 17]
def c162_6:= rg [Qba 18 8 1,
Qc 8 18]
def c162_7 : ACode := (.seq c162_2 (.seq (.cond (.var 9) .skip (.exit 0)) (.seq (.block 1 (.seq c162_3 (.seq c162_4 (.cond (.var 16) (.seq c162_5 .ret) .skip)))) c162_6)))
def c162_8:= rg [Qe 4 (-1)]
def c162 : ACode := (.seq c162_0 (.seq (.seq c162_1 (.block 0 (.loop [0, 1, 7, 8] c162_7))) (.seq c162_8 .ret)))
abbrev F_slices_IndexFunc___impl_Lease_impl_Lease_ : FuncId := 162
theorem v_slices_IndexFunc___impl_Lease_impl_Lease_ : VT 2 1 Tryz.f162 162 [0,1,4,5,7,8,9,16] [none, none] [(.give, 4, none)] c162 := mkV Tryz.func162 rfl rfl (by kernel_rfl) (by kernel_rfl) rfl rfl
def c163_0:= rg [Qh 2 0,
Qf 3]
def c163_1:= rg [Qb 4 0 2,
Qd 5 1 4,
⟨.loc 6, .load false 1 (.var 1), none, []⟩,
⟨.loc 7, .bin .int .eql (.loc 5) (.loc 6), none, []⟩,
Qc 3 7]
def c163 : ACode := (.seq c163_0 (.seq c163_1 .ret))
abbrev F_I_leaseIndex_c1 : FuncId := 163
theorem v_I_leaseIndex_c1 : VT 2 1 Tryz.f163 163 [0,1,2,3] [none] [(.give, 3, none)] c163 := mkV Tryz.func163 rfl rfl (by kernel_rfl) (by kernel_rfl) rfl rfl
def c164_0:= rg [Qh 2 0,
Qf 3]
def c164_1:= rg [Qb 4 0 2,
Qd 5 1 4,
Qb 6 0 1,
Qd 7 1 6,
⟨.loc 8, .bin .int .eql (.loc 5) (.loc 7), none, []⟩,
Qc 3 8]
def c164 : ACode := (.seq c164_0 (.seq c164_1 .ret))
abbrev F_I_World_release_c1 : FuncId := 164
theorem v_I_World_release_c1 : VT 2 1 Tryz.f164 164 [0,1,2,3] [none] [(.give, 3, none)] c164 := mkV Tryz.func164 rfl rfl (by kernel_rfl) (by kernel_rfl) rfl rfl
def c165_0:= rg [Qh 3 0,
Qac 6 0 3,
Qf 7]
def c165_1:= rg [Qi 9 1 3,
Qp 10 151 9,
Qac 8 0 3,
Ql 1 8 10]
def c165_2:= rg [Qi 11 1 3,
Qa 12 1,
⟨.var 13, .call (.fn 67) [(.loc 11), (.loc 12)] [.borrow, .borrow], none, []⟩]
def c165_3:= rg [Qi 14 1 8,
Ql 1 6 14,
Qx 7]
def c165_4:= rg [Qb 15 0 8,
Qd 16 1 15,
Qa 17 1,
Qa 18 2,
⟨.loc 19, .build [.d (.str []), .d (.int .i64 0), .d (.int .i64 0)] [(0, 1, (.loc 17)), (1, 1, (.loc 18))], none, []⟩,
Qcp 20 0 3 1 0 0 0 19,
Qbc 21 3 32 16 20,
Qb 22 0 8,
Qk 1 22 21]
def c165_5:= rg [Qi 23 1 8,
Qp 24 125 23,
Qal 25 24]
def c165_6:= rg [Qi 26 1 3,
Qp 27 151 26,
Ql 1 6 27,
Qf 7]
def c165_7:= rg [Qi 28 1 8,
Ql 1 6 28,
Qx 7]
def c165 : ACode := (.seq c165_0 (.seq c165_1 (.seq (.seq c165_2 (.cond (.var 13) (.seq c165_3 .ret) .skip)) (.seq c165_4 (.seq (.seq c165_5 (.cond (.var 25) (.seq c165_6 .ret) .skip)) (.seq c165_7 .ret))))))
abbrev F_I_queueDrop : FuncId := 165
theorem v_I_queueDrop : VT 3 2 Tryz.f165 165 [0,1,2,3,6,7,8,13,25] [none, none, none] [(.give, 6, some (true, 1)), (.give, 7, none)] c165 := mkV Tryz.func165 rfl rfl (by kernel_rfl) (by kernel_rfl) rfl rfl
def c167_0:= rg [Qh 3 0,
Qh 4 1,
Qac 6 0 3,
Qat 7 0 2 0 0,
Qap 8 0 1,
Qap 9 0 1]
def c167_1:= rg [Qac 10 0 3]
def c167_2:= rg [Qap 11 0 1,
Qap 12 0 1]
def c167_3:= rg [Qi 17 3 4,
Qp 18 150 17,
Ql 3 4 18]
def c167_4:= rg [Qb 19 0 3,
Qck 20 1 19,
Qbt 21 20,
Qe 22 0]
def c167_5:= rg [Qaz 23 22 21]
def c167_6:= rg [Qbu 24 3 20 22,
Qo 25 3 24,
Qco 14 0 0,
Ql 3 14 25]
def c167_7:= rg [Qb 26 1 14,
Qd 27 1 26,
Qa 28 2,
⟨.var 29, .bin .int .gtr (.loc 27) (.loc 28), none, []⟩]
def c167_8:= rg [Qb 30 0 10,
Qd 31 1 30,
Qi 32 3 14,
Qcp 33 0 3 1 0 0 0 32,
Qbc 34 3 32 31 33,
Qb 35 0 10,
Qk 1 35 34]
def c167_9:= rg [Qi 37 3 4,
Qb 38 0 14,
Qd 39 1 38,
Qr 40 204 37 39,
Qbg 36 40,
Qae 41 36 0,
Qae 42 36 1,
Qat 15 0 2 0 0,
Ql 3 15 41,
Qc 16 42]
def c167_10:= rg [Qi 43 3 15,
Ql 3 4 43]
def c167_11:= rg [Qa 44 16,
Qcv 45 44 0]
def c167_12:= rg [Qa 46 11,
Qb 47 0 14,
Qd 48 1 47,
Qcq 49 0 1 1 0 48,
Qbc 50 1 16 46 49,
Qc 11 50]
def c167_13:= rg [Qb 51 2 14,
Qd 52 1 51,
Qg 53 52 1,
Qb 54 2 14,
Qk 1 54 53]
def c167_14:= rg [Qb 55 2 14,
Qd 56 1 55,
Qcv 57 56 6]
def c167_15:= rg [Qa 58 12,
Qb 59 0 14,
Qd 60 1 59,
Qcq 61 0 1 1 0 60,
Qbc 62 1 16 58 61,
Qc 12 62]
def c167_16:= rg [Qa 63 2,
Qb 64 2 14,
Qd 65 1 64,
⟨.loc 66, .bin .int .shl (.const (.d (.int .i64 1))) (.loc 65), none, []⟩,
Qct 67 63 66,
Qb 68 1 14,
Qk 1 68 67]
def c167_17:= rg [Qb 69 0 10,
Qd 70 1 69,
Qi 71 3 14,
Qcp 72 0 3 1 0 0 0 71,
Qbc 73 3 32 70 72,
Qb 74 0 10,
Qk 1 74 73]
def c167_18:= rg [Qba 75 22 1,
Qc 22 75]
def c167_19 : ACode := (.seq c167_5 (.seq (.cond (.var 23) .skip (.exit 0)) (.seq (.block 1 (.seq c167_6 (.seq (.seq c167_7 (.cond (.var 29) (.seq c167_8 (.exit 1)) .skip)) (.seq c167_9 (.seq c167_10 (.seq (.seq c167_11 (.cond (.var 45) (.seq c167_12 (.exit 1)) .skip)) (.seq c167_13 (.seq (.seq c167_14 (.cond (.var 57) (.seq c167_15 (.exit 1)) .skip)) (.seq c167_16 c167_17))))))))) c167_18)))
def c167_20 : ACode := .reg [Qi 76 1 10,
  Qi 77 3 4,
  Qa 78 11,
  Qa 79 12,
  Qbv 1 6 76 [0],
  Qbv 3 7 77 [1,4,0],
  Qbw 8 78 [2,5,1,4,0],
  Qbw 9 79 [3,6,2,5,1,4,0]] true
def c167 : ACode := (.seq c167_0 (.seq c167_1 (.seq c167_2 (.seq c167_3 (.seq (.seq c167_4 (.block 0 (.loop [2, 4, 6, 7, 10, 11, 12, 20, 21, 22] c167_19))) (.seq c167_20 .ret))))))
abbrev F_I_runQueue : FuncId := 167
theorem v_I_runQueue : VT 3 4 Tryz.f167 167 [0,1,2,3,4,6,7,8,9,10,11,12,14,15,16,20,21,22,23,29,45,57] [none, none, none] [(.give, 6, some (true, 1)), (.give, 7, some (true, 3)), (.give, 8, none), (.give, 9, none)] c167 := mkV Tryz.func167 rfl rfl (by kernel_rfl) (by kernel_rfl) rfl rfl
def c169_0:= rg [Qe 4 0]
def c169_1:= rg [Qa 6 0,
⟨.var 7, .len false (.loc 6), none, []⟩,
Qe 8 0]
def c169_2:= rg [Qaz 9 8 7]
def c169_3:= rg [Qa 10 8,
Qc 5 10]
def c169_4:= rg [Qa 11 1,
Qa 12 0,
Qa 13 5,
Qm 14 7 12 13,
Qo 15 7 14,
⟨.var 16, .call (.loc 11) [(.loc 15)] [.borrow], none, []⟩]
def c169_5:= rg [Qa 17 5,
Qc 4 17]
def c169_6:= rg [Qba 18 8 1,
Qc 8 18]
def c169_7 : ACode := (.seq c169_2 (.seq (.cond (.var 9) .skip (.exit 0)) (.seq (.block 1 (.seq c169_3 (.seq c169_4 (.cond (.var 16) (.seq c169_5 .ret) .skip)))) c169_6)))
def c169_8:= rg [Qe 4 (-1)]
def c169 : ACode := (.seq c169_0 (.seq (.seq c169_1 (.block 0 (.loop [0, 1, 7, 8] c169_7))) (.seq c169_8 .ret)))
abbrev F_slices_IndexFunc___impl_Token_impl_Token_ : FuncId := 169
theorem v_slices_IndexFunc___impl_Token_impl_Token_ : VT 2 1 Tryz.f169 169 [0,1,4,5,7,8,9,16] [none, none] [(.give, 4, none)] c169 := mkV Tryz.func169 rfl rfl (by kernel_rfl) (by kernel_rfl) rfl rfl
def c170_0:= rg [Qh 2 0,
Qf 3]
def c170_1:= rg [Qb 4 0 2,
Qd 5 1 4,
⟨.loc 6, .load false 1 (.var 1), none, []⟩,
⟨.loc 7, .bin .int .eql (.loc 5) (.loc 6), none, []⟩,
Qc 3 7]
def c170 : ACode := (.seq c170_0 (.seq c170_1 .ret))
abbrev F_I_tokenIndex_c1 : FuncId := 170
theorem v_I_tokenIndex_c1 : VT 2 1 Tryz.f170 170 [0,1,2,3] [none] [(.give, 3, none)] c170 := mkV Tryz.func170 rfl rfl (by kernel_rfl) (by kernel_rfl) rfl rfl
def c181_0:= rg [Qh 2 0,
Qe 4 0]
def c181_1:= rg [Qb 5 2 2,
Qd 6 1 5,
Qa 7 1,
Qr 8 219 6 7,
Qc 1 8]
def c181_2:= rg [Qa 9 1,
Qu 10 9 0]
def c181_3:= rg [Qe 4 (-1)]
def c181_4:= rg [Qa 11 1,
Qc 4 11]
def c181 : ACode := (.seq c181_0 (.seq c181_1 (.seq (.seq c181_2 (.cond (.var 10) (.seq c181_3 .ret) .skip)) (.seq c181_4 .ret))))
abbrev F_L_szToken : FuncId := 181
theorem v_L_szToken : VT 2 1 Tryz.f181 181 [0,1,2,4,10] [none, none] [(.give, 4, none)] c181 := mkV Tryz.func181 rfl rfl (by kernel_rfl) (by kernel_rfl) rfl rfl
def c182_0:= rg [Qh 2 0,
Qe 4 0]
def c182_1:= rg [Qa 5 1,
Qb 6 2 2,
Qd 7 1 6,
Qar 8 7,
Qbe 9 5 8,
Qc 1 9]
def c182_2:= rg [Qa 10 1,
Qu 11 10 0]
def c182_3:= rg [Qe 4 (-1)]
def c182_4:= rg [Qa 12 1,
Qc 4 12]
def c182 : ACode := (.seq c182_0 (.seq c182_1 (.seq (.seq c182_2 (.cond (.var 11) (.seq c182_3 .ret) .skip)) (.seq c182_4 .ret))))
abbrev F_L_szLease : FuncId := 182
theorem v_L_szLease : VT 2 1 Tryz.f182 182 [0,1,2,4,11] [none, none] [(.give, 4, none)] c182 := mkV Tryz.func182 rfl rfl (by kernel_rfl) (by kernel_rfl) rfl rfl
def c183_0:= rg [Qh 2 0,
Qe 4 0]
def c183_1:= rg [Qa 5 1,
Qb 6 0 2,
Qd 7 1 6,
Qar 8 7,
Qbe 9 5 8,
Qc 1 9]
def c183_2:= rg [Qa 10 1,
Qu 11 10 0]
def c183_3:= rg [Qe 4 (-1)]
def c183_4:= rg [Qa 12 1,
Qb 13 1 2,
Qd 14 1 13,
Qar 15 14,
Qbe 16 12 15,
Qc 1 16]
def c183_5:= rg [Qa 17 1,
Qu 18 17 0]
def c183_6:= rg [Qe 4 (-1)]
def c183_7:= rg [Qa 19 1,
Qc 4 19]
def c183 : ACode := (.seq c183_0 (.seq c183_1 (.seq (.seq c183_2 (.cond (.var 11) (.seq c183_3 .ret) .skip)) (.seq c183_4 (.seq (.seq c183_5 (.cond (.var 18) (.seq c183_6 .ret) .skip)) (.seq c183_7 .ret))))))
abbrev F_L_szUser : FuncId := 183
theorem v_L_szUser : VT 2 1 Tryz.f183 183 [0,1,2,4,11,18] [none, none] [(.give, 4, none)] c183 := mkV Tryz.func183 rfl rfl (by kernel_rfl) (by kernel_rfl) rfl rfl
def c184_0:= rg [Qh 2 0,
Qe 4 0]
def c184_1:= rg [Qa 5 1,
Qb 6 0 2,
Qd 7 1 6,
Qar 8 7,
Qbe 9 5 8,
Qc 1 9]
def c184_2:= rg [Qa 10 1,
Qu 11 10 0]
def c184_3:= rg [Qe 4 (-1)]
def c184_4:= rg [Qa 12 1,
Qc 4 12]
def c184 : ACode := (.seq c184_0 (.seq c184_1 (.seq (.seq c184_2 (.cond (.var 11) (.seq c184_3 .ret) .skip)) (.seq c184_4 .ret))))
abbrev F_L_szJob : FuncId := 184
theorem v_L_szJob : VT 2 1 Tryz.f184 184 [0,1,2,4,11] [none, none] [(.give, 4, none)] c184 := mkV Tryz.func184 rfl rfl (by kernel_rfl) (by kernel_rfl) rfl rfl
def c185_0:= rg [Qf 2]
def c185_1:= rg [Qa 4 0,
Qj 5 4,
Qbs 6 5 6]
def c185_2:= rg [Qf 2]
def c185_3:= rg [Qe 3 0]
def c185_4:= rg [Qa 7 3,
Qa 8 0,
Qj 9 8,
Qq 10 7 9]
def c185_5 : ACode := .reg [Qa 13 0,
  Qa 14 3,
  Qw 15 1 13 14 [0,1],
  Qt 16 1 15 [2,0,1],
  Qaj 17 55 16 [3,2,0,1],
  Qbx 18 17 [4,3,2,0,1],
  Qan 19 18 [5,4,3,2,0,1],
  Qbk 20 3 19 [6,5,4,3,2,0,1],
  Qbz 21 20 0 19 [7,6,5,4,3,2,0,1],
  Qbp 22 21 19 [8,7,6,5,4,3,2,0,1],
  Qaq 23 0 22 [9,8,7,6,5,4,3,2,0,1],
  Qaq 24 3 22 [9,8,7,6,5,4,3,2,0,1],
  Qbl 25 24 1 22 [11,9,8,7,6,5,4,3,2,0,1],
  Qax 26 1 23 25 22 [10,12,11,9,8,7,6,5,4,3,2,0,1],
  Qy 27 1 26 22 [13,10,12,11,9,8,7,6,5,4,3,2,0,1],
  Qaq 28 0 22 [9,8,7,6,5,4,3,2,0,1],
  Qaq 29 3 22 [9,8,7,6,5,4,3,2,0,1],
  Qax 30 1 28 29 22 [15,16,9,8,7,6,5,4,3,2,0,1],
  Qy 31 1 30 22 [17,15,16,9,8,7,6,5,4,3,2,0,1],
  ⟨.loc 32, .bin .str .geq (.loc 27) (.loc 31), some ((.loc 22), true), [14, 13, 10, 12, 11, 18, 17, 15, 16, 9, 8, 7, 6, 5, 4, 3, 2, 0, 1]⟩,
  Qbq 33 22 32 19 [19,14,13,10,12,11,18,17,15,16,9,8,7,6,5,4,3,2,0,1],
  Qbr 34 19 33 [20,19,14,13,10,12,11,18,17,15,16,9,8,7,6,5,4,3,2,0,1]] true
def c185_6:= rg [Qf 2]
def c185_7:= rg [Qa 11 3,
Qg 12 11 1,
Qc 3 12]
def c185_8 : ACode := (.seq (.seq c185_4 (.cond (.var 10) .skip (.exit 0))) (.seq (.block 1 (.seq c185_5 (.cond (.var 34) (.seq c185_6 .ret) .skip))) c185_7))
def c185_9:= rg [Qx 2]
def c185 : ACode := (.seq c185_0 (.seq (.seq c185_1 (.cond (.var 6) (.seq c185_2 .ret) .skip)) (.seq (.seq c185_3 (.block 0 (.loop [0, 3] c185_8))) (.seq c185_9 .ret))))
abbrev F_S_l08Names : FuncId := 185
theorem v_S_l08Names : VT 1 1 Tryz.f185 185 [0,2,3,6,10,34] [none] [(.give, 2, none)] c185 := mkV Tryz.func185 rfl rfl (by kernel_rfl) (by kernel_rfl) rfl rfl
def c186_0:= rg [Qf 2]
def c186_1:= rg [Qa 4 0,
Qp 5 220 4,
Qal 6 5]
def c186_2:= rg [Qf 2]
def c186_3:= rg [Qe 3 0]
def c186_4:= rg [Qa 7 3,
Qa 8 0,
Qar 9 8,
Qq 10 7 9]
def c186_5:= rg [Qa 13 0,
Qa 14 3,
⟨.loc 15, .idxS (.loc 13) (.loc 14), none, []⟩,
⟨.loc 16, .bin .int .eql (.loc 15) (.const (.d (.int .u8 43))), none, []⟩,
Qn 17 16,
Qas 18 0 17,
Qas 19 3 17,
⟨.loc 20, .idxS (.loc 18) (.loc 19), some ((.loc 17), false), []⟩,
⟨.loc 21, .bin .int .eql (.loc 20) (.const (.d (.int .u8 42))), some ((.loc 17), false), []⟩,
Qav 22 17 21]
def c186_6:= rg [Qf 2]
def c186_7:= rg [Qa 11 3,
Qg 12 11 1,
Qc 3 12]
def c186_8 : ACode := (.seq (.seq c186_4 (.cond (.var 10) .skip (.exit 0))) (.seq (.block 1 (.seq c186_5 (.cond (.var 22) (.seq c186_6 .ret) .skip))) c186_7))
def c186_9:= rg [Qx 2]
def c186 : ACode := (.seq c186_0 (.seq (.seq c186_1 (.cond (.var 6) (.seq c186_2 .ret) .skip)) (.seq (.seq c186_3 (.block 0 (.loop [0, 3] c186_8))) (.seq c186_9 .ret))))
abbrev F_S_PathOk : FuncId := 186
theorem v_S_PathOk : VT 1 1 Tryz.f186 186 [0,2,3,6,10,22] [none] [(.give, 2, none)] c186 := mkV Tryz.func186 rfl rfl (by kernel_rfl) (by kernel_rfl) rfl rfl
def c187_0:= rg [Qh 1 0,
Qcj 2 0 0 0 1 0 0 0 0]
def c187_1:= rg [Qcj 3 0 0 0 1 0 0 0 0]
def c187_2:= rg [Qb 4 0 1,
Qd 5 1 4,
Qb 6 0 3,
Qk 1 6 5]
def c187_3:= rg [Qb 7 1 1,
Qd 8 1 7,
Qb 9 1 3,
Qk 1 9 8]
def c187_4:= rg [Qb 10 2 1,
Qd 11 1 10,
Qp 12 221 11,
Qb 13 2 3,
Qk 1 13 12]
def c187_5:= rg [Qb 14 3 1,
Qd 15 1 14,
Qb 16 3 3,
Qk 1 16 15]
def c187_6:= rg [Qb 17 4 1,
Qd 18 1 17,
Qb 19 4 3,
Qk 1 19 18]
def c187_7:= rg [Qb 20 5 1,
Qd 21 1 20,
Qb 22 5 3,
Qk 1 22 21]
def c187_8:= rg [Qb 23 6 1,
Qd 24 1 23,
Qb 25 6 3,
Qk 1 25 24]
def c187_9:= rg [Qi 26 7 3,
Ql 7 2 26]
def c187 : ACode := (.seq c187_0 (.seq c187_1 (.seq c187_2 (.seq c187_3 (.seq c187_4 (.seq c187_5 (.seq c187_6 (.seq c187_7 (.seq c187_8 (.seq c187_9 .ret))))))))))
abbrev F_L_toToken : FuncId := 187
theorem v_L_toToken : VT 1 1 Tryz.f187 187 [0,1,2,3] [none] [(.give, 2, some (true, 7))] c187 := mkV Tryz.func187 rfl rfl (by kernel_rfl) (by kernel_rfl) rfl rfl
def c188_0:= rg [Qh 1 0,
Qci 2 0 0 0 0 0]
def c188_1:= rg [Qci 3 0 0 0 0 0]
def c188_2:= rg [Qb 4 0 1,
Qd 5 1 4,
Qb 6 0 3,
Qk 1 6 5]
def c188_3:= rg [Qb 7 1 1,
Qd 8 1 7,
Qb 9 1 3,
Qk 1 9 8]
def c188_4:= rg [Qb 10 2 1,
Qd 11 1 10,
Qb 12 2 3,
Qk 1 12 11]
def c188_5:= rg [Qb 13 3 1,
Qd 14 1 13,
Qb 15 3 3,
Qk 1 15 14]
def c188_6:= rg [Qb 16 4 1,
Qd 17 1 16,
Qb 18 4 3,
Qk 1 18 17]
def c188_7:= rg [Qb 19 5 1,
Qd 20 1 19,
Qb 21 5 3,
Qk 1 21 20]
def c188_8:= rg [Qi 22 6 3,
Ql 6 2 22]
def c188 : ACode := (.seq c188_0 (.seq c188_1 (.seq c188_2 (.seq c188_3 (.seq c188_4 (.seq c188_5 (.seq c188_6 (.seq c188_7 (.seq c188_8 .ret)))))))))
abbrev F_L_toLease : FuncId := 188
theorem v_L_toLease : VT 1 1 Tryz.f188 188 [0,1,2,3] [none] [(.give, 2, some (true, 6))] c188 := mkV Tryz.func188 rfl rfl (by kernel_rfl) (by kernel_rfl) rfl rfl
def c189_0:= rg [Qh 1 0,
⟨.var 2, .alloc [.d (.str []), .d (.str [])], none, []⟩]
def c189_1:= rg [⟨.var 3, .alloc [.d (.str []), .d (.str [])], none, []⟩]
def c189_2:= rg [Qb 4 0 1,
Qd 5 1 4,
Qb 6 0 3,
Qk 1 6 5]
def c189_3:= rg [Qb 7 1 1,
Qd 8 1 7,
Qb 9 1 3,
Qk 1 9 8]
def c189_4:= rg [Qi 10 2 3,
Ql 2 2 10]
def c189 : ACode := (.seq c189_0 (.seq c189_1 (.seq c189_2 (.seq c189_3 (.seq c189_4 .ret)))))
abbrev F_L_toUser : FuncId := 189
theorem v_L_toUser : VT 1 1 Tryz.f189 189 [0,1,2,3] [none] [(.give, 2, some (true, 2))] c189 := mkV Tryz.func189 rfl rfl (by kernel_rfl) (by kernel_rfl) rfl rfl
def c190_0:= rg [Qh 1 0,
Qco 2 0 0]
def c190_1:= rg [Qco 3 0 0]
def c190_2:= rg [Qb 4 0 1,
Qd 5 1 4,
Qb 6 0 3,
Qk 1 6 5]
def c190_3:= rg [Qb 7 1 1,
Qd 8 1 7,
Qb 9 1 3,
Qk 1 9 8]
def c190_4:= rg [Qb 10 2 1,
Qd 11 1 10,
Qb 12 2 3,
Qk 1 12 11]
def c190_5:= rg [Qi 13 3 3,
Ql 3 2 13]
def c190 : ACode := (.seq c190_0 (.seq c190_1 (.seq c190_2 (.seq c190_3 (.seq c190_4 (.seq c190_5 .ret))))))
abbrev F_L_toJob : FuncId := 190
theorem v_L_toJob : VT 1 1 Tryz.f190 190 [0,1,2,3] [none] [(.give, 2, some (true, 3))] c190 := mkV Tryz.func190 rfl rfl (by kernel_rfl) (by kernel_rfl) rfl rfl
def c191_0:= rg [Qh 1 0,
Qf 2]
def c191_1:= rg [Qb 5 4 1,
Qd 6 1 5,
⟨.loc 7, .bin .int .eql (.loc 6) (.const (.d (.int .i64 0))), none, []⟩,
Qn 8 7,
Qag 9 4 1 8,
Qao 10 1 9 8,
Qag 11 3 1 8,
Qao 12 1 11 8,
⟨.loc 13, .bin .int .add (.loc 12) (.const (.d (.int .i64 1))), some ((.loc 8), false), []⟩,
⟨.loc 14, .call (.fn 103) [(.loc 10), (.loc 13), (.const (.d (.int .i64 1000000000)))] [.borrow, .borrow, .borrow], some ((.loc 8), false), []⟩,
Qam 15 8 14,
Qc 3 15]
def c191_2:= rg [Qb 16 5 1,
Qd 17 1 16,
⟨.loc 18, .bin .int .eql (.loc 17) (.const (.d (.int .i64 0))), none, []⟩,
Qn 19 18,
Qag 20 5 1 19,
Qao 21 1 20 19,
Qag 22 3 1 19,
Qao 23 1 22 19,
⟨.loc 24, .bin .int .add (.loc 23) (.const (.d (.int .i64 1))), some ((.loc 19), false), []⟩,
⟨.loc 25, .call (.fn 103) [(.loc 21), (.loc 24), (.const (.d (.int .i64 1000000000)))] [.borrow, .borrow, .borrow], some ((.loc 19), false), []⟩,
⟨.loc 26, .split (.loc 25), some ((.loc 19), false), []⟩,
Qaa 27 4 1 26,
Qz 28 1 27 26,
⟨.loc 29, .bin .int .neq (.loc 28) (.const (.d (.int .i64 0))), some ((.loc 26), true), []⟩,
⟨.loc 30, .pick (.loc 26) (.loc 29) (.const (.d (.bool false))), some ((.loc 19), false), []⟩,
⟨.loc 31, .split (.loc 30), some ((.loc 19), false), []⟩,
Qaa 32 4 1 31,
Qz 33 1 32 31,
Qaa 34 5 1 31,
Qz 35 1 34 31,
⟨.loc 36, .bin .int .leq (.loc 33) (.loc 35), some ((.loc 31), true), []⟩,
⟨.loc 37, .pick (.loc 31) (.loc 36) (.const (.d (.bool false))), some ((.loc 19), false), []⟩,
Qam 38 19 37,
Qc 4 38]
def c191_3:= rg [Qb 39 0 1,
Qd 40 1 39,
Qbm 41 103 40 1 1000000000,
Qn 42 41,
Qaa 43 1 1 42,
Qz 44 1 43 42,
Qaa 45 0 1 42,
Qz 46 1 45 42,
⟨.loc 47, .bin .int .sub (.loc 46) (.const (.d (.int .i64 1))), some ((.loc 42), true), []⟩,
⟨.loc 48, .call (.fn 103) [(.loc 44), (.const (.d (.int .i64 0))), (.loc 47)] [.borrow, .borrow, .borrow], some ((.loc 42), true), []⟩,
Qad 49 42 48,
Qn 50 49,
Qaa 51 2 1 50,
Qz 52 1 51 50,
⟨.loc 53, .call (.fn 222) [(.loc 52)] [.borrow], some ((.loc 50), true), []⟩,
Qad 54 50 53,
Qn 55 54,
Qaa 56 3 1 55,
Qz 57 1 56 55,
Qce 58 103 57 0 1000000000 55,
Qad 59 55 58,
Qn 60 59,
Qab 61 3 60,
Qad 62 60 61,
Qn 63 62,
Qab 64 4 63,
Qad 65 63 64,
Qn 66 65,
Qaa 67 6 1 66,
Qz 68 1 67 66,
Qce 69 103 68 0 1000 66,
Qad 70 66 69,
Qc 2 70]
def c191 : ACode := (.seq c191_0 (.seq c191_1 (.seq c191_2 (.seq c191_3 .ret))))
abbrev F_I_isToken : FuncId := 191
theorem v_I_isToken : VT 1 1 Tryz.f191 191 [0,1,2,3,4] [none] [(.give, 2, none)] c191 := mkV Tryz.func191 rfl rfl (by kernel_rfl) (by kernel_rfl) rfl rfl
def c192_0:= rg [Qh 1 0,
Qf 2]
def c192_1:= rg [Qb 3 0 1,
Qd 4 1 3,
Qbm 5 103 4 1 1000000000,
Qn 6 5,
Qaa 7 1 1 6,
Qz 8 1 7 6,
Qce 9 103 8 0 1000000000 6,
Qad 10 6 9,
Qn 11 10,
Qaa 12 2 1 11,
Qz 13 1 12 11,
⟨.loc 14, .call (.fn 223) [(.loc 13)] [.borrow], some ((.loc 11), true), []⟩,
Qad 15 11 14,
Qn 16 15,
Qaa 17 3 1 16,
Qz 18 1 17 16,
Qce 19 103 18 0 1000000000 16,
Qad 20 16 19,
Qn 21 20,
Qaa 22 5 1 21,
Qz 23 1 22 21,
Qaa 24 3 1 21,
Qz 25 1 24 21,
Qcu 26 25 1 21,
⟨.loc 27, .call (.fn 103) [(.loc 23), (.loc 26), (.const (.d (.int .i64 1000000000)))] [.borrow, .borrow, .borrow], some ((.loc 21), true), []⟩,
Qad 28 21 27,
Qn 29 28,
Qaa 30 4 1 29,
Qz 31 1 30 29,
Qaa 32 3 1 29,
Qz 33 1 32 29,
Qcu 34 33 1 29,
Qaa 35 5 1 29,
Qz 36 1 35 29,
⟨.loc 37, .call (.fn 103) [(.loc 31), (.loc 34), (.loc 36)] [.borrow, .borrow, .borrow], some ((.loc 29), true), []⟩,
Qad 38 29 37,
Qc 2 38]
def c192 : ACode := (.seq c192_0 (.seq c192_1 .ret))
abbrev F_I_isLease : FuncId := 192
theorem v_I_isLease : VT 1 1 Tryz.f192 192 [0,1,2] [none] [(.give, 2, none)] c192 := mkV Tryz.func192 rfl rfl (by kernel_rfl) (by kernel_rfl) rfl rfl
def c193_0:= rg [Qf 4]
def c193_1:= rg [Qa 6 0,
⟨.var 7, .len true (.loc 6), none, []⟩,
Qe 8 0]
def c193_2:= rg [Qaz 9 8 7]
def c193_3:= rg [Qa 10 8,
Qc 5 10]
def c193_4:= rg [Qa 11 1,
Qa 12 0,
Qa 13 5,
⟨.loc 14, .idxS (.loc 12) (.loc 13), none, []⟩,
Qr 15 224 11 14,
Qu 16 15 0]
def c193_5:= rg [Qf 4]
def c193_6:= rg [Qba 17 8 1,
Qc 8 17]
def c193_7 : ACode := (.seq c193_2 (.seq (.cond (.var 9) .skip (.exit 0)) (.seq (.block 1 (.seq c193_3 (.seq c193_4 (.cond (.var 16) (.seq c193_5 .ret) .skip)))) c193_6)))
def c193_8:= rg [Qx 4]
def c193 : ACode := (.seq c193_0 (.seq (.seq c193_1 (.block 0 (.loop [0, 1, 7, 8] c193_7))) (.seq c193_8 .ret)))
abbrev F_I_onlyOf : FuncId := 193
theorem v_I_onlyOf : VT 2 1 Tryz.f193 193 [0,1,4,5,7,8,9,16] [none, none] [(.give, 4, none)] c193 := mkV Tryz.func193 rfl rfl (by kernel_rfl) (by kernel_rfl) rfl rfl
def c194_0:= rg [Qh 2 0,
Qh 3 1,
Qf 4]
def c194_1:= rg [Qb 5 0 2,
Qd 6 1 5,
Qb 7 0 3,
Qd 8 1 7,
Qv 9 6 8]
def c194_2:= rg [Qf 4]
def c194_3:= rg [Qb 10 1 2,
Qd 11 1 10,
Qb 12 1 3,
Qd 13 1 12,
Qv 14 11 13]
def c194_4:= rg [Qf 4]
def c194_5:= rg [Qb 15 2 2,
Qd 16 1 15,
Qb 17 2 3,
Qd 18 1 17,
Qr 19 18 16 18,
Qal 20 19]
def c194_6:= rg [Qf 4]
def c194_7:= rg [Qb 21 3 2,
Qd 22 1 21,
Qb 23 3 3,
Qd 24 1 23,
Qv 25 22 24]
def c194_8:= rg [Qf 4]
def c194_9:= rg [Qb 26 4 2,
Qd 27 1 26,
Qb 28 4 3,
Qd 29 1 28,
Qv 30 27 29]
def c194_10:= rg [Qf 4]
def c194_11:= rg [Qb 31 5 2,
Qd 32 1 31,
Qb 33 5 3,
Qd 34 1 33,
Qv 35 32 34]
def c194_12:= rg [Qf 4]
def c194_13:= rg [Qb 36 6 2,
Qd 37 1 36,
Qb 38 6 3,
Qd 39 1 38,
Qv 40 37 39]
def c194_14:= rg [Qf 4]
def c194_15:= rg [Qx 4]
def c194 : ACode := (.seq c194_0 (.seq (.seq c194_1 (.cond (.var 9) (.seq c194_2 .ret) .skip)) (.seq (.seq c194_3 (.cond (.var 14) (.seq c194_4 .ret) .skip)) (.seq (.seq c194_5 (.cond (.var 20) (.seq c194_6 .ret) .skip)) (.seq (.seq c194_7 (.cond (.var 25) (.seq c194_8 .ret) .skip)) (.seq (.seq c194_9 (.cond (.var 30) (.seq c194_10 .ret) .skip)) (.seq (.seq c194_11 (.cond (.var 35) (.seq c194_12 .ret) .skip)) (.seq (.seq c194_13 (.cond (.var 40) (.seq c194_14 .ret) .skip)) (.seq c194_15 .ret)))))))))
abbrev F_L_eqToken : FuncId := 194
theorem v_L_eqToken : VT 2 1 Tryz.f194 194 [0,1,2,3,4,9,14,20,25,30,35,40] [none, none] [(.give, 4, none)] c194 := mkV Tryz.func194 rfl rfl (by kernel_rfl) (by kernel_rfl) rfl rfl
def c195_0:= rg [Qh 2 0,
Qh 3 1,
Qf 4]
def c195_1:= rg [Qb 5 0 2,
Qd 6 1 5,
Qb 7 0 3,
Qd 8 1 7,
Qv 9 6 8]
def c195_2:= rg [Qf 4]
def c195_3:= rg [Qb 10 1 2,
Qd 11 1 10,
Qb 12 1 3,
Qd 13 1 12,
Qv 14 11 13]
def c195_4:= rg [Qf 4]
def c195_5:= rg [Qb 15 2 2,
Qd 16 1 15,
Qb 17 2 3,
Qd 18 1 17,
Qcn 19 16 18]
def c195_6:= rg [Qf 4]
def c195_7:= rg [Qb 20 3 2,
Qd 21 1 20,
Qb 22 3 3,
Qd 23 1 22,
Qv 24 21 23]
def c195_8:= rg [Qf 4]
def c195_9:= rg [Qb 25 4 2,
Qd 26 1 25,
Qb 27 4 3,
Qd 28 1 27,
Qv 29 26 28]
def c195_10:= rg [Qf 4]
def c195_11:= rg [Qb 30 5 2,
Qd 31 1 30,
Qb 32 5 3,
Qd 33 1 32,
Qv 34 31 33]
def c195_12:= rg [Qf 4]
def c195_13:= rg [Qx 4]
def c195 : ACode := (.seq c195_0 (.seq (.seq c195_1 (.cond (.var 9) (.seq c195_2 .ret) .skip)) (.seq (.seq c195_3 (.cond (.var 14) (.seq c195_4 .ret) .skip)) (.seq (.seq c195_5 (.cond (.var 19) (.seq c195_6 .ret) .skip)) (.seq (.seq c195_7 (.cond (.var 24) (.seq c195_8 .ret) .skip)) (.seq (.seq c195_9 (.cond (.var 29) (.seq c195_10 .ret) .skip)) (.seq (.seq c195_11 (.cond (.var 34) (.seq c195_12 .ret) .skip)) (.seq c195_13 .ret))))))))
abbrev F_L_eqLease : FuncId := 195
theorem v_L_eqLease : VT 2 1 Tryz.f195 195 [0,1,2,3,4,9,14,19,24,29,34] [none, none] [(.give, 4, none)] c195 := mkV Tryz.func195 rfl rfl (by kernel_rfl) (by kernel_rfl) rfl rfl
def c196_0:= rg [Qh 2 0,
Qh 3 1,
Qf 4]
def c196_1:= rg [Qb 5 0 2,
Qd 6 1 5,
Qb 7 0 3,
Qd 8 1 7,
Qcn 9 6 8]
def c196_2:= rg [Qf 4]
def c196_3:= rg [Qb 10 1 2,
Qd 11 1 10,
Qb 12 1 3,
Qd 13 1 12,
Qv 14 11 13]
def c196_4:= rg [Qf 4]
def c196_5:= rg [Qb 15 2 2,
Qd 16 1 15,
Qb 17 2 3,
Qd 18 1 17,
Qv 19 16 18]
def c196_6:= rg [Qf 4]
def c196_7:= rg [Qx 4]
def c196 : ACode := (.seq c196_0 (.seq (.seq c196_1 (.cond (.var 9) (.seq c196_2 .ret) .skip)) (.seq (.seq c196_3 (.cond (.var 14) (.seq c196_4 .ret) .skip)) (.seq (.seq c196_5 (.cond (.var 19) (.seq c196_6 .ret) .skip)) (.seq c196_7 .ret)))))
abbrev F_L_eqJob : FuncId := 196
theorem v_L_eqJob : VT 2 1 Tryz.f196 196 [0,1,2,3,4,9,14,19] [none, none] [(.give, 4, none)] c196 := mkV Tryz.func196 rfl rfl (by kernel_rfl) (by kernel_rfl) rfl rfl
def c197_0:= rg [Qe 4 0]
def c197_1:= rg [Qa 6 0,
⟨.var 7, .len false (.loc 6), none, []⟩,
Qe 8 0]
def c197_2:= rg [Qaz 9 8 7]
def c197_3:= rg [Qa 10 8,
Qc 5 10]
def c197_4:= rg [Qa 11 1,
Qa 12 0,
Qa 13 5,
Qm 14 3 12 13,
Qo 15 3 14,
⟨.var 16, .call (.loc 11) [(.loc 15)] [.borrow], none, []⟩]
def c197_5:= rg [Qa 17 5,
Qc 4 17]
def c197_6:= rg [Qba 18 8 1,
Qc 8 18]
def c197_7 : ACode := (.seq c197_2 (.seq (.cond (.var 9) .skip (.exit 0)) (.seq (.block 1 (.seq c197_3 (.seq c197_4 (.cond (.var 16) (.seq c197_5 .ret) .skip)))) c197_6)))
def c197_8:= rg [Qe 4 (-1)]
def c197 : ACode := (.seq c197_0 (.seq (.seq c197_1 (.block 0 (.loop [0, 1, 7, 8] c197_7))) (.seq c197_8 .ret)))
abbrev F_slices_IndexFunc___impl_Job_impl_Job_ : FuncId := 197
theorem v_slices_IndexFunc___impl_Job_impl_Job_ : VT 2 1 Tryz.f197 197 [0,1,4,5,7,8,9,16] [none, none] [(.give, 4, none)] c197 := mkV Tryz.func197 rfl rfl (by kernel_rfl) (by kernel_rfl) rfl rfl
def c199_0:= rg [Qap 2 0 1]
def c199_1:= rg [⟨.loc 5, .lit 0 1 0 [.str []] [], none, []⟩,
Qc 3 5]
def c199_2:= rg [Qe 4 0]
def c199_3:= rg [Qa 6 4,
Qa 7 0,
Qj 8 7,
Qq 9 6 8]
def c199_4:= rg [Qa 12 3,
Qa 13 0,
Qa 14 4,
Qm 15 1 13 14,
Qd 16 1 15,
Qcq 17 0 1 1 0 16,
Qbc 18 1 16 12 17,
Qc 3 18]
def c199_5:= rg [Qa 10 4,
Qg 11 10 1,
Qc 4 11]
def c199_6 : ACode := (.seq (.seq c199_3 (.cond (.var 9) .skip (.exit 0))) (.seq (.block 1 c199_4) c199_5))
def c199_7:= rg [Qa 19 3,
Qc 2 19]
def c199 : ACode := (.seq c199_0 (.seq c199_1 (.seq (.seq c199_2 (.block 0 (.loop [0, 3, 4] c199_6))) (.seq c199_7 .ret))))
abbrev F_S_l08Texts : FuncId := 199
theorem v_S_l08Texts : VT 1 1 Tryz.f199 199 [0,2,3,4,9] [none] [(.give, 2, none)] c199 := mkV Tryz.func199 rfl rfl (by kernel_rfl) (by kernel_rfl) rfl rfl
def c203_0:= rg [Qh 2 0,
Qat 4 0 2 0 0,
Qe 5 0]
def c203_1:= rg [Qi 8 3 2,
Qp 9 145 8,
Qat 6 0 2 0 0,
Ql 3 6 9]
def c203_2:= rg [Qi 10 3 2,
Qp 11 52 10,
Qal 12 11]
def c203_3:= rg [Qi 13 3 6,
Ql 3 4 13,
Qe 5 1]
def c203_4:= rg [Qb 14 1 2,
Qd 15 1 14,
Qbs 16 15 0]
def c203_5:= rg [Qb 17 1 2,
Qd 18 1 17,
⟨.loc 19, .bin .int .sub (.loc 18) (.const (.d (.int .i64 1))), none, []⟩,
Qb 20 1 6,
Qk 1 20 19]
def c203_6:= rg [Qi 21 3 6,
Ql 3 4 21,
Qe 5 2]
def c203_7:= rg [Qb 22 0 6,
⟨.none, .store 1 (.loc 22) (.const (.nil 0 2)), none, []⟩]
def c203_8:= rg [Qe 7 0]
def c203_9:= rg [Qa 23 7,
Qb 24 0 2,
Qd 25 1 24,
Qj 26 25,
Qq 27 23 26]
def c203_10:= rg [Qb 30 0 2,
Qd 31 1 30,
Qa 32 7,
Qm 33 2 31 32,
Qs 34 0 33,
Qd 35 1 34,
Qa 36 1,
Qcn 37 35 36]
def c203_11 : ACode := .reg [Qb 38 0 6,
  Qt 39 1 38 [0],
  Qb 40 0 2,
  Qt 41 1 40 [2],
  Qa 42 7,
  Qw 43 2 41 42 [3,2,4],
  Qaf 44 2 43 [5,3,2,4],
  ⟨.loc 45, .lit 0 2 1 [.str [], .str []] [(0, (.loc 44))], none, [6, 5, 3, 2, 4]⟩,
  Qcb 46 2 32 39 45 [1,0,7,6,5,3,2,4],
  Qbf 47 0 6 [8,1,0,7,6,5,3,2,4],
  Qaw 1 47 46 [9,8,1,0,7,6,5,3,2,4]] true
def c203_12:= rg [Qa 28 7,
Qg 29 28 1,
Qc 7 29]
def c203_13 : ACode := (.seq (.seq c203_9 (.cond (.var 27) .skip (.exit 0))) (.seq (.block 1 (.seq c203_10 (.cond (.var 37) c203_11 .skip))) c203_12))
def c203_14:= rg [Qi 48 3 6,
Ql 3 4 48,
Qe 5 0]
def c203 : ACode := (.seq c203_0 (.seq c203_1 (.seq (.seq c203_2 (.cond (.var 12) (.seq c203_3 .ret) .skip)) (.seq (.seq c203_4 (.cond (.var 16) (.seq c203_5 (.seq c203_6 .ret)) .skip)) (.seq c203_7 (.seq (.seq c203_8 (.block 0 (.loop [1, 2, 4, 6, 7] c203_13))) (.seq c203_14 .ret)))))))
abbrev F_S_DropUser : FuncId := 203
theorem v_S_DropUser : VT 2 2 Tryz.f203 203 [0,1,2,4,5,6,7,12,16,27,37] [none, none] [(.give, 4, some (true, 3)), (.give, 5, none)] c203 := mkV Tryz.func203 rfl rfl (by kernel_rfl) (by kernel_rfl) rfl rfl
def c204_0:= rg [Qh 2 0,
Qat 4 0 2 0 0,
Qe 5 0]
def c204_1:= rg [Qi 9 3 2,
Qp 10 150 9,
Qat 6 0 2 0 0,
Ql 3 6 10]
def c204_2:= rg [Qb 11 1 2,
Qd 12 1 11,
Qbs 13 12 0]
def c204_3:= rg [Qb 14 1 6,
Qd 15 1 14,
⟨.loc 16, .bin .int .sub (.loc 15) (.const (.d (.int .i64 1))), none, []⟩,
Qb 17 1 6,
Qk 1 17 16]
def c204_4:= rg [Qi 18 3 6,
Ql 3 4 18,
Qe 5 2]
def c204_5:= rg [Qi 20 3 2,
Qa 21 1,
Qr 22 216 20 21,
Qbg 19 22,
Qae 23 19 0,
Qae 24 19 1,
Qc 7 23,
Qc 8 24]
def c204_6:= rg [⟨.var 25, .mv (.var 8), none, []⟩]
def c204_7:= rg [Qb 26 0 6,
Qd 27 1 26,
Qa 28 7,
Qa 29 7,
Qg 30 29 1,
⟨.loc 31, .call (.fn 225) [(.loc 27), (.loc 28), (.loc 30)] [.give, .borrow, .borrow], none, []⟩,
Qb 32 0 6,
Qk 1 32 31]
def c204_8:= rg [Qi 33 3 6,
Ql 3 4 33,
Qe 5 0]
def c204 : ACode := (.seq c204_0 (.seq c204_1 (.seq (.seq c204_2 (.cond (.var 13) (.seq c204_3 (.seq c204_4 .ret)) .skip)) (.seq (.seq c204_5 (.seq c204_6 (.cond (.var 25) c204_7 .skip))) (.seq c204_8 .ret)))))
abbrev F_I_dropUser : FuncId := 204
theorem v_I_dropUser : VT 2 2 Tryz.f204 204 [0,1,2,4,5,6,7,8,13,25] [none, none] [(.give, 4, some (true, 3)), (.give, 5, none)] c204 := mkV Tryz.func204 rfl rfl (by kernel_rfl) (by kernel_rfl) rfl rfl
def c216_0:= rg [Qh 2 0,
Qe 4 0,
Qf 5]
def c216_1:= rg [Qb 6 0 2,
Qd 7 1 6,
Qa 8 1,
⟨.loc 9, .call (.fn 230) [(.loc 7), (.loc 8), (.fn 231)] [.borrow, .borrow, .borrow], none, []⟩,
Qae 10 9 0,
Qae 11 9 1,
Qc 4 10,
Qc 5 11]
def c216 : ACode := (.seq c216_0 (.seq c216_1 .ret))
abbrev F_I_userIndex : FuncId := 216
theorem v_I_userIndex : VT 2 2 Tryz.f216 216 [0,1,2,4,5] [none, none] [(.give, 4, none), (.give, 5, none)] c216 := mkV Tryz.func216 rfl rfl (by kernel_rfl) (by kernel_rfl) rfl rfl
def c219_0:= rg [Qe 4 0]
def c219_1:= rg [Qa 6 1,
Qa 7 0,
Qj 8 7,
Qbe 9 6 8,
Qc 1 9]
def c219_2:= rg [Qa 10 1,
Qu 11 10 0]
def c219_3:= rg [Qe 4 (-1)]
def c219_4:= rg [Qe 5 0]
def c219_5:= rg [Qa 12 5,
Qa 13 0,
Qj 14 13,
Qq 15 12 14]
def c219_6:= rg [Qa 18 1,
Qa 19 0,
Qa 20 5,
Qm 21 1 19 20,
Qd 22 1 21,
Qar 23 22,
Qbe 24 18 23,
Qc 1 24]
def c219_7:= rg [Qa 25 1,
Qu 26 25 0]
def c219_8:= rg [Qe 4 (-1)]
def c219_9:= rg [Qa 16 5,
Qg 17 16 1,
Qc 5 17]
def c219_10 : ACode := (.seq (.seq c219_5 (.cond (.var 15) .skip (.exit 0))) (.seq (.block 1 (.seq c219_6 (.seq c219_7 (.cond (.var 26) (.seq c219_8 .ret) .skip)))) c219_9))
def c219_11:= rg [Qa 27 1,
Qc 4 27]
def c219 : ACode := (.seq c219_0 (.seq c219_1 (.seq (.seq c219_2 (.cond (.var 11) (.seq c219_3 .ret) .skip)) (.seq (.seq c219_4 (.block 0 (.loop [0, 1, 5] c219_10))) (.seq c219_11 .ret)))))
abbrev F_L_szStringS : FuncId := 219
theorem v_L_szStringS : VT 2 1 Tryz.f219 219 [0,1,4,5,11,15,26] [none, none] [(.give, 4, none)] c219 := mkV Tryz.func219 rfl rfl (by kernel_rfl) (by kernel_rfl) rfl rfl
def c220_0:= rg [Qf 2]
def c220_1:= rg [Qa 5 0,
Qar 6 5,
Qbs 7 6 120]
def c220_2:= rg [Qf 2]
def c220_3:= rg [Qa 8 0,
⟨.loc 9, .call (.fn 238) [(.loc 8), (.const (.d (.int .u8 47)))] [.borrow, .borrow], none, []⟩,
Qc 3 9]
def c220_4:= rg [Qe 4 0]
def c220_5:= rg [Qa 10 4,
Qa 11 3,
Qj 12 11,
Qq 13 10 12]
def c220_6:= rg [Qa 16 3,
Qa 17 4,
Qm 18 1 16 17,
Qd 19 1 18,
Qp 20 239 19,
Qbb 21 20,
Qn 22 21,
Qab 23 3 22,
Qab 24 4 22,
⟨.loc 25, .idxA 1 (.loc 23) (.loc 24), some ((.loc 22), true), []⟩,
Qz 26 1 25 22,
⟨.loc 27, .bin .str .neq (.loc 26) (.const (.d (.str [43]))), some ((.loc 22), true), []⟩,
Qad 28 22 27,
Qn 29 28,
Qab 30 3 29,
Qab 31 4 29,
⟨.loc 32, .idxA 1 (.loc 30) (.loc 31), some ((.loc 29), true), []⟩,
Qz 33 1 32 29,
⟨.loc 34, .bin .str .eql (.loc 33) (.const (.d (.str [42]))), some ((.loc 29), true), []⟩,
⟨.loc 35, .split (.loc 34), some ((.loc 29), true), []⟩,
Qab 36 4 35,
Qab 37 3 35,
⟨.loc 38, .len false (.loc 37), some ((.loc 35), true), []⟩,
⟨.loc 39, .bin .int .sub (.loc 38) (.const (.d (.int .i64 1))), some ((.loc 35), true), []⟩,
⟨.loc 40, .bin .int .eql (.loc 36) (.loc 39), some ((.loc 35), true), []⟩,
⟨.loc 41, .pick (.loc 35) (.loc 40) (.const (.d (.bool false))), some ((.loc 29), true), []⟩,
Qcr 42 41 29,
⟨.var 43, .pick (.loc 29) (.loc 42) (.const (.d (.bool false))), none, []⟩]
def c220_7:= rg [Qf 2]
def c220_8:= rg [Qa 14 4,
Qg 15 14 1,
Qc 4 15]
def c220_9 : ACode := (.seq (.seq c220_5 (.cond (.var 13) .skip (.exit 0))) (.seq (.block 1 (.seq c220_6 (.cond (.var 43) (.seq c220_7 .ret) .skip))) c220_8))
def c220_10:= rg [Qa 44 3,
Qj 45 44,
Qcl 46 45 8,
Qc 2 46]
def c220 : ACode := (.seq c220_0 (.seq (.seq c220_1 (.cond (.var 7) (.seq c220_2 .ret) .skip)) (.seq c220_3 (.seq (.seq c220_4 (.block 0 (.loop [3, 4] c220_9))) (.seq c220_10 .ret)))))
abbrev F_S_GlobOk : FuncId := 220
theorem v_S_GlobOk : VT 1 1 Tryz.f220 220 [0,2,3,4,7,13,43] [none] [(.give, 2, none)] c220 := mkV Tryz.func220 rfl rfl (by kernel_rfl) (by kernel_rfl) rfl rfl
def c221_0:= rg [Qap 2 0 1]
def c221_1:= rg [Qa 5 0,
Qj 6 5,
⟨.loc 7, .mkslice 0 1 16 [.str []] (.loc 6) (.loc 6), none, []⟩,
Qc 3 7]
def c221_2:= rg [Qe 4 0]
def c221_3:= rg [Qa 8 4,
Qa 9 0,
Qj 10 9,
Qq 11 8 10]
def c221_4:= rg [Qa 14 3,
Qa 15 4,
Qa 16 0,
Qa 17 4,
Qm 18 1 16 17,
Qd 19 1 18,
Qm 20 1 14 15,
Qk 1 20 19]
def c221_5:= rg [Qa 12 4,
Qg 13 12 1,
Qc 4 13]
def c221_6 : ACode := (.seq (.seq c221_3 (.cond (.var 11) .skip (.exit 0))) (.seq (.block 1 c221_4) c221_5))
def c221_7:= rg [Qa 21 3,
Qc 2 21]
def c221 : ACode := (.seq c221_0 (.seq c221_1 (.seq (.seq c221_2 (.block 0 (.loop [0, 3, 4] c221_6))) (.seq c221_7 .ret))))
abbrev F_L_toStringS : FuncId := 221
theorem v_L_toStringS : VT 1 1 Tryz.f221 221 [0,2,3,4,11] [none] [(.give, 2, none)] c221 := mkV Tryz.func221 rfl rfl (by kernel_rfl) (by kernel_rfl) rfl rfl
def c222_0:= rg [Qf 2]
def c222_1:= rg [⟨.var 5, .mv (.var 0), none, []⟩,
Qbt 6 5,
Qe 7 0]
def c222_2:= rg [Qaz 8 7 6]
def c222_3:= rg [Qa 9 7,
Qbu 10 1 5 7,
Qd 11 1 10,
Qc 3 9,
Qc 4 11]
def c222_4:= rg [Qa 12 4,
Qp 13 126 12,
Qbb 14 13,
Qn 15 14,
Qas 16 3 15,
⟨.loc 17, .bin .int .gtr (.loc 16) (.const (.d (.int .i64 0))), some ((.loc 15), false), []⟩,
⟨.loc 18, .split (.loc 17), some ((.loc 15), false), []⟩,
Qab 19 0 18,
Qab 20 3 18,
⟨.loc 21, .bin .int .sub (.loc 20) (.const (.d (.int .i64 1))), some ((.loc 18), true), []⟩,
⟨.loc 22, .idxA 1 (.loc 19) (.loc 21), some ((.loc 18), true), []⟩,
Qz 23 1 22 18,
Qab 24 4 18,
⟨.loc 25, .bin .str .geq (.loc 23) (.loc 24), some ((.loc 18), true), []⟩,
⟨.loc 26, .pick (.loc 18) (.loc 25) (.const (.d (.bool false))), some ((.loc 15), false), []⟩,
Qav 27 15 26]
def c222_5:= rg [Qf 2]
def c222_6:= rg [Qba 28 7 1,
Qc 7 28]
def c222_7 : ACode := (.seq c222_2 (.seq (.cond (.var 8) .skip (.exit 0)) (.seq (.block 1 (.seq c222_3 (.seq c222_4 (.cond (.var 27) (.seq c222_5 .ret) .skip)))) c222_6)))
def c222_8:= rg [Qa 29 0,
Qj 30 29,
Qcl 31 30 6,
Qc 2 31]
def c222 : ACode := (.seq c222_0 (.seq (.seq c222_1 (.block 0 (.loop [0, 5, 6, 7] c222_7))) (.seq c222_8 .ret)))
abbrev F_I_areNames : FuncId := 222
theorem v_I_areNames : VT 1 1 Tryz.f222 222 [0,2,3,4,5,6,7,8,27] [none] [(.give, 2, none)] c222 := mkV Tryz.func222 rfl rfl (by kernel_rfl) (by kernel_rfl) rfl rfl
def c223_0:= rg [Qf 2]
def c223_1:= rg [Qa 3 0,
Qp 4 240 3,
Qn 5 4,
Qab 6 0 5,
⟨.loc 7, .call (.fn 241) [(.loc 6), (.const (.d (.str [43, 42])))] [.borrow, .borrow], some ((.loc 5), true), []⟩,
Qcr 8 7 5,
Qad 9 5 8,
Qc 2 9]
def c223 : ACode := (.seq c223_0 (.seq c223_1 .ret))
abbrev F_I_isPath : FuncId := 223
theorem v_I_isPath : VT 1 1 Tryz.f223 223 [0,2] [none] [(.give, 2, none)] c223 := mkV Tryz.func223 rfl rfl (by kernel_rfl) (by kernel_rfl) rfl rfl
def c230_0:= rg [Qe 6 0,
Qf 7]
def c230_1:= rg [Qa 12 0,
Qj 13 12,
Qc 8 13]
def c230_2:= rg [Qa 14 8,
Qe 9 0,
Qc 10 14]
def c230_3:= rg [Qa 15 9,
Qa 16 10,
Qq 17 15 16]
def c230_4:= rg [Qa 18 9,
Qa 19 10,
Qct 20 18 19,
⟨.loc 21, .conv .u64 (.loc 20), none, []⟩,
⟨.loc 22, .bin .int .shr (.loc 21) (.const (.d (.int .u64 1))), none, []⟩,
⟨.loc 23, .conv .i64 (.loc 22), none, []⟩,
Qc 11 23]
def c230_5:= rg [Qa 24 2,
Qa 25 0,
Qa 26 11,
Qm 27 2 25 26,
Qo 28 2 27,
Qa 29 1,
⟨.loc 30, .call (.loc 24) [(.loc 28), (.loc 29)] [.borrow, .borrow], none, []⟩,
Qu 31 30 0]
def c230_6:= rg [Qa 32 11,
Qg 33 32 1,
Qc 9 33]
def c230_7:= rg [Qa 34 11,
Qc 10 34]
def c230_8 : ACode := (.seq (.seq c230_3 (.cond (.var 17) .skip (.exit 0))) (.block 1 (.seq c230_4 (.seq c230_5 (.cond (.var 31) c230_6 c230_7)))))
def c230_9:= rg [Qa 35 9,
Qa 36 9,
Qa 37 8,
⟨.loc 38, .bin .int .lss (.loc 36) (.loc 37), none, []⟩,
Qn 39 38,
Qab 40 2 39,
Qab 41 0 39,
Qab 42 9 39,
⟨.loc 43, .idxA 2 (.loc 41) (.loc 42), some ((.loc 39), true), []⟩,
⟨.loc 44, .load true 2 (.loc 43), some ((.loc 39), true), []⟩,
Qab 45 1 39,
⟨.loc 46, .call (.loc 40) [(.loc 44), (.loc 45)] [.borrow, .borrow], some ((.loc 39), true), []⟩,
⟨.loc 47, .bin .int .eql (.loc 46) (.const (.d (.int .i64 0))), some ((.loc 39), true), []⟩,
Qad 48 39 47,
Qc 6 35,
Qc 7 48]
def c230 : ACode := (.seq c230_0 (.seq c230_1 (.seq c230_2 (.seq (.block 0 (.loop [0, 1, 2, 8, 9, 10] c230_8)) (.seq c230_9 .ret)))))
abbrev F_slices_BinarySearchFunc___impl_User_impl_User_string_ : FuncId := 230
theorem v_slices_BinarySearchFunc___impl_User_impl_User_string_ : VT 3 2 Tryz.f230 230 [0,1,2,6,7,8,9,10,11,17,31] [none, none, none] [(.give, 6, none), (.give, 7, none)] c230 := mkV Tryz.func230 rfl rfl (by kernel_rfl) (by kernel_rfl) rfl rfl
def c231_0:= rg [Qh 2 0,
Qe 4 0]
def c231_1:= rg [Qb 5 0 2,
Qd 6 1 5,
Qa 7 1,
Qr 8 232 6 7,
Qc 4 8]
def c231 : ACode := (.seq c231_0 (.seq c231_1 .ret))
abbrev F_I_userIndex_c1 : FuncId := 231
theorem v_I_userIndex_c1 : VT 2 1 Tryz.f231 231 [0,1,2,4] [none, none] [(.give, 4, none)] c231 := mkV Tryz.func231 rfl rfl (by kernel_rfl) (by kernel_rfl) rfl rfl
def c238_0:= rg [Qap 4 0 1]
def c238_1:= rg [⟨.loc 8, .lit 0 1 0 [.str []] [], none, []⟩,
Qc 5 8]
def c238_2:= rg [Qe 6 0]
def c238_3:= rg [Qe 7 0]
def c238_4:= rg [Qa 9 7,
Qa 10 0,
Qar 11 10,
⟨.var 12, .bin .int .leq (.loc 9) (.loc 11), none, []⟩]
def c238_5:= rg [Qa 15 7,
Qa 16 0,
Qar 17 16,
⟨.loc 18, .bin .int .eql (.loc 15) (.loc 17), none, []⟩,
Qn 19 18,
Qas 20 0 19,
Qas 21 7 19,
⟨.loc 22, .idxS (.loc 20) (.loc 21), some ((.loc 19), false), []⟩,
Qas 23 1 19,
⟨.loc 24, .bin .int .eql (.loc 22) (.loc 23), some ((.loc 19), false), []⟩,
Qav 25 19 24]
def c238_6:= rg [Qa 26 5,
Qa 27 0,
Qa 28 6,
Qa 29 7,
⟨.loc 30, .sliceS (.loc 27) (some (.loc 28)) (some (.loc 29)), none, []⟩,
Qcq 31 0 1 1 0 30,
Qbc 32 1 16 26 31,
Qc 5 32]
def c238_7:= rg [Qa 33 7,
Qg 34 33 1,
Qc 6 34]
def c238_8:= rg [Qa 13 7,
Qg 14 13 1,
Qc 7 14]
def c238_9 : ACode := (.seq (.seq c238_4 (.cond (.var 12) .skip (.exit 0))) (.seq (.block 1 (.seq c238_5 (.cond (.var 25) (.seq c238_6 c238_7) .skip))) c238_8))
def c238_10:= rg [Qa 35 5,
Qc 4 35]
def c238 : ACode := (.seq c238_0 (.seq c238_1 (.seq c238_2 (.seq (.seq c238_3 (.block 0 (.loop [0, 1, 5, 6, 7] c238_9))) (.seq c238_10 .ret)))))
abbrev F_S_l01Parts : FuncId := 238
theorem v_S_l01Parts : VT 2 1 Tryz.f238 238 [0,1,4,5,6,7,12,25] [none, none] [(.give, 4, none)] c238 := mkV Tryz.func238 rfl rfl (by kernel_rfl) (by kernel_rfl) rfl rfl
def c239_0:= rg [Qf 2]
def c239_1:= rg [Qa 5 0,
Qar 6 5,
Qbm 7 49 6 1 16,
Qal 8 7]
def c239_2:= rg [Qf 2]
def c239_3:= rg [Qe 3 0]
def c239_4:= rg [Qa 9 3,
Qa 10 0,
Qar 11 10,
Qq 12 9 11]
def c239_5:= rg [Qa 15 0,
Qa 16 3,
⟨.loc 17, .idxS (.loc 15) (.loc 16), none, []⟩,
Qc 4 17]
def c239_6:= rg [Qa 18 4,
⟨.loc 19, .bin .int .geq (.loc 18) (.const (.d (.int .u8 97))), none, []⟩,
Qn 20 19,
Qab 21 4 20,
⟨.loc 22, .bin .int .leq (.loc 21) (.const (.d (.int .u8 122))), some ((.loc 20), true), []⟩,
Qad 23 20 22,
Qbb 24 23,
Qn 25 24,
Qab 26 4 25,
⟨.loc 27, .bin .int .geq (.loc 26) (.const (.d (.int .u8 48))), some ((.loc 25), true), []⟩,
⟨.loc 28, .split (.loc 27), some ((.loc 25), true), []⟩,
Qab 29 4 28,
⟨.loc 30, .bin .int .leq (.loc 29) (.const (.d (.int .u8 57))), some ((.loc 28), true), []⟩,
⟨.loc 31, .pick (.loc 28) (.loc 30) (.const (.d (.bool false))), some ((.loc 25), true), []⟩,
Qcr 32 31 25,
Qad 33 25 32,
Qn 34 33,
Qab 35 4 34,
⟨.loc 36, .bin .int .neq (.loc 35) (.const (.d (.int .u8 45))), some ((.loc 34), true), []⟩,
⟨.var 37, .pick (.loc 34) (.loc 36) (.const (.d (.bool false))), none, []⟩]
def c239_7:= rg [Qf 2]
def c239_8:= rg [Qa 13 3,
Qg 14 13 1,
Qc 3 14]
def c239_9 : ACode := (.seq (.seq c239_4 (.cond (.var 12) .skip (.exit 0))) (.seq (.block 1 (.seq c239_5 (.seq c239_6 (.cond (.var 37) (.seq c239_7 .ret) .skip)))) c239_8))
def c239_10:= rg [Qx 2]
def c239 : ACode := (.seq c239_0 (.seq (.seq c239_1 (.cond (.var 8) (.seq c239_2 .ret) .skip)) (.seq (.seq c239_3 (.block 0 (.loop [0, 3] c239_9))) (.seq c239_10 .ret))))
abbrev F_S_l01Segment : FuncId := 239
theorem v_S_l01Segment : VT 1 1 Tryz.f239 239 [0,2,3,4,8,12,37] [none] [(.give, 2, none)] c239 := mkV Tryz.func239 rfl rfl (by kernel_rfl) (by kernel_rfl) rfl rfl
def c240_0:= rg [Qf 2]
def c240_1:= rg [Qa 6 0,
Qar 7 6,
Qbs 8 7 120]
def c240_2:= rg [Qf 2]
def c240_3:= rg [Qa 9 0,
⟨.loc 10, .call (.fn 249) [(.loc 9), (.const (.d (.str [47])))] [.borrow, .borrow], none, []⟩,
Qc 3 10]
def c240_4:= rg [⟨.var 11, .mv (.var 3), none, []⟩,
Qbt 12 11,
Qe 13 0]
def c240_5:= rg [Qaz 14 13 12]
def c240_6:= rg [Qa 15 13,
Qbu 16 1 11 13,
Qd 17 1 16,
Qc 4 15,
Qc 5 17]
def c240_7:= rg [Qa 18 5,
⟨.loc 19, .bin .str .eql (.loc 18) (.const (.d (.str [43]))), none, []⟩,
Qn 20 19,
Qas 21 5 20,
⟨.loc 22, .bin .str .eql (.loc 21) (.const (.d (.str [42]))), some ((.loc 20), false), []⟩,
⟨.loc 23, .split (.loc 22), some ((.loc 20), false), []⟩,
Qab 24 4 23,
Qab 25 3 23,
⟨.loc 26, .len false (.loc 25), some ((.loc 23), true), []⟩,
⟨.loc 27, .bin .int .sub (.loc 26) (.const (.d (.int .i64 1))), some ((.loc 23), true), []⟩,
⟨.loc 28, .bin .int .eql (.loc 24) (.loc 27), some ((.loc 23), true), []⟩,
⟨.loc 29, .pick (.loc 23) (.loc 28) (.const (.d (.bool false))), some ((.loc 20), false), []⟩,
Qav 30 20 29]
def c240_8:= rg [Qa 31 5,
Qar 32 31,
Qbm 33 103 32 1 16,
Qbb 34 33,
Qn 35 34,
Qas 36 5 35,
⟨.loc 37, .call (.fn 193) [(.loc 36), (.const (.d (.str [97, 98, 99, 100, 101, 102, 103, 104, 105, 106, 107, 108, 109, 110, 111, 112, 113, 114, 115, 116, 117, 118, 119, 120, 121, 122, 48, 49, 50, 51, 52, 53, 54, 55, 56, 57, 45])))] [.borrow, .borrow], some ((.loc 35), false), []⟩,
Qai 38 37 35,
Qav 39 35 38]
def c240_9:= rg [Qf 2]
def c240_10:= rg [Qba 40 13 1,
Qc 13 40]
def c240_11 : ACode := (.seq c240_5 (.seq (.cond (.var 14) .skip (.exit 0)) (.seq (.block 1 (.seq c240_6 (.seq (.seq c240_7 (.cond (.var 30) (.exit 1) .skip)) (.seq c240_8 (.cond (.var 39) (.seq c240_9 .ret) .skip))))) c240_10)))
def c240_12:= rg [Qa 41 3,
Qj 42 41,
Qcl 43 42 8,
Qc 2 43]
def c240 : ACode := (.seq c240_0 (.seq (.seq c240_1 (.cond (.var 8) (.seq c240_2 .ret) .skip)) (.seq c240_3 (.seq (.seq c240_4 (.block 0 (.loop [3, 11, 12, 13] c240_11))) (.seq c240_12 .ret)))))
abbrev F_I_isGlob : FuncId := 240
theorem v_I_isGlob : VT 1 1 Tryz.f240 240 [0,2,3,4,5,8,11,12,13,14,30,39] [none] [(.give, 2, none)] c240 := mkV Tryz.func240 rfl rfl (by kernel_rfl) (by kernel_rfl) rfl rfl
end Go.Proofs.YtdckkojgnkoabaaGreatDoor.Ab
