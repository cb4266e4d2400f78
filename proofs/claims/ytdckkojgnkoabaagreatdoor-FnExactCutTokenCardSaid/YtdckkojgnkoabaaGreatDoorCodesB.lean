/-
  A part of a proof about the given program; what is proved is said where each theorem stands.
-/
import Derived.Test.YtdckkojgnkoabaaGreatDoorFrameA
import Derived.Test.YtdckkojgnkoabaaGreatDoorFrameB
import Derived.Test.YtdckkojgnkoabaaGreatDoorFrameC
import Derived.Test.YtdckkojgnkoabaaGreatDoorFrameD
import Derived.Test.YtdckkojgnkoabaaGreatDoorFrameE
import Derived.Test.YtdckkojgnkoabaaGreatDoorCodesA
set_option maxRecDepth 100000
namespace Go.Proofs.YtdckkojgnkoabaaGreatDoor.Ab
open Go.Proofs
def c155_15:= rg [Qa 48 0,
Qa 49 5,
Qm 50 7 48 49,
Qt 51 4 50,
Qd 52 1 51,
Qa 53 1,
Qv 54 52 53]
def c155_16:= rg [Qe 4 (-1)]
def c155_17:= rg [Qa 55 1,
Qi 56 55 1,
Qc 1 56]
def c155_18:= rg [Qa 57 0,
Qa 58 5,
Qm 59 7 57 58,
Qt 60 5 59,
Qd 61 1 60,
Qa 62 1,
Qv 63 61 62]
def c155_19:= rg [Qe 4 (-1)]
def c155_20:= rg [Qa 64 1,
Qi 65 64 1,
Qc 1 65]
def c155_21:= rg [Qa 66 0,
Qa 67 5,
Qm 68 7 66 67,
Qt 69 6 68,
Qd 70 1 69,
Qa 71 1,
Qv 72 70 71]
def c155_22:= rg [Qe 4 (-1)]
def c155_23:= rg [Qa 73 1,
Qi 74 73 1,
Qc 1 74]
def c155_24:= rg [Qa 10 5,
Qi 11 10 1,
Qc 5 11]
def c155_25 : ACode := (.seq (.seq c155_2 (.cond (.var 9) .skip (.exit 0))) (.seq (.block 1 (.seq (.seq c155_3 (.cond (.var 18) (.seq c155_4 .ret) .skip)) (.seq c155_5 (.seq (.seq c155_6 (.cond (.var 27) (.seq c155_7 .ret) .skip)) (.seq c155_8 (.seq c155_9 (.seq (.seq c155_10 (.cond (.var 38) (.seq c155_11 .ret) .skip)) (.seq (.seq c155_12 (.cond (.var 45) (.seq c155_13 .ret) .skip)) (.seq c155_14 (.seq (.seq c155_15 (.cond (.var 54) (.seq c155_16 .ret) .skip)) (.seq c155_17 (.seq (.seq c155_18 (.cond (.var 63) (.seq c155_19 .ret) .skip)) (.seq c155_20 (.seq (.seq c155_21 (.cond (.var 72) (.seq c155_22 .ret) .skip)) c155_23)))))))))))))) c155_24))
def c155_26:= rg [Qa 75 1,
Qc 4 75]
def c155 : ACode := (.seq c155_0 (.seq (.seq c155_1 (.block 0 (.loop [0, 1, 5] c155_25))) (.seq c155_26 .ret)))
abbrev F_L_heldTokenS : FuncId := 155
theorem v_L_heldTokenS : VT 2 1 Tryz.f155 155 [0,1,4,5,9,18,27,38,45,54,63,72] [none, none] [(.give, 4, none)] c155 := mkV Tryz.func155 rfl rfl (by kernel_rfl) (by kernel_rfl) rfl rfl
def c156_0:= rg [Qe 4 0]
def c156_1:= rg [Qe 5 0]
def c156_2:= rg [Qa 6 5,
Qa 7 0,
Qj 8 7,
Qq 9 6 8]
def c156_3:= rg [Qa 12 0,
Qa 13 5,
Qm 14 6 12 13,
Qt 15 0 14,
Qd 16 1 15,
Qa 17 1,
Qv 18 16 17]
def c156_4:= rg [Qe 4 (-1)]
def c156_5:= rg [Qa 19 1,
Qi 20 19 1,
Qc 1 20]
def c156_6:= rg [Qa 21 0,
Qa 22 5,
Qm 23 6 21 22,
Qt 24 1 23,
Qd 25 1 24,
Qa 26 1,
Qv 27 25 26]
def c156_7:= rg [Qe 4 (-1)]
def c156_8:= rg [Qa 28 1,
Qi 29 28 1,
Qc 1 29]
def c156_9 : ACode := .reg [Qa 30 0,
  Qa 31 5,
  Qw 32 6 30 31 [0,1],
  Qah 33 2 32 [2,0,1],
  Qr 34 1 33 [3,2,0,1],
  Qa 35 1,
  Qak 36 75 35 [5],
  Qck 37 34 36 [4,3,2,0,1,6,5]] true
def c156_10:= rg [Qe 4 (-1)]
def c156_11:= rg [Qa 38 1,
Qi 39 38 1,
Qc 1 39]
def c156_12:= rg [Qa 40 0,
Qa 41 5,
Qm 42 6 40 41,
Qt 43 3 42,
Qd 44 1 43,
Qa 45 1,
Qv 46 44 45]
def c156_13:= rg [Qe 4 (-1)]
def c156_14:= rg [Qa 47 1,
Qi 48 47 1,
Qc 1 48]
def c156_15:= rg [Qa 49 0,
Qa 50 5,
Qm 51 6 49 50,
Qt 52 4 51,
Qd 53 1 52,
Qa 54 1,
Qv 55 53 54]
def c156_16:= rg [Qe 4 (-1)]
def c156_17:= rg [Qa 56 1,
Qi 57 56 1,
Qc 1 57]
def c156_18:= rg [Qa 58 0,
Qa 59 5,
Qm 60 6 58 59,
Qt 61 5 60,
Qd 62 1 61,
Qa 63 1,
Qv 64 62 63]
def c156_19:= rg [Qe 4 (-1)]
def c156_20:= rg [Qa 65 1,
Qi 66 65 1,
Qc 1 66]
def c156_21:= rg [Qa 10 5,
Qi 11 10 1,
Qc 5 11]
def c156_22 : ACode := (.seq (.seq c156_2 (.cond (.var 9) .skip (.exit 0))) (.seq (.block 1 (.seq (.seq c156_3 (.cond (.var 18) (.seq c156_4 .ret) .skip)) (.seq c156_5 (.seq (.seq c156_6 (.cond (.var 27) (.seq c156_7 .ret) .skip)) (.seq c156_8 (.seq (.seq c156_9 (.cond (.var 37) (.seq c156_10 .ret) .skip)) (.seq c156_11 (.seq (.seq c156_12 (.cond (.var 46) (.seq c156_13 .ret) .skip)) (.seq c156_14 (.seq (.seq c156_15 (.cond (.var 55) (.seq c156_16 .ret) .skip)) (.seq c156_17 (.seq (.seq c156_18 (.cond (.var 64) (.seq c156_19 .ret) .skip)) c156_20)))))))))))) c156_21))
def c156_23:= rg [Qa 67 1,
Qc 4 67]
def c156 : ACode := (.seq c156_0 (.seq (.seq c156_1 (.block 0 (.loop [0, 1, 5] c156_22))) (.seq c156_23 .ret)))
abbrev F_L_heldLeaseS : FuncId := 156
theorem v_L_heldLeaseS : VT 2 1 Tryz.f156 156 [0,1,4,5,9,18,27,37,46,55,64] [none, none] [(.give, 4, none)] c156 := mkV Tryz.func156 rfl rfl (by kernel_rfl) (by kernel_rfl) rfl rfl
def c157_0:= rg [Qe 4 0]
def c157_1:= rg [Qe 5 0]
def c157_2:= rg [Qa 6 5,
Qa 7 0,
Qj 8 7,
Qq 9 6 8]
def c157_3 : ACode := .reg [Qa 12 0,
  Qa 13 5,
  Qw 14 2 12 13 [0,1],
  Qah 15 0 14 [2,0,1],
  Qr 16 1 15 [3,2,0,1],
  Qa 17 1,
  Qak 18 75 17 [5],
  Qck 19 16 18 [4,3,2,0,1,6,5]] true
def c157_4:= rg [Qe 4 (-1)]
def c157_5:= rg [Qa 20 1,
Qi 21 20 1,
Qc 1 21]
def c157_6 : ACode := .reg [Qa 22 0,
  Qa 23 5,
  Qw 24 2 22 23 [0,1],
  Qah 25 1 24 [2,0,1],
  Qr 26 1 25 [3,2,0,1],
  Qa 27 1,
  Qak 28 75 27 [5],
  Qck 29 26 28 [4,3,2,0,1,6,5]] true
def c157_7:= rg [Qe 4 (-1)]
def c157_8:= rg [Qa 30 1,
Qi 31 30 1,
Qc 1 31]
def c157_9:= rg [Qa 10 5,
Qi 11 10 1,
Qc 5 11]
def c157_10 : ACode := (.seq (.seq c157_2 (.cond (.var 9) .skip (.exit 0))) (.seq (.block 1 (.seq (.seq c157_3 (.cond (.var 19) (.seq c157_4 .ret) .skip)) (.seq c157_5 (.seq (.seq c157_6 (.cond (.var 29) (.seq c157_7 .ret) .skip)) c157_8)))) c157_9))
def c157_11:= rg [Qa 32 1,
Qc 4 32]
def c157 : ACode := (.seq c157_0 (.seq (.seq c157_1 (.block 0 (.loop [0, 1, 5] c157_10))) (.seq c157_11 .ret)))
abbrev F_L_heldUserS : FuncId := 157
theorem v_L_heldUserS : VT 2 1 Tryz.f157 157 [0,1,4,5,9,19,29] [none, none] [(.give, 4, none)] c157 := mkV Tryz.func157 rfl rfl (by kernel_rfl) (by kernel_rfl) rfl rfl
def c158_0:= rg [Qe 4 0]
def c158_1:= rg [Qe 5 0]
def c158_2:= rg [Qa 6 5,
Qa 7 0,
Qj 8 7,
Qq 9 6 8]
def c158_3 : ACode := .reg [Qa 12 0,
  Qa 13 5,
  Qw 14 3 12 13 [0,1],
  Qah 15 0 14 [2,0,1],
  Qr 16 1 15 [3,2,0,1],
  Qa 17 1,
  Qak 18 75 17 [5],
  Qck 19 16 18 [4,3,2,0,1,6,5]] true
def c158_4:= rg [Qe 4 (-1)]
def c158_5:= rg [Qa 20 1,
Qi 21 20 1,
Qc 1 21]
def c158_6:= rg [Qa 22 0,
Qa 23 5,
Qm 24 3 22 23,
Qt 25 1 24,
Qd 26 1 25,
Qa 27 1,
Qv 28 26 27]
def c158_7:= rg [Qe 4 (-1)]
def c158_8:= rg [Qa 29 1,
Qi 30 29 1,
Qc 1 30]
def c158_9:= rg [Qa 31 0,
Qa 32 5,
Qm 33 3 31 32,
Qt 34 2 33,
Qd 35 1 34,
Qa 36 1,
Qv 37 35 36]
def c158_10:= rg [Qe 4 (-1)]
def c158_11:= rg [Qa 38 1,
Qi 39 38 1,
Qc 1 39]
def c158_12:= rg [Qa 10 5,
Qi 11 10 1,
Qc 5 11]
def c158_13 : ACode := (.seq (.seq c158_2 (.cond (.var 9) .skip (.exit 0))) (.seq (.block 1 (.seq (.seq c158_3 (.cond (.var 19) (.seq c158_4 .ret) .skip)) (.seq c158_5 (.seq (.seq c158_6 (.cond (.var 28) (.seq c158_7 .ret) .skip)) (.seq c158_8 (.seq (.seq c158_9 (.cond (.var 37) (.seq c158_10 .ret) .skip)) c158_11)))))) c158_12))
def c158_14:= rg [Qa 40 1,
Qc 4 40]
def c158 : ACode := (.seq c158_0 (.seq (.seq c158_1 (.block 0 (.loop [0, 1, 5] c158_13))) (.seq c158_14 .ret)))
abbrev F_L_heldJobS : FuncId := 158
theorem v_L_heldJobS : VT 2 1 Tryz.f158 158 [0,1,4,5,9,19,28,37] [none, none] [(.give, 4, none)] c158 := mkV Tryz.func158 rfl rfl (by kernel_rfl) (by kernel_rfl) rfl rfl
def c159_0:= rg [Qh 3 0,
Qx 6 0 3,
Qf 7]
def c159_1:= rg [Qg 10 1 3,
Qs 11 146 10,
Qx 8 0 3,
Qk 1 8 11]
def c159_2:= rg [Qg 12 1 3,
Qs 13 53 12,
Qam 14 13]
def c159_3:= rg [Qg 15 1 8,
Qk 1 6 15,
Qf 7]
def c159_4:= rg [Qe 9 0]
def c159_5:= rg [Qa 16 9,
Qb 17 0 3,
Qd 18 1 17,
Qj 19 18,
Qq 20 16 19]
def c159_6:= rg [Qb 23 0 3,
Qd 24 1 23,
Qa 25 9,
Qm 26 3 24 25,
Qt 27 0 26,
Qd 28 1 27,
Qa 29 1,
⟨.var 30, .bin .str .eql (.loc 28) (.loc 29), none, []⟩]
def c159_7:= rg [Qg 31 1 8,
Qk 1 6 31,
Qy 7]
def c159_8:= rg [Qa 21 9,
Qi 22 21 1,
Qc 9 22]
def c159_9 : ACode := (.seq (.seq c159_5 (.cond (.var 20) .skip (.exit 0))) (.seq (.block 1 (.seq c159_6 (.cond (.var 30) (.seq c159_7 .ret) .skip))) c159_8))
def c159_10:= rg [Qb 32 0 8,
Qd 33 1 32,
Qa 34 1,
Qa 35 2,
⟨.loc 36, .build [.d (.str []), .d (.int .i64 0), .d (.int .i64 0)] [(0, 1, (.loc 34)), (1, 1, (.loc 35))], none, []⟩,
Qct 37 0 3 1 0 0 0 36,
Qau 38 3 32 33 37,
Qb 39 0 8,
Ql 1 39 38]
def c159_11:= rg [Qg 40 1 8,
Qs 41 53 40,
Qam 42 41]
def c159_12:= rg [Qg 43 1 3,
Qs 44 146 43,
Qk 1 6 44,
Qf 7]
def c159_13:= rg [Qg 45 1 8,
Qk 1 6 45,
Qy 7]
def c159 : ACode := (.seq c159_0 (.seq c159_1 (.seq (.seq c159_2 (.cond (.var 14) (.seq c159_3 .ret) .skip)) (.seq (.seq c159_4 (.block 0 (.loop [1, 2, 3, 6, 8, 9] c159_9))) (.seq c159_10 (.seq (.seq c159_11 (.cond (.var 42) (.seq c159_12 .ret) .skip)) (.seq c159_13 .ret)))))))
abbrev F_S_QueueDrop : FuncId := 159
theorem v_S_QueueDrop : VT 3 2 Tryz.f159 159 [0,1,2,3,6,7,8,9,14,20,30,42] [none, none, none] [(.give, 6, some (true, 1)), (.give, 7, none)] c159 := mkV Tryz.func159 rfl rfl (by kernel_rfl) (by kernel_rfl) rfl rfl
def c160_0:= rg [Qh 2 0,
Qay 4 0 0 0 1 7 0 6 0 2 0 0 0 3 0 2]
def c160_1:= rg [Qb 5 2 2,
Qd 6 1 5,
Qa 7 1,
Qcx 8 6 7,
Qb 9 2 2,
Ql 1 9 8]
def c160_2:= rg [Qb 10 2 2,
Qd 11 1 10,
Qbv 12 11 1000000000]
def c160_3:= rg [Qb 13 2 2,
⟨.none, .store 1 (.loc 13) (.const (.d (.int .i64 1000000000))), none, []⟩]
def c160_4:= rg [Qg 14 10 2,
Qk 10 4 14]
def c160 : ACode := (.seq c160_0 (.seq c160_1 (.seq (.seq c160_2 (.cond (.var 12) c160_3 .skip)) (.seq c160_4 .ret))))
abbrev F_S_l16Lose : FuncId := 160
theorem v_S_l16Lose : VT 2 1 Tryz.f160 160 [0,1,2,4,12] [none, none] [(.give, 4, some (true, 10))] c160 := mkV Tryz.func160 rfl rfl (by kernel_rfl) (by kernel_rfl) rfl rfl
def c161_0:= rg [Qh 3 0,
Qh 4 1,
Qx 6 0 3,
Qaz 7 0 2 0 0,
Qaa 8 0 1,
Qaa 9 0 1]
def c161_1:= rg [Qg 18 3 4,
Qs 19 145 18,
Qaz 10 0 2 0 0,
Qk 3 10 19]
def c161_2:= rg [Qg 20 1 3,
Qs 21 53 20,
Qba 22 21,
Qn 23 22,
⟨.loc 24, .load true 3 (.var 4), some ((.loc 23), false), []⟩,
Qbp 25 52 24 23,
Qaj 26 25 23,
Qan 27 23 26,
Qn 28 27,
Qap 29 2 28,
Qbj 30 49 29 0 1000000000 28,
Qaj 31 30 28,
Qar 32 28 31]
def c161_3 : ACode := .reg [Qg 33 1 3,
  Qak 34 146 33 [0],
  Qg 35 3 10,
  Qbx 1 6 34 [1,0],
  Qbx 3 7 35 [2,3,1,0],
  ⟨.var 8, .mv (.const (.nil 0 1)), none, [4, 2, 3, 1, 0]⟩,
  ⟨.var 9, .mv (.const (.nil 0 1)), none, [5, 4, 2, 3, 1, 0]⟩] true
def c161_4:= rg [Qcs 36 0 3,
Qx 11 0 3,
Qk 1 11 36]
def c161_5:= rg [⟨.loc 37, .lit 0 1 0 [.str []] [], none, []⟩,
Qc 12 37]
def c161_6:= rg [⟨.loc 38, .lit 0 1 0 [.str []] [], none, []⟩,
Qc 13 38]
def c161_7:= rg [Qe 14 0]
def c161_8:= rg [Qa 39 14,
Qb 40 0 3,
Qd 41 1 40,
Qj 42 41,
Qq 43 39 42]
def c161_9:= rg [Qb 46 0 3,
Qd 47 1 46,
Qa 48 14,
Qm 49 3 47 48,
Qp 50 3 49,
Qcp 15 0 0,
Qk 3 15 50]
def c161_10:= rg [Qb 51 1 15,
Qd 52 1 51,
Qa 53 2,
⟨.var 54, .bin .int .gtr (.loc 52) (.loc 53), none, []⟩]
def c161_11:= rg [Qb 55 0 11,
Qd 56 1 55,
Qg 57 3 15,
Qct 58 0 3 1 0 0 0 57,
Qau 59 3 32 56 58,
Qb 60 0 11,
Ql 1 60 59]
def c161_12:= rg [Qg 62 3 10,
Qb 63 0 15,
Qd 64 1 63,
Qo 65 203 62 64,
Qbf 61 65,
Qac 66 61 0,
Qac 67 61 1,
Qaz 16 0 2 0 0,
Qk 3 16 66,
Qc 17 67]
def c161_13:= rg [Qg 68 3 16,
Qk 3 10 68]
def c161_14:= rg [Qa 69 17,
Qcl 70 69 0]
def c161_15:= rg [Qa 71 12,
Qb 72 0 15,
Qd 73 1 72,
Qcu 74 0 1 1 0 73,
Qau 75 1 16 71 74,
Qc 12 75]
def c161_16:= rg [Qb 76 2 15,
Qd 77 1 76,
Qi 78 77 1,
Qb 79 2 15,
Ql 1 79 78]
def c161_17:= rg [Qb 80 2 15,
Qd 81 1 80,
Qcl 82 81 6]
def c161_18:= rg [Qa 83 13,
Qb 84 0 15,
Qd 85 1 84,
Qcu 86 0 1 1 0 85,
Qau 87 1 16 83 86,
Qc 13 87]
def c161_19:= rg [Qa 88 2,
Qb 89 2 15,
Qd 90 1 89,
⟨.loc 91, .conv .u64 (.loc 90), none, []⟩,
⟨.loc 92, .bin .int .shl (.const (.d (.int .i64 1))) (.loc 91), none, []⟩,
Qcx 93 88 92,
Qb 94 1 15,
Ql 1 94 93]
def c161_20:= rg [Qb 95 0 11,
Qd 96 1 95,
Qg 97 3 15,
Qct 98 0 3 1 0 0 0 97,
Qau 99 3 32 96 98,
Qb 100 0 11,
Ql 1 100 99]
def c161_21:= rg [Qa 44 14,
Qi 45 44 1,
Qc 14 45]
def c161_22 : ACode := (.seq (.seq c161_8 (.cond (.var 43) .skip (.exit 0))) (.seq (.block 1 (.seq c161_9 (.seq (.seq c161_10 (.cond (.var 54) (.seq c161_11 (.exit 1)) .skip)) (.seq c161_12 (.seq c161_13 (.seq (.seq c161_14 (.cond (.var 70) (.seq c161_15 (.exit 1)) .skip)) (.seq c161_16 (.seq (.seq c161_17 (.cond (.var 82) (.seq c161_18 (.exit 1)) .skip)) (.seq c161_19 c161_20))))))))) c161_21))
def c161_23 : ACode := .reg [Qg 101 1 11,
  Qg 102 3 10,
  Qa 103 12,
  Qa 104 13,
  Qbx 1 6 101 [0],
  Qbx 3 7 102 [1,4,0],
  Qbr 8 103 [2,5,1,4,0],
  Qbr 9 104 [3,6,2,5,1,4,0]] true
def c161 : ACode := (.seq c161_0 (.seq c161_1 (.seq (.seq c161_2 (.cond (.var 32) (.seq c161_3 .ret) .skip)) (.seq c161_4 (.seq c161_5 (.seq c161_6 (.seq (.seq c161_7 (.block 0 (.loop [2, 3, 6, 7, 10, 11, 12, 13, 14] c161_22))) (.seq c161_23 .ret))))))))
abbrev F_S_RunQueue : FuncId := 161
theorem v_S_RunQueue : VT 3 4 Tryz.f161 161 [0,1,2,3,4,6,7,8,9,10,11,12,13,14,15,16,17,32,43,54,70,82] [none, none, none] [(.give, 6, some (true, 1)), (.give, 7, some (true, 3)), (.give, 8, none), (.give, 9, none)] c161 := mkV Tryz.func161 rfl rfl (by kernel_rfl) (by kernel_rfl) rfl rfl
def c162_0:= rg [Qe 4 0]
def c162_1:= rg [Qa 6 0,
Qda 7 6,
Qe 8 0]
def c162_2:= rg [Qas 9 8 7]
def c162_3:= rg [Qa 10 8,
Qc 5 10]
def c162_4:= rg [Qa 11 1,
Qa 12 0,
Qa 13 5,
Qm 14 6 12 13,
Qp 15 6 14,
Qdb 16 11 15]
def c162_5:= rg [Qa 17 5,
Qc 4 17]
def c162_6:= rg [Qat 18 8 1,
Qc 8 18]
def c162_7 : ACode := (.seq c162_2 (.seq (.cond (.var 9) .skip (.exit 0)) (.seq (.block 1 (.seq c162_3 (.seq c162_4 (.cond (.var 16) (.seq c162_5 .ret) .skip)))) c162_6)))
def c162_8:= rg [Qe 4 (-1)]
def c162 : ACode := (.seq c162_0 (.seq (.seq c162_1 (.block 0 (.loop [0, 1, 7, 8] c162_7))) (.seq c162_8 .ret)))
abbrev F_slices_IndexFunc___impl_Lease_impl_Lease_ : FuncId := 162
theorem v_slices_IndexFunc___impl_Lease_impl_Lease_ : VT 2 1 Tryz.f162 162 [0,1,4,5,7,8,9,16] [none, none] [(.give, 4, none)] c162 := mkV Tryz.func162 rfl rfl (by kernel_rfl) (by kernel_rfl) rfl rfl
def c163_0:= rg [Qh 2 0,
Qf 3]
def c163_1:= rg [Qb 4 0 2,
Qd 5 1 4,
Qcz 6 1 1,
Qdc 7 5 6,
Qc 3 7]
def c163 : ACode := (.seq c163_0 (.seq c163_1 .ret))
abbrev F_I_leaseIndex_c1 : FuncId := 163
theorem v_I_leaseIndex_c1 : VT 2 1 Tryz.f163 163 [0,1,2,3] [none] [(.give, 3, none)] c163 := mkV Tryz.func163 rfl rfl (by kernel_rfl) (by kernel_rfl) rfl rfl
def c164_0:= rg [Qh 2 0,
Qf 3]
def c164_1:= rg [Qb 4 0 2,
Qd 5 1 4,
Qb 6 0 1,
Qd 7 1 6,
Qdc 8 5 7,
Qc 3 8]
def c164 : ACode := (.seq c164_0 (.seq c164_1 .ret))
abbrev F_I_World_release_c1 : FuncId := 164
theorem v_I_World_release_c1 : VT 2 1 Tryz.f164 164 [0,1,2,3] [none] [(.give, 3, none)] c164 := mkV Tryz.func164 rfl rfl (by kernel_rfl) (by kernel_rfl) rfl rfl
def c165_0:= rg [Qh 3 0,
Qx 6 0 3,
Qf 7]
def c165_1:= rg [Qg 9 1 3,
Qs 10 151 9,
Qx 8 0 3,
Qk 1 8 10]
def c165_2:= rg [Qg 11 1 3,
Qa 12 1,
⟨.var 13, .call (.fn 67) [(.loc 11), (.loc 12)] [.borrow, .borrow], none, []⟩]
def c165_3:= rg [Qg 14 1 8,
Qk 1 6 14,
Qy 7]
def c165_4:= rg [Qb 15 0 8,
Qd 16 1 15,
Qa 17 1,
Qa 18 2,
⟨.loc 19, .build [.d (.str []), .d (.int .i64 0), .d (.int .i64 0)] [(0, 1, (.loc 17)), (1, 1, (.loc 18))], none, []⟩,
Qct 20 0 3 1 0 0 0 19,
Qau 21 3 32 16 20,
Qb 22 0 8,
Ql 1 22 21]
def c165_5:= rg [Qg 23 1 8,
Qs 24 125 23,
Qam 25 24]
def c165_6:= rg [Qg 26 1 3,
Qs 27 151 26,
Qk 1 6 27,
Qf 7]
def c165_7:= rg [Qg 28 1 8,
Qk 1 6 28,
Qy 7]
def c165 : ACode := (.seq c165_0 (.seq c165_1 (.seq (.seq c165_2 (.cond (.var 13) (.seq c165_3 .ret) .skip)) (.seq c165_4 (.seq (.seq c165_5 (.cond (.var 25) (.seq c165_6 .ret) .skip)) (.seq c165_7 .ret))))))
abbrev F_I_queueDrop : FuncId := 165
theorem v_I_queueDrop : VT 3 2 Tryz.f165 165 [0,1,2,3,6,7,8,13,25] [none, none, none] [(.give, 6, some (true, 1)), (.give, 7, none)] c165 := mkV Tryz.func165 rfl rfl (by kernel_rfl) (by kernel_rfl) rfl rfl
def c167_0:= rg [Qh 3 0,
Qh 4 1,
Qx 6 0 3,
Qaz 7 0 2 0 0,
Qaa 8 0 1,
Qaa 9 0 1]
def c167_1:= rg [Qx 10 0 3]
def c167_2:= rg [Qaa 11 0 1,
Qaa 12 0 1]
def c167_3:= rg [Qg 17 3 4,
Qs 18 150 17,
Qk 3 4 18]
def c167_4:= rg [Qb 19 0 3,
Qcb 20 1 19,
Qbh 21 20,
Qe 22 0]
def c167_5:= rg [Qas 23 22 21]
def c167_6:= rg [Qbi 24 3 20 22,
Qp 25 3 24,
Qcp 14 0 0,
Qk 3 14 25]
def c167_7:= rg [Qb 26 1 14,
Qd 27 1 26,
Qa 28 2,
⟨.var 29, .bin .int .gtr (.loc 27) (.loc 28), none, []⟩]
def c167_8:= rg [Qb 30 0 10,
Qd 31 1 30,
Qg 32 3 14,
Qct 33 0 3 1 0 0 0 32,
Qau 34 3 32 31 33,
Qb 35 0 10,
Ql 1 35 34]
def c167_9:= rg [Qg 37 3 4,
Qb 38 0 14,
Qd 39 1 38,
Qo 40 204 37 39,
Qbf 36 40,
Qac 41 36 0,
Qac 42 36 1,
Qaz 15 0 2 0 0,
Qk 3 15 41,
Qc 16 42]
def c167_10:= rg [Qg 43 3 15,
Qk 3 4 43]
def c167_11:= rg [Qa 44 16,
Qcl 45 44 0]
def c167_12:= rg [Qa 46 11,
Qb 47 0 14,
Qd 48 1 47,
Qcu 49 0 1 1 0 48,
Qau 50 1 16 46 49,
Qc 11 50]
def c167_13:= rg [Qb 51 2 14,
Qd 52 1 51,
Qi 53 52 1,
Qb 54 2 14,
Ql 1 54 53]
def c167_14:= rg [Qb 55 2 14,
Qd 56 1 55,
Qcl 57 56 6]
def c167_15:= rg [Qa 58 12,
Qb 59 0 14,
Qd 60 1 59,
Qcu 61 0 1 1 0 60,
Qau 62 1 16 58 61,
Qc 12 62]
def c167_16:= rg [Qa 63 2,
Qb 64 2 14,
Qd 65 1 64,
⟨.loc 66, .bin .int .shl (.const (.d (.int .i64 1))) (.loc 65), none, []⟩,
Qcx 67 63 66,
Qb 68 1 14,
Ql 1 68 67]
def c167_17:= rg [Qb 69 0 10,
Qd 70 1 69,
Qg 71 3 14,
Qct 72 0 3 1 0 0 0 71,
Qau 73 3 32 70 72,
Qb 74 0 10,
Ql 1 74 73]
def c167_18:= rg [Qat 75 22 1,
Qc 22 75]
def c167_19 : ACode := (.seq c167_5 (.seq (.cond (.var 23) .skip (.exit 0)) (.seq (.block 1 (.seq c167_6 (.seq (.seq c167_7 (.cond (.var 29) (.seq c167_8 (.exit 1)) .skip)) (.seq c167_9 (.seq c167_10 (.seq (.seq c167_11 (.cond (.var 45) (.seq c167_12 (.exit 1)) .skip)) (.seq c167_13 (.seq (.seq c167_14 (.cond (.var 57) (.seq c167_15 (.exit 1)) .skip)) (.seq c167_16 c167_17))))))))) c167_18)))
def c167_20 : ACode := .reg [Qg 76 1 10,
  Qg 77 3 4,
  Qa 78 11,
  Qa 79 12,
  Qbx 1 6 76 [0],
  Qbx 3 7 77 [1,4,0],
  Qbr 8 78 [2,5,1,4,0],
  Qbr 9 79 [3,6,2,5,1,4,0]] true
def c167 : ACode := (.seq c167_0 (.seq c167_1 (.seq c167_2 (.seq c167_3 (.seq (.seq c167_4 (.block 0 (.loop [2, 4, 6, 7, 10, 11, 12, 20, 21, 22] c167_19))) (.seq c167_20 .ret))))))
abbrev F_I_runQueue : FuncId := 167
theorem v_I_runQueue : VT 3 4 Tryz.f167 167 [0,1,2,3,4,6,7,8,9,10,11,12,14,15,16,20,21,22,23,29,45,57] [none, none, none] [(.give, 6, some (true, 1)), (.give, 7, some (true, 3)), (.give, 8, none), (.give, 9, none)] c167 := mkV Tryz.func167 rfl rfl (by kernel_rfl) (by kernel_rfl) rfl rfl
def c168_0:= rg [Qh 2 0,
Qx 4 1 7]
def c168_1:= rg [Qcs 7 1 7,
Qx 5 1 7,
Qk 1 5 7]
def c168_2:= rg [Qe 6 0]
def c168_3:= rg [Qa 8 6,
Qb 9 0 2,
Qd 10 1 9,
Qj 11 10,
Qq 12 8 11]
def c168_4:= rg [Qa 15 1,
Qb 16 0 2,
Qd 17 1 16,
Qa 18 6,
Qm 19 7 17 18,
Qt 20 0 19,
Qd 21 1 20,
Qo 22 77 15 21,
Qam 23 22]
def c168_5 : ACode := .reg [Qb 24 0 5,
  Qr 25 1 24 [0],
  Qb 26 0 2,
  Qr 27 1 26 [2],
  Qa 28 6,
  Qw 29 7 27 28 [3,2,4],
  Qai 30 7 29 [5,3,2,4],
  Qak 31 147 30 [6,5,3,2,4],
  ⟨.loc 32, .lit 1 7 1 [.int .i64 0, .int .i64 0, .slc 1 [], .int .i64 0, .int .i64 0, .int .i64 0, .int .i64 0] [(0, (.loc 31))], none, [7, 6, 5, 3, 2, 4]⟩,
  Qbw 33 7 72 25 32 [1,0,8,7,6,5,3,2,4],
  Qbd 34 0 5 [9,1,0,8,7,6,5,3,2,4],
  Qav 1 34 33 [10,9,1,0,8,7,6,5,3,2,4]] true
def c168_6:= rg [Qa 13 6,
Qi 14 13 1,
Qc 6 14]
def c168_7 : ACode := (.seq (.seq c168_3 (.cond (.var 12) .skip (.exit 0))) (.seq (.block 1 (.seq c168_4 (.cond (.var 23) c168_5 .skip))) c168_6))
def c168_8:= rg [Qg 35 1 5,
Qk 1 4 35]
def c168 : ACode := (.seq c168_0 (.seq c168_1 (.seq (.seq c168_2 (.block 0 (.loop [1, 2, 4, 5, 6] c168_7))) (.seq c168_8 .ret))))
abbrev F_S_l08Less : FuncId := 168
theorem v_S_l08Less : VT 2 1 Tryz.f168 168 [0,1,2,4,5,6,12,23] [none, none] [(.give, 4, some (true, 1))] c168 := mkV Tryz.func168 rfl rfl (by kernel_rfl) (by kernel_rfl) rfl rfl
def c169_0:= rg [Qe 4 0]
def c169_1:= rg [Qa 6 0,
Qda 7 6,
Qe 8 0]
def c169_2:= rg [Qas 9 8 7]
def c169_3:= rg [Qa 10 8,
Qc 5 10]
def c169_4:= rg [Qa 11 1,
Qa 12 0,
Qa 13 5,
Qm 14 7 12 13,
Qp 15 7 14,
Qdb 16 11 15]
def c169_5:= rg [Qa 17 5,
Qc 4 17]
def c169_6:= rg [Qat 18 8 1,
Qc 8 18]
def c169_7 : ACode := (.seq c169_2 (.seq (.cond (.var 9) .skip (.exit 0)) (.seq (.block 1 (.seq c169_3 (.seq c169_4 (.cond (.var 16) (.seq c169_5 .ret) .skip)))) c169_6)))
def c169_8:= rg [Qe 4 (-1)]
def c169 : ACode := (.seq c169_0 (.seq (.seq c169_1 (.block 0 (.loop [0, 1, 7, 8] c169_7))) (.seq c169_8 .ret)))
abbrev F_slices_IndexFunc___impl_Token_impl_Token_ : FuncId := 169
theorem v_slices_IndexFunc___impl_Token_impl_Token_ : VT 2 1 Tryz.f169 169 [0,1,4,5,7,8,9,16] [none, none] [(.give, 4, none)] c169 := mkV Tryz.func169 rfl rfl (by kernel_rfl) (by kernel_rfl) rfl rfl
def c170_0:= rg [Qh 2 0,
Qf 3]
def c170_1:= rg [Qb 4 0 2,
Qd 5 1 4,
Qcz 6 1 1,
Qdc 7 5 6,
Qc 3 7]
def c170 : ACode := (.seq c170_0 (.seq c170_1 .ret))
abbrev F_I_tokenIndex_c1 : FuncId := 170
theorem v_I_tokenIndex_c1 : VT 2 1 Tryz.f170 170 [0,1,2,3] [none] [(.give, 3, none)] c170 := mkV Tryz.func170 rfl rfl (by kernel_rfl) (by kernel_rfl) rfl rfl
def c171_0:= rg [Qh 2 0,
Qf 3]
def c171_1:= rg [Qb 4 0 2,
Qd 5 1 4,
Qcz 6 1 1,
Qdc 7 5 6,
Qc 3 7]
def c171 : ACode := (.seq c171_0 (.seq c171_1 .ret))
abbrev F_I_cutToken_c1 : FuncId := 171
theorem v_I_cutToken_c1 : VT 2 1 Tryz.f171 171 [0,1,2,3] [none] [(.give, 3, none)] c171 := mkV Tryz.func171 rfl rfl (by kernel_rfl) (by kernel_rfl) rfl rfl
def c172_0:= rg [Qh 3 1,
Qaa 4 0 6]
def c172_1:= rg [Qa 8 0,
Qby 9 8,
Qt 10 4 9,
Qp 11 1 10,
Qcr 12 206 3,
Qo 13 205 11 12,
Qbf 7 13,
Qac 14 7 0,
Qac 15 7 1,
Qx 5 0 6,
Qk 1 5 14,
Qc 6 15]
def c172_2:= rg [Qa 16 0,
Qg 17 1 5,
Qby 18 16,
Qt 19 4 18,
Ql 1 19 17]
def c172_3:= rg [Qa 20 6,
Qc 4 20]
def c172 : ACode := (.seq c172_0 (.seq c172_1 (.seq c172_2 (.seq c172_3 .ret))))
abbrev F_I_World_dropOfTokens : FuncId := 172
theorem v_I_World_dropOfTokens : VT 2 1 Tryz.f172 172 [0,1,3,4,5,6] [some (.box 10), none] [(.give, 4, none)] c172 := mkV Tryz.func172 rfl rfl (by kernel_rfl) (by kernel_rfl) rfl rfl
def c181_0:= rg [Qh 2 0,
Qe 4 0]
def c181_1:= rg [Qb 5 2 2,
Qd 6 1 5,
Qa 7 1,
Qo 8 219 6 7,
Qc 1 8]
def c181_2:= rg [Qa 9 1,
Qu 10 9 0]
def c181_3:= rg [Qe 4 (-1)]
def c181_4:= rg [Qa 11 1,
Qc 4 11]
def c181 : ACode := (.seq c181_0 (.seq c181_1 (.seq (.seq c181_2 (.cond (.var 10) (.seq c181_3 .ret) .skip)) (.seq c181_4 .ret))))
abbrev F_L_szToken : FuncId := 181
theorem v_L_szToken : VT 2 1 Tryz.f181 181 [0,1,2,4,10] [none, none] [(.give, 4, none)] c181 := mkV Tryz.func181 rfl rfl (by kernel_rfl) (by kernel_rfl) rfl rfl
def c182_0:= rg [Qh 2 0,
Qe 4 0]
def c182_1:= rg [Qa 5 1,
Qb 6 2 2,
Qd 7 1 6,
Qax 8 7,
Qbg 9 5 8,
Qc 1 9]
def c182_2:= rg [Qa 10 1,
Qu 11 10 0]
def c182_3:= rg [Qe 4 (-1)]
def c182_4:= rg [Qa 12 1,
Qc 4 12]
def c182 : ACode := (.seq c182_0 (.seq c182_1 (.seq (.seq c182_2 (.cond (.var 11) (.seq c182_3 .ret) .skip)) (.seq c182_4 .ret))))
abbrev F_L_szLease : FuncId := 182
theorem v_L_szLease : VT 2 1 Tryz.f182 182 [0,1,2,4,11] [none, none] [(.give, 4, none)] c182 := mkV Tryz.func182 rfl rfl (by kernel_rfl) (by kernel_rfl) rfl rfl
def c183_0:= rg [Qh 2 0,
Qe 4 0]
def c183_1:= rg [Qa 5 1,
Qb 6 0 2,
Qd 7 1 6,
Qax 8 7,
Qbg 9 5 8,
Qc 1 9]
def c183_2:= rg [Qa 10 1,
Qu 11 10 0]
def c183_3:= rg [Qe 4 (-1)]
def c183_4:= rg [Qa 12 1,
Qb 13 1 2,
Qd 14 1 13,
Qax 15 14,
Qbg 16 12 15,
Qc 1 16]
def c183_5:= rg [Qa 17 1,
Qu 18 17 0]
def c183_6:= rg [Qe 4 (-1)]
def c183_7:= rg [Qa 19 1,
Qc 4 19]
def c183 : ACode := (.seq c183_0 (.seq c183_1 (.seq (.seq c183_2 (.cond (.var 11) (.seq c183_3 .ret) .skip)) (.seq c183_4 (.seq (.seq c183_5 (.cond (.var 18) (.seq c183_6 .ret) .skip)) (.seq c183_7 .ret))))))
abbrev F_L_szUser : FuncId := 183
theorem v_L_szUser : VT 2 1 Tryz.f183 183 [0,1,2,4,11,18] [none, none] [(.give, 4, none)] c183 := mkV Tryz.func183 rfl rfl (by kernel_rfl) (by kernel_rfl) rfl rfl
def c184_0:= rg [Qh 2 0,
Qe 4 0]
def c184_1:= rg [Qa 5 1,
Qb 6 0 2,
Qd 7 1 6,
Qax 8 7,
Qbg 9 5 8,
Qc 1 9]
def c184_2:= rg [Qa 10 1,
Qu 11 10 0]
def c184_3:= rg [Qe 4 (-1)]
def c184_4:= rg [Qa 12 1,
Qc 4 12]
def c184 : ACode := (.seq c184_0 (.seq c184_1 (.seq (.seq c184_2 (.cond (.var 11) (.seq c184_3 .ret) .skip)) (.seq c184_4 .ret))))
abbrev F_L_szJob : FuncId := 184
theorem v_L_szJob : VT 2 1 Tryz.f184 184 [0,1,2,4,11] [none, none] [(.give, 4, none)] c184 := mkV Tryz.func184 rfl rfl (by kernel_rfl) (by kernel_rfl) rfl rfl
def c185_0:= rg [Qf 2]
def c185_1:= rg [Qa 4 0,
Qj 5 4,
Qbv 6 5 6]
def c185_2:= rg [Qf 2]
def c185_3:= rg [Qe 3 0]
def c185_4:= rg [Qa 7 3,
Qa 8 0,
Qj 9 8,
Qq 10 7 9]
def c185_5 : ACode := .reg [Qa 13 0,
  Qa 14 3,
  Qw 15 1 13 14 [0,1],
  Qr 16 1 15 [2,0,1],
  Qak 17 55 16 [3,2,0,1],
  Qca 18 17 [4,3,2,0,1],
  Qao 19 18 [5,4,3,2,0,1],
  Qbm 20 3 19 [6,5,4,3,2,0,1],
  Qcd 21 20 0 19 [7,6,5,4,3,2,0,1],
  Qbs 22 21 19 [8,7,6,5,4,3,2,0,1],
  Qaw 23 0 22 [9,8,7,6,5,4,3,2,0,1],
  Qaw 24 3 22 [9,8,7,6,5,4,3,2,0,1],
  Qbn 25 24 1 22 [11,9,8,7,6,5,4,3,2,0,1],
  Qbb 26 1 23 25 22 [10,12,11,9,8,7,6,5,4,3,2,0,1],
  Qz 27 1 26 22 [13,10,12,11,9,8,7,6,5,4,3,2,0,1],
  Qaw 28 0 22 [9,8,7,6,5,4,3,2,0,1],
  Qaw 29 3 22 [9,8,7,6,5,4,3,2,0,1],
  Qbb 30 1 28 29 22 [15,16,9,8,7,6,5,4,3,2,0,1],
  Qz 31 1 30 22 [17,15,16,9,8,7,6,5,4,3,2,0,1],
  ⟨.loc 32, .bin .str .geq (.loc 27) (.loc 31), some ((.loc 22), true), [14, 13, 10, 12, 11, 18, 17, 15, 16, 9, 8, 7, 6, 5, 4, 3, 2, 0, 1]⟩,
  Qbt 33 22 32 19 [19,14,13,10,12,11,18,17,15,16,9,8,7,6,5,4,3,2,0,1],
  Qbu 34 19 33 [20,19,14,13,10,12,11,18,17,15,16,9,8,7,6,5,4,3,2,0,1]] true
def c185_6:= rg [Qf 2]
def c185_7:= rg [Qa 11 3,
Qi 12 11 1,
Qc 3 12]
def c185_8 : ACode := (.seq (.seq c185_4 (.cond (.var 10) .skip (.exit 0))) (.seq (.block 1 (.seq c185_5 (.cond (.var 34) (.seq c185_6 .ret) .skip))) c185_7))
def c185_9:= rg [Qy 2]
def c185 : ACode := (.seq c185_0 (.seq (.seq c185_1 (.cond (.var 6) (.seq c185_2 .ret) .skip)) (.seq (.seq c185_3 (.block 0 (.loop [0, 3] c185_8))) (.seq c185_9 .ret))))
abbrev F_S_l08Names : FuncId := 185
theorem v_S_l08Names : VT 1 1 Tryz.f185 185 [0,2,3,6,10,34] [none] [(.give, 2, none)] c185 := mkV Tryz.func185 rfl rfl (by kernel_rfl) (by kernel_rfl) rfl rfl
def c186_0:= rg [Qf 2]
def c186_1:= rg [Qa 4 0,
Qs 5 220 4,
Qam 6 5]
def c186_2:= rg [Qf 2]
def c186_3:= rg [Qe 3 0]
def c186_4:= rg [Qa 7 3,
Qa 8 0,
Qax 9 8,
Qq 10 7 9]
def c186_5:= rg [Qa 13 0,
Qa 14 3,
⟨.loc 15, .idxS (.loc 13) (.loc 14), none, []⟩,
⟨.loc 16, .bin .int .eql (.loc 15) (.const (.d (.int .u8 43))), none, []⟩,
Qn 17 16,
Qap 18 0 17,
Qap 19 3 17,
⟨.loc 20, .idxS (.loc 18) (.loc 19), some ((.loc 17), false), []⟩,
⟨.loc 21, .bin .int .eql (.loc 20) (.const (.d (.int .u8 42))), some ((.loc 17), false), []⟩,
Qar 22 17 21]
def c186_6:= rg [Qf 2]
def c186_7:= rg [Qa 11 3,
Qi 12 11 1,
Qc 3 12]
def c186_8 : ACode := (.seq (.seq c186_4 (.cond (.var 10) .skip (.exit 0))) (.seq (.block 1 (.seq c186_5 (.cond (.var 22) (.seq c186_6 .ret) .skip))) c186_7))
def c186_9:= rg [Qy 2]
def c186 : ACode := (.seq c186_0 (.seq (.seq c186_1 (.cond (.var 6) (.seq c186_2 .ret) .skip)) (.seq (.seq c186_3 (.block 0 (.loop [0, 3] c186_8))) (.seq c186_9 .ret))))
abbrev F_S_PathOk : FuncId := 186
theorem v_S_PathOk : VT 1 1 Tryz.f186 186 [0,2,3,6,10,22] [none] [(.give, 2, none)] c186 := mkV Tryz.func186 rfl rfl (by kernel_rfl) (by kernel_rfl) rfl rfl
def c187_0:= rg [Qh 1 0,
Qcf 2 0 0 0 1 0 0 0 0]
def c187_1:= rg [Qcf 3 0 0 0 1 0 0 0 0]
def c187_2:= rg [Qb 4 0 1,
Qd 5 1 4,
Qb 6 0 3,
Ql 1 6 5]
def c187_3:= rg [Qb 7 1 1,
Qd 8 1 7,
Qb 9 1 3,
Ql 1 9 8]
def c187_4:= rg [Qb 10 2 1,
Qd 11 1 10,
Qs 12 221 11,
Qb 13 2 3,
Ql 1 13 12]
def c187_5:= rg [Qb 14 3 1,
Qd 15 1 14,
Qb 16 3 3,
Ql 1 16 15]
def c187_6:= rg [Qb 17 4 1,
Qd 18 1 17,
Qb 19 4 3,
Ql 1 19 18]
def c187_7:= rg [Qb 20 5 1,
Qd 21 1 20,
Qb 22 5 3,
Ql 1 22 21]
def c187_8:= rg [Qb 23 6 1,
Qd 24 1 23,
Qb 25 6 3,
Ql 1 25 24]
def c187_9:= rg [Qg 26 7 3,
Qk 7 2 26]
def c187 : ACode := (.seq c187_0 (.seq c187_1 (.seq c187_2 (.seq c187_3 (.seq c187_4 (.seq c187_5 (.seq c187_6 (.seq c187_7 (.seq c187_8 (.seq c187_9 .ret))))))))))
abbrev F_L_toToken : FuncId := 187
theorem v_L_toToken : VT 1 1 Tryz.f187 187 [0,1,2,3] [none] [(.give, 2, some (true, 7))] c187 := mkV Tryz.func187 rfl rfl (by kernel_rfl) (by kernel_rfl) rfl rfl
def c188_0:= rg [Qh 1 0,
Qcq 2 0 0 0 0 0]
def c188_1:= rg [Qcq 3 0 0 0 0 0]
def c188_2:= rg [Qb 4 0 1,
Qd 5 1 4,
Qb 6 0 3,
Ql 1 6 5]
def c188_3:= rg [Qb 7 1 1,
Qd 8 1 7,
Qb 9 1 3,
Ql 1 9 8]
def c188_4:= rg [Qb 10 2 1,
Qd 11 1 10,
Qb 12 2 3,
Ql 1 12 11]
def c188_5:= rg [Qb 13 3 1,
Qd 14 1 13,
Qb 15 3 3,
Ql 1 15 14]
def c188_6:= rg [Qb 16 4 1,
Qd 17 1 16,
Qb 18 4 3,
Ql 1 18 17]
def c188_7:= rg [Qb 19 5 1,
Qd 20 1 19,
Qb 21 5 3,
Ql 1 21 20]
def c188_8:= rg [Qg 22 6 3,
Qk 6 2 22]
def c188 : ACode := (.seq c188_0 (.seq c188_1 (.seq c188_2 (.seq c188_3 (.seq c188_4 (.seq c188_5 (.seq c188_6 (.seq c188_7 (.seq c188_8 .ret)))))))))
abbrev F_L_toLease : FuncId := 188
theorem v_L_toLease : VT 1 1 Tryz.f188 188 [0,1,2,3] [none] [(.give, 2, some (true, 6))] c188 := mkV Tryz.func188 rfl rfl (by kernel_rfl) (by kernel_rfl) rfl rfl
def c189_0:= rg [Qh 1 0,
⟨.var 2, .alloc [.d (.str []), .d (.str [])], none, []⟩]
def c189_1:= rg [⟨.var 3, .alloc [.d (.str []), .d (.str [])], none, []⟩]
def c189_2:= rg [Qb 4 0 1,
Qd 5 1 4,
Qb 6 0 3,
Ql 1 6 5]
def c189_3:= rg [Qb 7 1 1,
Qd 8 1 7,
Qb 9 1 3,
Ql 1 9 8]
def c189_4:= rg [Qg 10 2 3,
Qk 2 2 10]
def c189 : ACode := (.seq c189_0 (.seq c189_1 (.seq c189_2 (.seq c189_3 (.seq c189_4 .ret)))))
abbrev F_L_toUser : FuncId := 189
theorem v_L_toUser : VT 1 1 Tryz.f189 189 [0,1,2,3] [none] [(.give, 2, some (true, 2))] c189 := mkV Tryz.func189 rfl rfl (by kernel_rfl) (by kernel_rfl) rfl rfl
def c190_0:= rg [Qh 1 0,
Qcp 2 0 0]
def c190_1:= rg [Qcp 3 0 0]
def c190_2:= rg [Qb 4 0 1,
Qd 5 1 4,
Qb 6 0 3,
Ql 1 6 5]
def c190_3:= rg [Qb 7 1 1,
Qd 8 1 7,
Qb 9 1 3,
Ql 1 9 8]
def c190_4:= rg [Qb 10 2 1,
Qd 11 1 10,
Qb 12 2 3,
Ql 1 12 11]
def c190_5:= rg [Qg 13 3 3,
Qk 3 2 13]
def c190 : ACode := (.seq c190_0 (.seq c190_1 (.seq c190_2 (.seq c190_3 (.seq c190_4 (.seq c190_5 .ret))))))
abbrev F_L_toJob : FuncId := 190
theorem v_L_toJob : VT 1 1 Tryz.f190 190 [0,1,2,3] [none] [(.give, 2, some (true, 3))] c190 := mkV Tryz.func190 rfl rfl (by kernel_rfl) (by kernel_rfl) rfl rfl
def c191_0:= rg [Qh 1 0,
Qf 2]
def c191_1:= rg [Qb 5 4 1,
Qd 6 1 5,
⟨.loc 7, .bin .int .eql (.loc 6) (.const (.d (.int .i64 0))), none, []⟩,
Qn 8 7,
Qag 9 4 1 8,
Qaq 10 1 9 8,
Qag 11 3 1 8,
Qaq 12 1 11 8,
⟨.loc 13, .bin .int .add (.loc 12) (.const (.d (.int .i64 1))), some ((.loc 8), false), []⟩,
⟨.loc 14, .call (.fn 103) [(.loc 10), (.loc 13), (.const (.d (.int .i64 1000000000)))] [.borrow, .borrow, .borrow], some ((.loc 8), false), []⟩,
Qan 15 8 14,
Qc 3 15]
def c191_2:= rg [Qb 16 5 1,
Qd 17 1 16,
⟨.loc 18, .bin .int .eql (.loc 17) (.const (.d (.int .i64 0))), none, []⟩,
Qn 19 18,
Qag 20 5 1 19,
Qaq 21 1 20 19,
Qag 22 3 1 19,
Qaq 23 1 22 19,
⟨.loc 24, .bin .int .add (.loc 23) (.const (.d (.int .i64 1))), some ((.loc 19), false), []⟩,
⟨.loc 25, .call (.fn 103) [(.loc 21), (.loc 24), (.const (.d (.int .i64 1000000000)))] [.borrow, .borrow, .borrow], some ((.loc 19), false), []⟩,
⟨.loc 26, .split (.loc 25), some ((.loc 19), false), []⟩,
Qad 27 4 1 26,
Qab 28 1 27 26,
⟨.loc 29, .bin .int .neq (.loc 28) (.const (.d (.int .i64 0))), some ((.loc 26), true), []⟩,
⟨.loc 30, .pick (.loc 26) (.loc 29) (.const (.d (.bool false))), some ((.loc 19), false), []⟩,
⟨.loc 31, .split (.loc 30), some ((.loc 19), false), []⟩,
Qad 32 4 1 31,
Qab 33 1 32 31,
Qad 34 5 1 31,
Qab 35 1 34 31,
⟨.loc 36, .bin .int .leq (.loc 33) (.loc 35), some ((.loc 31), true), []⟩,
⟨.loc 37, .pick (.loc 31) (.loc 36) (.const (.d (.bool false))), some ((.loc 19), false), []⟩,
Qan 38 19 37,
Qc 4 38]
def c191_3:= rg [Qb 39 0 1,
Qd 40 1 39,
Qbo 41 103 40 1 1000000000,
Qn 42 41,
Qad 43 1 1 42,
Qab 44 1 43 42,
Qad 45 0 1 42,
Qab 46 1 45 42,
⟨.loc 47, .bin .int .sub (.loc 46) (.const (.d (.int .i64 1))), some ((.loc 42), true), []⟩,
⟨.loc 48, .call (.fn 103) [(.loc 44), (.const (.d (.int .i64 0))), (.loc 47)] [.borrow, .borrow, .borrow], some ((.loc 42), true), []⟩,
Qaf 49 42 48,
Qn 50 49,
Qad 51 2 1 50,
Qab 52 1 51 50,
⟨.loc 53, .call (.fn 222) [(.loc 52)] [.borrow], some ((.loc 50), true), []⟩,
Qaf 54 50 53,
Qn 55 54,
Qad 56 3 1 55,
Qab 57 1 56 55,
Qch 58 103 57 0 1000000000 55,
Qaf 59 55 58,
Qn 60 59,
Qae 61 3 60,
Qaf 62 60 61,
Qn 63 62,
Qae 64 4 63,
Qaf 65 63 64,
Qn 66 65,
Qad 67 6 1 66,
Qab 68 1 67 66,
Qch 69 103 68 0 1000 66,
Qaf 70 66 69,
Qc 2 70]
def c191 : ACode := (.seq c191_0 (.seq c191_1 (.seq c191_2 (.seq c191_3 .ret))))
abbrev F_I_isToken : FuncId := 191
theorem v_I_isToken : VT 1 1 Tryz.f191 191 [0,1,2,3,4] [none] [(.give, 2, none)] c191 := mkV Tryz.func191 rfl rfl (by kernel_rfl) (by kernel_rfl) rfl rfl
def c192_0:= rg [Qh 1 0,
Qf 2]
def c192_1:= rg [Qb 3 0 1,
Qd 4 1 3,
Qbo 5 103 4 1 1000000000,
Qn 6 5,
Qad 7 1 1 6,
Qab 8 1 7 6,
Qch 9 103 8 0 1000000000 6,
Qaf 10 6 9,
Qn 11 10,
Qad 12 2 1 11,
Qab 13 1 12 11,
⟨.loc 14, .call (.fn 223) [(.loc 13)] [.borrow], some ((.loc 11), true), []⟩,
Qaf 15 11 14,
Qn 16 15,
Qad 17 3 1 16,
Qab 18 1 17 16,
Qch 19 103 18 0 1000000000 16,
Qaf 20 16 19,
Qn 21 20,
Qad 22 5 1 21,
Qab 23 1 22 21,
Qad 24 3 1 21,
Qab 25 1 24 21,
Qcy 26 25 1 21,
⟨.loc 27, .call (.fn 103) [(.loc 23), (.loc 26), (.const (.d (.int .i64 1000000000)))] [.borrow, .borrow, .borrow], some ((.loc 21), true), []⟩,
Qaf 28 21 27,
Qn 29 28,
Qad 30 4 1 29,
Qab 31 1 30 29,
Qad 32 3 1 29,
Qab 33 1 32 29,
Qcy 34 33 1 29,
Qad 35 5 1 29,
Qab 36 1 35 29,
⟨.loc 37, .call (.fn 103) [(.loc 31), (.loc 34), (.loc 36)] [.borrow, .borrow, .borrow], some ((.loc 29), true), []⟩,
Qaf 38 29 37,
Qc 2 38]
def c192 : ACode := (.seq c192_0 (.seq c192_1 .ret))
abbrev F_I_isLease : FuncId := 192
theorem v_I_isLease : VT 1 1 Tryz.f192 192 [0,1,2] [none] [(.give, 2, none)] c192 := mkV Tryz.func192 rfl rfl (by kernel_rfl) (by kernel_rfl) rfl rfl
def c193_0:= rg [Qf 4]
def c193_1:= rg [Qa 6 0,
⟨.var 7, .len true (.loc 6), none, []⟩,
Qe 8 0]
def c193_2:= rg [Qas 9 8 7]
def c193_3:= rg [Qa 10 8,
Qc 5 10]
def c193_4:= rg [Qa 11 1,
Qa 12 0,
Qa 13 5,
⟨.loc 14, .idxS (.loc 12) (.loc 13), none, []⟩,
Qo 15 224 11 14,
Qu 16 15 0]
def c193_5:= rg [Qf 4]
def c193_6:= rg [Qat 17 8 1,
Qc 8 17]
def c193_7 : ACode := (.seq c193_2 (.seq (.cond (.var 9) .skip (.exit 0)) (.seq (.block 1 (.seq c193_3 (.seq c193_4 (.cond (.var 16) (.seq c193_5 .ret) .skip)))) c193_6)))
def c193_8:= rg [Qy 4]
def c193 : ACode := (.seq c193_0 (.seq (.seq c193_1 (.block 0 (.loop [0, 1, 7, 8] c193_7))) (.seq c193_8 .ret)))
abbrev F_I_onlyOf : FuncId := 193
theorem v_I_onlyOf : VT 2 1 Tryz.f193 193 [0,1,4,5,7,8,9,16] [none, none] [(.give, 4, none)] c193 := mkV Tryz.func193 rfl rfl (by kernel_rfl) (by kernel_rfl) rfl rfl
def c194_0:= rg [Qh 2 0,
Qh 3 1,
Qf 4]
def c194_1:= rg [Qb 5 0 2,
Qd 6 1 5,
Qb 7 0 3,
Qd 8 1 7,
Qv 9 6 8]
def c194_2:= rg [Qf 4]
def c194_3:= rg [Qb 10 1 2,
Qd 11 1 10,
Qb 12 1 3,
Qd 13 1 12,
Qv 14 11 13]
def c194_4:= rg [Qf 4]
def c194_5:= rg [Qb 15 2 2,
Qd 16 1 15,
Qb 17 2 3,
Qd 18 1 17,
Qo 19 18 16 18,
Qam 20 19]
def c194_6:= rg [Qf 4]
def c194_7:= rg [Qb 21 3 2,
Qd 22 1 21,
Qb 23 3 3,
Qd 24 1 23,
Qv 25 22 24]
def c194_8:= rg [Qf 4]
def c194_9:= rg [Qb 26 4 2,
Qd 27 1 26,
Qb 28 4 3,
Qd 29 1 28,
Qv 30 27 29]
def c194_10:= rg [Qf 4]
def c194_11:= rg [Qb 31 5 2,
Qd 32 1 31,
Qb 33 5 3,
Qd 34 1 33,
Qv 35 32 34]
def c194_12:= rg [Qf 4]
def c194_13:= rg [Qb 36 6 2,
Qd 37 1 36,
Qb 38 6 3,
Qd 39 1 38,
Qv 40 37 39]
def c194_14:= rg [Qf 4]
def c194_15:= rg [Qy 4]
def c194 : ACode := (.seq c194_0 (.seq (.seq c194_1 (.cond (.var 9) (.seq c194_2 .ret) .skip)) (.seq (.seq c194_3 (.cond (.var 14) (.seq c194_4 .ret) .skip)) (.seq (.seq c194_5 (.cond (.var 20) (.seq c194_6 .ret) .skip)) (.seq (.seq c194_7 (.cond (.var 25) (.seq c194_8 .ret) .skip)) (.seq (.seq c194_9 (.cond (.var 30) (.seq c194_10 .ret) .skip)) (.seq (.seq c194_11 (.cond (.var 35) (.seq c194_12 .ret) .skip)) (.seq (.seq c194_13 (.cond (.var 40) (.seq c194_14 .ret) .skip)) (.seq c194_15 .ret)))))))))
abbrev F_L_eqToken : FuncId := 194
theorem v_L_eqToken : VT 2 1 Tryz.f194 194 [0,1,2,3,4,9,14,20,25,30,35,40] [none, none] [(.give, 4, none)] c194 := mkV Tryz.func194 rfl rfl (by kernel_rfl) (by kernel_rfl) rfl rfl
def c195_0:= rg [Qh 2 0,
Qh 3 1,
Qf 4]
def c195_1:= rg [Qb 5 0 2,
Qd 6 1 5,
Qb 7 0 3,
Qd 8 1 7,
Qv 9 6 8]
def c195_2:= rg [Qf 4]
def c195_3:= rg [Qb 10 1 2,
Qd 11 1 10,
Qb 12 1 3,
Qd 13 1 12,
Qv 14 11 13]
def c195_4:= rg [Qf 4]
def c195_5:= rg [Qb 15 2 2,
Qd 16 1 15,
Qb 17 2 3,
Qd 18 1 17,
Qco 19 16 18]
def c195_6:= rg [Qf 4]
def c195_7:= rg [Qb 20 3 2,
Qd 21 1 20,
Qb 22 3 3,
Qd 23 1 22,
Qv 24 21 23]
def c195_8:= rg [Qf 4]
def c195_9:= rg [Qb 25 4 2,
Qd 26 1 25,
Qb 27 4 3,
Qd 28 1 27,
Qv 29 26 28]
def c195_10:= rg [Qf 4]
def c195_11:= rg [Qb 30 5 2,
Qd 31 1 30,
Qb 32 5 3,
Qd 33 1 32,
Qv 34 31 33]
def c195_12:= rg [Qf 4]
def c195_13:= rg [Qy 4]
def c195 : ACode := (.seq c195_0 (.seq (.seq c195_1 (.cond (.var 9) (.seq c195_2 .ret) .skip)) (.seq (.seq c195_3 (.cond (.var 14) (.seq c195_4 .ret) .skip)) (.seq (.seq c195_5 (.cond (.var 19) (.seq c195_6 .ret) .skip)) (.seq (.seq c195_7 (.cond (.var 24) (.seq c195_8 .ret) .skip)) (.seq (.seq c195_9 (.cond (.var 29) (.seq c195_10 .ret) .skip)) (.seq (.seq c195_11 (.cond (.var 34) (.seq c195_12 .ret) .skip)) (.seq c195_13 .ret))))))))
abbrev F_L_eqLease : FuncId := 195
theorem v_L_eqLease : VT 2 1 Tryz.f195 195 [0,1,2,3,4,9,14,19,24,29,34] [none, none] [(.give, 4, none)] c195 := mkV Tryz.func195 rfl rfl (by kernel_rfl) (by kernel_rfl) rfl rfl
def c196_0:= rg [Qh 2 0,
Qh 3 1,
Qf 4]
def c196_1:= rg [Qb 5 0 2,
Qd 6 1 5,
Qb 7 0 3,
Qd 8 1 7,
Qco 9 6 8]
def c196_2:= rg [Qf 4]
def c196_3:= rg [Qb 10 1 2,
Qd 11 1 10,
Qb 12 1 3,
Qd 13 1 12,
Qv 14 11 13]
def c196_4:= rg [Qf 4]
def c196_5:= rg [Qb 15 2 2,
Qd 16 1 15,
Qb 17 2 3,
Qd 18 1 17,
Qv 19 16 18]
def c196_6:= rg [Qf 4]
def c196_7:= rg [Qy 4]
def c196 : ACode := (.seq c196_0 (.seq (.seq c196_1 (.cond (.var 9) (.seq c196_2 .ret) .skip)) (.seq (.seq c196_3 (.cond (.var 14) (.seq c196_4 .ret) .skip)) (.seq (.seq c196_5 (.cond (.var 19) (.seq c196_6 .ret) .skip)) (.seq c196_7 .ret)))))
abbrev F_L_eqJob : FuncId := 196
theorem v_L_eqJob : VT 2 1 Tryz.f196 196 [0,1,2,3,4,9,14,19] [none, none] [(.give, 4, none)] c196 := mkV Tryz.func196 rfl rfl (by kernel_rfl) (by kernel_rfl) rfl rfl
def c197_0:= rg [Qe 4 0]
def c197_1:= rg [Qa 6 0,
Qda 7 6,
Qe 8 0]
def c197_2:= rg [Qas 9 8 7]
def c197_3:= rg [Qa 10 8,
Qc 5 10]
def c197_4:= rg [Qa 11 1,
Qa 12 0,
Qa 13 5,
Qm 14 3 12 13,
Qp 15 3 14,
Qdb 16 11 15]
def c197_5:= rg [Qa 17 5,
Qc 4 17]
def c197_6:= rg [Qat 18 8 1,
Qc 8 18]
def c197_7 : ACode := (.seq c197_2 (.seq (.cond (.var 9) .skip (.exit 0)) (.seq (.block 1 (.seq c197_3 (.seq c197_4 (.cond (.var 16) (.seq c197_5 .ret) .skip)))) c197_6)))
def c197_8:= rg [Qe 4 (-1)]
def c197 : ACode := (.seq c197_0 (.seq (.seq c197_1 (.block 0 (.loop [0, 1, 7, 8] c197_7))) (.seq c197_8 .ret)))
abbrev F_slices_IndexFunc___impl_Job_impl_Job_ : FuncId := 197
theorem v_slices_IndexFunc___impl_Job_impl_Job_ : VT 2 1 Tryz.f197 197 [0,1,4,5,7,8,9,16] [none, none] [(.give, 4, none)] c197 := mkV Tryz.func197 rfl rfl (by kernel_rfl) (by kernel_rfl) rfl rfl
def c199_0:= rg [Qaa 2 0 1]
def c199_1:= rg [⟨.loc 5, .lit 0 1 0 [.str []] [], none, []⟩,
Qc 3 5]
def c199_2:= rg [Qe 4 0]
def c199_3:= rg [Qa 6 4,
Qa 7 0,
Qj 8 7,
Qq 9 6 8]
def c199_4:= rg [Qa 12 3,
Qa 13 0,
Qa 14 4,
Qm 15 1 13 14,
Qd 16 1 15,
Qcu 17 0 1 1 0 16,
Qau 18 1 16 12 17,
Qc 3 18]
def c199_5:= rg [Qa 10 4,
Qi 11 10 1,
Qc 4 11]
def c199_6 : ACode := (.seq (.seq c199_3 (.cond (.var 9) .skip (.exit 0))) (.seq (.block 1 c199_4) c199_5))
def c199_7:= rg [Qa 19 3,
Qc 2 19]
def c199 : ACode := (.seq c199_0 (.seq c199_1 (.seq (.seq c199_2 (.block 0 (.loop [0, 3, 4] c199_6))) (.seq c199_7 .ret))))
abbrev F_S_l08Texts : FuncId := 199
theorem v_S_l08Texts : VT 1 1 Tryz.f199 199 [0,2,3,4,9] [none] [(.give, 2, none)] c199 := mkV Tryz.func199 rfl rfl (by kernel_rfl) (by kernel_rfl) rfl rfl
def c203_0:= rg [Qh 2 0,
Qaz 4 0 2 0 0,
Qe 5 0]
def c203_1:= rg [Qg 8 3 2,
Qs 9 145 8,
Qaz 6 0 2 0 0,
Qk 3 6 9]
def c203_2:= rg [Qg 10 3 2,
Qs 11 52 10,
Qam 12 11]
def c203_3:= rg [Qg 13 3 6,
Qk 3 4 13,
Qe 5 1]
def c203_4:= rg [Qb 14 1 2,
Qd 15 1 14,
Qbv 16 15 0]
def c203_5:= rg [Qb 17 1 2,
Qd 18 1 17,
⟨.loc 19, .bin .int .sub (.loc 18) (.const (.d (.int .i64 1))), none, []⟩,
Qb 20 1 6,
Ql 1 20 19]
def c203_6:= rg [Qg 21 3 6,
Qk 3 4 21,
Qe 5 2]
def c203_7:= rg [Qb 22 0 6,
⟨.none, .store 1 (.loc 22) (.const (.nil 0 2)), none, []⟩]
def c203_8:= rg [Qe 7 0]
def c203_9:= rg [Qa 23 7,
Qb 24 0 2,
Qd 25 1 24,
Qj 26 25,
Qq 27 23 26]
def c203_10:= rg [Qb 30 0 2,
Qd 31 1 30,
Qa 32 7,
Qm 33 2 31 32,
Qt 34 0 33,
Qd 35 1 34,
Qa 36 1,
Qco 37 35 36]
def c203_11 : ACode := .reg [Qb 38 0 6,
  Qr 39 1 38 [0],
  Qb 40 0 2,
  Qr 41 1 40 [2],
  Qa 42 7,
  Qw 43 2 41 42 [3,2,4],
  Qai 44 2 43 [5,3,2,4],
  ⟨.loc 45, .lit 0 2 1 [.str [], .str []] [(0, (.loc 44))], none, [6, 5, 3, 2, 4]⟩,
  Qbw 46 2 32 39 45 [1,0,7,6,5,3,2,4],
  Qbd 47 0 6 [8,1,0,7,6,5,3,2,4],
  Qav 1 47 46 [9,8,1,0,7,6,5,3,2,4]] true
def c203_12:= rg [Qa 28 7,
Qi 29 28 1,
Qc 7 29]
def c203_13 : ACode := (.seq (.seq c203_9 (.cond (.var 27) .skip (.exit 0))) (.seq (.block 1 (.seq c203_10 (.cond (.var 37) c203_11 .skip))) c203_12))
def c203_14:= rg [Qg 48 3 6,
Qk 3 4 48,
Qe 5 0]
def c203 : ACode := (.seq c203_0 (.seq c203_1 (.seq (.seq c203_2 (.cond (.var 12) (.seq c203_3 .ret) .skip)) (.seq (.seq c203_4 (.cond (.var 16) (.seq c203_5 (.seq c203_6 .ret)) .skip)) (.seq c203_7 (.seq (.seq c203_8 (.block 0 (.loop [1, 2, 4, 6, 7] c203_13))) (.seq c203_14 .ret)))))))
abbrev F_S_DropUser : FuncId := 203
theorem v_S_DropUser : VT 2 2 Tryz.f203 203 [0,1,2,4,5,6,7,12,16,27,37] [none, none] [(.give, 4, some (true, 3)), (.give, 5, none)] c203 := mkV Tryz.func203 rfl rfl (by kernel_rfl) (by kernel_rfl) rfl rfl
def c204_0:= rg [Qh 2 0,
Qaz 4 0 2 0 0,
Qe 5 0]
def c204_1:= rg [Qg 9 3 2,
Qs 10 150 9,
Qaz 6 0 2 0 0,
Qk 3 6 10]
def c204_2:= rg [Qb 11 1 2,
Qd 12 1 11,
Qbv 13 12 0]
def c204_3:= rg [Qb 14 1 6,
Qd 15 1 14,
⟨.loc 16, .bin .int .sub (.loc 15) (.const (.d (.int .i64 1))), none, []⟩,
Qb 17 1 6,
Ql 1 17 16]
def c204_4:= rg [Qg 18 3 6,
Qk 3 4 18,
Qe 5 2]
def c204_5:= rg [Qg 20 3 2,
Qa 21 1,
Qo 22 216 20 21,
Qbf 19 22,
Qac 23 19 0,
Qac 24 19 1,
Qc 7 23,
Qc 8 24]
def c204_6:= rg [⟨.var 25, .mv (.var 8), none, []⟩]
def c204_7:= rg [Qb 26 0 6,
Qd 27 1 26,
Qa 28 7,
Qa 29 7,
Qi 30 29 1,
⟨.loc 31, .call (.fn 225) [(.loc 27), (.loc 28), (.loc 30)] [.give, .borrow, .borrow], none, []⟩,
Qb 32 0 6,
Ql 1 32 31]
def c204_8:= rg [Qg 33 3 6,
Qk 3 4 33,
Qe 5 0]
def c204 : ACode := (.seq c204_0 (.seq c204_1 (.seq (.seq c204_2 (.cond (.var 13) (.seq c204_3 (.seq c204_4 .ret)) .skip)) (.seq (.seq c204_5 (.seq c204_6 (.cond (.var 25) c204_7 .skip))) (.seq c204_8 .ret)))))
abbrev F_I_dropUser : FuncId := 204
theorem v_I_dropUser : VT 2 2 Tryz.f204 204 [0,1,2,4,5,6,7,8,13,25] [none, none] [(.give, 4, some (true, 3)), (.give, 5, none)] c204 := mkV Tryz.func204 rfl rfl (by kernel_rfl) (by kernel_rfl) rfl rfl
def c205_0:= rg [Qh 2 0,
Qx 4 0 6,
Qaa 5 0 6]
def c205_1:= rg [Qx 6 0 6]
def c205_2:= rg [Qaa 7 0 6]
def c205_3:= rg [Qb 10 0 2,
Qcb 11 1 10,
Qbh 12 11,
Qe 13 0]
def c205_4:= rg [Qas 14 13 12]
def c205_5:= rg [Qbi 15 6 11 13,
Qp 16 6 15,
Qcq 9 0 0 0 0 0,
Qk 6 9 16]
def c205_6:= rg [Qa 17 1,
Qg 18 6 9,
Qdb 19 17 18]
def c205_7:= rg [Qa 20 7,
Qg 21 6 9,
⟨.loc 22, .lit 0 6 1 [.int .i64 0, .int .i64 0, .str [], .int .i64 0, .int .i64 0, .int .i64 0] [(0, (.loc 21))], none, []⟩,
Qau 23 6 56 20 22,
Qc 7 23]
def c205_8:= rg [Qb 24 0 6,
Qd 25 1 24,
Qg 26 6 9,
⟨.loc 27, .lit 0 6 1 [.int .i64 0, .int .i64 0, .str [], .int .i64 0, .int .i64 0, .int .i64 0] [(0, (.loc 26))], none, []⟩,
Qau 28 6 56 25 27,
Qb 29 0 6,
Ql 1 29 28]
def c205_9:= rg [Qat 30 13 1,
Qc 13 30]
def c205_10 : ACode := (.seq c205_4 (.seq (.cond (.var 14) .skip (.exit 0)) (.seq (.block 1 (.seq c205_5 (.seq c205_6 (.cond (.var 19) c205_7 c205_8)))) c205_9)))
def c205_11:= rg [Qg 31 1 6,
Qa 32 7,
Qk 1 4 31,
Qc 5 32]
def c205 : ACode := (.seq c205_0 (.seq c205_1 (.seq c205_2 (.seq (.seq c205_3 (.block 0 (.loop [1, 4, 6, 7, 11, 12, 13] c205_10))) (.seq c205_11 .ret)))))
abbrev F_I_dropLeases : FuncId := 205
theorem v_I_dropLeases : VT 2 2 Tryz.f205 205 [0,1,2,4,5,6,7,9,11,12,13,14,19] [none, none] [(.give, 4, some (true, 1)), (.give, 5, none)] c205 := mkV Tryz.func205 rfl rfl (by kernel_rfl) (by kernel_rfl) rfl rfl
def c206_0:= rg [Qh 2 0,
Qf 3]
def c206_1:= rg [Qcz 4 1 1,
Qb 5 1 2,
Qd 6 1 5,
Qo 7 80 4 6,
Qc 3 7]
def c206 : ACode := (.seq c206_0 (.seq c206_1 .ret))
abbrev F_I_World_dropOfTokens_c1 : FuncId := 206
theorem v_I_World_dropOfTokens_c1 : VT 2 1 Tryz.f206 206 [0,1,2,3] [none] [(.give, 3, none)] c206 := mkV Tryz.func206 rfl rfl (by kernel_rfl) (by kernel_rfl) rfl rfl
def c216_0:= rg [Qh 2 0,
Qe 4 0,
Qf 5]
def c216_1:= rg [Qb 6 0 2,
Qd 7 1 6,
Qa 8 1,
⟨.loc 9, .call (.fn 230) [(.loc 7), (.loc 8), (.fn 231)] [.borrow, .borrow, .borrow], none, []⟩,
Qac 10 9 0,
Qac 11 9 1,
Qc 4 10,
Qc 5 11]
def c216 : ACode := (.seq c216_0 (.seq c216_1 .ret))
abbrev F_I_userIndex : FuncId := 216
theorem v_I_userIndex : VT 2 2 Tryz.f216 216 [0,1,2,4,5] [none, none] [(.give, 4, none), (.give, 5, none)] c216 := mkV Tryz.func216 rfl rfl (by kernel_rfl) (by kernel_rfl) rfl rfl
def c219_0:= rg [Qe 4 0]
def c219_1:= rg [Qa 6 1,
Qa 7 0,
Qj 8 7,
Qbg 9 6 8,
Qc 1 9]
def c219_2:= rg [Qa 10 1,
Qu 11 10 0]
def c219_3:= rg [Qe 4 (-1)]
def c219_4:= rg [Qe 5 0]
def c219_5:= rg [Qa 12 5,
Qa 13 0,
Qj 14 13,
Qq 15 12 14]
def c219_6:= rg [Qa 18 1,
Qa 19 0,
Qa 20 5,
Qm 21 1 19 20,
Qd 22 1 21,
Qax 23 22,
Qbg 24 18 23,
Qc 1 24]
def c219_7:= rg [Qa 25 1,
Qu 26 25 0]
def c219_8:= rg [Qe 4 (-1)]
def c219_9:= rg [Qa 16 5,
Qi 17 16 1,
Qc 5 17]
def c219_10 : ACode := (.seq (.seq c219_5 (.cond (.var 15) .skip (.exit 0))) (.seq (.block 1 (.seq c219_6 (.seq c219_7 (.cond (.var 26) (.seq c219_8 .ret) .skip)))) c219_9))
def c219_11:= rg [Qa 27 1,
Qc 4 27]
def c219 : ACode := (.seq c219_0 (.seq c219_1 (.seq (.seq c219_2 (.cond (.var 11) (.seq c219_3 .ret) .skip)) (.seq (.seq c219_4 (.block 0 (.loop [0, 1, 5] c219_10))) (.seq c219_11 .ret)))))
abbrev F_L_szStringS : FuncId := 219
theorem v_L_szStringS : VT 2 1 Tryz.f219 219 [0,1,4,5,11,15,26] [none, none] [(.give, 4, none)] c219 := mkV Tryz.func219 rfl rfl (by kernel_rfl) (by kernel_rfl) rfl rfl
def c220_0:= rg [Qf 2]
def c220_1:= rg [Qa 5 0,
Qax 6 5,
Qbv 7 6 120]
def c220_2:= rg [Qf 2]
def c220_3:= rg [Qa 8 0,
⟨.loc 9, .call (.fn 238) [(.loc 8), (.const (.d (.int .u8 47)))] [.borrow, .borrow], none, []⟩,
Qc 3 9]
def c220_4:= rg [Qe 4 0]
def c220_5:= rg [Qa 10 4,
Qa 11 3,
Qj 12 11,
Qq 13 10 12]
def c220_6:= rg [Qa 16 3,
Qa 17 4,
Qm 18 1 16 17,
Qd 19 1 18,
Qs 20 239 19,
Qba 21 20,
Qn 22 21,
Qae 23 3 22,
Qae 24 4 22,
⟨.loc 25, .idxA 1 (.loc 23) (.loc 24), some ((.loc 22), true), []⟩,
Qab 26 1 25 22,
⟨.loc 27, .bin .str .neq (.loc 26) (.const (.d (.str [43]))), some ((.loc 22), true), []⟩,
Qaf 28 22 27,
Qn 29 28,
Qae 30 3 29,
Qae 31 4 29,
⟨.loc 32, .idxA 1 (.loc 30) (.loc 31), some ((.loc 29), true), []⟩,
Qab 33 1 32 29,
⟨.loc 34, .bin .str .eql (.loc 33) (.const (.d (.str [42]))), some ((.loc 29), true), []⟩,
⟨.loc 35, .split (.loc 34), some ((.loc 29), true), []⟩,
Qae 36 4 35,
Qae 37 3 35,
⟨.loc 38, .len false (.loc 37), some ((.loc 35), true), []⟩,
⟨.loc 39, .bin .int .sub (.loc 38) (.const (.d (.int .i64 1))), some ((.loc 35), true), []⟩,
⟨.loc 40, .bin .int .eql (.loc 36) (.loc 39), some ((.loc 35), true), []⟩,
⟨.loc 41, .pick (.loc 35) (.loc 40) (.const (.d (.bool false))), some ((.loc 29), true), []⟩,
Qcw 42 41 29,
⟨.var 43, .pick (.loc 29) (.loc 42) (.const (.d (.bool false))), none, []⟩]
def c220_7:= rg [Qf 2]
def c220_8:= rg [Qa 14 4,
Qi 15 14 1,
Qc 4 15]
def c220_9 : ACode := (.seq (.seq c220_5 (.cond (.var 13) .skip (.exit 0))) (.seq (.block 1 (.seq c220_6 (.cond (.var 43) (.seq c220_7 .ret) .skip))) c220_8))
def c220_10:= rg [Qa 44 3,
Qj 45 44,
Qcm 46 45 8,
Qc 2 46]
def c220 : ACode := (.seq c220_0 (.seq (.seq c220_1 (.cond (.var 7) (.seq c220_2 .ret) .skip)) (.seq c220_3 (.seq (.seq c220_4 (.block 0 (.loop [3, 4] c220_9))) (.seq c220_10 .ret)))))
abbrev F_S_GlobOk : FuncId := 220
theorem v_S_GlobOk : VT 1 1 Tryz.f220 220 [0,2,3,4,7,13,43] [none] [(.give, 2, none)] c220 := mkV Tryz.func220 rfl rfl (by kernel_rfl) (by kernel_rfl) rfl rfl
def c221_0:= rg [Qaa 2 0 1]
def c221_1:= rg [Qa 5 0,
Qj 6 5,
⟨.loc 7, .mkslice 0 1 16 [.str []] (.loc 6) (.loc 6), none, []⟩,
Qc 3 7]
def c221_2:= rg [Qe 4 0]
def c221_3:= rg [Qa 8 4,
Qa 9 0,
Qj 10 9,
Qq 11 8 10]
def c221_4:= rg [Qa 14 3,
Qa 15 4,
Qa 16 0,
Qa 17 4,
Qm 18 1 16 17,
Qd 19 1 18,
Qm 20 1 14 15,
Ql 1 20 19]
def c221_5:= rg [Qa 12 4,
Qi 13 12 1,
Qc 4 13]
def c221_6 : ACode := (.seq (.seq c221_3 (.cond (.var 11) .skip (.exit 0))) (.seq (.block 1 c221_4) c221_5))
def c221_7:= rg [Qa 21 3,
Qc 2 21]
def c221 : ACode := (.seq c221_0 (.seq c221_1 (.seq (.seq c221_2 (.block 0 (.loop [0, 3, 4] c221_6))) (.seq c221_7 .ret))))
abbrev F_L_toStringS : FuncId := 221
theorem v_L_toStringS : VT 1 1 Tryz.f221 221 [0,2,3,4,11] [none] [(.give, 2, none)] c221 := mkV Tryz.func221 rfl rfl (by kernel_rfl) (by kernel_rfl) rfl rfl
def c222_0:= rg [Qf 2]
def c222_1:= rg [⟨.var 5, .mv (.var 0), none, []⟩,
Qbh 6 5,
Qe 7 0]
def c222_2:= rg [Qas 8 7 6]
def c222_3:= rg [Qa 9 7,
Qbi 10 1 5 7,
Qd 11 1 10,
Qc 3 9,
Qc 4 11]
def c222_4:= rg [Qa 12 4,
Qs 13 126 12,
Qba 14 13,
Qn 15 14,
Qap 16 3 15,
⟨.loc 17, .bin .int .gtr (.loc 16) (.const (.d (.int .i64 0))), some ((.loc 15), false), []⟩,
⟨.loc 18, .split (.loc 17), some ((.loc 15), false), []⟩,
Qae 19 0 18,
Qae 20 3 18,
⟨.loc 21, .bin .int .sub (.loc 20) (.const (.d (.int .i64 1))), some ((.loc 18), true), []⟩,
⟨.loc 22, .idxA 1 (.loc 19) (.loc 21), some ((.loc 18), true), []⟩,
Qab 23 1 22 18,
Qae 24 4 18,
⟨.loc 25, .bin .str .geq (.loc 23) (.loc 24), some ((.loc 18), true), []⟩,
⟨.loc 26, .pick (.loc 18) (.loc 25) (.const (.d (.bool false))), some ((.loc 15), false), []⟩,
Qar 27 15 26]
def c222_5:= rg [Qf 2]
def c222_6:= rg [Qat 28 7 1,
Qc 7 28]
def c222_7 : ACode := (.seq c222_2 (.seq (.cond (.var 8) .skip (.exit 0)) (.seq (.block 1 (.seq c222_3 (.seq c222_4 (.cond (.var 27) (.seq c222_5 .ret) .skip)))) c222_6)))
def c222_8:= rg [Qa 29 0,
Qj 30 29,
Qcm 31 30 6,
Qc 2 31]
def c222 : ACode := (.seq c222_0 (.seq (.seq c222_1 (.block 0 (.loop [0, 5, 6, 7] c222_7))) (.seq c222_8 .ret)))
abbrev F_I_areNames : FuncId := 222
theorem v_I_areNames : VT 1 1 Tryz.f222 222 [0,2,3,4,5,6,7,8,27] [none] [(.give, 2, none)] c222 := mkV Tryz.func222 rfl rfl (by kernel_rfl) (by kernel_rfl) rfl rfl
def c223_0:= rg [Qf 2]
def c223_1:= rg [Qa 3 0,
Qs 4 240 3,
Qn 5 4,
Qae 6 0 5,
⟨.loc 7, .call (.fn 241) [(.loc 6), (.const (.d (.str [43, 42])))] [.borrow, .borrow], some ((.loc 5), true), []⟩,
Qcw 8 7 5,
Qaf 9 5 8,
Qc 2 9]
def c223 : ACode := (.seq c223_0 (.seq c223_1 .ret))
abbrev F_I_isPath : FuncId := 223
theorem v_I_isPath : VT 1 1 Tryz.f223 223 [0,2] [none] [(.give, 2, none)] c223 := mkV Tryz.func223 rfl rfl (by kernel_rfl) (by kernel_rfl) rfl rfl
def c230_0:= rg [Qe 6 0,
Qf 7]
def c230_1:= rg [Qa 12 0,
Qj 13 12,
Qc 8 13]
def c230_2:= rg [Qa 14 8,
Qe 9 0,
Qc 10 14]
def c230_3:= rg [Qa 15 9,
Qa 16 10,
Qq 17 15 16]
def c230_4:= rg [Qa 18 9,
Qa 19 10,
Qcx 20 18 19,
⟨.loc 21, .conv .u64 (.loc 20), none, []⟩,
⟨.loc 22, .bin .int .shr (.loc 21) (.const (.d (.int .u64 1))), none, []⟩,
⟨.loc 23, .conv .i64 (.loc 22), none, []⟩,
Qc 11 23]
def c230_5:= rg [Qa 24 2,
Qa 25 0,
Qa 26 11,
Qm 27 2 25 26,
Qp 28 2 27,
Qa 29 1,
⟨.loc 30, .call (.loc 24) [(.loc 28), (.loc 29)] [.borrow, .borrow], none, []⟩,
Qu 31 30 0]
def c230_6:= rg [Qa 32 11,
Qi 33 32 1,
Qc 9 33]
def c230_7:= rg [Qa 34 11,
Qc 10 34]
def c230_8 : ACode := (.seq (.seq c230_3 (.cond (.var 17) .skip (.exit 0))) (.block 1 (.seq c230_4 (.seq c230_5 (.cond (.var 31) c230_6 c230_7)))))
def c230_9:= rg [Qa 35 9,
Qa 36 9,
Qa 37 8,
⟨.loc 38, .bin .int .lss (.loc 36) (.loc 37), none, []⟩,
Qn 39 38,
Qae 40 2 39,
Qae 41 0 39,
Qae 42 9 39,
⟨.loc 43, .idxA 2 (.loc 41) (.loc 42), some ((.loc 39), true), []⟩,
⟨.loc 44, .load true 2 (.loc 43), some ((.loc 39), true), []⟩,
Qae 45 1 39,
⟨.loc 46, .call (.loc 40) [(.loc 44), (.loc 45)] [.borrow, .borrow], some ((.loc 39), true), []⟩,
⟨.loc 47, .bin .int .eql (.loc 46) (.const (.d (.int .i64 0))), some ((.loc 39), true), []⟩,
Qaf 48 39 47,
Qc 6 35,
Qc 7 48]
def c230 : ACode := (.seq c230_0 (.seq c230_1 (.seq c230_2 (.seq (.block 0 (.loop [0, 1, 2, 8, 9, 10] c230_8)) (.seq c230_9 .ret)))))
abbrev F_slices_BinarySearchFunc___impl_User_impl_User_string_ : FuncId := 230
theorem v_slices_BinarySearchFunc___impl_User_impl_User_string_ : VT 3 2 Tryz.f230 230 [0,1,2,6,7,8,9,10,11,17,31] [none, none, none] [(.give, 6, none), (.give, 7, none)] c230 := mkV Tryz.func230 rfl rfl (by kernel_rfl) (by kernel_rfl) rfl rfl
def c231_0:= rg [Qh 2 0,
Qe 4 0]
def c231_1:= rg [Qb 5 0 2,
Qd 6 1 5,
Qa 7 1,
Qo 8 232 6 7,
Qc 4 8]
def c231 : ACode := (.seq c231_0 (.seq c231_1 .ret))
abbrev F_I_userIndex_c1 : FuncId := 231
theorem v_I_userIndex_c1 : VT 2 1 Tryz.f231 231 [0,1,2,4] [none, none] [(.give, 4, none)] c231 := mkV Tryz.func231 rfl rfl (by kernel_rfl) (by kernel_rfl) rfl rfl
def c238_0:= rg [Qaa 4 0 1]
def c238_1:= rg [⟨.loc 8, .lit 0 1 0 [.str []] [], none, []⟩,
Qc 5 8]
def c238_2:= rg [Qe 6 0]
def c238_3:= rg [Qe 7 0]
def c238_4:= rg [Qa 9 7,
Qa 10 0,
Qax 11 10,
⟨.var 12, .bin .int .leq (.loc 9) (.loc 11), none, []⟩]
def c238_5:= rg [Qa 15 7,
Qa 16 0,
Qax 17 16,
Qdc 18 15 17,
Qn 19 18,
Qap 20 0 19,
Qap 21 7 19,
⟨.loc 22, .idxS (.loc 20) (.loc 21), some ((.loc 19), false), []⟩,
Qap 23 1 19,
⟨.loc 24, .bin .int .eql (.loc 22) (.loc 23), some ((.loc 19), false), []⟩,
Qar 25 19 24]
def c238_6:= rg [Qa 26 5,
Qa 27 0,
Qa 28 6,
Qa 29 7,
⟨.loc 30, .sliceS (.loc 27) (some (.loc 28)) (some (.loc 29)), none, []⟩,
Qcu 31 0 1 1 0 30,
Qau 32 1 16 26 31,
Qc 5 32]
def c238_7:= rg [Qa 33 7,
Qi 34 33 1,
Qc 6 34]
def c238_8:= rg [Qa 13 7,
Qi 14 13 1,
Qc 7 14]
def c238_9 : ACode := (.seq (.seq c238_4 (.cond (.var 12) .skip (.exit 0))) (.seq (.block 1 (.seq c238_5 (.cond (.var 25) (.seq c238_6 c238_7) .skip))) c238_8))
def c238_10:= rg [Qa 35 5,
Qc 4 35]
def c238 : ACode := (.seq c238_0 (.seq c238_1 (.seq c238_2 (.seq (.seq c238_3 (.block 0 (.loop [0, 1, 5, 6, 7] c238_9))) (.seq c238_10 .ret)))))
abbrev F_S_l01Parts : FuncId := 238
theorem v_S_l01Parts : VT 2 1 Tryz.f238 238 [0,1,4,5,6,7,12,25] [none, none] [(.give, 4, none)] c238 := mkV Tryz.func238 rfl rfl (by kernel_rfl) (by kernel_rfl) rfl rfl
def c239_0:= rg [Qf 2]
def c239_1:= rg [Qa 5 0,
Qax 6 5,
Qbo 7 49 6 1 16,
Qam 8 7]
def c239_2:= rg [Qf 2]
def c239_3:= rg [Qe 3 0]
def c239_4:= rg [Qa 9 3,
Qa 10 0,
Qax 11 10,
Qq 12 9 11]
def c239_5:= rg [Qa 15 0,
Qa 16 3,
⟨.loc 17, .idxS (.loc 15) (.loc 16), none, []⟩,
Qc 4 17]
def c239_6:= rg [Qa 18 4,
⟨.loc 19, .bin .int .geq (.loc 18) (.const (.d (.int .u8 97))), none, []⟩,
Qn 20 19,
Qae 21 4 20,
⟨.loc 22, .bin .int .leq (.loc 21) (.const (.d (.int .u8 122))), some ((.loc 20), true), []⟩,
Qaf 23 20 22,
Qba 24 23,
Qn 25 24,
Qae 26 4 25,
⟨.loc 27, .bin .int .geq (.loc 26) (.const (.d (.int .u8 48))), some ((.loc 25), true), []⟩,
⟨.loc 28, .split (.loc 27), some ((.loc 25), true), []⟩,
Qae 29 4 28,
⟨.loc 30, .bin .int .leq (.loc 29) (.const (.d (.int .u8 57))), some ((.loc 28), true), []⟩,
⟨.loc 31, .pick (.loc 28) (.loc 30) (.const (.d (.bool false))), some ((.loc 25), true), []⟩,
Qcw 32 31 25,
Qaf 33 25 32,
Qn 34 33,
Qae 35 4 34,
⟨.loc 36, .bin .int .neq (.loc 35) (.const (.d (.int .u8 45))), some ((.loc 34), true), []⟩,
⟨.var 37, .pick (.loc 34) (.loc 36) (.const (.d (.bool false))), none, []⟩]
def c239_7:= rg [Qf 2]
def c239_8:= rg [Qa 13 3,
Qi 14 13 1,
Qc 3 14]
def c239_9 : ACode := (.seq (.seq c239_4 (.cond (.var 12) .skip (.exit 0))) (.seq (.block 1 (.seq c239_5 (.seq c239_6 (.cond (.var 37) (.seq c239_7 .ret) .skip)))) c239_8))
def c239_10:= rg [Qy 2]
def c239 : ACode := (.seq c239_0 (.seq (.seq c239_1 (.cond (.var 8) (.seq c239_2 .ret) .skip)) (.seq (.seq c239_3 (.block 0 (.loop [0, 3] c239_9))) (.seq c239_10 .ret))))
abbrev F_S_l01Segment : FuncId := 239
theorem v_S_l01Segment : VT 1 1 Tryz.f239 239 [0,2,3,4,8,12,37] [none] [(.give, 2, none)] c239 := mkV Tryz.func239 rfl rfl (by kernel_rfl) (by kernel_rfl) rfl rfl
def c240_0:= rg [Qf 2]
def c240_1:= rg [Qa 6 0,
Qax 7 6,
Qbv 8 7 120]
def c240_2:= rg [Qf 2]
def c240_3:= rg [Qa 9 0,
⟨.loc 10, .call (.fn 249) [(.loc 9), (.const (.d (.str [47])))] [.borrow, .borrow], none, []⟩,
Qc 3 10]
def c240_4:= rg [⟨.var 11, .mv (.var 3), none, []⟩,
Qbh 12 11,
Qe 13 0]
def c240_5:= rg [Qas 14 13 12]
def c240_6:= rg [Qa 15 13,
Qbi 16 1 11 13,
Qd 17 1 16,
Qc 4 15,
Qc 5 17]
def c240_7:= rg [Qa 18 5,
⟨.loc 19, .bin .str .eql (.loc 18) (.const (.d (.str [43]))), none, []⟩,
Qn 20 19,
Qap 21 5 20,
⟨.loc 22, .bin .str .eql (.loc 21) (.const (.d (.str [42]))), some ((.loc 20), false), []⟩,
⟨.loc 23, .split (.loc 22), some ((.loc 20), false), []⟩,
Qae 24 4 23,
Qae 25 3 23,
⟨.loc 26, .len false (.loc 25), some ((.loc 23), true), []⟩,
⟨.loc 27, .bin .int .sub (.loc 26) (.const (.d (.int .i64 1))), some ((.loc 23), true), []⟩,
⟨.loc 28, .bin .int .eql (.loc 24) (.loc 27), some ((.loc 23), true), []⟩,
⟨.loc 29, .pick (.loc 23) (.loc 28) (.const (.d (.bool false))), some ((.loc 20), false), []⟩,
Qar 30 20 29]
def c240_8:= rg [Qa 31 5,
Qax 32 31,
Qbo 33 103 32 1 16,
Qba 34 33,
Qn 35 34,
Qap 36 5 35,
⟨.loc 37, .call (.fn 193) [(.loc 36), (.const (.d (.str [97, 98, 99, 100, 101, 102, 103, 104, 105, 106, 107, 108, 109, 110, 111, 112, 113, 114, 115, 116, 117, 118, 119, 120, 121, 122, 48, 49, 50, 51, 52, 53, 54, 55, 56, 57, 45])))] [.borrow, .borrow], some ((.loc 35), false), []⟩,
Qaj 38 37 35,
Qar 39 35 38]
def c240_9:= rg [Qf 2]
def c240_10:= rg [Qat 40 13 1,
Qc 13 40]
def c240_11 : ACode := (.seq c240_5 (.seq (.cond (.var 14) .skip (.exit 0)) (.seq (.block 1 (.seq c240_6 (.seq (.seq c240_7 (.cond (.var 30) (.exit 1) .skip)) (.seq c240_8 (.cond (.var 39) (.seq c240_9 .ret) .skip))))) c240_10)))
def c240_12:= rg [Qa 41 3,
Qj 42 41,
Qcm 43 42 8,
Qc 2 43]
def c240 : ACode := (.seq c240_0 (.seq (.seq c240_1 (.cond (.var 8) (.seq c240_2 .ret) .skip)) (.seq c240_3 (.seq (.seq c240_4 (.block 0 (.loop [3, 11, 12, 13] c240_11))) (.seq c240_12 .ret)))))
abbrev F_I_isGlob : FuncId := 240
theorem v_I_isGlob : VT 1 1 Tryz.f240 240 [0,2,3,4,5,8,11,12,13,14,30,39] [none] [(.give, 2, none)] c240 := mkV Tryz.func240 rfl rfl (by kernel_rfl) (by kernel_rfl) rfl rfl
end Go.Proofs.YtdckkojgnkoabaaGreatDoor.Ab
