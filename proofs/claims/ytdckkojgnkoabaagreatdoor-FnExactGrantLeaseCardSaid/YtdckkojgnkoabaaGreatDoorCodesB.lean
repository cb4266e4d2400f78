/-
  A part of a proof about the given program; what is proved is said where each theorem stands.
-/
import Derived.Test.YtdckkojgnkoabaaGreatDoorFrameA
import Derived.Test.YtdckkojgnkoabaaGreatDoorFrameB
import Derived.Test.YtdckkojgnkoabaaGreatDoorFrameC
import Derived.Test.YtdckkojgnkoabaaGreatDoorFrameD
import Derived.Test.YtdckkojgnkoabaaGreatDoorFrameE
import Derived.Test.YtdckkojgnkoabaaGreatDoorCodesA
set_option maxRecDepth 100000
namespace Go.Proofs.YtdckkojgnkoabaaGreatDoor.Ab
open Go.Proofs
theorem v_L_szToken : VT 2 1 Tryz.f181 181 [0,1,2,4,10] [none, none] [(.give, 4, none)] c181 := mkV Tryz.func181 rfl rfl (by kernel_rfl) (by kernel_rfl) rfl rfl
def c182_0:= rg [Qg 2 0,
Qe 4 0]
def c182_1:= rg [Qa 5 1,
Qb 6 2 2,
Qd 7 1 6,
Qam 8 7,
Qbd 9 5 8,
Qc 1 9]
def c182_2:= rg [Qa 10 1,
Qu 11 10 0]
def c182_3:= rg [Qe 4 (-1)]
def c182_4:= rg [Qa 12 1,
Qc 4 12]
def c182 : ACode := (.seq c182_0 (.seq c182_1 (.seq (.seq c182_2 (.cond (.var 11) (.seq c182_3 .ret) .skip)) (.seq c182_4 .ret))))
abbrev F_L_szLease : FuncId := 182
theorem v_L_szLease : VT 2 1 Tryz.f182 182 [0,1,2,4,11] [none, none] [(.give, 4, none)] c182 := mkV Tryz.func182 rfl rfl (by kernel_rfl) (by kernel_rfl) rfl rfl
def c183_0:= rg [Qg 2 0,
Qe 4 0]
def c183_1:= rg [Qa 5 1,
Qb 6 0 2,
Qd 7 1 6,
Qam 8 7,
Qbd 9 5 8,
Qc 1 9]
def c183_2:= rg [Qa 10 1,
Qu 11 10 0]
def c183_3:= rg [Qe 4 (-1)]
def c183_4:= rg [Qa 12 1,
Qb 13 1 2,
Qd 14 1 13,
Qam 15 14,
Qbd 16 12 15,
Qc 1 16]
def c183_5:= rg [Qa 17 1,
Qu 18 17 0]
def c183_6:= rg [Qe 4 (-1)]
def c183_7:= rg [Qa 19 1,
Qc 4 19]
def c183 : ACode := (.seq c183_0 (.seq c183_1 (.seq (.seq c183_2 (.cond (.var 11) (.seq c183_3 .ret) .skip)) (.seq c183_4 (.seq (.seq c183_5 (.cond (.var 18) (.seq c183_6 .ret) .skip)) (.seq c183_7 .ret))))))
abbrev F_L_szUser : FuncId := 183
theorem v_L_szUser : VT 2 1 Tryz.f183 183 [0,1,2,4,11,18] [none, none] [(.give, 4, none)] c183 := mkV Tryz.func183 rfl rfl (by kernel_rfl) (by kernel_rfl) rfl rfl
def c184_0:= rg [Qg 2 0,
Qe 4 0]
def c184_1:= rg [Qa 5 1,
Qb 6 0 2,
Qd 7 1 6,
Qam 8 7,
Qbd 9 5 8,
Qc 1 9]
def c184_2:= rg [Qa 10 1,
Qu 11 10 0]
def c184_3:= rg [Qe 4 (-1)]
def c184_4:= rg [Qa 12 1,
Qc 4 12]
def c184 : ACode := (.seq c184_0 (.seq c184_1 (.seq (.seq c184_2 (.cond (.var 11) (.seq c184_3 .ret) .skip)) (.seq c184_4 .ret))))
abbrev F_L_szJob : FuncId := 184
theorem v_L_szJob : VT 2 1 Tryz.f184 184 [0,1,2,4,11] [none, none] [(.give, 4, none)] c184 := mkV Tryz.func184 rfl rfl (by kernel_rfl) (by kernel_rfl) rfl rfl
def c185_0:= rg [Qf 2]
def c185_1:= rg [Qa 4 0,
Qi 5 4,
Qbr 6 5 6]
def c185_2:= rg [Qf 2]
def c185_3:= rg [Qe 3 0]
def c185_4:= rg [Qa 7 3,
Qa 8 0,
Qi 9 8,
Qq 10 7 9]
def c185_5 : ACode := .reg [Qa 13 0,
  Qa 14 3,
  Qz 15 1 13 14 [0,1],
  Qs 16 1 15 [2,0,1],
  Qag 17 55 16 [3,2,0,1],
  Qbo 18 17 [4,3,2,0,1],
  Qae 19 18 [5,4,3,2,0,1],
  Qas 20 3 19 [6,5,4,3,2,0,1],
  Qbp 21 20 0 19 [7,6,5,4,3,2,0,1],
  Qbl 22 21 19 [8,7,6,5,4,3,2,0,1],
  Qap 23 0 22 [9,8,7,6,5,4,3,2,0,1],
  Qap 24 3 22 [9,8,7,6,5,4,3,2,0,1],
  Qbf 25 24 1 22 [11,9,8,7,6,5,4,3,2,0,1],
  Qat 26 1 23 25 22 [10,12,11,9,8,7,6,5,4,3,2,0,1],
  Qw 27 1 26 22 [13,10,12,11,9,8,7,6,5,4,3,2,0,1],
  Qap 28 0 22 [9,8,7,6,5,4,3,2,0,1],
  Qap 29 3 22 [9,8,7,6,5,4,3,2,0,1],
  Qat 30 1 28 29 22 [15,16,9,8,7,6,5,4,3,2,0,1],
  Qw 31 1 30 22 [17,15,16,9,8,7,6,5,4,3,2,0,1],
  ⟨.loc 32, .bin .str .geq (.loc 27) (.loc 31), some ((.loc 22), true), [14, 13, 10, 12, 11, 18, 17, 15, 16, 9, 8, 7, 6, 5, 4, 3, 2, 0, 1]⟩,
  Qbm 33 22 32 19 [19,14,13,10,12,11,18,17,15,16,9,8,7,6,5,4,3,2,0,1],
  Qbg 34 19 33 [20,19,14,13,10,12,11,18,17,15,16,9,8,7,6,5,4,3,2,0,1]] true
def c185_6:= rg [Qf 2]
def c185_7:= rg [Qa 11 3,
Qh 12 11 1,
Qc 3 12]
def c185_8 : ACode := (.seq (.seq c185_4 (.cond (.var 10) .skip (.exit 0))) (.seq (.block 1 (.seq c185_5 (.cond (.var 34) (.seq c185_6 .ret) .skip))) c185_7))
def c185_9:= rg [Qy 2]
def c185 : ACode := (.seq c185_0 (.seq (.seq c185_1 (.cond (.var 6) (.seq c185_2 .ret) .skip)) (.seq (.seq c185_3 (.block 0 (.loop [0, 3] c185_8))) (.seq c185_9 .ret))))
abbrev F_S_l08Names : FuncId := 185
theorem v_S_l08Names : VT 1 1 Tryz.f185 185 [0,2,3,6,10,34] [none] [(.give, 2, none)] c185 := mkV Tryz.func185 rfl rfl (by kernel_rfl) (by kernel_rfl) rfl rfl
def c186_0:= rg [Qf 2]
def c186_1:= rg [Qa 4 0,
Qp 5 220 4,
Qao 6 5]
def c186_2:= rg [Qf 2]
def c186_3:= rg [Qe 3 0]
def c186_4:= rg [Qa 7 3,
Qa 8 0,
Qam 9 8,
Qq 10 7 9]
def c186_5:= rg [Qa 13 0,
Qa 14 3,
⟨.loc 15, .idxS (.loc 13) (.loc 14), none, []⟩,
⟨.loc 16, .bin .int .eql (.loc 15) (.const (.d (.int .u8 43))), none, []⟩,
Qk 17 16,
Qan 18 0 17,
Qan 19 3 17,
⟨.loc 20, .idxS (.loc 18) (.loc 19), some ((.loc 17), false), []⟩,
⟨.loc 21, .bin .int .eql (.loc 20) (.const (.d (.int .u8 42))), some ((.loc 17), false), []⟩,
Qaq 22 17 21]
def c186_6:= rg [Qf 2]
def c186_7:= rg [Qa 11 3,
Qh 12 11 1,
Qc 3 12]
def c186_8 : ACode := (.seq (.seq c186_4 (.cond (.var 10) .skip (.exit 0))) (.seq (.block 1 (.seq c186_5 (.cond (.var 22) (.seq c186_6 .ret) .skip))) c186_7))
def c186_9:= rg [Qy 2]
def c186 : ACode := (.seq c186_0 (.seq (.seq c186_1 (.cond (.var 6) (.seq c186_2 .ret) .skip)) (.seq (.seq c186_3 (.block 0 (.loop [0, 3] c186_8))) (.seq c186_9 .ret))))
abbrev F_S_PathOk : FuncId := 186
theorem v_S_PathOk : VT 1 1 Tryz.f186 186 [0,2,3,6,10,22] [none] [(.give, 2, none)] c186 := mkV Tryz.func186 rfl rfl (by kernel_rfl) (by kernel_rfl) rfl rfl
def c187_0:= rg [Qg 1 0,
Qbq 2 0 0 0 1 0 0 0 0]
def c187_1:= rg [Qbq 3 0 0 0 1 0 0 0 0]
def c187_2:= rg [Qb 4 0 1,
Qd 5 1 4,
Qb 6 0 3,
Qj 1 6 5]
def c187_3:= rg [Qb 7 1 1,
Qd 8 1 7,
Qb 9 1 3,
Qj 1 9 8]
def c187_4:= rg [Qb 10 2 1,
Qd 11 1 10,
Qp 12 221 11,
Qb 13 2 3,
Qj 1 13 12]
def c187_5:= rg [Qb 14 3 1,
Qd 15 1 14,
Qb 16 3 3,
Qj 1 16 15]
def c187_6:= rg [Qb 17 4 1,
Qd 18 1 17,
Qb 19 4 3,
Qj 1 19 18]
def c187_7:= rg [Qb 20 5 1,
Qd 21 1 20,
Qb 22 5 3,
Qj 1 22 21]
def c187_8:= rg [Qb 23 6 1,
Qd 24 1 23,
Qb 25 6 3,
Qj 1 25 24]
def c187_9:= rg [Ql 26 7 3,
Qn 7 2 26]
def c187 : ACode := (.seq c187_0 (.seq c187_1 (.seq c187_2 (.seq c187_3 (.seq c187_4 (.seq c187_5 (.seq c187_6 (.seq c187_7 (.seq c187_8 (.seq c187_9 .ret))))))))))
abbrev F_L_toToken : FuncId := 187
theorem v_L_toToken : VT 1 1 Tryz.f187 187 [0,1,2,3] [none] [(.give, 2, some (true, 7))] c187 := mkV Tryz.func187 rfl rfl (by kernel_rfl) (by kernel_rfl) rfl rfl
def c188_0:= rg [Qg 1 0,
⟨.var 2, .alloc [.d (.int .i64 0), .d (.int .i64 0), .d (.str []), .d (.int .i64 0), .d (.int .i64 0), .d (.int .i64 0)], none, []⟩]
def c188_1:= rg [⟨.var 3, .alloc [.d (.int .i64 0), .d (.int .i64 0), .d (.str []), .d (.int .i64 0), .d (.int .i64 0), .d (.int .i64 0)], none, []⟩]
def c188_2:= rg [Qb 4 0 1,
Qd 5 1 4,
Qb 6 0 3,
Qj 1 6 5]
def c188_3:= rg [Qb 7 1 1,
Qd 8 1 7,
Qb 9 1 3,
Qj 1 9 8]
def c188_4:= rg [Qb 10 2 1,
Qd 11 1 10,
Qb 12 2 3,
Qj 1 12 11]
def c188_5:= rg [Qb 13 3 1,
Qd 14 1 13,
Qb 15 3 3,
Qj 1 15 14]
def c188_6:= rg [Qb 16 4 1,
Qd 17 1 16,
Qb 18 4 3,
Qj 1 18 17]
def c188_7:= rg [Qb 19 5 1,
Qd 20 1 19,
Qb 21 5 3,
Qj 1 21 20]
def c188_8:= rg [Ql 22 6 3,
Qn 6 2 22]
def c188 : ACode := (.seq c188_0 (.seq c188_1 (.seq c188_2 (.seq c188_3 (.seq c188_4 (.seq c188_5 (.seq c188_6 (.seq c188_7 (.seq c188_8 .ret)))))))))
abbrev F_L_toLease : FuncId := 188
theorem v_L_toLease : VT 1 1 Tryz.f188 188 [0,1,2,3] [none] [(.give, 2, some (true, 6))] c188 := mkV Tryz.func188 rfl rfl (by kernel_rfl) (by kernel_rfl) rfl rfl
def c189_0:= rg [Qg 1 0,
⟨.var 2, .alloc [.d (.str []), .d (.str [])], none, []⟩]
def c189_1:= rg [⟨.var 3, .alloc [.d (.str []), .d (.str [])], none, []⟩]
def c189_2:= rg [Qb 4 0 1,
Qd 5 1 4,
Qb 6 0 3,
Qj 1 6 5]
def c189_3:= rg [Qb 7 1 1,
Qd 8 1 7,
Qb 9 1 3,
Qj 1 9 8]
def c189_4:= rg [Ql 10 2 3,
Qn 2 2 10]
def c189 : ACode := (.seq c189_0 (.seq c189_1 (.seq c189_2 (.seq c189_3 (.seq c189_4 .ret)))))
abbrev F_L_toUser : FuncId := 189
theorem v_L_toUser : VT 1 1 Tryz.f189 189 [0,1,2,3] [none] [(.give, 2, some (true, 2))] c189 := mkV Tryz.func189 rfl rfl (by kernel_rfl) (by kernel_rfl) rfl rfl
def c190_0:= rg [Qg 1 0,
⟨.var 2, .alloc [.d (.str []), .d (.int .i64 0), .d (.int .i64 0)], none, []⟩]
def c190_1:= rg [⟨.var 3, .alloc [.d (.str []), .d (.int .i64 0), .d (.int .i64 0)], none, []⟩]
def c190_2:= rg [Qb 4 0 1,
Qd 5 1 4,
Qb 6 0 3,
Qj 1 6 5]
def c190_3:= rg [Qb 7 1 1,
Qd 8 1 7,
Qb 9 1 3,
Qj 1 9 8]
def c190_4:= rg [Qb 10 2 1,
Qd 11 1 10,
Qb 12 2 3,
Qj 1 12 11]
def c190_5:= rg [Ql 13 3 3,
Qn 3 2 13]
def c190 : ACode := (.seq c190_0 (.seq c190_1 (.seq c190_2 (.seq c190_3 (.seq c190_4 (.seq c190_5 .ret))))))
abbrev F_L_toJob : FuncId := 190
theorem v_L_toJob : VT 1 1 Tryz.f190 190 [0,1,2,3] [none] [(.give, 2, some (true, 3))] c190 := mkV Tryz.func190 rfl rfl (by kernel_rfl) (by kernel_rfl) rfl rfl
def c191_0:= rg [Qg 1 0,
Qf 2]
def c191_1:= rg [Qb 5 4 1,
Qd 6 1 5,
⟨.loc 7, .bin .int .eql (.loc 6) (.const (.d (.int .i64 0))), none, []⟩,
Qk 8 7,
Qad 9 4 1 8,
Qal 10 1 9 8,
Qad 11 3 1 8,
Qal 12 1 11 8,
⟨.loc 13, .bin .int .add (.loc 12) (.const (.d (.int .i64 1))), some ((.loc 8), false), []⟩,
⟨.loc 14, .call (.fn 103) [(.loc 10), (.loc 13), (.const (.d (.int .i64 1000000000)))] [.borrow, .borrow, .borrow], some ((.loc 8), false), []⟩,
Qah 15 8 14,
Qc 3 15]
def c191_2:= rg [Qb 16 5 1,
Qd 17 1 16,
⟨.loc 18, .bin .int .eql (.loc 17) (.const (.d (.int .i64 0))), none, []⟩,
Qk 19 18,
Qad 20 5 1 19,
Qal 21 1 20 19,
Qad 22 3 1 19,
Qal 23 1 22 19,
⟨.loc 24, .bin .int .add (.loc 23) (.const (.d (.int .i64 1))), some ((.loc 19), false), []⟩,
⟨.loc 25, .call (.fn 103) [(.loc 21), (.loc 24), (.const (.d (.int .i64 1000000000)))] [.borrow, .borrow, .borrow], some ((.loc 19), false), []⟩,
⟨.loc 26, .split (.loc 25), some ((.loc 19), false), []⟩,
Qaa 27 4 1 26,
Qx 28 1 27 26,
⟨.loc 29, .bin .int .neq (.loc 28) (.const (.d (.int .i64 0))), some ((.loc 26), true), []⟩,
⟨.loc 30, .pick (.loc 26) (.loc 29) (.const (.d (.bool false))), some ((.loc 19), false), []⟩,
⟨.loc 31, .split (.loc 30), some ((.loc 19), false), []⟩,
Qaa 32 4 1 31,
Qx 33 1 32 31,
Qaa 34 5 1 31,
Qx 35 1 34 31,
Qcd 36 33 35 31,
⟨.loc 37, .pick (.loc 31) (.loc 36) (.const (.d (.bool false))), some ((.loc 19), false), []⟩,
Qah 38 19 37,
Qc 4 38]
def c191_3:= rg [Qb 39 0 1,
Qd 40 1 39,
Qbh 41 103 40 1 1000000000,
Qk 42 41,
Qaa 43 1 1 42,
Qx 44 1 43 42,
Qaa 45 0 1 42,
Qx 46 1 45 42,
⟨.loc 47, .bin .int .sub (.loc 46) (.const (.d (.int .i64 1))), some ((.loc 42), true), []⟩,
⟨.loc 48, .call (.fn 103) [(.loc 44), (.const (.d (.int .i64 0))), (.loc 47)] [.borrow, .borrow, .borrow], some ((.loc 42), true), []⟩,
Qab 49 42 48,
Qk 50 49,
Qaa 51 2 1 50,
Qx 52 1 51 50,
⟨.loc 53, .call (.fn 222) [(.loc 52)] [.borrow], some ((.loc 50), true), []⟩,
Qab 54 50 53,
Qk 55 54,
Qaa 56 3 1 55,
Qx 57 1 56 55,
Qby 58 103 57 0 1000000000 55,
Qab 59 55 58,
Qk 60 59,
Qac 61 3 60,
Qab 62 60 61,
Qk 63 62,
Qac 64 4 63,
Qab 65 63 64,
Qk 66 65,
Qaa 67 6 1 66,
Qx 68 1 67 66,
Qby 69 103 68 0 1000 66,
Qab 70 66 69,
Qc 2 70]
def c191 : ACode := (.seq c191_0 (.seq c191_1 (.seq c191_2 (.seq c191_3 .ret))))
abbrev F_I_isToken : FuncId := 191
theorem v_I_isToken : VT 1 1 Tryz.f191 191 [0,1,2,3,4] [none] [(.give, 2, none)] c191 := mkV Tryz.func191 rfl rfl (by kernel_rfl) (by kernel_rfl) rfl rfl
def c192_0:= rg [Qg 1 0,
Qf 2]
def c192_1:= rg [Qb 3 0 1,
Qd 4 1 3,
Qbh 5 103 4 1 1000000000,
Qk 6 5,
Qaa 7 1 1 6,
Qx 8 1 7 6,
Qby 9 103 8 0 1000000000 6,
Qab 10 6 9,
Qk 11 10,
Qaa 12 2 1 11,
Qx 13 1 12 11,
⟨.loc 14, .call (.fn 223) [(.loc 13)] [.borrow], some ((.loc 11), true), []⟩,
Qab 15 11 14,
Qk 16 15,
Qaa 17 3 1 16,
Qx 18 1 17 16,
Qby 19 103 18 0 1000000000 16,
Qab 20 16 19,
Qk 21 20,
Qaa 22 5 1 21,
Qx 23 1 22 21,
Qaa 24 3 1 21,
Qx 25 1 24 21,
Qcl 26 25 1 21,
⟨.loc 27, .call (.fn 103) [(.loc 23), (.loc 26), (.const (.d (.int .i64 1000000000)))] [.borrow, .borrow, .borrow], some ((.loc 21), true), []⟩,
Qab 28 21 27,
Qk 29 28,
Qaa 30 4 1 29,
Qx 31 1 30 29,
Qaa 32 3 1 29,
Qx 33 1 32 29,
Qcl 34 33 1 29,
Qaa 35 5 1 29,
Qx 36 1 35 29,
⟨.loc 37, .call (.fn 103) [(.loc 31), (.loc 34), (.loc 36)] [.borrow, .borrow, .borrow], some ((.loc 29), true), []⟩,
Qab 38 29 37,
Qc 2 38]
def c192 : ACode := (.seq c192_0 (.seq c192_1 .ret))
abbrev F_I_isLease : FuncId := 192
theorem v_I_isLease : VT 1 1 Tryz.f192 192 [0,1,2] [none] [(.give, 2, none)] c192 := mkV Tryz.func192 rfl rfl (by kernel_rfl) (by kernel_rfl) rfl rfl
def c193_0:= rg [Qf 4]
def c193_1:= rg [Qa 6 0,
⟨.var 7, .len true (.loc 6), none, []⟩,
Qe 8 0]
def c193_2:= rg [Qba 9 8 7]
def c193_3:= rg [Qa 10 8,
Qc 5 10]
def c193_4:= rg [Qa 11 1,
Qa 12 0,
Qa 13 5,
⟨.loc 14, .idxS (.loc 12) (.loc 13), none, []⟩,
Qr 15 224 11 14,
Qu 16 15 0]
def c193_5:= rg [Qf 4]
def c193_6:= rg [Qbb 17 8 1,
Qc 8 17]
def c193_7 : ACode := (.seq c193_2 (.seq (.cond (.var 9) .skip (.exit 0)) (.seq (.block 1 (.seq c193_3 (.seq c193_4 (.cond (.var 16) (.seq c193_5 .ret) .skip)))) c193_6)))
def c193_8:= rg [Qy 4]
def c193 : ACode := (.seq c193_0 (.seq (.seq c193_1 (.block 0 (.loop [0, 1, 7, 8] c193_7))) (.seq c193_8 .ret)))
abbrev F_I_onlyOf : FuncId := 193
theorem v_I_onlyOf : VT 2 1 Tryz.f193 193 [0,1,4,5,7,8,9,16] [none, none] [(.give, 4, none)] c193 := mkV Tryz.func193 rfl rfl (by kernel_rfl) (by kernel_rfl) rfl rfl
def c194_0:= rg [Qg 2 0,
Qg 3 1,
Qf 4]
def c194_1:= rg [Qb 5 0 2,
Qd 6 1 5,
Qb 7 0 3,
Qd 8 1 7,
Qv 9 6 8]
def c194_2:= rg [Qf 4]
def c194_3:= rg [Qb 10 1 2,
Qd 11 1 10,
Qb 12 1 3,
Qd 13 1 12,
Qv 14 11 13]
def c194_4:= rg [Qf 4]
def c194_5:= rg [Qb 15 2 2,
Qd 16 1 15,
Qb 17 2 3,
Qd 18 1 17,
Qr 19 18 16 18,
Qao 20 19]
def c194_6:= rg [Qf 4]
def c194_7:= rg [Qb 21 3 2,
Qd 22 1 21,
Qb 23 3 3,
Qd 24 1 23,
Qv 25 22 24]
def c194_8:= rg [Qf 4]
def c194_9:= rg [Qb 26 4 2,
Qd 27 1 26,
Qb 28 4 3,
Qd 29 1 28,
Qv 30 27 29]
def c194_10:= rg [Qf 4]
def c194_11:= rg [Qb 31 5 2,
Qd 32 1 31,
Qb 33 5 3,
Qd 34 1 33,
Qv 35 32 34]
def c194_12:= rg [Qf 4]
def c194_13:= rg [Qb 36 6 2,
Qd 37 1 36,
Qb 38 6 3,
Qd 39 1 38,
Qv 40 37 39]
def c194_14:= rg [Qf 4]
def c194_15:= rg [Qy 4]
def c194 : ACode := (.seq c194_0 (.seq (.seq c194_1 (.cond (.var 9) (.seq c194_2 .ret) .skip)) (.seq (.seq c194_3 (.cond (.var 14) (.seq c194_4 .ret) .skip)) (.seq (.seq c194_5 (.cond (.var 20) (.seq c194_6 .ret) .skip)) (.seq (.seq c194_7 (.cond (.var 25) (.seq c194_8 .ret) .skip)) (.seq (.seq c194_9 (.cond (.var 30) (.seq c194_10 .ret) .skip)) (.seq (.seq c194_11 (.cond (.var 35) (.seq c194_12 .ret) .skip)) (.seq (.seq c194_13 (.cond (.var 40) (.seq c194_14 .ret) .skip)) (.seq c194_15 .ret)))))))))
abbrev F_L_eqToken : FuncId := 194
theorem v_L_eqToken : VT 2 1 Tryz.f194 194 [0,1,2,3,4,9,14,20,25,30,35,40] [none, none] [(.give, 4, none)] c194 := mkV Tryz.func194 rfl rfl (by kernel_rfl) (by kernel_rfl) rfl rfl
def c195_0:= rg [Qg 2 0,
Qg 3 1,
Qf 4]
def c195_1:= rg [Qb 5 0 2,
Qd 6 1 5,
Qb 7 0 3,
Qd 8 1 7,
Qv 9 6 8]
def c195_2:= rg [Qf 4]
def c195_3:= rg [Qb 10 1 2,
Qd 11 1 10,
Qb 12 1 3,
Qd 13 1 12,
Qv 14 11 13]
def c195_4:= rg [Qf 4]
def c195_5:= rg [Qb 15 2 2,
Qd 16 1 15,
Qb 17 2 3,
Qd 18 1 17,
Qci 19 16 18]
def c195_6:= rg [Qf 4]
def c195_7:= rg [Qb 20 3 2,
Qd 21 1 20,
Qb 22 3 3,
Qd 23 1 22,
Qv 24 21 23]
def c195_8:= rg [Qf 4]
def c195_9:= rg [Qb 25 4 2,
Qd 26 1 25,
Qb 27 4 3,
Qd 28 1 27,
Qv 29 26 28]
def c195_10:= rg [Qf 4]
def c195_11:= rg [Qb 30 5 2,
Qd 31 1 30,
Qb 32 5 3,
Qd 33 1 32,
Qv 34 31 33]
def c195_12:= rg [Qf 4]
def c195_13:= rg [Qy 4]
def c195 : ACode := (.seq c195_0 (.seq (.seq c195_1 (.cond (.var 9) (.seq c195_2 .ret) .skip)) (.seq (.seq c195_3 (.cond (.var 14) (.seq c195_4 .ret) .skip)) (.seq (.seq c195_5 (.cond (.var 19) (.seq c195_6 .ret) .skip)) (.seq (.seq c195_7 (.cond (.var 24) (.seq c195_8 .ret) .skip)) (.seq (.seq c195_9 (.cond (.var 29) (.seq c195_10 .ret) .skip)) (.seq (.seq c195_11 (.cond (.var 34) (.seq c195_12 .ret) .skip)) (.seq c195_13 .ret))))))))
abbrev F_L_eqLease : FuncId := 195
theorem v_L_eqLease : VT 2 1 Tryz.f195 195 [0,1,2,3,4,9,14,19,24,29,34] [none, none] [(.give, 4, none)] c195 := mkV Tryz.func195 rfl rfl (by kernel_rfl) (by kernel_rfl) rfl rfl
def c196_0:= rg [Qg 2 0,
Qg 3 1,
Qf 4]
def c196_1:= rg [Qb 5 0 2,
Qd 6 1 5,
Qb 7 0 3,
Qd 8 1 7,
Qci 9 6 8]
def c196_2:= rg [Qf 4]
def c196_3:= rg [Qb 10 1 2,
Qd 11 1 10,
Qb 12 1 3,
Qd 13 1 12,
Qv 14 11 13]
def c196_4:= rg [Qf 4]
def c196_5:= rg [Qb 15 2 2,
Qd 16 1 15,
Qb 17 2 3,
Qd 18 1 17,
Qv 19 16 18]
def c196_6:= rg [Qf 4]
def c196_7:= rg [Qy 4]
def c196 : ACode := (.seq c196_0 (.seq (.seq c196_1 (.cond (.var 9) (.seq c196_2 .ret) .skip)) (.seq (.seq c196_3 (.cond (.var 14) (.seq c196_4 .ret) .skip)) (.seq (.seq c196_5 (.cond (.var 19) (.seq c196_6 .ret) .skip)) (.seq c196_7 .ret)))))
abbrev F_L_eqJob : FuncId := 196
theorem v_L_eqJob : VT 2 1 Tryz.f196 196 [0,1,2,3,4,9,14,19] [none, none] [(.give, 4, none)] c196 := mkV Tryz.func196 rfl rfl (by kernel_rfl) (by kernel_rfl) rfl rfl
def c197_0:= rg [Qe 4 0]
def c197_1:= rg [Qa 6 0,
⟨.var 7, .len false (.loc 6), none, []⟩,
Qe 8 0]
def c197_2:= rg [Qba 9 8 7]
def c197_3:= rg [Qa 10 8,
Qc 5 10]
def c197_4:= rg [Qa 11 1,
Qa 12 0,
Qa 13 5,
Qm 14 3 12 13,
Qo 15 3 14,
⟨.var 16, .call (.loc 11) [(.loc 15)] [.borrow], none, []⟩]
def c197_5:= rg [Qa 17 5,
Qc 4 17]
def c197_6:= rg [Qbb 18 8 1,
Qc 8 18]
def c197_7 : ACode := (.seq c197_2 (.seq (.cond (.var 9) .skip (.exit 0)) (.seq (.block 1 (.seq c197_3 (.seq c197_4 (.cond (.var 16) (.seq c197_5 .ret) .skip)))) c197_6)))
def c197_8:= rg [Qe 4 (-1)]
def c197 : ACode := (.seq c197_0 (.seq (.seq c197_1 (.block 0 (.loop [0, 1, 7, 8] c197_7))) (.seq c197_8 .ret)))
abbrev F_slices_IndexFunc___impl_Job_impl_Job_ : FuncId := 197
theorem v_slices_IndexFunc___impl_Job_impl_Job_ : VT 2 1 Tryz.f197 197 [0,1,4,5,7,8,9,16] [none, none] [(.give, 4, none)] c197 := mkV Tryz.func197 rfl rfl (by kernel_rfl) (by kernel_rfl) rfl rfl
def c199_0:= rg [Qbv 2 0 1]
def c199_1:= rg [⟨.loc 5, .lit 0 1 0 [.str []] [], none, []⟩,
Qc 3 5]
def c199_2:= rg [Qe 4 0]
def c199_3:= rg [Qa 6 4,
Qa 7 0,
Qi 8 7,
Qq 9 6 8]
def c199_4:= rg [Qa 12 3,
Qa 13 0,
Qa 14 4,
Qm 15 1 13 14,
Qd 16 1 15,
⟨.loc 17, .lit 0 1 1 [.str []] [(0, (.loc 16))], none, []⟩,
⟨.loc 18, .app 1 16 (.loc 12) (.loc 17), none, []⟩,
Qc 3 18]
def c199_5:= rg [Qa 10 4,
Qh 11 10 1,
Qc 4 11]
def c199_6 : ACode := (.seq (.seq c199_3 (.cond (.var 9) .skip (.exit 0))) (.seq (.block 1 c199_4) c199_5))
def c199_7:= rg [Qa 19 3,
Qc 2 19]
def c199 : ACode := (.seq c199_0 (.seq c199_1 (.seq (.seq c199_2 (.block 0 (.loop [0, 3, 4] c199_6))) (.seq c199_7 .ret))))
abbrev F_S_l08Texts : FuncId := 199
theorem v_S_l08Texts : VT 1 1 Tryz.f199 199 [0,2,3,4,9] [none] [(.give, 2, none)] c199 := mkV Tryz.func199 rfl rfl (by kernel_rfl) (by kernel_rfl) rfl rfl
def c219_0:= rg [Qe 4 0]
def c219_1:= rg [Qa 6 1,
Qa 7 0,
Qi 8 7,
Qbd 9 6 8,
Qc 1 9]
def c219_2:= rg [Qa 10 1,
Qu 11 10 0]
def c219_3:= rg [Qe 4 (-1)]
def c219_4:= rg [Qe 5 0]
def c219_5:= rg [Qa 12 5,
Qa 13 0,
Qi 14 13,
Qq 15 12 14]
def c219_6:= rg [Qa 18 1,
Qa 19 0,
Qa 20 5,
Qm 21 1 19 20,
Qd 22 1 21,
Qam 23 22,
Qbd 24 18 23,
Qc 1 24]
def c219_7:= rg [Qa 25 1,
Qu 26 25 0]
def c219_8:= rg [Qe 4 (-1)]
def c219_9:= rg [Qa 16 5,
Qh 17 16 1,
Qc 5 17]
def c219_10 : ACode := (.seq (.seq c219_5 (.cond (.var 15) .skip (.exit 0))) (.seq (.block 1 (.seq c219_6 (.seq c219_7 (.cond (.var 26) (.seq c219_8 .ret) .skip)))) c219_9))
def c219_11:= rg [Qa 27 1,
Qc 4 27]
def c219 : ACode := (.seq c219_0 (.seq c219_1 (.seq (.seq c219_2 (.cond (.var 11) (.seq c219_3 .ret) .skip)) (.seq (.seq c219_4 (.block 0 (.loop [0, 1, 5] c219_10))) (.seq c219_11 .ret)))))
abbrev F_L_szStringS : FuncId := 219
theorem v_L_szStringS : VT 2 1 Tryz.f219 219 [0,1,4,5,11,15,26] [none, none] [(.give, 4, none)] c219 := mkV Tryz.func219 rfl rfl (by kernel_rfl) (by kernel_rfl) rfl rfl
def c220_0:= rg [Qf 2]
def c220_1:= rg [Qa 5 0,
Qam 6 5,
Qbr 7 6 120]
def c220_2:= rg [Qf 2]
def c220_3:= rg [Qa 8 0,
⟨.loc 9, .call (.fn 238) [(.loc 8), (.const (.d (.int .u8 47)))] [.borrow, .borrow], none, []⟩,
Qc 3 9]
def c220_4:= rg [Qe 4 0]
def c220_5:= rg [Qa 10 4,
Qa 11 3,
Qi 12 11,
Qq 13 10 12]
def c220_6:= rg [Qa 16 3,
Qa 17 4,
Qm 18 1 16 17,
Qd 19 1 18,
Qp 20 239 19,
Qax 21 20,
Qk 22 21,
Qac 23 3 22,
Qac 24 4 22,
⟨.loc 25, .idxA 1 (.loc 23) (.loc 24), some ((.loc 22), true), []⟩,
Qx 26 1 25 22,
⟨.loc 27, .bin .str .neq (.loc 26) (.const (.d (.str [43]))), some ((.loc 22), true), []⟩,
Qab 28 22 27,
Qk 29 28,
Qac 30 3 29,
Qac 31 4 29,
⟨.loc 32, .idxA 1 (.loc 30) (.loc 31), some ((.loc 29), true), []⟩,
Qx 33 1 32 29,
⟨.loc 34, .bin .str .eql (.loc 33) (.const (.d (.str [42]))), some ((.loc 29), true), []⟩,
⟨.loc 35, .split (.loc 34), some ((.loc 29), true), []⟩,
Qac 36 4 35,
Qac 37 3 35,
⟨.loc 38, .len false (.loc 37), some ((.loc 35), true), []⟩,
⟨.loc 39, .bin .int .sub (.loc 38) (.const (.d (.int .i64 1))), some ((.loc 35), true), []⟩,
⟨.loc 40, .bin .int .eql (.loc 36) (.loc 39), some ((.loc 35), true), []⟩,
⟨.loc 41, .pick (.loc 35) (.loc 40) (.const (.d (.bool false))), some ((.loc 29), true), []⟩,
Qcj 42 41 29,
⟨.var 43, .pick (.loc 29) (.loc 42) (.const (.d (.bool false))), none, []⟩]
def c220_7:= rg [Qf 2]
def c220_8:= rg [Qa 14 4,
Qh 15 14 1,
Qc 4 15]
def c220_9 : ACode := (.seq (.seq c220_5 (.cond (.var 13) .skip (.exit 0))) (.seq (.block 1 (.seq c220_6 (.cond (.var 43) (.seq c220_7 .ret) .skip))) c220_8))
def c220_10:= rg [Qa 44 3,
Qi 45 44,
Qca 46 45 8,
Qc 2 46]
def c220 : ACode := (.seq c220_0 (.seq (.seq c220_1 (.cond (.var 7) (.seq c220_2 .ret) .skip)) (.seq c220_3 (.seq (.seq c220_4 (.block 0 (.loop [3, 4] c220_9))) (.seq c220_10 .ret)))))
abbrev F_S_GlobOk : FuncId := 220
theorem v_S_GlobOk : VT 1 1 Tryz.f220 220 [0,2,3,4,7,13,43] [none] [(.give, 2, none)] c220 := mkV Tryz.func220 rfl rfl (by kernel_rfl) (by kernel_rfl) rfl rfl
def c221_0:= rg [Qbv 2 0 1]
def c221_1:= rg [Qa 5 0,
Qi 6 5,
⟨.loc 7, .mkslice 0 1 16 [.str []] (.loc 6) (.loc 6), none, []⟩,
Qc 3 7]
def c221_2:= rg [Qe 4 0]
def c221_3:= rg [Qa 8 4,
Qa 9 0,
Qi 10 9,
Qq 11 8 10]
def c221_4:= rg [Qa 14 3,
Qa 15 4,
Qa 16 0,
Qa 17 4,
Qm 18 1 16 17,
Qd 19 1 18,
Qm 20 1 14 15,
Qj 1 20 19]
def c221_5:= rg [Qa 12 4,
Qh 13 12 1,
Qc 4 13]
def c221_6 : ACode := (.seq (.seq c221_3 (.cond (.var 11) .skip (.exit 0))) (.seq (.block 1 c221_4) c221_5))
def c221_7:= rg [Qa 21 3,
Qc 2 21]
def c221 : ACode := (.seq c221_0 (.seq c221_1 (.seq (.seq c221_2 (.block 0 (.loop [0, 3, 4] c221_6))) (.seq c221_7 .ret))))
abbrev F_L_toStringS : FuncId := 221
theorem v_L_toStringS : VT 1 1 Tryz.f221 221 [0,2,3,4,11] [none] [(.give, 2, none)] c221 := mkV Tryz.func221 rfl rfl (by kernel_rfl) (by kernel_rfl) rfl rfl
def c222_0:= rg [Qf 2]
def c222_1:= rg [⟨.var 5, .mv (.var 0), none, []⟩,
Qbw 6 5,
Qe 7 0]
def c222_2:= rg [Qba 8 7 6]
def c222_3:= rg [Qa 9 7,
Qbx 10 1 5 7,
Qd 11 1 10,
Qc 3 9,
Qc 4 11]
def c222_4:= rg [Qa 12 4,
Qp 13 126 12,
Qax 14 13,
Qk 15 14,
Qan 16 3 15,
⟨.loc 17, .bin .int .gtr (.loc 16) (.const (.d (.int .i64 0))), some ((.loc 15), false), []⟩,
⟨.loc 18, .split (.loc 17), some ((.loc 15), false), []⟩,
Qac 19 0 18,
Qac 20 3 18,
⟨.loc 21, .bin .int .sub (.loc 20) (.const (.d (.int .i64 1))), some ((.loc 18), true), []⟩,
⟨.loc 22, .idxA 1 (.loc 19) (.loc 21), some ((.loc 18), true), []⟩,
Qx 23 1 22 18,
Qac 24 4 18,
⟨.loc 25, .bin .str .geq (.loc 23) (.loc 24), some ((.loc 18), true), []⟩,
⟨.loc 26, .pick (.loc 18) (.loc 25) (.const (.d (.bool false))), some ((.loc 15), false), []⟩,
Qaq 27 15 26]
def c222_5:= rg [Qf 2]
def c222_6:= rg [Qbb 28 7 1,
Qc 7 28]
def c222_7 : ACode := (.seq c222_2 (.seq (.cond (.var 8) .skip (.exit 0)) (.seq (.block 1 (.seq c222_3 (.seq c222_4 (.cond (.var 27) (.seq c222_5 .ret) .skip)))) c222_6)))
def c222_8:= rg [Qa 29 0,
Qi 30 29,
Qca 31 30 6,
Qc 2 31]
def c222 : ACode := (.seq c222_0 (.seq (.seq c222_1 (.block 0 (.loop [0, 5, 6, 7] c222_7))) (.seq c222_8 .ret)))
abbrev F_I_areNames : FuncId := 222
theorem v_I_areNames : VT 1 1 Tryz.f222 222 [0,2,3,4,5,6,7,8,27] [none] [(.give, 2, none)] c222 := mkV Tryz.func222 rfl rfl (by kernel_rfl) (by kernel_rfl) rfl rfl
def c223_0:= rg [Qf 2]
def c223_1:= rg [Qa 3 0,
Qp 4 240 3,
Qk 5 4,
Qac 6 0 5,
⟨.loc 7, .call (.fn 241) [(.loc 6), (.const (.d (.str [43, 42])))] [.borrow, .borrow], some ((.loc 5), true), []⟩,
Qcj 8 7 5,
Qab 9 5 8,
Qc 2 9]
def c223 : ACode := (.seq c223_0 (.seq c223_1 .ret))
abbrev F_I_isPath : FuncId := 223
theorem v_I_isPath : VT 1 1 Tryz.f223 223 [0,2] [none] [(.give, 2, none)] c223 := mkV Tryz.func223 rfl rfl (by kernel_rfl) (by kernel_rfl) rfl rfl
def c238_0:= rg [Qbv 4 0 1]
def c238_1:= rg [⟨.loc 8, .lit 0 1 0 [.str []] [], none, []⟩,
Qc 5 8]
def c238_2:= rg [Qe 6 0]
def c238_3:= rg [Qe 7 0]
def c238_4:= rg [Qa 9 7,
Qa 10 0,
Qam 11 10,
⟨.var 12, .bin .int .leq (.loc 9) (.loc 11), none, []⟩]
def c238_5:= rg [Qa 15 7,
Qa 16 0,
Qam 17 16,
⟨.loc 18, .bin .int .eql (.loc 15) (.loc 17), none, []⟩,
Qk 19 18,
Qan 20 0 19,
Qan 21 7 19,
⟨.loc 22, .idxS (.loc 20) (.loc 21), some ((.loc 19), false), []⟩,
Qan 23 1 19,
⟨.loc 24, .bin .int .eql (.loc 22) (.loc 23), some ((.loc 19), false), []⟩,
Qaq 25 19 24]
def c238_6:= rg [Qa 26 5,
Qa 27 0,
Qa 28 6,
Qa 29 7,
⟨.loc 30, .sliceS (.loc 27) (some (.loc 28)) (some (.loc 29)), none, []⟩,
⟨.loc 31, .lit 0 1 1 [.str []] [(0, (.loc 30))], none, []⟩,
⟨.loc 32, .app 1 16 (.loc 26) (.loc 31), none, []⟩,
Qc 5 32]
def c238_7:= rg [Qa 33 7,
Qh 34 33 1,
Qc 6 34]
def c238_8:= rg [Qa 13 7,
Qh 14 13 1,
Qc 7 14]
def c238_9 : ACode := (.seq (.seq c238_4 (.cond (.var 12) .skip (.exit 0))) (.seq (.block 1 (.seq c238_5 (.cond (.var 25) (.seq c238_6 c238_7) .skip))) c238_8))
def c238_10:= rg [Qa 35 5,
Qc 4 35]
def c238 : ACode := (.seq c238_0 (.seq c238_1 (.seq c238_2 (.seq (.seq c238_3 (.block 0 (.loop [0, 1, 5, 6, 7] c238_9))) (.seq c238_10 .ret)))))
abbrev F_S_l01Parts : FuncId := 238
theorem v_S_l01Parts : VT 2 1 Tryz.f238 238 [0,1,4,5,6,7,12,25] [none, none] [(.give, 4, none)] c238 := mkV Tryz.func238 rfl rfl (by kernel_rfl) (by kernel_rfl) rfl rfl
def c239_0:= rg [Qf 2]
def c239_1:= rg [Qa 5 0,
Qam 6 5,
Qbh 7 49 6 1 16,
Qao 8 7]
def c239_2:= rg [Qf 2]
def c239_3:= rg [Qe 3 0]
def c239_4:= rg [Qa 9 3,
Qa 10 0,
Qam 11 10,
Qq 12 9 11]
def c239_5:= rg [Qa 15 0,
Qa 16 3,
⟨.loc 17, .idxS (.loc 15) (.loc 16), none, []⟩,
Qc 4 17]
def c239_6:= rg [Qa 18 4,
⟨.loc 19, .bin .int .geq (.loc 18) (.const (.d (.int .u8 97))), none, []⟩,
Qk 20 19,
Qac 21 4 20,
⟨.loc 22, .bin .int .leq (.loc 21) (.const (.d (.int .u8 122))), some ((.loc 20), true), []⟩,
Qab 23 20 22,
Qax 24 23,
Qk 25 24,
Qac 26 4 25,
⟨.loc 27, .bin .int .geq (.loc 26) (.const (.d (.int .u8 48))), some ((.loc 25), true), []⟩,
⟨.loc 28, .split (.loc 27), some ((.loc 25), true), []⟩,
Qac 29 4 28,
⟨.loc 30, .bin .int .leq (.loc 29) (.const (.d (.int .u8 57))), some ((.loc 28), true), []⟩,
⟨.loc 31, .pick (.loc 28) (.loc 30) (.const (.d (.bool false))), some ((.loc 25), true), []⟩,
Qcj 32 31 25,
Qab 33 25 32,
Qk 34 33,
Qac 35 4 34,
⟨.loc 36, .bin .int .neq (.loc 35) (.const (.d (.int .u8 45))), some ((.loc 34), true), []⟩,
⟨.var 37, .pick (.loc 34) (.loc 36) (.const (.d (.bool false))), none, []⟩]
def c239_7:= rg [Qf 2]
def c239_8:= rg [Qa 13 3,
Qh 14 13 1,
Qc 3 14]
def c239_9 : ACode := (.seq (.seq c239_4 (.cond (.var 12) .skip (.exit 0))) (.seq (.block 1 (.seq c239_5 (.seq c239_6 (.cond (.var 37) (.seq c239_7 .ret) .skip)))) c239_8))
def c239_10:= rg [Qy 2]
def c239 : ACode := (.seq c239_0 (.seq (.seq c239_1 (.cond (.var 8) (.seq c239_2 .ret) .skip)) (.seq (.seq c239_3 (.block 0 (.loop [0, 3] c239_9))) (.seq c239_10 .ret))))
abbrev F_S_l01Segment : FuncId := 239
theorem v_S_l01Segment : VT 1 1 Tryz.f239 239 [0,2,3,4,8,12,37] [none] [(.give, 2, none)] c239 := mkV Tryz.func239 rfl rfl (by kernel_rfl) (by kernel_rfl) rfl rfl
def c240_0:= rg [Qf 2]
def c240_1:= rg [Qa 6 0,
Qam 7 6,
Qbr 8 7 120]
def c240_2:= rg [Qf 2]
def c240_3:= rg [Qa 9 0,
⟨.loc 10, .call (.fn 249) [(.loc 9), (.const (.d (.str [47])))] [.borrow, .borrow], none, []⟩,
Qc 3 10]
def c240_4:= rg [⟨.var 11, .mv (.var 3), none, []⟩,
Qbw 12 11,
Qe 13 0]
def c240_5:= rg [Qba 14 13 12]
def c240_6:= rg [Qa 15 13,
Qbx 16 1 11 13,
Qd 17 1 16,
Qc 4 15,
Qc 5 17]
def c240_7:= rg [Qa 18 5,
⟨.loc 19, .bin .str .eql (.loc 18) (.const (.d (.str [43]))), none, []⟩,
Qk 20 19,
Qan 21 5 20,
⟨.loc 22, .bin .str .eql (.loc 21) (.const (.d (.str [42]))), some ((.loc 20), false), []⟩,
⟨.loc 23, .split (.loc 22), some ((.loc 20), false), []⟩,
Qac 24 4 23,
Qac 25 3 23,
⟨.loc 26, .len false (.loc 25), some ((.loc 23), true), []⟩,
⟨.loc 27, .bin .int .sub (.loc 26) (.const (.d (.int .i64 1))), some ((.loc 23), true), []⟩,
⟨.loc 28, .bin .int .eql (.loc 24) (.loc 27), some ((.loc 23), true), []⟩,
⟨.loc 29, .pick (.loc 23) (.loc 28) (.const (.d (.bool false))), some ((.loc 20), false), []⟩,
Qaq 30 20 29]
def c240_8:= rg [Qa 31 5,
Qam 32 31,
Qbh 33 103 32 1 16,
Qax 34 33,
Qk 35 34,
Qan 36 5 35,
⟨.loc 37, .call (.fn 193) [(.loc 36), (.const (.d (.str [97, 98, 99, 100, 101, 102, 103, 104, 105, 106, 107, 108, 109, 110, 111, 112, 113, 114, 115, 116, 117, 118, 119, 120, 121, 122, 48, 49, 50, 51, 52, 53, 54, 55, 56, 57, 45])))] [.borrow, .borrow], some ((.loc 35), false), []⟩,
Qaf 38 37 35,
Qaq 39 35 38]
def c240_9:= rg [Qf 2]
def c240_10:= rg [Qbb 40 13 1,
Qc 13 40]
def c240_11 : ACode := (.seq c240_5 (.seq (.cond (.var 14) .skip (.exit 0)) (.seq (.block 1 (.seq c240_6 (.seq (.seq c240_7 (.cond (.var 30) (.exit 1) .skip)) (.seq c240_8 (.cond (.var 39) (.seq c240_9 .ret) .skip))))) c240_10)))
def c240_12:= rg [Qa 41 3,
Qi 42 41,
Qca 43 42 8,
Qc 2 43]
def c240 : ACode := (.seq c240_0 (.seq (.seq c240_1 (.cond (.var 8) (.seq c240_2 .ret) .skip)) (.seq c240_3 (.seq (.seq c240_4 (.block 0 (.loop [3, 11, 12, 13] c240_11))) (.seq c240_12 .ret)))))
abbrev F_I_isGlob : FuncId := 240
theorem v_I_isGlob : VT 1 1 Tryz.f240 240 [0,2,3,4,5,8,11,12,13,14,30,39] [none] [(.give, 2, none)] c240 := mkV Tryz.func240 rfl rfl (by kernel_rfl) (by kernel_rfl) rfl rfl

end Go.Proofs.YtdckkojgnkoabaaGreatDoor.Ab
