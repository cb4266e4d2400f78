/-
  A part of a proof about the given program; what is proved is said where each theorem stands.
-/
import Derived.Test.YtpbofdbleajagaaDoorFrameA
import Derived.Test.YtpbofdbleajagaaDoorFrameB
import Derived.Test.YtpbofdbleajagaaDoorFrameC
import Derived.Test.YtpbofdbleajagaaDoorFrameD
import Derived.Test.YtpbofdbleajagaaDoorFrameE
import Derived.Test.YtpbofdbleajagaaDoorShelf
import Derived.Test.YtpbofdbleajagaaDoorCodesA
import Derived.Test.YtpbofdbleajagaaDoorCodesB
namespace Go.Proofs.YtpbofdbleajagaaDoor.Ab
open Go.Proofs

/-
loop.example/g00705/laws.FnExactChainOk  params 1+0 results [2]
  seq  mid=[1]
    c_L_FnExactChainOk_0
    seq  mid=[1, 3]
      c_L_FnExactChainOk_1
      seq  mid=[1, 3]
        c_L_FnExactChainOk_2
        seq  mid=[1]
          seq  mid=[1, 11]
            c_L_FnExactChainOk_3
            cond (.var 11)
              seq  mid=[2]
                c_L_FnExactChainOk_4
                ret
              skip
          seq  mid=[1, 4]
            c_L_FnExactChainOk_5
            seq  mid=[1, 4, 5]
              c_L_FnExactChainOk_6
              seq  mid=[1, 4, 5, 6]
                c_L_FnExactChainOk_7
                seq  mid=[1, 5]
                  seq  mid=[1, 5, 21]
                    c_L_FnExactChainOk_8
                    cond (.var 21)
                      seq  mid=[2]
                        c_L_FnExactChainOk_9
                        ret
                      skip
                  seq  mid=[]
                    seq  mid=[26]
                      c_L_FnExactChainOk_10 DRAW
                      cond (.var 26)
                        seq  mid=[2]
                          c_L_FnExactChainOk_11
                          ret
                        skip
                    seq  mid=[2]
                      c_L_FnExactChainOk_12
                      ret
-/
def c_L_FnExactChainOk_0 : ACode := .reg [⟨.var 1, .box (.var 0), none, []⟩,
  ⟨.var 2, .mv (.const (.d (.bool false))), none, []⟩] false
def c_L_FnExactChainOk_1 : ACode := .reg [⟨.var 3, .mv (.const (.d (.int .i64 1048576))), none, []⟩] false
def c_L_FnExactChainOk_2 : ACode := .reg [⟨.loc 7, .load true 3 (.var 1), none, []⟩,
  ⟨.loc 8, .mv (.var 3), none, []⟩,
  ⟨.loc 9, .call (.fn 17) [(.loc 7), (.loc 8)] [.borrow, .borrow], none, []⟩,
  ⟨.var 3, .mv (.loc 9), none, []⟩] false
def c_L_FnExactChainOk_3 : ACode := .reg [⟨.loc 10, .mv (.var 3), none, []⟩,
  ⟨.var 11, .bin .int .lss (.loc 10) (.const (.d (.int .i64 0))), none, []⟩] false
def c_L_FnExactChainOk_4 : ACode := .reg [⟨.var 2, .mv (.const (.d (.bool true))), none, []⟩] false
def c_L_FnExactChainOk_5 : ACode := .reg [⟨.loc 12, .load true 3 (.var 1), none, []⟩,
  ⟨.loc 13, .call (.fn 19) [(.loc 12)] [.borrow], none, []⟩,
  ⟨.loc 14, .call (.fn 18) [(.loc 13)] [.borrow], none, []⟩,
  ⟨.var 4, .mv (.loc 14), none, []⟩] false
def c_L_FnExactChainOk_6 : ACode := .reg [⟨.loc 15, .load true 3 (.var 1), none, []⟩,
  ⟨.loc 16, .call (.fn 19) [(.loc 15)] [.borrow], none, []⟩,
  ⟨.var 5, .alloc [.d (.int .i64 0), .d (.int .i64 0), .nil 0 7], none, []⟩,
  ⟨.none, .store 3 (.var 5) (.loc 16), none, []⟩] false
def c_L_FnExactChainOk_7 : ACode := .reg [⟨.loc 17, .load true 3 (.var 5), none, []⟩,
  ⟨.loc 18, .call (.fn 20) [(.loc 17)] [.borrow], none, []⟩,
  ⟨.var 6, .mv (.loc 18), none, []⟩] false
def c_L_FnExactChainOk_8 : ACode := .reg [⟨.loc 19, .mv (.var 6), none, []⟩,
  ⟨.loc 20, .mv (.var 4), none, []⟩,
  ⟨.var 21, .bin .bool .neq (.loc 19) (.loc 20), none, []⟩] false
def c_L_FnExactChainOk_9 : ACode := .reg [⟨.var 2, .mv (.const (.d (.bool false))), none, []⟩] false
def c_L_FnExactChainOk_10 : ACode := .reg [⟨.loc 22, .load true 3 (.var 5), none, []⟩,
  ⟨.loc 23, .load true 3 (.var 1), none, []⟩,
  ⟨.loc 24, .call (.fn 19) [(.loc 23)] [.borrow], none, [1]⟩,
  ⟨.loc 25, .call (.fn 21) [(.loc 22), (.loc 24)] [.borrow, .borrow], none, [0, 2, 1]⟩,
  ⟨.var 26, .un .not (.loc 25), none, [3, 0, 2, 1]⟩] true
def c_L_FnExactChainOk_11 : ACode := .reg [⟨.var 2, .mv (.const (.d (.bool false))), none, []⟩] false
def c_L_FnExactChainOk_12 : ACode := .reg [⟨.var 2, .mv (.const (.d (.bool true))), none, []⟩] false
def c_L_FnExactChainOk : ACode := (.seq c_L_FnExactChainOk_0 (.seq c_L_FnExactChainOk_1 (.seq c_L_FnExactChainOk_2 (.seq (.seq c_L_FnExactChainOk_3 (.cond (.var 11) (.seq c_L_FnExactChainOk_4 .ret) .skip)) (.seq c_L_FnExactChainOk_5 (.seq c_L_FnExactChainOk_6 (.seq c_L_FnExactChainOk_7 (.seq (.seq c_L_FnExactChainOk_8 (.cond (.var 21) (.seq c_L_FnExactChainOk_9 .ret) .skip)) (.seq (.seq c_L_FnExactChainOk_10 (.cond (.var 26) (.seq c_L_FnExactChainOk_11 .ret) .skip)) (.seq c_L_FnExactChainOk_12 .ret))))))))))

abbrev F_L_FnExactChainOk : FuncId := 4

theorem k_L_FnExactChainOk : comp PP (Tryd.f4.ntmps, pinOf 0 [none]) [0, 1, 2, 3, 4, 5, 6, 11, 21, 26] (Tryd.f4.body.getD .skip) = some c_L_FnExactChainOk.erase := by kernel_rfl

theorem v_L_FnExactChainOk {GG : GV} (rcs : List C) {cs : List C} {r : C} {os : List (Option C)} (hN : (cs.length == 1 && rcs.length == 1) = true) (hret : retOf rcs = r)
    (hW : W PP [0, 1, 2, 3, 4, 5, 6, 11, 21, 26] (Tryd.f4.ntmps, pinOf 0 [none]) (Valid PP GG) c_L_FnExactChainOk (entry cs) (Fin (Valid PP GG) [(.give, 2, none)] [none] rcs os) (fun _ _ => False) (Fin (Valid PP GG) [(.give, 2, none)] [none] rcs os)) : Valid PP GG F_L_FnExactChainOk cs r os :=
  fn_valid_n 1 1 [0, 1, 2, 3, 4, 5, 6, 11, 21, 26] c_L_FnExactChainOk [(.give, 2, none)] [none] rcs Tryd.func4 rfl rfl (by kernel_rfl) k_L_FnExactChainOk rfl rfl hN hret hW


/-
loop.example/g00705/laws.FnExactHeadOf  params 1+0 results [2]
  seq  mid=[1]
    c_L_FnExactHeadOf_0
    seq  mid=[1, 3]
      c_L_FnExactHeadOf_1
      seq  mid=[1, 3]
        c_L_FnExactHeadOf_2
        seq  mid=[1]
          seq  mid=[1, 11]
            c_L_FnExactHeadOf_3
            cond (.var 11)
              seq  mid=[2]
                c_L_FnExactHeadOf_4
                ret
              skip
          seq  mid=[1, 4]
            c_L_FnExactHeadOf_5
            seq  mid=[1, 4, 5]
              c_L_FnExactHeadOf_6
              seq  mid=[1, 4, 5, 6]
                c_L_FnExactHeadOf_7
                seq  mid=[1, 5]
                  seq  mid=[1, 5, 21]
                    c_L_FnExactHeadOf_8
                    cond (.var 21)
                      seq  mid=[2]
                        c_L_FnExactHeadOf_9
                        ret
                      skip
                  seq  mid=[]
                    seq  mid=[26]
                      c_L_FnExactHeadOf_10 DRAW
                      cond (.var 26)
                        seq  mid=[2]
                          c_L_FnExactHeadOf_11
                          ret
                        skip
                    seq  mid=[2]
                      c_L_FnExactHeadOf_12
                      ret
-/
def c_L_FnExactHeadOf_0 : ACode := .reg [⟨.var 1, .box (.var 0), none, []⟩,
  ⟨.var 2, .mv (.const (.d (.bool false))), none, []⟩] false
def c_L_FnExactHeadOf_1 : ACode := .reg [⟨.var 3, .mv (.const (.d (.int .i64 1048576))), none, []⟩] false
def c_L_FnExactHeadOf_2 : ACode := .reg [⟨.loc 7, .load true 3 (.var 1), none, []⟩,
  ⟨.loc 8, .mv (.var 3), none, []⟩,
  ⟨.loc 9, .call (.fn 17) [(.loc 7), (.loc 8)] [.borrow, .borrow], none, []⟩,
  ⟨.var 3, .mv (.loc 9), none, []⟩] false
def c_L_FnExactHeadOf_3 : ACode := .reg [⟨.loc 10, .mv (.var 3), none, []⟩,
  ⟨.var 11, .bin .int .lss (.loc 10) (.const (.d (.int .i64 0))), none, []⟩] false
def c_L_FnExactHeadOf_4 : ACode := .reg [⟨.var 2, .mv (.const (.d (.bool true))), none, []⟩] false
def c_L_FnExactHeadOf_5 : ACode := .reg [⟨.loc 12, .load true 3 (.var 1), none, []⟩,
  ⟨.loc 13, .call (.fn 19) [(.loc 12)] [.borrow], none, []⟩,
  ⟨.loc 14, .call (.fn 22) [(.loc 13)] [.borrow], none, []⟩,
  ⟨.var 4, .mv (.loc 14), none, []⟩] false
def c_L_FnExactHeadOf_6 : ACode := .reg [⟨.loc 15, .load true 3 (.var 1), none, []⟩,
  ⟨.loc 16, .call (.fn 19) [(.loc 15)] [.borrow], none, []⟩,
  ⟨.var 5, .alloc [.d (.int .i64 0), .d (.int .i64 0), .nil 0 7], none, []⟩,
  ⟨.none, .store 3 (.var 5) (.loc 16), none, []⟩] false
def c_L_FnExactHeadOf_7 : ACode := .reg [⟨.loc 17, .load true 3 (.var 5), none, []⟩,
  ⟨.loc 18, .call (.fn 23) [(.loc 17)] [.borrow], none, []⟩,
  ⟨.var 6, .mv (.loc 18), none, []⟩] false
def c_L_FnExactHeadOf_8 : ACode := .reg [⟨.loc 19, .mv (.var 6), none, []⟩,
  ⟨.loc 20, .mv (.var 4), none, []⟩,
  ⟨.var 21, .bin .int .neq (.loc 19) (.loc 20), none, []⟩] false
def c_L_FnExactHeadOf_9 : ACode := .reg [⟨.var 2, .mv (.const (.d (.bool false))), none, []⟩] false
def c_L_FnExactHeadOf_10 : ACode := .reg [⟨.loc 22, .load true 3 (.var 5), none, []⟩,
  ⟨.loc 23, .load true 3 (.var 1), none, []⟩,
  ⟨.loc 24, .call (.fn 19) [(.loc 23)] [.borrow], none, [1]⟩,
  ⟨.loc 25, .call (.fn 21) [(.loc 22), (.loc 24)] [.borrow, .borrow], none, [0, 2, 1]⟩,
  ⟨.var 26, .un .not (.loc 25), none, [3, 0, 2, 1]⟩] true
def c_L_FnExactHeadOf_11 : ACode := .reg [⟨.var 2, .mv (.const (.d (.bool false))), none, []⟩] false
def c_L_FnExactHeadOf_12 : ACode := .reg [⟨.var 2, .mv (.const (.d (.bool true))), none, []⟩] false
def c_L_FnExactHeadOf : ACode := (.seq c_L_FnExactHeadOf_0 (.seq c_L_FnExactHeadOf_1 (.seq c_L_FnExactHeadOf_2 (.seq (.seq c_L_FnExactHeadOf_3 (.cond (.var 11) (.seq c_L_FnExactHeadOf_4 .ret) .skip)) (.seq c_L_FnExactHeadOf_5 (.seq c_L_FnExactHeadOf_6 (.seq c_L_FnExactHeadOf_7 (.seq (.seq c_L_FnExactHeadOf_8 (.cond (.var 21) (.seq c_L_FnExactHeadOf_9 .ret) .skip)) (.seq (.seq c_L_FnExactHeadOf_10 (.cond (.var 26) (.seq c_L_FnExactHeadOf_11 .ret) .skip)) (.seq c_L_FnExactHeadOf_12 .ret))))))))))

abbrev F_L_FnExactHeadOf : FuncId := 5

theorem k_L_FnExactHeadOf : comp PP (Tryd.f5.ntmps, pinOf 0 [none]) [0, 1, 2, 3, 4, 5, 6, 11, 21, 26] (Tryd.f5.body.getD .skip) = some c_L_FnExactHeadOf.erase := by kernel_rfl

theorem v_L_FnExactHeadOf {GG : GV} (rcs : List C) {cs : List C} {r : C} {os : List (Option C)} (hN : (cs.length == 1 && rcs.length == 1) = true) (hret : retOf rcs = r)
    (hW : W PP [0, 1, 2, 3, 4, 5, 6, 11, 21, 26] (Tryd.f5.ntmps, pinOf 0 [none]) (Valid PP GG) c_L_FnExactHeadOf (entry cs) (Fin (Valid PP GG) [(.give, 2, none)] [none] rcs os) (fun _ _ => False) (Fin (Valid PP GG) [(.give, 2, none)] [none] rcs os)) : Valid PP GG F_L_FnExactHeadOf cs r os :=
  fn_valid_n 1 1 [0, 1, 2, 3, 4, 5, 6, 11, 21, 26] c_L_FnExactHeadOf [(.give, 2, none)] [none] rcs Tryd.func5 rfl rfl (by kernel_rfl) k_L_FnExactHeadOf rfl rfl hN hret hW


/-
loop.example/g00705/spec.ChainOk  params 1+0 results [2]
  seq  mid=[1]
    c_S_ChainOk_0
    seq  mid=[1]
      seq  mid=[1, 19]
        c_S_ChainOk_1
        cond (.var 19)
          seq  mid=[2]
            c_S_ChainOk_2
            ret
          skip
      seq  mid=[]
        seq  mid=[1, 3]
          c_S_ChainOk_3
          block 0
            loop live=[1, 3]
              seq  mid=[1, 3]
                seq  mid=[1, 3, 24]
                  c_S_ChainOk_4
                  cond (.var 24)
                    skip
                    exit 0
                seq  mid=[1, 3]
                  block 1
                    seq  mid=[1, 3, 4]
                      c_S_ChainOk_5
                      seq  mid=[1, 3, 4]
                        seq  mid=[1, 3, 4, 65]
                          c_S_ChainOk_6
                          cond (.var 65)
                            seq  mid=[2]
                              c_S_ChainOk_7
                              ret
                            skip
                        seq  mid=[1, 3, 92]
                          c_S_ChainOk_8 DRAW
                          cond (.var 92)
                            seq  mid=[2]
                              c_S_ChainOk_9
                              ret
                            skip
                  c_S_ChainOk_10
        seq  mid=[2]
          c_S_ChainOk_12
          ret
-/
def c_S_ChainOk_0 : ACode := .reg [⟨.var 1, .box (.var 0), none, []⟩,
  ⟨.var 2, .mv (.const (.d (.bool false))), none, []⟩] false
def c_S_ChainOk_1 : ACode := .reg [⟨.loc 5, .fld 0 (.var 1), none, []⟩,
  ⟨.loc 6, .load false 1 (.loc 5), none, []⟩,
  ⟨.loc 7, .bin .int .lss (.loc 6) (.const (.d (.int .i64 0))), none, []⟩,
  ⟨.loc 8, .split (.loc 7), none, []⟩,
  ⟨.loc 9, .fld 1 (.var 1), some ((.loc 8), false), []⟩,
  ⟨.loc 10, .load false 1 (.loc 9), some ((.loc 8), false), []⟩,
  ⟨.loc 11, .call (.fn 50) [(.loc 10)] [.borrow], some ((.loc 8), false), []⟩,
  ⟨.loc 12, .un .not (.loc 11), some ((.loc 8), false), []⟩,
  ⟨.loc 13, .pick (.loc 8) (.const (.d (.bool true))) (.loc 12), none, []⟩,
  ⟨.loc 14, .split (.loc 13), none, []⟩,
  ⟨.loc 15, .fld 2 (.var 1), some ((.loc 14), false), []⟩,
  ⟨.loc 16, .load false 1 (.loc 15), some ((.loc 14), false), []⟩,
  ⟨.loc 17, .len false (.loc 16), some ((.loc 14), false), []⟩,
  ⟨.loc 18, .bin .int .gtr (.loc 17) (.const (.d (.int .i64 120))), some ((.loc 14), false), []⟩,
  ⟨.var 19, .pick (.loc 14) (.const (.d (.bool true))) (.loc 18), none, []⟩] false
def c_S_ChainOk_2 : ACode := .reg [⟨.var 2, .mv (.const (.d (.bool false))), none, []⟩] false
def c_S_ChainOk_3 : ACode := .reg [⟨.var 3, .mv (.const (.d (.int .i64 0))), none, []⟩] false
def c_S_ChainOk_4 : ACode := .reg [⟨.loc 20, .mv (.var 3), none, []⟩,
  ⟨.loc 21, .fld 2 (.var 1), none, []⟩,
  ⟨.loc 22, .load false 1 (.loc 21), none, []⟩,
  ⟨.loc 23, .len false (.loc 22), none, []⟩,
  ⟨.var 24, .bin .int .lss (.loc 20) (.loc 23), none, []⟩] false
def c_S_ChainOk_5 : ACode := .reg [⟨.loc 27, .fld 2 (.var 1), none, []⟩,
  ⟨.loc 28, .load false 1 (.loc 27), none, []⟩,
  ⟨.loc 29, .mv (.var 3), none, []⟩,
  ⟨.loc 30, .idxA 7 (.loc 28) (.loc 29), none, []⟩,
  ⟨.loc 31, .load true 7 (.loc 30), none, []⟩,
  ⟨.var 4, .alloc [.d (.int .i64 0), .d (.int .i64 0), .d (.int .i64 0), .d (.str []), .d (.str []), .d (.int .i64 0), .d (.int .i64 0)], none, []⟩,
  ⟨.none, .store 7 (.var 4) (.loc 31), none, []⟩] false
def c_S_ChainOk_6 : ACode := .reg [⟨.loc 32, .fld 0 (.var 4), none, []⟩,
  ⟨.loc 33, .load false 1 (.loc 32), none, []⟩,
  ⟨.loc 34, .call (.fn 51) [(.loc 33), (.const (.d (.int .i64 1))), (.const (.d (.int .i64 1000000000)))] [.borrow, .borrow, .borrow], none, []⟩,
  ⟨.loc 35, .un .not (.loc 34), none, []⟩,
  ⟨.loc 36, .split (.loc 35), none, []⟩,
  ⟨.loc 37, .fld 1 (.var 4), some ((.loc 36), false), []⟩,
  ⟨.loc 38, .load false 1 (.loc 37), some ((.loc 36), false), []⟩,
  ⟨.loc 39, .call (.fn 51) [(.loc 38), (.const (.d (.int .i64 0))), (.const (.d (.int .i64 1000000000)))] [.borrow, .borrow, .borrow], some ((.loc 36), false), []⟩,
  ⟨.loc 40, .un .not (.loc 39), some ((.loc 36), false), []⟩,
  ⟨.loc 41, .pick (.loc 36) (.const (.d (.bool true))) (.loc 40), none, []⟩,
  ⟨.loc 42, .split (.loc 41), none, []⟩,
  ⟨.loc 43, .fld 2 (.var 4), some ((.loc 42), false), []⟩,
  ⟨.loc 44, .load false 1 (.loc 43), some ((.loc 42), false), []⟩,
  ⟨.loc 45, .call (.fn 51) [(.loc 44), (.const (.d (.int .i64 0))), (.const (.d (.int .i64 1000000000)))] [.borrow, .borrow, .borrow], some ((.loc 42), false), []⟩,
  ⟨.loc 46, .un .not (.loc 45), some ((.loc 42), false), []⟩,
  ⟨.loc 47, .pick (.loc 42) (.const (.d (.bool true))) (.loc 46), none, []⟩,
  ⟨.loc 48, .split (.loc 47), none, []⟩,
  ⟨.loc 49, .fld 3 (.var 4), some ((.loc 48), false), []⟩,
  ⟨.loc 50, .load false 1 (.loc 49), some ((.loc 48), false), []⟩,
  ⟨.loc 51, .call (.fn 52) [(.loc 50)] [.borrow], some ((.loc 48), false), []⟩,
  ⟨.loc 52, .un .not (.loc 51), some ((.loc 48), false), []⟩,
  ⟨.loc 53, .pick (.loc 48) (.const (.d (.bool true))) (.loc 52), none, []⟩,
  ⟨.loc 54, .split (.loc 53), none, []⟩,
  ⟨.loc 55, .fld 4 (.var 4), some ((.loc 54), false), []⟩,
  ⟨.loc 56, .load false 1 (.loc 55), some ((.loc 54), false), []⟩,
  ⟨.loc 57, .call (.fn 53) [(.loc 56)] [.borrow], some ((.loc 54), false), []⟩,
  ⟨.loc 58, .un .not (.loc 57), some ((.loc 54), false), []⟩,
  ⟨.loc 59, .pick (.loc 54) (.const (.d (.bool true))) (.loc 58), none, []⟩,
  ⟨.loc 60, .split (.loc 59), none, []⟩,
  ⟨.loc 61, .fld 5 (.var 4), some ((.loc 60), false), []⟩,
  ⟨.loc 62, .load false 1 (.loc 61), some ((.loc 60), false), []⟩,
  ⟨.loc 63, .call (.fn 51) [(.loc 62), (.const (.d (.int .i64 0))), (.const (.d (.int .i64 99)))] [.borrow, .borrow, .borrow], some ((.loc 60), false), []⟩,
  ⟨.loc 64, .un .not (.loc 63), some ((.loc 60), false), []⟩,
  ⟨.var 65, .pick (.loc 60) (.const (.d (.bool true))) (.loc 64), none, []⟩] false
def c_S_ChainOk_7 : ACode := .reg [⟨.var 2, .mv (.const (.d (.bool false))), none, []⟩] false
def c_S_ChainOk_8 : ACode := .reg [⟨.loc 66, .mv (.var 3), none, []⟩,
  ⟨.loc 67, .bin .int .gtr (.loc 66) (.const (.d (.int .i64 0))), none, [0]⟩,
  ⟨.loc 68, .split (.loc 67), none, [1, 0]⟩,
  ⟨.loc 69, .fld 0 (.var 4), some ((.loc 68), true), [2, 1, 0]⟩,
  ⟨.loc 70, .load false 1 (.loc 69), some ((.loc 68), true), [3, 2, 1, 0]⟩,
  ⟨.loc 71, .fld 2 (.var 1), some ((.loc 68), true), [2, 1, 0]⟩,
  ⟨.loc 72, .load false 1 (.loc 71), some ((.loc 68), true), [5, 2, 1, 0]⟩,
  ⟨.loc 73, .mv (.var 3), some ((.loc 68), true), [2, 1, 0]⟩,
  ⟨.loc 74, .bin .int .sub (.loc 73) (.const (.d (.int .i64 1))), some ((.loc 68), true), [7, 2, 1, 0]⟩,
  ⟨.loc 75, .idxA 7 (.loc 72) (.loc 74), some ((.loc 68), true), [6, 5, 8, 7, 2, 1, 0]⟩,
  ⟨.loc 76, .fld 0 (.loc 75), some ((.loc 68), true), [9, 6, 5, 8, 7, 2, 1, 0]⟩,
  ⟨.loc 77, .load false 1 (.loc 76), some ((.loc 68), true), [10, 9, 6, 5, 8, 7, 2, 1, 0]⟩,
  ⟨.loc 78, .bin .int .add (.loc 77) (.const (.d (.int .i64 1))), some ((.loc 68), true), [11, 10, 9, 6, 5, 8, 7, 2, 1, 0]⟩,
  ⟨.loc 79, .bin .int .neq (.loc 70) (.loc 78), some ((.loc 68), true), [4, 3, 12, 11, 10, 9, 6, 5, 8, 7, 2, 1, 0]⟩,
  ⟨.loc 80, .split (.loc 79), some ((.loc 68), true), [13, 4, 3, 12, 11, 10, 9, 6, 5, 8, 7, 2, 1, 0]⟩,
  ⟨.loc 81, .fld 1 (.var 4), some ((.loc 80), false), [14, 13, 4, 3, 12, 11, 10, 9, 6, 5, 8, 7, 2, 1, 0]⟩,
  ⟨.loc 82, .load false 1 (.loc 81), some ((.loc 80), false), [15, 14, 13, 4, 3, 12, 11, 10, 9, 6, 5, 8, 7, 2, 1, 0]⟩,
  ⟨.loc 83, .fld 2 (.var 1), some ((.loc 80), false), [14, 13, 4, 3, 12, 11, 10, 9, 6, 5, 8, 7, 2, 1, 0]⟩,
  ⟨.loc 84, .load false 1 (.loc 83), some ((.loc 80), false), [17, 14, 13, 4, 3, 12, 11, 10, 9, 6, 5, 8, 7, 2, 1, 0]⟩,
  ⟨.loc 85, .mv (.var 3), some ((.loc 80), false), [14, 13, 4, 3, 12, 11, 10, 9, 6, 5, 8, 7, 2, 1, 0]⟩,
  ⟨.loc 86, .bin .int .sub (.loc 85) (.const (.d (.int .i64 1))), some ((.loc 80), false), [19, 14, 13, 4, 3, 12, 11, 10, 9, 6, 5, 8, 7, 2, 1, 0]⟩,
  ⟨.loc 87, .idxA 7 (.loc 84) (.loc 86), some ((.loc 80), false), [18, 17, 20, 19, 14, 13, 4, 3, 12, 11, 10, 9, 6, 5, 8, 7, 2, 1, 0]⟩,
  ⟨.loc 88, .fld 1 (.loc 87), some ((.loc 80), false), [21, 18, 17, 20, 19, 14, 13, 4, 3, 12, 11, 10, 9, 6, 5, 8, 7, 2, 1, 0]⟩,
  ⟨.loc 89, .load false 1 (.loc 88), some ((.loc 80), false), [22, 21, 18, 17, 20, 19, 14, 13, 4, 3, 12, 11, 10, 9, 6, 5, 8, 7, 2, 1, 0]⟩,
  ⟨.loc 90, .bin .int .lss (.loc 82) (.loc 89), some ((.loc 80), false), [16, 15, 23, 22, 21, 18, 17, 20, 19, 14, 13, 4, 3, 12, 11, 10, 9, 6, 5, 8, 7, 2, 1, 0]⟩,
  ⟨.loc 91, .pick (.loc 80) (.const (.d (.bool true))) (.loc 90), some ((.loc 68), true), [24, 16, 15, 23, 22, 21, 18, 17, 20, 19, 14, 13, 4, 3, 12, 11, 10, 9, 6, 5, 8, 7, 2, 1, 0]⟩,
  ⟨.var 92, .pick (.loc 68) (.loc 91) (.const (.d (.bool false))), none, [25, 24, 16, 15, 23, 22, 21, 18, 17, 20, 19, 14, 13, 4, 3, 12, 11, 10, 9, 6, 5, 8, 7, 2, 1, 0]⟩] true
def c_S_ChainOk_9 : ACode := .reg [⟨.var 2, .mv (.const (.d (.bool false))), none, []⟩] false
def c_S_ChainOk_10 : ACode := .reg [⟨.loc 25, .mv (.var 3), none, []⟩,
  ⟨.loc 26, .bin .int .add (.loc 25) (.const (.d (.int .i64 1))), none, []⟩,
  ⟨.var 3, .mv (.loc 26), none, []⟩] false
def c_S_ChainOk_11 : ACode := (.seq (.seq c_S_ChainOk_4 (.cond (.var 24) .skip (.exit 0))) (.seq (.block 1 (.seq c_S_ChainOk_5 (.seq (.seq c_S_ChainOk_6 (.cond (.var 65) (.seq c_S_ChainOk_7 .ret) .skip)) (.seq c_S_ChainOk_8 (.cond (.var 92) (.seq c_S_ChainOk_9 .ret) .skip))))) c_S_ChainOk_10))
def c_S_ChainOk_12 : ACode := .reg [⟨.var 2, .mv (.const (.d (.bool true))), none, []⟩] false
def c_S_ChainOk : ACode := (.seq c_S_ChainOk_0 (.seq (.seq c_S_ChainOk_1 (.cond (.var 19) (.seq c_S_ChainOk_2 .ret) .skip)) (.seq (.seq c_S_ChainOk_3 (.block 0 (.loop [1, 3] c_S_ChainOk_11))) (.seq c_S_ChainOk_12 .ret))))

abbrev F_S_ChainOk : FuncId := 18

theorem k_S_ChainOk : comp PP (Tryd.f18.ntmps, pinOf 0 [none]) [0, 1, 2, 3, 4, 19, 24, 65, 92] (Tryd.f18.body.getD .skip) = some c_S_ChainOk.erase := by kernel_rfl

theorem v_S_ChainOk {GG : GV} (rcs : List C) {cs : List C} {r : C} {os : List (Option C)} (hN : (cs.length == 1 && rcs.length == 1) = true) (hret : retOf rcs = r)
    (hW : W PP [0, 1, 2, 3, 4, 19, 24, 65, 92] (Tryd.f18.ntmps, pinOf 0 [none]) (Valid PP GG) c_S_ChainOk (entry cs) (Fin (Valid PP GG) [(.give, 2, none)] [none] rcs os) (fun _ _ => False) (Fin (Valid PP GG) [(.give, 2, none)] [none] rcs os)) : Valid PP GG F_S_ChainOk cs r os :=
  fn_valid_n 1 1 [0, 1, 2, 3, 4, 19, 24, 65, 92] c_S_ChainOk [(.give, 2, none)] [none] rcs Tryd.func18 rfl rfl (by kernel_rfl) k_S_ChainOk rfl rfl hN hret hW


/-
loop.example/g00705/spec.l04Key  params 1+0 results [2]
  seq  mid=[0]
    c_S_l04Key_0
    seq  mid=[2]
      c_S_l04Key_1
      ret
-/
def c_S_l04Key_0 : ACode := .reg [⟨.var 2, .mv (.const (.d (.bool false))), none, []⟩] false
def c_S_l04Key_1 : ACode := .reg [⟨.loc 3, .mv (.var 0), none, []⟩,
  ⟨.loc 4, .call (.fn 51) [(.loc 3), (.const (.d (.int .i64 0))), (.const (.d (.int .i64 1099511627776)))] [.borrow, .borrow, .borrow], none, []⟩,
  ⟨.var 2, .mv (.loc 4), none, []⟩] false
def c_S_l04Key : ACode := (.seq c_S_l04Key_0 (.seq c_S_l04Key_1 .ret))

abbrev F_S_l04Key : FuncId := 50

theorem k_S_l04Key : comp PP (Tryd.f50.ntmps, pinOf 0 [none]) [0, 2] (Tryd.f50.body.getD .skip) = some c_S_l04Key.erase := by kernel_rfl

theorem v_S_l04Key {GG : GV} (rcs : List C) {cs : List C} {r : C} {os : List (Option C)} (hN : (cs.length == 1 && rcs.length == 1) = true) (hret : retOf rcs = r)
    (hW : W PP [0, 2] (Tryd.f50.ntmps, pinOf 0 [none]) (Valid PP GG) c_S_l04Key (entry cs) (Fin (Valid PP GG) [(.give, 2, none)] [none] rcs os) (fun _ _ => False) (Fin (Valid PP GG) [(.give, 2, none)] [none] rcs os)) : Valid PP GG F_S_l04Key cs r os :=
  fn_valid_n 1 1 [0, 2] c_S_l04Key [(.give, 2, none)] [none] rcs Tryd.func50 rfl rfl (by kernel_rfl) k_S_l04Key rfl rfl hN hret hW


/-
loop.example/g00705/spec.l01In  params 3+0 results [6]
  seq  mid=[0, 1, 2]
    c_S_l01In_0
    seq  mid=[6]
      c_S_l01In_1
      ret
-/
def c_S_l01In_0 : ACode := .reg [⟨.var 6, .mv (.const (.d (.bool false))), none, []⟩] false
def c_S_l01In_1 : ACode := .reg [⟨.loc 7, .mv (.var 1), none, []⟩,
  ⟨.loc 8, .mv (.var 0), none, []⟩,
  ⟨.loc 9, .bin .int .leq (.loc 7) (.loc 8), none, []⟩,
  ⟨.loc 10, .split (.loc 9), none, []⟩,
  ⟨.loc 11, .mv (.var 0), some ((.loc 10), true), []⟩,
  ⟨.loc 12, .mv (.var 2), some ((.loc 10), true), []⟩,
  ⟨.loc 13, .bin .int .leq (.loc 11) (.loc 12), some ((.loc 10), true), []⟩,
  ⟨.loc 14, .pick (.loc 10) (.loc 13) (.const (.d (.bool false))), none, []⟩,
  ⟨.var 6, .mv (.loc 14), none, []⟩] false
def c_S_l01In : ACode := (.seq c_S_l01In_0 (.seq c_S_l01In_1 .ret))

abbrev F_S_l01In : FuncId := 51

theorem k_S_l01In : comp PP (Tryd.f51.ntmps, pinOf 0 [none, none, none]) [0, 1, 2, 6] (Tryd.f51.body.getD .skip) = some c_S_l01In.erase := by kernel_rfl

theorem v_S_l01In {GG : GV} (rcs : List C) {cs : List C} {r : C} {os : List (Option C)} (hN : (cs.length == 3 && rcs.length == 1) = true) (hret : retOf rcs = r)
    (hW : W PP [0, 1, 2, 6] (Tryd.f51.ntmps, pinOf 0 [none, none, none]) (Valid PP GG) c_S_l01In (entry cs) (Fin (Valid PP GG) [(.give, 6, none)] [none, none, none] rcs os) (fun _ _ => False) (Fin (Valid PP GG) [(.give, 6, none)] [none, none, none] rcs os)) : Valid PP GG F_S_l01In cs r os :=
  fn_valid_n 3 1 [0, 1, 2, 6] c_S_l01In [(.give, 6, none)] [none, none, none] rcs Tryd.func51 rfl rfl (by kernel_rfl) k_S_l01In rfl rfl hN hret hW


/-
loop.example/g00705/spec.l01Name  params 1+0 results [2]
  seq  mid=[0]
    c_S_l01Name_0
    seq  mid=[0]
      seq  mid=[0, 3]
        c_S_l01Name_1
        block 0
          loop live=[0, 3]
            seq  mid=[0, 3]
              seq  mid=[0, 3, 8]
                c_S_l01Name_2
                cond (.var 8)
                  skip
                  exit 0
              seq  mid=[0, 3]
                block 1
                  seq  mid=[0, 3, 4]
                    c_S_l01Name_3
                    seq  mid=[0, 3, 29]
                      c_S_l01Name_4
                      cond (.var 29)
                        seq  mid=[2]
                          c_S_l01Name_5
                          ret
                        skip
                c_S_l01Name_6
      seq  mid=[2]
        c_S_l01Name_8
        ret
-/
def c_S_l01Name_0 : ACode := .reg [⟨.var 2, .mv (.const (.d (.bool false))), none, []⟩] false
def c_S_l01Name_1 : ACode := .reg [⟨.var 3, .mv (.const (.d (.int .i64 0))), none, []⟩] false
def c_S_l01Name_2 : ACode := .reg [⟨.loc 5, .mv (.var 3), none, []⟩,
  ⟨.loc 6, .mv (.var 0), none, []⟩,
  ⟨.loc 7, .len true (.loc 6), none, []⟩,
  ⟨.var 8, .bin .int .lss (.loc 5) (.loc 7), none, []⟩] false
def c_S_l01Name_3 : ACode := .reg [⟨.loc 11, .mv (.var 0), none, []⟩,
  ⟨.loc 12, .mv (.var 3), none, []⟩,
  ⟨.loc 13, .idxS (.loc 11) (.loc 12), none, []⟩,
  ⟨.var 4, .mv (.loc 13), none, []⟩] false
def c_S_l01Name_4 : ACode := .reg [⟨.loc 14, .mv (.var 4), none, []⟩,
  ⟨.loc 15, .bin .int .geq (.loc 14) (.const (.d (.int .u8 97))), none, []⟩,
  ⟨.loc 16, .split (.loc 15), none, []⟩,
  ⟨.loc 17, .mv (.var 4), some ((.loc 16), true), []⟩,
  ⟨.loc 18, .bin .int .leq (.loc 17) (.const (.d (.int .u8 122))), some ((.loc 16), true), []⟩,
  ⟨.loc 19, .pick (.loc 16) (.loc 18) (.const (.d (.bool false))), none, []⟩,
  ⟨.loc 20, .un .not (.loc 19), none, []⟩,
  ⟨.loc 21, .split (.loc 20), none, []⟩,
  ⟨.loc 22, .mv (.var 4), some ((.loc 21), true), []⟩,
  ⟨.loc 23, .bin .int .geq (.loc 22) (.const (.d (.int .u8 48))), some ((.loc 21), true), []⟩,
  ⟨.loc 24, .split (.loc 23), some ((.loc 21), true), []⟩,
  ⟨.loc 25, .mv (.var 4), some ((.loc 24), true), []⟩,
  ⟨.loc 26, .bin .int .leq (.loc 25) (.const (.d (.int .u8 57))), some ((.loc 24), true), []⟩,
  ⟨.loc 27, .pick (.loc 24) (.loc 26) (.const (.d (.bool false))), some ((.loc 21), true), []⟩,
  ⟨.loc 28, .un .not (.loc 27), some ((.loc 21), true), []⟩,
  ⟨.var 29, .pick (.loc 21) (.loc 28) (.const (.d (.bool false))), none, []⟩] false
def c_S_l01Name_5 : ACode := .reg [⟨.var 2, .mv (.const (.d (.bool false))), none, []⟩] false
def c_S_l01Name_6 : ACode := .reg [⟨.loc 9, .mv (.var 3), none, []⟩,
  ⟨.loc 10, .bin .int .add (.loc 9) (.const (.d (.int .i64 1))), none, []⟩,
  ⟨.var 3, .mv (.loc 10), none, []⟩] false
def c_S_l01Name_7 : ACode := (.seq (.seq c_S_l01Name_2 (.cond (.var 8) .skip (.exit 0))) (.seq (.block 1 (.seq c_S_l01Name_3 (.seq c_S_l01Name_4 (.cond (.var 29) (.seq c_S_l01Name_5 .ret) .skip)))) c_S_l01Name_6))
def c_S_l01Name_8 : ACode := .reg [⟨.loc 30, .mv (.var 0), none, []⟩,
  ⟨.loc 31, .len true (.loc 30), none, []⟩,
  ⟨.loc 32, .call (.fn 51) [(.loc 31), (.const (.d (.int .i64 1))), (.const (.d (.int .i64 12)))] [.borrow, .borrow, .borrow], none, []⟩,
  ⟨.var 2, .mv (.loc 32), none, []⟩] false
def c_S_l01Name : ACode := (.seq c_S_l01Name_0 (.seq (.seq c_S_l01Name_1 (.block 0 (.loop [0, 3] c_S_l01Name_7))) (.seq c_S_l01Name_8 .ret)))

abbrev F_S_l01Name : FuncId := 52

theorem k_S_l01Name : comp PP (Tryd.f52.ntmps, pinOf 0 [none]) [0, 2, 3, 4, 8, 29] (Tryd.f52.body.getD .skip) = some c_S_l01Name.erase := by kernel_rfl

theorem v_S_l01Name {GG : GV} (rcs : List C) {cs : List C} {r : C} {os : List (Option C)} (hN : (cs.length == 1 && rcs.length == 1) = true) (hret : retOf rcs = r)
    (hW : W PP [0, 2, 3, 4, 8, 29] (Tryd.f52.ntmps, pinOf 0 [none]) (Valid PP GG) c_S_l01Name (entry cs) (Fin (Valid PP GG) [(.give, 2, none)] [none] rcs os) (fun _ _ => False) (Fin (Valid PP GG) [(.give, 2, none)] [none] rcs os)) : Valid PP GG F_S_l01Name cs r os :=
  fn_valid_n 1 1 [0, 2, 3, 4, 8, 29] c_S_l01Name [(.give, 2, none)] [none] rcs Tryd.func52 rfl rfl (by kernel_rfl) k_S_l01Name rfl rfl hN hret hW


/-
loop.example/g00705/spec.PathOk  params 1+0 results [2]
  seq  mid=[0]
    c_S_PathOk_0
    seq  mid=[0]
      seq  mid=[0, 6]
        c_S_PathOk_1
        cond (.var 6)
          seq  mid=[2]
            c_S_PathOk_2
            ret
          skip
      seq  mid=[]
        seq  mid=[0, 3]
          c_S_PathOk_3
          block 0
            loop live=[0, 3]
              seq  mid=[0, 3]
                seq  mid=[0, 3, 10]
                  c_S_PathOk_4
                  cond (.var 10)
                    skip
                    exit 0
                seq  mid=[0, 3]
                  block 1
                    seq  mid=[0, 3, 22]
                      c_S_PathOk_5
                      cond (.var 22)
                        seq  mid=[2]
                          c_S_PathOk_6
                          ret
                        skip
                  c_S_PathOk_7
        seq  mid=[2]
          c_S_PathOk_9
          ret
-/
def c_S_PathOk_0 : ACode := .reg [⟨.var 2, .mv (.const (.d (.bool false))), none, []⟩] false
def c_S_PathOk_1 : ACode := .reg [⟨.loc 4, .mv (.var 0), none, []⟩,
  ⟨.loc 5, .call (.fn 88) [(.loc 4)] [.borrow], none, []⟩,
  ⟨.var 6, .un .not (.loc 5), none, []⟩] false
def c_S_PathOk_2 : ACode := .reg [⟨.var 2, .mv (.const (.d (.bool false))), none, []⟩] false
def c_S_PathOk_3 : ACode := .reg [⟨.var 3, .mv (.const (.d (.int .i64 0))), none, []⟩] false
def c_S_PathOk_4 : ACode := .reg [⟨.loc 7, .mv (.var 3), none, []⟩,
  ⟨.loc 8, .mv (.var 0), none, []⟩,
  ⟨.loc 9, .len true (.loc 8), none, []⟩,
  ⟨.var 10, .bin .int .lss (.loc 7) (.loc 9), none, []⟩] false
def c_S_PathOk_5 : ACode := .reg [⟨.loc 13, .mv (.var 0), none, []⟩,
  ⟨.loc 14, .mv (.var 3), none, []⟩,
  ⟨.loc 15, .idxS (.loc 13) (.loc 14), none, []⟩,
  ⟨.loc 16, .bin .int .eql (.loc 15) (.const (.d (.int .u8 43))), none, []⟩,
  ⟨.loc 17, .split (.loc 16), none, []⟩,
  ⟨.loc 18, .mv (.var 0), some ((.loc 17), false), []⟩,
  ⟨.loc 19, .mv (.var 3), some ((.loc 17), false), []⟩,
  ⟨.loc 20, .idxS (.loc 18) (.loc 19), some ((.loc 17), false), []⟩,
  ⟨.loc 21, .bin .int .eql (.loc 20) (.const (.d (.int .u8 42))), some ((.loc 17), false), []⟩,
  ⟨.var 22, .pick (.loc 17) (.const (.d (.bool true))) (.loc 21), none, []⟩] false
def c_S_PathOk_6 : ACode := .reg [⟨.var 2, .mv (.const (.d (.bool false))), none, []⟩] false
def c_S_PathOk_7 : ACode := .reg [⟨.loc 11, .mv (.var 3), none, []⟩,
  ⟨.loc 12, .bin .int .add (.loc 11) (.const (.d (.int .i64 1))), none, []⟩,
  ⟨.var 3, .mv (.loc 12), none, []⟩] false
def c_S_PathOk_8 : ACode := (.seq (.seq c_S_PathOk_4 (.cond (.var 10) .skip (.exit 0))) (.seq (.block 1 (.seq c_S_PathOk_5 (.cond (.var 22) (.seq c_S_PathOk_6 .ret) .skip))) c_S_PathOk_7))
def c_S_PathOk_9 : ACode := .reg [⟨.var 2, .mv (.const (.d (.bool true))), none, []⟩] false
def c_S_PathOk : ACode := (.seq c_S_PathOk_0 (.seq (.seq c_S_PathOk_1 (.cond (.var 6) (.seq c_S_PathOk_2 .ret) .skip)) (.seq (.seq c_S_PathOk_3 (.block 0 (.loop [0, 3] c_S_PathOk_8))) (.seq c_S_PathOk_9 .ret))))

abbrev F_S_PathOk : FuncId := 53

theorem k_S_PathOk : comp PP (Tryd.f53.ntmps, pinOf 0 [none]) [0, 2, 3, 6, 10, 22] (Tryd.f53.body.getD .skip) = some c_S_PathOk.erase := by kernel_rfl

theorem v_S_PathOk {GG : GV} (rcs : List C) {cs : List C} {r : C} {os : List (Option C)} (hN : (cs.length == 1 && rcs.length == 1) = true) (hret : retOf rcs = r)
    (hW : W PP [0, 2, 3, 6, 10, 22] (Tryd.f53.ntmps, pinOf 0 [none]) (Valid PP GG) c_S_PathOk (entry cs) (Fin (Valid PP GG) [(.give, 2, none)] [none] rcs os) (fun _ _ => False) (Fin (Valid PP GG) [(.give, 2, none)] [none] rcs os)) : Valid PP GG F_S_PathOk cs r os :=
  fn_valid_n 1 1 [0, 2, 3, 6, 10, 22] c_S_PathOk [(.give, 2, none)] [none] rcs Tryd.func53 rfl rfl (by kernel_rfl) k_S_PathOk rfl rfl hN hret hW


/-
loop.example/g00705/spec.GlobOk  params 1+0 results [2]
  seq  mid=[0]
    c_S_GlobOk_0
    seq  mid=[0]
      seq  mid=[0, 7]
        c_S_GlobOk_1
        cond (.var 7)
          seq  mid=[2]
            c_S_GlobOk_2
            ret
          skip
      seq  mid=[3]
        c_S_GlobOk_3
        seq  mid=[3]
          seq  mid=[3, 4]
            c_S_GlobOk_4
            block 0
              loop live=[3, 4]
                seq  mid=[3, 4]
                  seq  mid=[3, 4, 13]
                    c_S_GlobOk_5
                    cond (.var 13)
                      skip
                      exit 0
                  seq  mid=[3, 4]
                    block 1
                      seq  mid=[3, 4, 43]
                        c_S_GlobOk_6
                        cond (.var 43)
                          seq  mid=[2]
                            c_S_GlobOk_7
                            ret
                          skip
                    c_S_GlobOk_8
          seq  mid=[2]
            c_S_GlobOk_10
            ret
-/
def c_S_GlobOk_0 : ACode := .reg [⟨.var 2, .mv (.const (.d (.bool false))), none, []⟩] false
def c_S_GlobOk_1 : ACode := .reg [⟨.loc 5, .mv (.var 0), none, []⟩,
  ⟨.loc 6, .len true (.loc 5), none, []⟩,
  ⟨.var 7, .bin .int .gtr (.loc 6) (.const (.d (.int .i64 120))), none, []⟩] false
def c_S_GlobOk_2 : ACode := .reg [⟨.var 2, .mv (.const (.d (.bool false))), none, []⟩] false
def c_S_GlobOk_3 : ACode := .reg [⟨.loc 8, .mv (.var 0), none, []⟩,
  ⟨.loc 9, .call (.fn 115) [(.loc 8), (.const (.d (.int .u8 47)))] [.borrow, .borrow], none, []⟩,
  ⟨.var 3, .mv (.loc 9), none, []⟩] false
def c_S_GlobOk_4 : ACode := .reg [⟨.var 4, .mv (.const (.d (.int .i64 0))), none, []⟩] false
def c_S_GlobOk_5 : ACode := .reg [⟨.loc 10, .mv (.var 4), none, []⟩,
  ⟨.loc 11, .mv (.var 3), none, []⟩,
  ⟨.loc 12, .len false (.loc 11), none, []⟩,
  ⟨.var 13, .bin .int .lss (.loc 10) (.loc 12), none, []⟩] false
def c_S_GlobOk_6 : ACode := .reg [⟨.loc 16, .mv (.var 3), none, []⟩,
  ⟨.loc 17, .mv (.var 4), none, []⟩,
  ⟨.loc 18, .idxA 1 (.loc 16) (.loc 17), none, []⟩,
  ⟨.loc 19, .load false 1 (.loc 18), none, []⟩,
  ⟨.loc 20, .call (.fn 116) [(.loc 19)] [.borrow], none, []⟩,
  ⟨.loc 21, .un .not (.loc 20), none, []⟩,
  ⟨.loc 22, .split (.loc 21), none, []⟩,
  ⟨.loc 23, .mv (.var 3), some ((.loc 22), true), []⟩,
  ⟨.loc 24, .mv (.var 4), some ((.loc 22), true), []⟩,
  ⟨.loc 25, .idxA 1 (.loc 23) (.loc 24), some ((.loc 22), true), []⟩,
  ⟨.loc 26, .load false 1 (.loc 25), some ((.loc 22), true), []⟩,
  ⟨.loc 27, .bin .str .neq (.loc 26) (.const (.d (.str [43]))), some ((.loc 22), true), []⟩,
  ⟨.loc 28, .pick (.loc 22) (.loc 27) (.const (.d (.bool false))), none, []⟩,
  ⟨.loc 29, .split (.loc 28), none, []⟩,
  ⟨.loc 30, .mv (.var 3), some ((.loc 29), true), []⟩,
  ⟨.loc 31, .mv (.var 4), some ((.loc 29), true), []⟩,
  ⟨.loc 32, .idxA 1 (.loc 30) (.loc 31), some ((.loc 29), true), []⟩,
  ⟨.loc 33, .load false 1 (.loc 32), some ((.loc 29), true), []⟩,
  ⟨.loc 34, .bin .str .eql (.loc 33) (.const (.d (.str [42]))), some ((.loc 29), true), []⟩,
  ⟨.loc 35, .split (.loc 34), some ((.loc 29), true), []⟩,
  ⟨.loc 36, .mv (.var 4), some ((.loc 35), true), []⟩,
  ⟨.loc 37, .mv (.var 3), some ((.loc 35), true), []⟩,
  ⟨.loc 38, .len false (.loc 37), some ((.loc 35), true), []⟩,
  ⟨.loc 39, .bin .int .sub (.loc 38) (.const (.d (.int .i64 1))), some ((.loc 35), true), []⟩,
  ⟨.loc 40, .bin .int .eql (.loc 36) (.loc 39), some ((.loc 35), true), []⟩,
  ⟨.loc 41, .pick (.loc 35) (.loc 40) (.const (.d (.bool false))), some ((.loc 29), true), []⟩,
  ⟨.loc 42, .un .not (.loc 41), some ((.loc 29), true), []⟩,
  ⟨.var 43, .pick (.loc 29) (.loc 42) (.const (.d (.bool false))), none, []⟩] false
def c_S_GlobOk_7 : ACode := .reg [⟨.var 2, .mv (.const (.d (.bool false))), none, []⟩] false
def c_S_GlobOk_8 : ACode := .reg [⟨.loc 14, .mv (.var 4), none, []⟩,
  ⟨.loc 15, .bin .int .add (.loc 14) (.const (.d (.int .i64 1))), none, []⟩,
  ⟨.var 4, .mv (.loc 15), none, []⟩] false
def c_S_GlobOk_9 : ACode := (.seq (.seq c_S_GlobOk_5 (.cond (.var 13) .skip (.exit 0))) (.seq (.block 1 (.seq c_S_GlobOk_6 (.cond (.var 43) (.seq c_S_GlobOk_7 .ret) .skip))) c_S_GlobOk_8))
def c_S_GlobOk_10 : ACode := .reg [⟨.loc 44, .mv (.var 3), none, []⟩,
  ⟨.loc 45, .len false (.loc 44), none, []⟩,
  ⟨.loc 46, .bin .int .leq (.loc 45) (.const (.d (.int .i64 8))), none, []⟩,
  ⟨.var 2, .mv (.loc 46), none, []⟩] false
def c_S_GlobOk : ACode := (.seq c_S_GlobOk_0 (.seq (.seq c_S_GlobOk_1 (.cond (.var 7) (.seq c_S_GlobOk_2 .ret) .skip)) (.seq c_S_GlobOk_3 (.seq (.seq c_S_GlobOk_4 (.block 0 (.loop [3, 4] c_S_GlobOk_9))) (.seq c_S_GlobOk_10 .ret)))))

abbrev F_S_GlobOk : FuncId := 88

theorem k_S_GlobOk : comp PP (Tryd.f88.ntmps, pinOf 0 [none]) [0, 2, 3, 4, 7, 13, 43] (Tryd.f88.body.getD .skip) = some c_S_GlobOk.erase := by kernel_rfl

theorem v_S_GlobOk {GG : GV} (rcs : List C) {cs : List C} {r : C} {os : List (Option C)} (hN : (cs.length == 1 && rcs.length == 1) = true) (hret : retOf rcs = r)
    (hW : W PP [0, 2, 3, 4, 7, 13, 43] (Tryd.f88.ntmps, pinOf 0 [none]) (Valid PP GG) c_S_GlobOk (entry cs) (Fin (Valid PP GG) [(.give, 2, none)] [none] rcs os) (fun _ _ => False) (Fin (Valid PP GG) [(.give, 2, none)] [none] rcs os)) : Valid PP GG F_S_GlobOk cs r os :=
  fn_valid_n 1 1 [0, 2, 3, 4, 7, 13, 43] c_S_GlobOk [(.give, 2, none)] [none] rcs Tryd.func88 rfl rfl (by kernel_rfl) k_S_GlobOk rfl rfl hN hret hW


/-
loop.example/g00705/spec.l01Parts  params 2+0 results [4]
  seq  mid=[0, 1]
    c_S_l01Parts_0
    seq  mid=[0, 1, 5]
      c_S_l01Parts_1
      seq  mid=[0, 1, 5, 6]
        c_S_l01Parts_2
        seq  mid=[5]
          seq  mid=[0, 1, 5, 6, 7]
            c_S_l01Parts_3
            block 0
              loop live=[0, 1, 5, 6, 7]
                seq  mid=[0, 1, 5, 6, 7]
                  seq  mid=[0, 1, 5, 6, 7, 12]
                    c_S_l01Parts_4
                    cond (.var 12)
                      skip
                      exit 0
                  seq  mid=[0, 1, 5, 6, 7]
                    block 1
                      seq  mid=[0, 1, 5, 6, 7, 25]
                        c_S_l01Parts_5
                        cond (.var 25)
                          seq  mid=[0, 1, 5, 7]
                            c_S_l01Parts_6
                            c_S_l01Parts_7
                          skip
                    c_S_l01Parts_8
          seq  mid=[4]
            c_S_l01Parts_10
            ret
-/
def c_S_l01Parts_0 : ACode := .reg [⟨.var 4, .mv (.const (.nil 0 1)), none, []⟩] false
def c_S_l01Parts_1 : ACode := .reg [⟨.loc 8, .lit 0 1 0 [.str []] [], none, []⟩,
  ⟨.var 5, .mv (.loc 8), none, []⟩] false
def c_S_l01Parts_2 : ACode := .reg [⟨.var 6, .mv (.const (.d (.int .i64 0))), none, []⟩] false
def c_S_l01Parts_3 : ACode := .reg [⟨.var 7, .mv (.const (.d (.int .i64 0))), none, []⟩] false
def c_S_l01Parts_4 : ACode := .reg [⟨.loc 9, .mv (.var 7), none, []⟩,
  ⟨.loc 10, .mv (.var 0), none, []⟩,
  ⟨.loc 11, .len true (.loc 10), none, []⟩,
  ⟨.var 12, .bin .int .leq (.loc 9) (.loc 11), none, []⟩] false
def c_S_l01Parts_5 : ACode := .reg [⟨.loc 15, .mv (.var 7), none, []⟩,
  ⟨.loc 16, .mv (.var 0), none, []⟩,
  ⟨.loc 17, .len true (.loc 16), none, []⟩,
  ⟨.loc 18, .bin .int .eql (.loc 15) (.loc 17), none, []⟩,
  ⟨.loc 19, .split (.loc 18), none, []⟩,
  ⟨.loc 20, .mv (.var 0), some ((.loc 19), false), []⟩,
  ⟨.loc 21, .mv (.var 7), some ((.loc 19), false), []⟩,
  ⟨.loc 22, .idxS (.loc 20) (.loc 21), some ((.loc 19), false), []⟩,
  ⟨.loc 23, .mv (.var 1), some ((.loc 19), false), []⟩,
  ⟨.loc 24, .bin .int .eql (.loc 22) (.loc 23), some ((.loc 19), false), []⟩,
  ⟨.var 25, .pick (.loc 19) (.const (.d (.bool true))) (.loc 24), none, []⟩] false
def c_S_l01Parts_6 : ACode := .reg [⟨.loc 26, .mv (.var 5), none, []⟩,
  ⟨.loc 27, .mv (.var 0), none, []⟩,
  ⟨.loc 28, .mv (.var 6), none, []⟩,
  ⟨.loc 29, .mv (.var 7), none, []⟩,
  ⟨.loc 30, .sliceS (.loc 27) (some (.loc 28)) (some (.loc 29)), none, []⟩,
  ⟨.loc 31, .lit 0 1 1 [.str []] [(0, (.loc 30))], none, []⟩,
  ⟨.loc 32, .app 1 16 (.loc 26) (.loc 31), none, []⟩,
  ⟨.var 5, .mv (.loc 32), none, []⟩] false
def c_S_l01Parts_7 : ACode := .reg [⟨.loc 33, .mv (.var 7), none, []⟩,
  ⟨.loc 34, .bin .int .add (.loc 33) (.const (.d (.int .i64 1))), none, []⟩,
  ⟨.var 6, .mv (.loc 34), none, []⟩] false
def c_S_l01Parts_8 : ACode := .reg [⟨.loc 13, .mv (.var 7), none, []⟩,
  ⟨.loc 14, .bin .int .add (.loc 13) (.const (.d (.int .i64 1))), none, []⟩,
  ⟨.var 7, .mv (.loc 14), none, []⟩] false
def c_S_l01Parts_9 : ACode := (.seq (.seq c_S_l01Parts_4 (.cond (.var 12) .skip (.exit 0))) (.seq (.block 1 (.seq c_S_l01Parts_5 (.cond (.var 25) (.seq c_S_l01Parts_6 c_S_l01Parts_7) .skip))) c_S_l01Parts_8))
def c_S_l01Parts_10 : ACode := .reg [⟨.loc 35, .mv (.var 5), none, []⟩,
  ⟨.var 4, .mv (.loc 35), none, []⟩] false
def c_S_l01Parts : ACode := (.seq c_S_l01Parts_0 (.seq c_S_l01Parts_1 (.seq c_S_l01Parts_2 (.seq (.seq c_S_l01Parts_3 (.block 0 (.loop [0, 1, 5, 6, 7] c_S_l01Parts_9))) (.seq c_S_l01Parts_10 .ret)))))

abbrev F_S_l01Parts : FuncId := 115

theorem k_S_l01Parts : comp PP (Tryd.f115.ntmps, pinOf 0 [none, none]) [0, 1, 4, 5, 6, 7, 12, 25] (Tryd.f115.body.getD .skip) = some c_S_l01Parts.erase := by kernel_rfl

theorem v_S_l01Parts {GG : GV} (rcs : List C) {cs : List C} {r : C} {os : List (Option C)} (hN : (cs.length == 2 && rcs.length == 1) = true) (hret : retOf rcs = r)
    (hW : W PP [0, 1, 4, 5, 6, 7, 12, 25] (Tryd.f115.ntmps, pinOf 0 [none, none]) (Valid PP GG) c_S_l01Parts (entry cs) (Fin (Valid PP GG) [(.give, 4, none)] [none, none] rcs os) (fun _ _ => False) (Fin (Valid PP GG) [(.give, 4, none)] [none, none] rcs os)) : Valid PP GG F_S_l01Parts cs r os :=
  fn_valid_n 2 1 [0, 1, 4, 5, 6, 7, 12, 25] c_S_l01Parts [(.give, 4, none)] [none, none] rcs Tryd.func115 rfl rfl (by kernel_rfl) k_S_l01Parts rfl rfl hN hret hW


/-
loop.example/g00705/spec.l01Segment  params 1+0 results [2]
  seq  mid=[0]
    c_S_l01Segment_0
    seq  mid=[0]
      seq  mid=[0, 8]
        c_S_l01Segment_1
        cond (.var 8)
          seq  mid=[2]
            c_S_l01Segment_2
            ret
          skip
      seq  mid=[]
        seq  mid=[0, 3]
          c_S_l01Segment_3
          block 0
            loop live=[0, 3]
              seq  mid=[0, 3]
                seq  mid=[0, 3, 12]
                  c_S_l01Segment_4
                  cond (.var 12)
                    skip
                    exit 0
                seq  mid=[0, 3]
                  block 1
                    seq  mid=[0, 3, 4]
                      c_S_l01Segment_5
                      seq  mid=[0, 3, 37]
                        c_S_l01Segment_6
                        cond (.var 37)
                          seq  mid=[2]
                            c_S_l01Segment_7
                            ret
                          skip
                  c_S_l01Segment_8
        seq  mid=[2]
          c_S_l01Segment_10
          ret
-/
def c_S_l01Segment_0 : ACode := .reg [⟨.var 2, .mv (.const (.d (.bool false))), none, []⟩] false
def c_S_l01Segment_1 : ACode := .reg [⟨.loc 5, .mv (.var 0), none, []⟩,
  ⟨.loc 6, .len true (.loc 5), none, []⟩,
  ⟨.loc 7, .call (.fn 51) [(.loc 6), (.const (.d (.int .i64 1))), (.const (.d (.int .i64 16)))] [.borrow, .borrow, .borrow], none, []⟩,
  ⟨.var 8, .un .not (.loc 7), none, []⟩] false
def c_S_l01Segment_2 : ACode := .reg [⟨.var 2, .mv (.const (.d (.bool false))), none, []⟩] false
def c_S_l01Segment_3 : ACode := .reg [⟨.var 3, .mv (.const (.d (.int .i64 0))), none, []⟩] false
def c_S_l01Segment_4 : ACode := .reg [⟨.loc 9, .mv (.var 3), none, []⟩,
  ⟨.loc 10, .mv (.var 0), none, []⟩,
  ⟨.loc 11, .len true (.loc 10), none, []⟩,
  ⟨.var 12, .bin .int .lss (.loc 9) (.loc 11), none, []⟩] false
def c_S_l01Segment_5 : ACode := .reg [⟨.loc 15, .mv (.var 0), none, []⟩,
  ⟨.loc 16, .mv (.var 3), none, []⟩,
  ⟨.loc 17, .idxS (.loc 15) (.loc 16), none, []⟩,
  ⟨.var 4, .mv (.loc 17), none, []⟩] false
def c_S_l01Segment_6 : ACode := .reg [⟨.loc 18, .mv (.var 4), none, []⟩,
  ⟨.loc 19, .bin .int .geq (.loc 18) (.const (.d (.int .u8 97))), none, []⟩,
  ⟨.loc 20, .split (.loc 19), none, []⟩,
  ⟨.loc 21, .mv (.var 4), some ((.loc 20), true), []⟩,
  ⟨.loc 22, .bin .int .leq (.loc 21) (.const (.d (.int .u8 122))), some ((.loc 20), true), []⟩,
  ⟨.loc 23, .pick (.loc 20) (.loc 22) (.const (.d (.bool false))), none, []⟩,
  ⟨.loc 24, .un .not (.loc 23), none, []⟩,
  ⟨.loc 25, .split (.loc 24), none, []⟩,
  ⟨.loc 26, .mv (.var 4), some ((.loc 25), true), []⟩,
  ⟨.loc 27, .bin .int .geq (.loc 26) (.const (.d (.int .u8 48))), some ((.loc 25), true), []⟩,
  ⟨.loc 28, .split (.loc 27), some ((.loc 25), true), []⟩,
  ⟨.loc 29, .mv (.var 4), some ((.loc 28), true), []⟩,
  ⟨.loc 30, .bin .int .leq (.loc 29) (.const (.d (.int .u8 57))), some ((.loc 28), true), []⟩,
  ⟨.loc 31, .pick (.loc 28) (.loc 30) (.const (.d (.bool false))), some ((.loc 25), true), []⟩,
  ⟨.loc 32, .un .not (.loc 31), some ((.loc 25), true), []⟩,
  ⟨.loc 33, .pick (.loc 25) (.loc 32) (.const (.d (.bool false))), none, []⟩,
  ⟨.loc 34, .split (.loc 33), none, []⟩,
  ⟨.loc 35, .mv (.var 4), some ((.loc 34), true), []⟩,
  ⟨.loc 36, .bin .int .neq (.loc 35) (.const (.d (.int .u8 45))), some ((.loc 34), true), []⟩,
  ⟨.var 37, .pick (.loc 34) (.loc 36) (.const (.d (.bool false))), none, []⟩] false
def c_S_l01Segment_7 : ACode := .reg [⟨.var 2, .mv (.const (.d (.bool false))), none, []⟩] false
def c_S_l01Segment_8 : ACode := .reg [⟨.loc 13, .mv (.var 3), none, []⟩,
  ⟨.loc 14, .bin .int .add (.loc 13) (.const (.d (.int .i64 1))), none, []⟩,
  ⟨.var 3, .mv (.loc 14), none, []⟩] false
def c_S_l01Segment_9 : ACode := (.seq (.seq c_S_l01Segment_4 (.cond (.var 12) .skip (.exit 0))) (.seq (.block 1 (.seq c_S_l01Segment_5 (.seq c_S_l01Segment_6 (.cond (.var 37) (.seq c_S_l01Segment_7 .ret) .skip)))) c_S_l01Segment_8))
def c_S_l01Segment_10 : ACode := .reg [⟨.var 2, .mv (.const (.d (.bool true))), none, []⟩] false
def c_S_l01Segment : ACode := (.seq c_S_l01Segment_0 (.seq (.seq c_S_l01Segment_1 (.cond (.var 8) (.seq c_S_l01Segment_2 .ret) .skip)) (.seq (.seq c_S_l01Segment_3 (.block 0 (.loop [0, 3] c_S_l01Segment_9))) (.seq c_S_l01Segment_10 .ret))))

abbrev F_S_l01Segment : FuncId := 116

theorem k_S_l01Segment : comp PP (Tryd.f116.ntmps, pinOf 0 [none]) [0, 2, 3, 4, 8, 12, 37] (Tryd.f116.body.getD .skip) = some c_S_l01Segment.erase := by kernel_rfl

theorem v_S_l01Segment {GG : GV} (rcs : List C) {cs : List C} {r : C} {os : List (Option C)} (hN : (cs.length == 1 && rcs.length == 1) = true) (hret : retOf rcs = r)
    (hW : W PP [0, 2, 3, 4, 8, 12, 37] (Tryd.f116.ntmps, pinOf 0 [none]) (Valid PP GG) c_S_l01Segment (entry cs) (Fin (Valid PP GG) [(.give, 2, none)] [none] rcs os) (fun _ _ => False) (Fin (Valid PP GG) [(.give, 2, none)] [none] rcs os)) : Valid PP GG F_S_l01Segment cs r os :=
  fn_valid_n 1 1 [0, 2, 3, 4, 8, 12, 37] c_S_l01Segment [(.give, 2, none)] [none] rcs Tryd.func116 rfl rfl (by kernel_rfl) k_S_l01Segment rfl rfl hN hret hW


/-
loop.example/g00705/impl.ChainOk  params 1+0 results [2]
  seq  mid=[1]
    c_I_ChainOk_0
    seq  mid=[2]
      c_I_ChainOk_1
      ret
-/
def c_I_ChainOk_0 : ACode := .reg [⟨.var 1, .box (.var 0), none, []⟩,
  ⟨.var 2, .mv (.const (.d (.bool false))), none, []⟩] false
def c_I_ChainOk_1 : ACode := .reg [⟨.loc 3, .load true 3 (.var 1), none, []⟩,
  ⟨.loc 4, .call (.fn 55) [(.loc 3)] [.borrow], none, []⟩,
  ⟨.var 2, .mv (.loc 4), none, []⟩] false
def c_I_ChainOk : ACode := (.seq c_I_ChainOk_0 (.seq c_I_ChainOk_1 .ret))

abbrev F_I_ChainOk : FuncId := 20

theorem k_I_ChainOk : comp PP (Tryd.f20.ntmps, pinOf 0 [none]) [0, 1, 2] (Tryd.f20.body.getD .skip) = some c_I_ChainOk.erase := by kernel_rfl

theorem v_I_ChainOk {GG : GV} (rcs : List C) {cs : List C} {r : C} {os : List (Option C)} (hN : (cs.length == 1 && rcs.length == 1) = true) (hret : retOf rcs = r)
    (hW : W PP [0, 1, 2] (Tryd.f20.ntmps, pinOf 0 [none]) (Valid PP GG) c_I_ChainOk (entry cs) (Fin (Valid PP GG) [(.give, 2, none)] [none] rcs os) (fun _ _ => False) (Fin (Valid PP GG) [(.give, 2, none)] [none] rcs os)) : Valid PP GG F_I_ChainOk cs r os :=
  fn_valid_n 1 1 [0, 1, 2] c_I_ChainOk [(.give, 2, none)] [none] rcs Tryd.func20 rfl rfl (by kernel_rfl) k_I_ChainOk rfl rfl hN hret hW


/-
loop.example/g00705/impl.isChain  params 1+0 results [2]
  seq  mid=[1]
    c_I_isChain_0
    seq  mid=[1]
      seq  mid=[1, 6, 7, 8]
        c_I_isChain_1
        block 0
          loop live=[1, 6, 7, 8]
            seq  mid=[1, 6, 7, 8, 9]
              c_I_isChain_2
              seq  mid=[1, 6, 7, 8]
                cond (.var 9)
                  skip
                  exit 0
                seq  mid=[1, 6, 7, 8]
                  block 1
                    seq  mid=[1, 3, 4, 6, 7, 8]
                      c_I_isChain_3
                      seq  mid=[1, 6, 7, 8, 44]
                        c_I_isChain_4 DRAW
                        cond (.var 44)
                          seq  mid=[2]
                            c_I_isChain_5
                            ret
                          skip
                  c_I_isChain_6
      seq  mid=[2]
        c_I_isChain_8
        ret
-/
def c_I_isChain_0 : ACode := .reg [⟨.var 1, .box (.var 0), none, []⟩,
  ⟨.var 2, .mv (.const (.d (.bool false))), none, []⟩] false
def c_I_isChain_1 : ACode := .reg [⟨.loc 5, .fld 2 (.var 1), none, []⟩,
  ⟨.var 6, .load false 1 (.loc 5), none, []⟩,
  ⟨.var 7, .len false (.var 6), none, []⟩,
  ⟨.var 8, .mv (.const (.d (.int .i64 0))), none, []⟩] false
def c_I_isChain_2 : ACode := .reg [⟨.var 9, .bin .int .lss (.var 8) (.var 7), none, []⟩] false
def c_I_isChain_3 : ACode := .reg [⟨.loc 10, .mv (.var 8), none, []⟩,
  ⟨.loc 11, .idxA 7 (.var 6) (.var 8), none, []⟩,
  ⟨.loc 12, .load true 7 (.loc 11), none, []⟩,
  ⟨.var 4, .alloc [.d (.int .i64 0), .d (.int .i64 0), .d (.int .i64 0), .d (.str []), .d (.str []), .d (.int .i64 0), .d (.int .i64 0)], none, []⟩,
  ⟨.var 3, .mv (.loc 10), none, []⟩,
  ⟨.none, .store 7 (.var 4) (.loc 12), none, []⟩] false
def c_I_isChain_4 : ACode := .reg [⟨.loc 13, .load true 7 (.var 4), none, []⟩,
  ⟨.loc 14, .call (.fn 90) [(.loc 13)] [.borrow], none, [0]⟩,
  ⟨.loc 15, .un .not (.loc 14), none, [1, 0]⟩,
  ⟨.loc 16, .split (.loc 15), none, [2, 1, 0]⟩,
  ⟨.loc 17, .mv (.var 3), some ((.loc 16), false), [3, 2, 1, 0]⟩,
  ⟨.loc 18, .bin .int .gtr (.loc 17) (.const (.d (.int .i64 0))), some ((.loc 16), false), [4, 3, 2, 1, 0]⟩,
  ⟨.loc 19, .split (.loc 18), some ((.loc 16), false), [5, 4, 3, 2, 1, 0]⟩,
  ⟨.loc 20, .fld 2 (.var 1), some ((.loc 19), true), [6, 5, 4, 3, 2, 1, 0]⟩,
  ⟨.loc 21, .load false 1 (.loc 20), some ((.loc 19), true), [7, 6, 5, 4, 3, 2, 1, 0]⟩,
  ⟨.loc 22, .mv (.var 3), some ((.loc 19), true), [6, 5, 4, 3, 2, 1, 0]⟩,
  ⟨.loc 23, .bin .int .sub (.loc 22) (.const (.d (.int .i64 1))), some ((.loc 19), true), [9, 6, 5, 4, 3, 2, 1, 0]⟩,
  ⟨.loc 24, .idxA 7 (.loc 21) (.loc 23), some ((.loc 19), true), [8, 7, 10, 9, 6, 5, 4, 3, 2, 1, 0]⟩,
  ⟨.loc 25, .fld 0 (.loc 24), some ((.loc 19), true), [11, 8, 7, 10, 9, 6, 5, 4, 3, 2, 1, 0]⟩,
  ⟨.loc 26, .load false 1 (.loc 25), some ((.loc 19), true), [12, 11, 8, 7, 10, 9, 6, 5, 4, 3, 2, 1, 0]⟩,
  ⟨.loc 27, .bin .int .add (.loc 26) (.const (.d (.int .i64 1))), some ((.loc 19), true), [13, 12, 11, 8, 7, 10, 9, 6, 5, 4, 3, 2, 1, 0]⟩,
  ⟨.loc 28, .fld 0 (.var 4), some ((.loc 19), true), [6, 5, 4, 3, 2, 1, 0]⟩,
  ⟨.loc 29, .load false 1 (.loc 28), some ((.loc 19), true), [15, 6, 5, 4, 3, 2, 1, 0]⟩,
  ⟨.loc 30, .bin .int .neq (.loc 27) (.loc 29), some ((.loc 19), true), [14, 13, 12, 11, 8, 7, 10, 9, 16, 15, 6, 5, 4, 3, 2, 1, 0]⟩,
  ⟨.loc 31, .split (.loc 30), some ((.loc 19), true), [17, 14, 13, 12, 11, 8, 7, 10, 9, 16, 15, 6, 5, 4, 3, 2, 1, 0]⟩,
  ⟨.loc 32, .fld 2 (.var 1), some ((.loc 31), false), [18, 17, 14, 13, 12, 11, 8, 7, 10, 9, 16, 15, 6, 5, 4, 3, 2, 1, 0]⟩,
  ⟨.loc 33, .load false 1 (.loc 32), some ((.loc 31), false), [19, 18, 17, 14, 13, 12, 11, 8, 7, 10, 9, 16, 15, 6, 5, 4, 3, 2, 1, 0]⟩,
  ⟨.loc 34, .mv (.var 3), some ((.loc 31), false), [18, 17, 14, 13, 12, 11, 8, 7, 10, 9, 16, 15, 6, 5, 4, 3, 2, 1, 0]⟩,
  ⟨.loc 35, .bin .int .sub (.loc 34) (.const (.d (.int .i64 1))), some ((.loc 31), false), [21, 18, 17, 14, 13, 12, 11, 8, 7, 10, 9, 16, 15, 6, 5, 4, 3, 2, 1, 0]⟩,
  ⟨.loc 36, .idxA 7 (.loc 33) (.loc 35), some ((.loc 31), false), [20, 19, 22, 21, 18, 17, 14, 13, 12, 11, 8, 7, 10, 9, 16, 15, 6, 5, 4, 3, 2, 1, 0]⟩,
  ⟨.loc 37, .fld 1 (.loc 36), some ((.loc 31), false), [23, 20, 19, 22, 21, 18, 17, 14, 13, 12, 11, 8, 7, 10, 9, 16, 15, 6, 5, 4, 3, 2, 1, 0]⟩,
  ⟨.loc 38, .load false 1 (.loc 37), some ((.loc 31), false), [24, 23, 20, 19, 22, 21, 18, 17, 14, 13, 12, 11, 8, 7, 10, 9, 16, 15, 6, 5, 4, 3, 2, 1, 0]⟩,
  ⟨.loc 39, .fld 1 (.var 4), some ((.loc 31), false), [18, 17, 14, 13, 12, 11, 8, 7, 10, 9, 16, 15, 6, 5, 4, 3, 2, 1, 0]⟩,
  ⟨.loc 40, .load false 1 (.loc 39), some ((.loc 31), false), [26, 18, 17, 14, 13, 12, 11, 8, 7, 10, 9, 16, 15, 6, 5, 4, 3, 2, 1, 0]⟩,
  ⟨.loc 41, .bin .int .gtr (.loc 38) (.loc 40), some ((.loc 31), false), [25, 24, 23, 20, 19, 22, 21, 27, 26, 18, 17, 14, 13, 12, 11, 8, 7, 10, 9, 16, 15, 6, 5, 4, 3, 2, 1, 0]⟩,
  ⟨.loc 42, .pick (.loc 31) (.const (.d (.bool true))) (.loc 41), some ((.loc 19), true), [28, 25, 24, 23, 20, 19, 22, 21, 27, 26, 18, 17, 14, 13, 12, 11, 8, 7, 10, 9, 16, 15, 6, 5, 4, 3, 2, 1, 0]⟩,
  ⟨.loc 43, .pick (.loc 19) (.loc 42) (.const (.d (.bool false))), some ((.loc 16), false), [29, 28, 25, 24, 23, 20, 19, 22, 21, 27, 26, 18, 17, 14, 13, 12, 11, 8, 7, 10, 9, 16, 15, 6, 5, 4, 3, 2, 1, 0]⟩,
  ⟨.var 44, .pick (.loc 16) (.const (.d (.bool true))) (.loc 43), none, [30, 29, 28, 25, 24, 23, 20, 19, 22, 21, 27, 26, 18, 17, 14, 13, 12, 11, 8, 7, 10, 9, 16, 15, 6, 5, 4, 3, 2, 1, 0]⟩] true
def c_I_isChain_5 : ACode := .reg [⟨.var 2, .mv (.const (.d (.bool false))), none, []⟩] false
def c_I_isChain_6 : ACode := .reg [⟨.loc 45, .bin .int .add (.var 8) (.const (.d (.int .i64 1))), none, []⟩,
  ⟨.var 8, .mv (.loc 45), none, []⟩] false
def c_I_isChain_7 : ACode := (.seq c_I_isChain_2 (.seq (.cond (.var 9) .skip (.exit 0)) (.seq (.block 1 (.seq c_I_isChain_3 (.seq c_I_isChain_4 (.cond (.var 44) (.seq c_I_isChain_5 .ret) .skip)))) c_I_isChain_6)))
def c_I_isChain_8 : ACode := .reg [⟨.loc 46, .fld 0 (.var 1), none, []⟩,
  ⟨.loc 47, .load false 1 (.loc 46), none, []⟩,
  ⟨.loc 48, .bin .int .geq (.loc 47) (.const (.d (.int .i64 0))), none, []⟩,
  ⟨.loc 49, .split (.loc 48), none, []⟩,
  ⟨.loc 50, .fld 1 (.var 1), some ((.loc 49), true), []⟩,
  ⟨.loc 51, .load false 1 (.loc 50), some ((.loc 49), true), []⟩,
  ⟨.loc 52, .call (.fn 82) [(.loc 51)] [.borrow], some ((.loc 49), true), []⟩,
  ⟨.loc 53, .pick (.loc 49) (.loc 52) (.const (.d (.bool false))), none, []⟩,
  ⟨.loc 54, .split (.loc 53), none, []⟩,
  ⟨.loc 55, .fld 2 (.var 1), some ((.loc 54), true), []⟩,
  ⟨.loc 56, .load false 1 (.loc 55), some ((.loc 54), true), []⟩,
  ⟨.loc 57, .len false (.loc 56), some ((.loc 54), true), []⟩,
  ⟨.loc 58, .bin .int .leq (.loc 57) (.const (.d (.int .i64 120))), some ((.loc 54), true), []⟩,
  ⟨.loc 59, .pick (.loc 54) (.loc 58) (.const (.d (.bool false))), none, []⟩,
  ⟨.var 2, .mv (.loc 59), none, []⟩] false
def c_I_isChain : ACode := (.seq c_I_isChain_0 (.seq (.seq c_I_isChain_1 (.block 0 (.loop [1, 6, 7, 8] c_I_isChain_7))) (.seq c_I_isChain_8 .ret)))

abbrev F_I_isChain : FuncId := 55

theorem k_I_isChain : comp PP (Tryd.f55.ntmps, pinOf 0 [none]) [0, 1, 2, 3, 4, 6, 7, 8, 9, 44] (Tryd.f55.body.getD .skip) = some c_I_isChain.erase := by kernel_rfl

theorem v_I_isChain {GG : GV} (rcs : List C) {cs : List C} {r : C} {os : List (Option C)} (hN : (cs.length == 1 && rcs.length == 1) = true) (hret : retOf rcs = r)
    (hW : W PP [0, 1, 2, 3, 4, 6, 7, 8, 9, 44] (Tryd.f55.ntmps, pinOf 0 [none]) (Valid PP GG) c_I_isChain (entry cs) (Fin (Valid PP GG) [(.give, 2, none)] [none] rcs os) (fun _ _ => False) (Fin (Valid PP GG) [(.give, 2, none)] [none] rcs os)) : Valid PP GG F_I_isChain cs r os :=
  fn_valid_n 1 1 [0, 1, 2, 3, 4, 6, 7, 8, 9, 44] c_I_isChain [(.give, 2, none)] [none] rcs Tryd.func55 rfl rfl (by kernel_rfl) k_I_isChain rfl rfl hN hret hW


/-
loop.example/g00705/impl.isNote  params 1+0 results [2]
  seq  mid=[1]
    c_I_isNote_0
    seq  mid=[2]
      c_I_isNote_1
      ret
-/
def c_I_isNote_0 : ACode := .reg [⟨.var 1, .box (.var 0), none, []⟩,
  ⟨.var 2, .mv (.const (.d (.bool false))), none, []⟩] false
def c_I_isNote_1 : ACode := .reg [⟨.loc 3, .fld 0 (.var 1), none, []⟩,
  ⟨.loc 4, .load false 1 (.loc 3), none, []⟩,
  ⟨.loc 5, .call (.fn 94) [(.loc 4), (.const (.d (.int .i64 1))), (.const (.d (.int .i64 1000000000)))] [.borrow, .borrow, .borrow], none, []⟩,
  ⟨.loc 6, .split (.loc 5), none, []⟩,
  ⟨.loc 7, .fld 1 (.var 1), some ((.loc 6), true), []⟩,
  ⟨.loc 8, .load false 1 (.loc 7), some ((.loc 6), true), []⟩,
  ⟨.loc 9, .call (.fn 94) [(.loc 8), (.const (.d (.int .i64 0))), (.const (.d (.int .i64 1000000000)))] [.borrow, .borrow, .borrow], some ((.loc 6), true), []⟩,
  ⟨.loc 10, .pick (.loc 6) (.loc 9) (.const (.d (.bool false))), none, []⟩,
  ⟨.loc 11, .split (.loc 10), none, []⟩,
  ⟨.loc 12, .fld 2 (.var 1), some ((.loc 11), true), []⟩,
  ⟨.loc 13, .load false 1 (.loc 12), some ((.loc 11), true), []⟩,
  ⟨.loc 14, .call (.fn 94) [(.loc 13), (.const (.d (.int .i64 0))), (.const (.d (.int .i64 1000000000)))] [.borrow, .borrow, .borrow], some ((.loc 11), true), []⟩,
  ⟨.loc 15, .pick (.loc 11) (.loc 14) (.const (.d (.bool false))), none, []⟩,
  ⟨.loc 16, .split (.loc 15), none, []⟩,
  ⟨.loc 17, .fld 3 (.var 1), some ((.loc 16), true), []⟩,
  ⟨.loc 18, .load false 1 (.loc 17), some ((.loc 16), true), []⟩,
  ⟨.loc 19, .call (.fn 117) [(.loc 18)] [.borrow], some ((.loc 16), true), []⟩,
  ⟨.loc 20, .pick (.loc 16) (.loc 19) (.const (.d (.bool false))), none, []⟩,
  ⟨.loc 21, .split (.loc 20), none, []⟩,
  ⟨.loc 22, .fld 4 (.var 1), some ((.loc 21), true), []⟩,
  ⟨.loc 23, .load false 1 (.loc 22), some ((.loc 21), true), []⟩,
  ⟨.loc 24, .call (.fn 95) [(.loc 23)] [.borrow], some ((.loc 21), true), []⟩,
  ⟨.loc 25, .pick (.loc 21) (.loc 24) (.const (.d (.bool false))), none, []⟩,
  ⟨.loc 26, .split (.loc 25), none, []⟩,
  ⟨.loc 27, .fld 5 (.var 1), some ((.loc 26), true), []⟩,
  ⟨.loc 28, .load false 1 (.loc 27), some ((.loc 26), true), []⟩,
  ⟨.loc 29, .call (.fn 94) [(.loc 28), (.const (.d (.int .i64 0))), (.const (.d (.int .i64 99)))] [.borrow, .borrow, .borrow], some ((.loc 26), true), []⟩,
  ⟨.loc 30, .pick (.loc 26) (.loc 29) (.const (.d (.bool false))), none, []⟩,
  ⟨.var 2, .mv (.loc 30), none, []⟩] false
def c_I_isNote : ACode := (.seq c_I_isNote_0 (.seq c_I_isNote_1 .ret))

abbrev F_I_isNote : FuncId := 90

theorem k_I_isNote : comp PP (Tryd.f90.ntmps, pinOf 0 [none]) [0, 1, 2] (Tryd.f90.body.getD .skip) = some c_I_isNote.erase := by kernel_rfl

theorem v_I_isNote {GG : GV} (rcs : List C) {cs : List C} {r : C} {os : List (Option C)} (hN : (cs.length == 1 && rcs.length == 1) = true) (hret : retOf rcs = r)
    (hW : W PP [0, 1, 2] (Tryd.f90.ntmps, pinOf 0 [none]) (Valid PP GG) c_I_isNote (entry cs) (Fin (Valid PP GG) [(.give, 2, none)] [none] rcs os) (fun _ _ => False) (Fin (Valid PP GG) [(.give, 2, none)] [none] rcs os)) : Valid PP GG F_I_isNote cs r os :=
  fn_valid_n 1 1 [0, 1, 2] c_I_isNote [(.give, 2, none)] [none] rcs Tryd.func90 rfl rfl (by kernel_rfl) k_I_isNote rfl rfl hN hret hW


/-
loop.example/g00705/impl.isKey  params 1+0 results [2]
  seq  mid=[0]
    c_I_isKey_0
    seq  mid=[2]
      c_I_isKey_1
      ret
-/
def c_I_isKey_0 : ACode := .reg [⟨.var 2, .mv (.const (.d (.bool false))), none, []⟩] false
def c_I_isKey_1 : ACode := .reg [⟨.loc 3, .mv (.var 0), none, []⟩,
  ⟨.loc 4, .call (.fn 94) [(.loc 3), (.const (.d (.int .i64 0))), (.const (.d (.int .i64 1099511627776)))] [.borrow, .borrow, .borrow], none, []⟩,
  ⟨.var 2, .mv (.loc 4), none, []⟩] false
def c_I_isKey : ACode := (.seq c_I_isKey_0 (.seq c_I_isKey_1 .ret))

abbrev F_I_isKey : FuncId := 82

theorem k_I_isKey : comp PP (Tryd.f82.ntmps, pinOf 0 [none]) [0, 2] (Tryd.f82.body.getD .skip) = some c_I_isKey.erase := by kernel_rfl

theorem v_I_isKey {GG : GV} (rcs : List C) {cs : List C} {r : C} {os : List (Option C)} (hN : (cs.length == 1 && rcs.length == 1) = true) (hret : retOf rcs = r)
    (hW : W PP [0, 2] (Tryd.f82.ntmps, pinOf 0 [none]) (Valid PP GG) c_I_isKey (entry cs) (Fin (Valid PP GG) [(.give, 2, none)] [none] rcs os) (fun _ _ => False) (Fin (Valid PP GG) [(.give, 2, none)] [none] rcs os)) : Valid PP GG F_I_isKey cs r os :=
  fn_valid_n 1 1 [0, 2] c_I_isKey [(.give, 2, none)] [none] rcs Tryd.func82 rfl rfl (by kernel_rfl) k_I_isKey rfl rfl hN hret hW


/-
loop.example/g00705/impl.within  params 3+0 results [6]
  seq  mid=[0, 1, 2]
    c_I_within_0
    seq  mid=[6]
      c_I_within_1
      ret
-/
def c_I_within_0 : ACode := .reg [⟨.var 6, .mv (.const (.d (.bool false))), none, []⟩] false
def c_I_within_1 : ACode := .reg [⟨.loc 7, .mv (.var 0), none, []⟩,
  ⟨.loc 8, .mv (.var 1), none, []⟩,
  ⟨.loc 9, .bin .int .geq (.loc 7) (.loc 8), none, []⟩,
  ⟨.loc 10, .split (.loc 9), none, []⟩,
  ⟨.loc 11, .mv (.var 0), some ((.loc 10), true), []⟩,
  ⟨.loc 12, .mv (.var 2), some ((.loc 10), true), []⟩,
  ⟨.loc 13, .bin .int .leq (.loc 11) (.loc 12), some ((.loc 10), true), []⟩,
  ⟨.loc 14, .pick (.loc 10) (.loc 13) (.const (.d (.bool false))), none, []⟩,
  ⟨.var 6, .mv (.loc 14), none, []⟩] false
def c_I_within : ACode := (.seq c_I_within_0 (.seq c_I_within_1 .ret))

abbrev F_I_within : FuncId := 94

theorem k_I_within : comp PP (Tryd.f94.ntmps, pinOf 0 [none, none, none]) [0, 1, 2, 6] (Tryd.f94.body.getD .skip) = some c_I_within.erase := by kernel_rfl

theorem v_I_within {GG : GV} (rcs : List C) {cs : List C} {r : C} {os : List (Option C)} (hN : (cs.length == 3 && rcs.length == 1) = true) (hret : retOf rcs = r)
    (hW : W PP [0, 1, 2, 6] (Tryd.f94.ntmps, pinOf 0 [none, none, none]) (Valid PP GG) c_I_within (entry cs) (Fin (Valid PP GG) [(.give, 6, none)] [none, none, none] rcs os) (fun _ _ => False) (Fin (Valid PP GG) [(.give, 6, none)] [none, none, none] rcs os)) : Valid PP GG F_I_within cs r os :=
  fn_valid_n 3 1 [0, 1, 2, 6] c_I_within [(.give, 6, none)] [none, none, none] rcs Tryd.func94 rfl rfl (by kernel_rfl) k_I_within rfl rfl hN hret hW


/-
loop.example/g00705/impl.isName  params 1+0 results [2]
  seq  mid=[0]
    c_I_isName_0
    seq  mid=[2]
      c_I_isName_1
      ret
-/
def c_I_isName_0 : ACode := .reg [⟨.var 2, .mv (.const (.d (.bool false))), none, []⟩] false
def c_I_isName_1 : ACode := .reg [⟨.loc 3, .mv (.var 0), none, []⟩,
  ⟨.loc 4, .len true (.loc 3), none, []⟩,
  ⟨.loc 5, .call (.fn 94) [(.loc 4), (.const (.d (.int .i64 1))), (.const (.d (.int .i64 12)))] [.borrow, .borrow, .borrow], none, []⟩,
  ⟨.loc 6, .split (.loc 5), none, []⟩,
  ⟨.loc 7, .mv (.var 0), some ((.loc 6), true), []⟩,
  ⟨.loc 8, .call (.fn 129) [(.loc 7), (.const (.d (.str [97, 98, 99, 100, 101, 102, 103, 104, 105, 106, 107, 108, 109, 110, 111, 112, 113, 114, 115, 116, 117, 118, 119, 120, 121, 122, 48, 49, 50, 51, 52, 53, 54, 55, 56, 57])))] [.borrow, .borrow], some ((.loc 6), true), []⟩,
  ⟨.loc 9, .pick (.loc 6) (.loc 8) (.const (.d (.bool false))), none, []⟩,
  ⟨.var 2, .mv (.loc 9), none, []⟩] false
def c_I_isName : ACode := (.seq c_I_isName_0 (.seq c_I_isName_1 .ret))

abbrev F_I_isName : FuncId := 117

theorem k_I_isName : comp PP (Tryd.f117.ntmps, pinOf 0 [none]) [0, 2] (Tryd.f117.body.getD .skip) = some c_I_isName.erase := by kernel_rfl

theorem v_I_isName {GG : GV} (rcs : List C) {cs : List C} {r : C} {os : List (Option C)} (hN : (cs.length == 1 && rcs.length == 1) = true) (hret : retOf rcs = r)
    (hW : W PP [0, 2] (Tryd.f117.ntmps, pinOf 0 [none]) (Valid PP GG) c_I_isName (entry cs) (Fin (Valid PP GG) [(.give, 2, none)] [none] rcs os) (fun _ _ => False) (Fin (Valid PP GG) [(.give, 2, none)] [none] rcs os)) : Valid PP GG F_I_isName cs r os :=
  fn_valid_n 1 1 [0, 2] c_I_isName [(.give, 2, none)] [none] rcs Tryd.func117 rfl rfl (by kernel_rfl) k_I_isName rfl rfl hN hret hW


/-
loop.example/g00705/impl.isPath  params 1+0 results [2]
  seq  mid=[0]
    c_I_isPath_0
    seq  mid=[2]
      c_I_isPath_1
      ret
-/
def c_I_isPath_0 : ACode := .reg [⟨.var 2, .mv (.const (.d (.bool false))), none, []⟩] false
def c_I_isPath_1 : ACode := .reg [⟨.loc 3, .mv (.var 0), none, []⟩,
  ⟨.loc 4, .call (.fn 120) [(.loc 3)] [.borrow], none, []⟩,
  ⟨.loc 5, .split (.loc 4), none, []⟩,
  ⟨.loc 6, .mv (.var 0), some ((.loc 5), true), []⟩,
  ⟨.loc 7, .call (.fn 121) [(.loc 6), (.const (.d (.str [43, 42])))] [.borrow, .borrow], some ((.loc 5), true), []⟩,
  ⟨.loc 8, .un .not (.loc 7), some ((.loc 5), true), []⟩,
  ⟨.loc 9, .pick (.loc 5) (.loc 8) (.const (.d (.bool false))), none, []⟩,
  ⟨.var 2, .mv (.loc 9), none, []⟩] false
def c_I_isPath : ACode := (.seq c_I_isPath_0 (.seq c_I_isPath_1 .ret))

abbrev F_I_isPath : FuncId := 95

theorem k_I_isPath : comp PP (Tryd.f95.ntmps, pinOf 0 [none]) [0, 2] (Tryd.f95.body.getD .skip) = some c_I_isPath.erase := by kernel_rfl

theorem v_I_isPath {GG : GV} (rcs : List C) {cs : List C} {r : C} {os : List (Option C)} (hN : (cs.length == 1 && rcs.length == 1) = true) (hret : retOf rcs = r)
    (hW : W PP [0, 2] (Tryd.f95.ntmps, pinOf 0 [none]) (Valid PP GG) c_I_isPath (entry cs) (Fin (Valid PP GG) [(.give, 2, none)] [none] rcs os) (fun _ _ => False) (Fin (Valid PP GG) [(.give, 2, none)] [none] rcs os)) : Valid PP GG F_I_isPath cs r os :=
  fn_valid_n 1 1 [0, 2] c_I_isPath [(.give, 2, none)] [none] rcs Tryd.func95 rfl rfl (by kernel_rfl) k_I_isPath rfl rfl hN hret hW


/-
loop.example/g00705/impl.isGlob  params 1+0 results [2]
  seq  mid=[0]
    c_I_isGlob_0
    seq  mid=[0]
      seq  mid=[0, 8]
        c_I_isGlob_1
        cond (.var 8)
          seq  mid=[2]
            c_I_isGlob_2
            ret
          skip
      seq  mid=[3]
        c_I_isGlob_3
        seq  mid=[3]
          seq  mid=[3, 11, 12, 13]
            c_I_isGlob_4
            block 0
              loop live=[3, 11, 12, 13]
                seq  mid=[3, 11, 12, 13, 14]
                  c_I_isGlob_5
                  seq  mid=[3, 11, 12, 13]
                    cond (.var 14)
                      skip
                      exit 0
                    seq  mid=[3, 11, 12, 13]
                      block 1
                        seq  mid=[3, 4, 5, 11, 12, 13]
                          c_I_isGlob_6
                          seq  mid=[3, 5, 11, 12, 13]
                            seq  mid=[3, 5, 11, 12, 13, 30]
                              c_I_isGlob_7
                              cond (.var 30)
                                exit 1
                                skip
                            seq  mid=[3, 11, 12, 13, 39]
                              c_I_isGlob_8
                              cond (.var 39)
                                seq  mid=[2]
                                  c_I_isGlob_9
                                  ret
                                skip
                      c_I_isGlob_10
          seq  mid=[2]
            c_I_isGlob_12
            ret
-/
def c_I_isGlob_0 : ACode := .reg [⟨.var 2, .mv (.const (.d (.bool false))), none, []⟩] false
def c_I_isGlob_1 : ACode := .reg [⟨.loc 6, .mv (.var 0), none, []⟩,
  ⟨.loc 7, .len true (.loc 6), none, []⟩,
  ⟨.var 8, .bin .int .gtr (.loc 7) (.const (.d (.int .i64 120))), none, []⟩] false
def c_I_isGlob_2 : ACode := .reg [⟨.var 2, .mv (.const (.d (.bool false))), none, []⟩] false
def c_I_isGlob_3 : ACode := .reg [⟨.loc 9, .mv (.var 0), none, []⟩,
  ⟨.loc 10, .call (.fn 131) [(.loc 9), (.const (.d (.str [47])))] [.borrow, .borrow], none, []⟩,
  ⟨.var 3, .mv (.loc 10), none, []⟩] false
def c_I_isGlob_4 : ACode := .reg [⟨.var 11, .mv (.var 3), none, []⟩,
  ⟨.var 12, .len false (.var 11), none, []⟩,
  ⟨.var 13, .mv (.const (.d (.int .i64 0))), none, []⟩] false
def c_I_isGlob_5 : ACode := .reg [⟨.var 14, .bin .int .lss (.var 13) (.var 12), none, []⟩] false
def c_I_isGlob_6 : ACode := .reg [⟨.loc 15, .mv (.var 13), none, []⟩,
  ⟨.loc 16, .idxA 1 (.var 11) (.var 13), none, []⟩,
  ⟨.loc 17, .load false 1 (.loc 16), none, []⟩,
  ⟨.var 4, .mv (.loc 15), none, []⟩,
  ⟨.var 5, .mv (.loc 17), none, []⟩] false
def c_I_isGlob_7 : ACode := .reg [⟨.loc 18, .mv (.var 5), none, []⟩,
  ⟨.loc 19, .bin .str .eql (.loc 18) (.const (.d (.str [43]))), none, []⟩,
  ⟨.loc 20, .split (.loc 19), none, []⟩,
  ⟨.loc 21, .mv (.var 5), some ((.loc 20), false), []⟩,
  ⟨.loc 22, .bin .str .eql (.loc 21) (.const (.d (.str [42]))), some ((.loc 20), false), []⟩,
  ⟨.loc 23, .split (.loc 22), some ((.loc 20), false), []⟩,
  ⟨.loc 24, .mv (.var 4), some ((.loc 23), true), []⟩,
  ⟨.loc 25, .mv (.var 3), some ((.loc 23), true), []⟩,
  ⟨.loc 26, .len false (.loc 25), some ((.loc 23), true), []⟩,
  ⟨.loc 27, .bin .int .sub (.loc 26) (.const (.d (.int .i64 1))), some ((.loc 23), true), []⟩,
  ⟨.loc 28, .bin .int .eql (.loc 24) (.loc 27), some ((.loc 23), true), []⟩,
  ⟨.loc 29, .pick (.loc 23) (.loc 28) (.const (.d (.bool false))), some ((.loc 20), false), []⟩,
  ⟨.var 30, .pick (.loc 20) (.const (.d (.bool true))) (.loc 29), none, []⟩] false
def c_I_isGlob_8 : ACode := .reg [⟨.loc 31, .mv (.var 5), none, []⟩,
  ⟨.loc 32, .len true (.loc 31), none, []⟩,
  ⟨.loc 33, .call (.fn 94) [(.loc 32), (.const (.d (.int .i64 1))), (.const (.d (.int .i64 16)))] [.borrow, .borrow, .borrow], none, []⟩,
  ⟨.loc 34, .un .not (.loc 33), none, []⟩,
  ⟨.loc 35, .split (.loc 34), none, []⟩,
  ⟨.loc 36, .mv (.var 5), some ((.loc 35), false), []⟩,
  ⟨.loc 37, .call (.fn 129) [(.loc 36), (.const (.d (.str [97, 98, 99, 100, 101, 102, 103, 104, 105, 106, 107, 108, 109, 110, 111, 112, 113, 114, 115, 116, 117, 118, 119, 120, 121, 122, 48, 49, 50, 51, 52, 53, 54, 55, 56, 57, 45])))] [.borrow, .borrow], some ((.loc 35), false), []⟩,
  ⟨.loc 38, .un .not (.loc 37), some ((.loc 35), false), []⟩,
  ⟨.var 39, .pick (.loc 35) (.const (.d (.bool true))) (.loc 38), none, []⟩] false
def c_I_isGlob_9 : ACode := .reg [⟨.var 2, .mv (.const (.d (.bool false))), none, []⟩] false
def c_I_isGlob_10 : ACode := .reg [⟨.loc 40, .bin .int .add (.var 13) (.const (.d (.int .i64 1))), none, []⟩,
  ⟨.var 13, .mv (.loc 40), none, []⟩] false
def c_I_isGlob_11 : ACode := (.seq c_I_isGlob_5 (.seq (.cond (.var 14) .skip (.exit 0)) (.seq (.block 1 (.seq c_I_isGlob_6 (.seq (.seq c_I_isGlob_7 (.cond (.var 30) (.exit 1) .skip)) (.seq c_I_isGlob_8 (.cond (.var 39) (.seq c_I_isGlob_9 .ret) .skip))))) c_I_isGlob_10)))
def c_I_isGlob_12 : ACode := .reg [⟨.loc 41, .mv (.var 3), none, []⟩,
  ⟨.loc 42, .len false (.loc 41), none, []⟩,
  ⟨.loc 43, .bin .int .leq (.loc 42) (.const (.d (.int .i64 8))), none, []⟩,
  ⟨.var 2, .mv (.loc 43), none, []⟩] false
def c_I_isGlob : ACode := (.seq c_I_isGlob_0 (.seq (.seq c_I_isGlob_1 (.cond (.var 8) (.seq c_I_isGlob_2 .ret) .skip)) (.seq c_I_isGlob_3 (.seq (.seq c_I_isGlob_4 (.block 0 (.loop [3, 11, 12, 13] c_I_isGlob_11))) (.seq c_I_isGlob_12 .ret)))))

abbrev F_I_isGlob : FuncId := 120

theorem k_I_isGlob : comp PP (Tryd.f120.ntmps, pinOf 0 [none]) [0, 2, 3, 4, 5, 8, 11, 12, 13, 14, 30, 39] (Tryd.f120.body.getD .skip) = some c_I_isGlob.erase := by kernel_rfl

theorem v_I_isGlob {GG : GV} (rcs : List C) {cs : List C} {r : C} {os : List (Option C)} (hN : (cs.length == 1 && rcs.length == 1) = true) (hret : retOf rcs = r)
    (hW : W PP [0, 2, 3, 4, 5, 8, 11, 12, 13, 14, 30, 39] (Tryd.f120.ntmps, pinOf 0 [none]) (Valid PP GG) c_I_isGlob (entry cs) (Fin (Valid PP GG) [(.give, 2, none)] [none] rcs os) (fun _ _ => False) (Fin (Valid PP GG) [(.give, 2, none)] [none] rcs os)) : Valid PP GG F_I_isGlob cs r os :=
  fn_valid_n 1 1 [0, 2, 3, 4, 5, 8, 11, 12, 13, 14, 30, 39] c_I_isGlob [(.give, 2, none)] [none] rcs Tryd.func120 rfl rfl (by kernel_rfl) k_I_isGlob rfl rfl hN hret hW


/-
loop.example/g00705/impl.onlyOf  params 2+0 results [4]
  seq  mid=[0, 1]
    c_I_onlyOf_0
    seq  mid=[]
      seq  mid=[0, 1, 7, 8]
        c_I_onlyOf_1
        block 0
          loop live=[0, 1, 7, 8]
            seq  mid=[0, 1, 7, 8, 9]
              c_I_onlyOf_2
              seq  mid=[0, 1, 7, 8]
                cond (.var 9)
                  skip
                  exit 0
                seq  mid=[0, 1, 7, 8]
                  block 1
                    seq  mid=[0, 1, 5, 7, 8]
                      c_I_onlyOf_3
                      seq  mid=[0, 1, 7, 8, 16]
                        c_I_onlyOf_4
                        cond (.var 16)
                          seq  mid=[4]
                            c_I_onlyOf_5
                            ret
                          skip
                  c_I_onlyOf_6
      seq  mid=[4]
        c_I_onlyOf_8
        ret
-/
def c_I_onlyOf_0 : ACode := .reg [⟨.var 4, .mv (.const (.d (.bool false))), none, []⟩] false
def c_I_onlyOf_1 : ACode := .reg [⟨.loc 6, .mv (.var 0), none, []⟩,
  ⟨.var 7, .len true (.loc 6), none, []⟩,
  ⟨.var 8, .mv (.const (.d (.int .i64 0))), none, []⟩] false
def c_I_onlyOf_2 : ACode := .reg [⟨.var 9, .bin .int .lss (.var 8) (.var 7), none, []⟩] false
def c_I_onlyOf_3 : ACode := .reg [⟨.loc 10, .mv (.var 8), none, []⟩,
  ⟨.var 5, .mv (.loc 10), none, []⟩] false
def c_I_onlyOf_4 : ACode := .reg [⟨.loc 11, .mv (.var 1), none, []⟩,
  ⟨.loc 12, .mv (.var 0), none, []⟩,
  ⟨.loc 13, .mv (.var 5), none, []⟩,
  ⟨.loc 14, .idxS (.loc 12) (.loc 13), none, []⟩,
  ⟨.loc 15, .call (.fn 138) [(.loc 11), (.loc 14)] [.borrow, .borrow], none, []⟩,
  ⟨.var 16, .bin .int .lss (.loc 15) (.const (.d (.int .i64 0))), none, []⟩] false
def c_I_onlyOf_5 : ACode := .reg [⟨.var 4, .mv (.const (.d (.bool false))), none, []⟩] false
def c_I_onlyOf_6 : ACode := .reg [⟨.loc 17, .bin .int .add (.var 8) (.const (.d (.int .i64 1))), none, []⟩,
  ⟨.var 8, .mv (.loc 17), none, []⟩] false
def c_I_onlyOf_7 : ACode := (.seq c_I_onlyOf_2 (.seq (.cond (.var 9) .skip (.exit 0)) (.seq (.block 1 (.seq c_I_onlyOf_3 (.seq c_I_onlyOf_4 (.cond (.var 16) (.seq c_I_onlyOf_5 .ret) .skip)))) c_I_onlyOf_6)))
def c_I_onlyOf_8 : ACode := .reg [⟨.var 4, .mv (.const (.d (.bool true))), none, []⟩] false
def c_I_onlyOf : ACode := (.seq c_I_onlyOf_0 (.seq (.seq c_I_onlyOf_1 (.block 0 (.loop [0, 1, 7, 8] c_I_onlyOf_7))) (.seq c_I_onlyOf_8 .ret)))

abbrev F_I_onlyOf : FuncId := 129

theorem k_I_onlyOf : comp PP (Tryd.f129.ntmps, pinOf 0 [none, none]) [0, 1, 4, 5, 7, 8, 9, 16] (Tryd.f129.body.getD .skip) = some c_I_onlyOf.erase := by kernel_rfl

theorem v_I_onlyOf {GG : GV} (rcs : List C) {cs : List C} {r : C} {os : List (Option C)} (hN : (cs.length == 2 && rcs.length == 1) = true) (hret : retOf rcs = r)
    (hW : W PP [0, 1, 4, 5, 7, 8, 9, 16] (Tryd.f129.ntmps, pinOf 0 [none, none]) (Valid PP GG) c_I_onlyOf (entry cs) (Fin (Valid PP GG) [(.give, 4, none)] [none, none] rcs os) (fun _ _ => False) (Fin (Valid PP GG) [(.give, 4, none)] [none, none] rcs os)) : Valid PP GG F_I_onlyOf cs r os :=
  fn_valid_n 2 1 [0, 1, 4, 5, 7, 8, 9, 16] c_I_onlyOf [(.give, 4, none)] [none, none] rcs Tryd.func129 rfl rfl (by kernel_rfl) k_I_onlyOf rfl rfl hN hret hW


/-
loop.example/g00705/spec.HeadOf  params 1+0 results [2]
  seq  mid=[1]
    c_S_HeadOf_0
    seq  mid=[1]
      seq  mid=[1, 5]
        c_S_HeadOf_1
        cond (.var 5)
          seq  mid=[2]
            c_S_HeadOf_2
            ret
          skip
      seq  mid=[1]
        seq  mid=[1, 9]
          c_S_HeadOf_3
          cond (.var 9)
            seq  mid=[2]
              c_S_HeadOf_4
              ret
            skip
        seq  mid=[2]
          c_S_HeadOf_5
          ret
-/
def c_S_HeadOf_0 : ACode := .reg [⟨.var 1, .box (.var 0), none, []⟩,
  ⟨.var 2, .mv (.const (.d (.int .i64 0))), none, []⟩] false
def c_S_HeadOf_1 : ACode := .reg [⟨.loc 3, .load true 3 (.var 1), none, []⟩,
  ⟨.loc 4, .call (.fn 18) [(.loc 3)] [.borrow], none, []⟩,
  ⟨.var 5, .un .not (.loc 4), none, []⟩] false
def c_S_HeadOf_2 : ACode := .reg [⟨.var 2, .mv (.const (.d (.int .i64 (-1)))), none, []⟩] false
def c_S_HeadOf_3 : ACode := .reg [⟨.loc 6, .fld 2 (.var 1), none, []⟩,
  ⟨.loc 7, .load false 1 (.loc 6), none, []⟩,
  ⟨.loc 8, .len false (.loc 7), none, []⟩,
  ⟨.var 9, .bin .int .eql (.loc 8) (.const (.d (.int .i64 0))), none, []⟩] false
def c_S_HeadOf_4 : ACode := .reg [⟨.loc 10, .fld 0 (.var 1), none, []⟩,
  ⟨.loc 11, .load false 1 (.loc 10), none, []⟩,
  ⟨.var 2, .mv (.loc 11), none, []⟩] false
def c_S_HeadOf_5 : ACode := .reg [⟨.loc 12, .fld 2 (.var 1), none, []⟩,
  ⟨.loc 13, .load false 1 (.loc 12), none, []⟩,
  ⟨.loc 14, .fld 2 (.var 1), none, []⟩,
  ⟨.loc 15, .load false 1 (.loc 14), none, []⟩,
  ⟨.loc 16, .len false (.loc 15), none, []⟩,
  ⟨.loc 17, .bin .int .sub (.loc 16) (.const (.d (.int .i64 1))), none, []⟩,
  ⟨.loc 18, .idxA 7 (.loc 13) (.loc 17), none, []⟩,
  ⟨.loc 19, .fld 6 (.loc 18), none, []⟩,
  ⟨.loc 20, .load false 1 (.loc 19), none, []⟩,
  ⟨.var 2, .mv (.loc 20), none, []⟩] false
def c_S_HeadOf : ACode := (.seq c_S_HeadOf_0 (.seq (.seq c_S_HeadOf_1 (.cond (.var 5) (.seq c_S_HeadOf_2 .ret) .skip)) (.seq (.seq c_S_HeadOf_3 (.cond (.var 9) (.seq c_S_HeadOf_4 .ret) .skip)) (.seq c_S_HeadOf_5 .ret))))

abbrev F_S_HeadOf : FuncId := 22

theorem k_S_HeadOf : comp PP (Tryd.f22.ntmps, pinOf 0 [none]) [0, 1, 2, 5, 9] (Tryd.f22.body.getD .skip) = some c_S_HeadOf.erase := by kernel_rfl

theorem v_S_HeadOf {GG : GV} (rcs : List C) {cs : List C} {r : C} {os : List (Option C)} (hN : (cs.length == 1 && rcs.length == 1) = true) (hret : retOf rcs = r)
    (hW : W PP [0, 1, 2, 5, 9] (Tryd.f22.ntmps, pinOf 0 [none]) (Valid PP GG) c_S_HeadOf (entry cs) (Fin (Valid PP GG) [(.give, 2, none)] [none] rcs os) (fun _ _ => False) (Fin (Valid PP GG) [(.give, 2, none)] [none] rcs os)) : Valid PP GG F_S_HeadOf cs r os :=
  fn_valid_n 1 1 [0, 1, 2, 5, 9] c_S_HeadOf [(.give, 2, none)] [none] rcs Tryd.func22 rfl rfl (by kernel_rfl) k_S_HeadOf rfl rfl hN hret hW


/-
loop.example/g00705/impl.HeadOf  params 1+0 results [2]
  seq  mid=[1]
    c_I_HeadOf_0
    seq  mid=[1]
      seq  mid=[1, 5]
        c_I_HeadOf_1
        cond (.var 5)
          seq  mid=[2]
            c_I_HeadOf_2
            ret
          skip
      seq  mid=[2]
        c_I_HeadOf_3
        ret
-/
def c_I_HeadOf_0 : ACode := .reg [⟨.var 1, .box (.var 0), none, []⟩,
  ⟨.var 2, .mv (.const (.d (.int .i64 0))), none, []⟩] false
def c_I_HeadOf_1 : ACode := .reg [⟨.loc 3, .load true 3 (.var 1), none, []⟩,
  ⟨.loc 4, .call (.fn 55) [(.loc 3)] [.borrow], none, []⟩,
  ⟨.var 5, .un .not (.loc 4), none, []⟩] false
def c_I_HeadOf_2 : ACode := .reg [⟨.var 2, .mv (.const (.d (.int .i64 (-1)))), none, []⟩] false
def c_I_HeadOf_3 : ACode := .reg [⟨.loc 6, .load true 3 (.var 1), none, []⟩,
  ⟨.loc 7, .call (.fn 57) [(.loc 6)] [.borrow], none, []⟩,
  ⟨.var 2, .mv (.loc 7), none, []⟩] false
def c_I_HeadOf : ACode := (.seq c_I_HeadOf_0 (.seq (.seq c_I_HeadOf_1 (.cond (.var 5) (.seq c_I_HeadOf_2 .ret) .skip)) (.seq c_I_HeadOf_3 .ret)))

abbrev F_I_HeadOf : FuncId := 23

theorem k_I_HeadOf : comp PP (Tryd.f23.ntmps, pinOf 0 [none]) [0, 1, 2, 5] (Tryd.f23.body.getD .skip) = some c_I_HeadOf.erase := by kernel_rfl

theorem v_I_HeadOf {GG : GV} (rcs : List C) {cs : List C} {r : C} {os : List (Option C)} (hN : (cs.length == 1 && rcs.length == 1) = true) (hret : retOf rcs = r)
    (hW : W PP [0, 1, 2, 5] (Tryd.f23.ntmps, pinOf 0 [none]) (Valid PP GG) c_I_HeadOf (entry cs) (Fin (Valid PP GG) [(.give, 2, none)] [none] rcs os) (fun _ _ => False) (Fin (Valid PP GG) [(.give, 2, none)] [none] rcs os)) : Valid PP GG F_I_HeadOf cs r os :=
  fn_valid_n 1 1 [0, 1, 2, 5] c_I_HeadOf [(.give, 2, none)] [none] rcs Tryd.func23 rfl rfl (by kernel_rfl) k_I_HeadOf rfl rfl hN hret hW


/-
loop.example/g00705/impl.headOf  params 1+0 results [2]
  seq  mid=[1]
    c_I_headOf_0
    seq  mid=[1]
      seq  mid=[1, 6]
        c_I_headOf_1
        cond (.var 6)
          seq  mid=[2]
            c_I_headOf_2
            ret
          skip
      seq  mid=[2]
        c_I_headOf_3
        ret
-/
def c_I_headOf_0 : ACode := .reg [⟨.var 1, .box (.var 0), none, []⟩,
  ⟨.var 2, .mv (.const (.d (.int .i64 0))), none, []⟩] false
def c_I_headOf_1 : ACode := .reg [⟨.loc 3, .fld 2 (.var 1), none, []⟩,
  ⟨.loc 4, .load false 1 (.loc 3), none, []⟩,
  ⟨.loc 5, .len false (.loc 4), none, []⟩,
  ⟨.var 6, .bin .int .eql (.loc 5) (.const (.d (.int .i64 0))), none, []⟩] false
def c_I_headOf_2 : ACode := .reg [⟨.loc 7, .fld 0 (.var 1), none, []⟩,
  ⟨.loc 8, .load false 1 (.loc 7), none, []⟩,
  ⟨.var 2, .mv (.loc 8), none, []⟩] false
def c_I_headOf_3 : ACode := .reg [⟨.loc 9, .fld 2 (.var 1), none, []⟩,
  ⟨.loc 10, .load false 1 (.loc 9), none, []⟩,
  ⟨.loc 11, .fld 2 (.var 1), none, []⟩,
  ⟨.loc 12, .load false 1 (.loc 11), none, []⟩,
  ⟨.loc 13, .len false (.loc 12), none, []⟩,
  ⟨.loc 14, .bin .int .sub (.loc 13) (.const (.d (.int .i64 1))), none, []⟩,
  ⟨.loc 15, .idxA 7 (.loc 10) (.loc 14), none, []⟩,
  ⟨.loc 16, .fld 6 (.loc 15), none, []⟩,
  ⟨.loc 17, .load false 1 (.loc 16), none, []⟩,
  ⟨.var 2, .mv (.loc 17), none, []⟩] false
def c_I_headOf : ACode := (.seq c_I_headOf_0 (.seq (.seq c_I_headOf_1 (.cond (.var 6) (.seq c_I_headOf_2 .ret) .skip)) (.seq c_I_headOf_3 .ret)))

abbrev F_I_headOf : FuncId := 57

theorem k_I_headOf : comp PP (Tryd.f57.ntmps, pinOf 0 [none]) [0, 1, 2, 6] (Tryd.f57.body.getD .skip) = some c_I_headOf.erase := by kernel_rfl

theorem v_I_headOf {GG : GV} (rcs : List C) {cs : List C} {r : C} {os : List (Option C)} (hN : (cs.length == 1 && rcs.length == 1) = true) (hret : retOf rcs = r)
    (hW : W PP [0, 1, 2, 6] (Tryd.f57.ntmps, pinOf 0 [none]) (Valid PP GG) c_I_headOf (entry cs) (Fin (Valid PP GG) [(.give, 2, none)] [none] rcs os) (fun _ _ => False) (Fin (Valid PP GG) [(.give, 2, none)] [none] rcs os)) : Valid PP GG F_I_headOf cs r os :=
  fn_valid_n 1 1 [0, 1, 2, 6] c_I_headOf [(.give, 2, none)] [none] rcs Tryd.func57 rfl rfl (by kernel_rfl) k_I_headOf rfl rfl hN hret hW


/-
loop.example/g00705/spec.NotesOf  params 2+0 results [4]
  seq  mid=[1, 2]
    c_S_NotesOf_0
    seq  mid=[1, 2, 5]
      c_S_NotesOf_1
      seq  mid=[1, 2, 5]
        seq  mid=[1, 2, 5, 10]
          c_S_NotesOf_2
          cond (.var 10)
            seq  mid=[4]
              c_S_NotesOf_3
              ret
            skip
        seq  mid=[5]
          seq  mid=[1, 2, 5, 6]
            c_S_NotesOf_4
            block 0
              loop live=[1, 2, 5, 6]
                seq  mid=[1, 2, 5, 6]
                  seq  mid=[1, 2, 5, 6, 15]
                    c_S_NotesOf_5
                    cond (.var 15)
                      skip
                      exit 0
                  seq  mid=[1, 2, 5, 6]
                    block 1
                      seq  mid=[1, 2, 5, 6, 25]
                        c_S_NotesOf_6
                        cond (.var 25)
                          c_S_NotesOf_7
                          skip
                    c_S_NotesOf_8
          seq  mid=[4]
            c_S_NotesOf_10
            ret
-/
def c_S_NotesOf_0 : ACode := .reg [⟨.var 2, .box (.var 0), none, []⟩,
  ⟨.var 4, .mv (.const (.nil 0 1)), none, []⟩] false
def c_S_NotesOf_1 : ACode := .reg [⟨.loc 7, .lit 0 1 0 [.int .i64 0] [], none, []⟩,
  ⟨.var 5, .mv (.loc 7), none, []⟩] false
def c_S_NotesOf_2 : ACode := .reg [⟨.loc 8, .load true 3 (.var 2), none, []⟩,
  ⟨.loc 9, .call (.fn 18) [(.loc 8)] [.borrow], none, []⟩,
  ⟨.var 10, .un .not (.loc 9), none, []⟩] false
def c_S_NotesOf_3 : ACode := .reg [⟨.var 4, .mv (.const (.nil 0 1)), none, []⟩] false
def c_S_NotesOf_4 : ACode := .reg [⟨.var 6, .mv (.const (.d (.int .i64 0))), none, []⟩] false
def c_S_NotesOf_5 : ACode := .reg [⟨.loc 11, .mv (.var 6), none, []⟩,
  ⟨.loc 12, .fld 2 (.var 2), none, []⟩,
  ⟨.loc 13, .load false 1 (.loc 12), none, []⟩,
  ⟨.loc 14, .len false (.loc 13), none, []⟩,
  ⟨.var 15, .bin .int .lss (.loc 11) (.loc 14), none, []⟩] false
def c_S_NotesOf_6 : ACode := .reg [⟨.loc 18, .fld 2 (.var 2), none, []⟩,
  ⟨.loc 19, .load false 1 (.loc 18), none, []⟩,
  ⟨.loc 20, .mv (.var 6), none, []⟩,
  ⟨.loc 21, .idxA 7 (.loc 19) (.loc 20), none, []⟩,
  ⟨.loc 22, .fld 2 (.loc 21), none, []⟩,
  ⟨.loc 23, .load false 1 (.loc 22), none, []⟩,
  ⟨.loc 24, .mv (.var 1), none, []⟩,
  ⟨.var 25, .bin .int .eql (.loc 23) (.loc 24), none, []⟩] false
def c_S_NotesOf_7 : ACode := .reg [⟨.loc 26, .mv (.var 5), none, []⟩,
  ⟨.loc 27, .fld 2 (.var 2), none, []⟩,
  ⟨.loc 28, .load false 1 (.loc 27), none, []⟩,
  ⟨.loc 29, .mv (.var 6), none, []⟩,
  ⟨.loc 30, .idxA 7 (.loc 28) (.loc 29), none, []⟩,
  ⟨.loc 31, .fld 0 (.loc 30), none, []⟩,
  ⟨.loc 32, .load false 1 (.loc 31), none, []⟩,
  ⟨.loc 33, .lit 0 1 1 [.int .i64 0] [(0, (.loc 32))], none, []⟩,
  ⟨.loc 34, .app 1 8 (.loc 26) (.loc 33), none, []⟩,
  ⟨.var 5, .mv (.loc 34), none, []⟩] false
def c_S_NotesOf_8 : ACode := .reg [⟨.loc 16, .mv (.var 6), none, []⟩,
  ⟨.loc 17, .bin .int .add (.loc 16) (.const (.d (.int .i64 1))), none, []⟩,
  ⟨.var 6, .mv (.loc 17), none, []⟩] false
def c_S_NotesOf_9 : ACode := (.seq (.seq c_S_NotesOf_5 (.cond (.var 15) .skip (.exit 0))) (.seq (.block 1 (.seq c_S_NotesOf_6 (.cond (.var 25) c_S_NotesOf_7 .skip))) c_S_NotesOf_8))
def c_S_NotesOf_10 : ACode := .reg [⟨.loc 35, .mv (.var 5), none, []⟩,
  ⟨.var 4, .mv (.loc 35), none, []⟩] false
def c_S_NotesOf : ACode := (.seq c_S_NotesOf_0 (.seq c_S_NotesOf_1 (.seq (.seq c_S_NotesOf_2 (.cond (.var 10) (.seq c_S_NotesOf_3 .ret) .skip)) (.seq (.seq c_S_NotesOf_4 (.block 0 (.loop [1, 2, 5, 6] c_S_NotesOf_9))) (.seq c_S_NotesOf_10 .ret)))))

abbrev F_S_NotesOf : FuncId := 29

theorem k_S_NotesOf : comp PP (Tryd.f29.ntmps, pinOf 0 [none, none]) [0, 1, 2, 4, 5, 6, 10, 15, 25] (Tryd.f29.body.getD .skip) = some c_S_NotesOf.erase := by kernel_rfl

theorem v_S_NotesOf {GG : GV} (rcs : List C) {cs : List C} {r : C} {os : List (Option C)} (hN : (cs.length == 2 && rcs.length == 1) = true) (hret : retOf rcs = r)
    (hW : W PP [0, 1, 2, 4, 5, 6, 10, 15, 25] (Tryd.f29.ntmps, pinOf 0 [none, none]) (Valid PP GG) c_S_NotesOf (entry cs) (Fin (Valid PP GG) [(.give, 4, none)] [none, none] rcs os) (fun _ _ => False) (Fin (Valid PP GG) [(.give, 4, none)] [none, none] rcs os)) : Valid PP GG F_S_NotesOf cs r os :=
  fn_valid_n 2 1 [0, 1, 2, 4, 5, 6, 10, 15, 25] c_S_NotesOf [(.give, 4, none)] [none, none] rcs Tryd.func29 rfl rfl (by kernel_rfl) k_S_NotesOf rfl rfl hN hret hW


/-
loop.example/g00705/impl.NotesOf  params 2+0 results [4]
  seq  mid=[1, 2]
    c_I_NotesOf_0
    seq  mid=[1, 2]
      seq  mid=[1, 2, 10]
        c_I_NotesOf_1
        cond (.var 10)
          seq  mid=[4]
            c_I_NotesOf_2
            ret
          skip
      seq  mid=[1, 2, 5]
        c_I_NotesOf_3
        seq  mid=[5]
          seq  mid=[1, 5, 12, 13, 14]
            c_I_NotesOf_4
            block 0
              loop live=[1, 5, 12, 13, 14]
                seq  mid=[1, 5, 12, 13, 14, 15]
                  c_I_NotesOf_5
                  seq  mid=[1, 5, 12, 13, 14]
                    cond (.var 15)
                      skip
                      exit 0
                    seq  mid=[1, 5, 12, 13, 14]
                      block 1
                        seq  mid=[1, 5, 7, 12, 13, 14]
                          c_I_NotesOf_6
                          seq  mid=[1, 5, 7, 12, 13, 14, 21]
                            c_I_NotesOf_7
                            cond (.var 21)
                              c_I_NotesOf_8
                              skip
                      c_I_NotesOf_9
          seq  mid=[4]
            c_I_NotesOf_11
            ret
-/
def c_I_NotesOf_0 : ACode := .reg [⟨.var 2, .box (.var 0), none, []⟩,
  ⟨.var 4, .mv (.const (.nil 0 1)), none, []⟩] false
def c_I_NotesOf_1 : ACode := .reg [⟨.loc 8, .load true 3 (.var 2), none, []⟩,
  ⟨.loc 9, .call (.fn 55) [(.loc 8)] [.borrow], none, []⟩,
  ⟨.var 10, .un .not (.loc 9), none, []⟩] false
def c_I_NotesOf_2 : ACode := .reg [⟨.var 4, .mv (.const (.nil 0 1)), none, []⟩] false
def c_I_NotesOf_3 : ACode := .reg [⟨.var 5, .mv (.const (.nil 0 1)), none, []⟩] false
def c_I_NotesOf_4 : ACode := .reg [⟨.loc 11, .fld 2 (.var 2), none, []⟩,
  ⟨.var 12, .load false 1 (.loc 11), none, []⟩,
  ⟨.var 13, .len false (.var 12), none, []⟩,
  ⟨.var 14, .mv (.const (.d (.int .i64 0))), none, []⟩] false
def c_I_NotesOf_5 : ACode := .reg [⟨.var 15, .bin .int .lss (.var 14) (.var 13), none, []⟩] false
def c_I_NotesOf_6 : ACode := .reg [⟨.loc 16, .idxA 7 (.var 12) (.var 14), none, []⟩,
  ⟨.loc 17, .load true 7 (.loc 16), none, []⟩,
  ⟨.var 7, .alloc [.d (.int .i64 0), .d (.int .i64 0), .d (.int .i64 0), .d (.str []), .d (.str []), .d (.int .i64 0), .d (.int .i64 0)], none, []⟩,
  ⟨.none, .store 7 (.var 7) (.loc 17), none, []⟩] false
def c_I_NotesOf_7 : ACode := .reg [⟨.loc 18, .fld 2 (.var 7), none, []⟩,
  ⟨.loc 19, .load false 1 (.loc 18), none, []⟩,
  ⟨.loc 20, .mv (.var 1), none, []⟩,
  ⟨.var 21, .bin .int .eql (.loc 19) (.loc 20), none, []⟩] false
def c_I_NotesOf_8 : ACode := .reg [⟨.loc 22, .mv (.var 5), none, []⟩,
  ⟨.loc 23, .fld 0 (.var 7), none, []⟩,
  ⟨.loc 24, .load false 1 (.loc 23), none, []⟩,
  ⟨.loc 25, .lit 0 1 1 [.int .i64 0] [(0, (.loc 24))], none, []⟩,
  ⟨.loc 26, .app 1 8 (.loc 22) (.loc 25), none, []⟩,
  ⟨.var 5, .mv (.loc 26), none, []⟩] false
def c_I_NotesOf_9 : ACode := .reg [⟨.loc 27, .bin .int .add (.var 14) (.const (.d (.int .i64 1))), none, []⟩,
  ⟨.var 14, .mv (.loc 27), none, []⟩] false
def c_I_NotesOf_10 : ACode := (.seq c_I_NotesOf_5 (.seq (.cond (.var 15) .skip (.exit 0)) (.seq (.block 1 (.seq c_I_NotesOf_6 (.seq c_I_NotesOf_7 (.cond (.var 21) c_I_NotesOf_8 .skip)))) c_I_NotesOf_9)))
def c_I_NotesOf_11 : ACode := .reg [⟨.loc 28, .mv (.var 5), none, []⟩,
  ⟨.var 4, .mv (.loc 28), none, []⟩] false
def c_I_NotesOf : ACode := (.seq c_I_NotesOf_0 (.seq (.seq c_I_NotesOf_1 (.cond (.var 10) (.seq c_I_NotesOf_2 .ret) .skip)) (.seq c_I_NotesOf_3 (.seq (.seq c_I_NotesOf_4 (.block 0 (.loop [1, 5, 12, 13, 14] c_I_NotesOf_10))) (.seq c_I_NotesOf_11 .ret)))))

abbrev F_I_NotesOf : FuncId := 30

theorem k_I_NotesOf : comp PP (Tryd.f30.ntmps, pinOf 0 [none, none]) [0, 1, 2, 4, 5, 7, 10, 12, 13, 14, 15, 21] (Tryd.f30.body.getD .skip) = some c_I_NotesOf.erase := by kernel_rfl

theorem v_I_NotesOf {GG : GV} (rcs : List C) {cs : List C} {r : C} {os : List (Option C)} (hN : (cs.length == 2 && rcs.length == 1) = true) (hret : retOf rcs = r)
    (hW : W PP [0, 1, 2, 4, 5, 7, 10, 12, 13, 14, 15, 21] (Tryd.f30.ntmps, pinOf 0 [none, none]) (Valid PP GG) c_I_NotesOf (entry cs) (Fin (Valid PP GG) [(.give, 4, none)] [none, none] rcs os) (fun _ _ => False) (Fin (Valid PP GG) [(.give, 4, none)] [none, none] rcs os)) : Valid PP GG F_I_NotesOf cs r os :=
  fn_valid_n 2 1 [0, 1, 2, 4, 5, 7, 10, 12, 13, 14, 15, 21] c_I_NotesOf [(.give, 4, none)] [none, none] rcs Tryd.func30 rfl rfl (by kernel_rfl) k_I_NotesOf rfl rfl hN hret hW


/-
loop.example/g00705/laws.FnExactNotesOf  params 2+0 results [4]
  seq  mid=[1, 2]
    c_L_FnExactNotesOf_0
    seq  mid=[1, 2, 5]
      c_L_FnExactNotesOf_1
      seq  mid=[1, 2, 5]
        c_L_FnExactNotesOf_2
        seq  mid=[1, 2]
          seq  mid=[1, 2, 17]
            c_L_FnExactNotesOf_3
            cond (.var 17)
              seq  mid=[4]
                c_L_FnExactNotesOf_4
                ret
              skip
          seq  mid=[1, 2, 6]
            c_L_FnExactNotesOf_5
            seq  mid=[1, 2, 6, 7]
              c_L_FnExactNotesOf_6
              seq  mid=[1, 2, 6, 7, 8]
                c_L_FnExactNotesOf_7
                seq  mid=[1, 2, 6, 7, 8]
                  seq  mid=[1, 2, 6, 7, 8, 30]
                    c_L_FnExactNotesOf_8
                    cond (.var 30)
                      seq  mid=[4]
                        c_L_FnExactNotesOf_9
                        ret
                      skip
                  seq  mid=[1, 2, 6, 7, 8]
                    seq  mid=[1, 2, 6, 7, 8, 35]
                      c_L_FnExactNotesOf_10 DRAW
                      cond (.var 35)
                        seq  mid=[4]
                          c_L_FnExactNotesOf_11
                          ret
                        skip
                    seq  mid=[1, 2, 6, 7, 8, 9]
                      c_L_FnExactNotesOf_12
                      seq  mid=[1, 2, 6, 8, 9]
                        c_L_FnExactNotesOf_13
                        seq  mid=[1, 2, 6, 8]
                          seq  mid=[1, 2, 6, 8, 46]
                            c_L_FnExactNotesOf_14
                            cond (.var 46)
                              seq  mid=[4]
                                c_L_FnExactNotesOf_15
                                ret
                              skip
                          seq  mid=[1, 2, 6, 8, 10]
                            c_L_FnExactNotesOf_16
                            seq  mid=[1, 2, 6, 8, 10]
                              c_L_FnExactNotesOf_17
                              seq  mid=[1, 2, 6, 8, 10, 11]
                                c_L_FnExactNotesOf_18
                                seq  mid=[1, 2, 6, 8, 10, 11]
                                  c_L_FnExactNotesOf_19
                                  seq  mid=[1, 2, 6, 8, 10, 11]
                                    seq  mid=[1, 2, 6, 8, 10, 11, 54]
                                      c_L_FnExactNotesOf_20
                                      cond (.var 54)
                                        seq  mid=[4]
                                          c_L_FnExactNotesOf_21
                                          ret
                                        skip
                                    seq  mid=[1, 2, 6, 8, 10]
                                      seq  mid=[1, 2, 6, 8, 10, 57]
                                        c_L_FnExactNotesOf_22
                                        cond (.var 57)
                                          seq  mid=[4]
                                            c_L_FnExactNotesOf_23
                                            ret
                                          skip
                                      seq  mid=[6, 8, 10, 12]
                                        c_L_FnExactNotesOf_24
                                        seq  mid=[8, 10]
                                          seq  mid=[8, 10, 65]
                                            c_L_FnExactNotesOf_25
                                            cond (.var 65)
                                              seq  mid=[4]
                                                c_L_FnExactNotesOf_26
                                                ret
                                              skip
                                          seq  mid=[8, 10, 11]
                                            c_L_FnExactNotesOf_27
                                            seq  mid=[10, 11]
                                              c_L_FnExactNotesOf_28
                                              seq  mid=[10, 11]
                                                seq  mid=[10, 11, 70]
                                                  c_L_FnExactNotesOf_29
                                                  cond (.var 70)
                                                    seq  mid=[4]
                                                      c_L_FnExactNotesOf_30
                                                      ret
                                                    skip
                                                seq  mid=[]
                                                  seq  mid=[73]
                                                    c_L_FnExactNotesOf_31
                                                    cond (.var 73)
                                                      seq  mid=[4]
                                                        c_L_FnExactNotesOf_32
                                                        ret
                                                      skip
                                                  seq  mid=[4]
                                                    c_L_FnExactNotesOf_33
                                                    ret
-/
def c_L_FnExactNotesOf_0 : ACode := .reg [⟨.var 2, .box (.var 0), none, []⟩,
  ⟨.var 4, .mv (.const (.d (.bool false))), none, []⟩] false
def c_L_FnExactNotesOf_1 : ACode := .reg [⟨.var 5, .mv (.const (.d (.int .i64 1048576))), none, []⟩] false
def c_L_FnExactNotesOf_2 : ACode := .reg [⟨.loc 13, .load true 3 (.var 2), none, []⟩,
  ⟨.loc 14, .mv (.var 5), none, []⟩,
  ⟨.loc 15, .call (.fn 17) [(.loc 13), (.loc 14)] [.borrow, .borrow], none, []⟩,
  ⟨.var 5, .mv (.loc 15), none, []⟩] false
def c_L_FnExactNotesOf_3 : ACode := .reg [⟨.loc 16, .mv (.var 5), none, []⟩,
  ⟨.var 17, .bin .int .lss (.loc 16) (.const (.d (.int .i64 0))), none, []⟩] false
def c_L_FnExactNotesOf_4 : ACode := .reg [⟨.var 4, .mv (.const (.d (.bool true))), none, []⟩] false
def c_L_FnExactNotesOf_5 : ACode := .reg [⟨.loc 18, .load true 3 (.var 2), none, []⟩,
  ⟨.loc 19, .call (.fn 19) [(.loc 18)] [.borrow], none, []⟩,
  ⟨.loc 20, .mv (.var 1), none, []⟩,
  ⟨.loc 21, .call (.fn 29) [(.loc 19), (.loc 20)] [.borrow, .borrow], none, []⟩,
  ⟨.var 6, .mv (.loc 21), none, []⟩] false
def c_L_FnExactNotesOf_6 : ACode := .reg [⟨.loc 22, .load true 3 (.var 2), none, []⟩,
  ⟨.loc 23, .call (.fn 19) [(.loc 22)] [.borrow], none, []⟩,
  ⟨.var 7, .alloc [.d (.int .i64 0), .d (.int .i64 0), .nil 0 7], none, []⟩,
  ⟨.none, .store 3 (.var 7) (.loc 23), none, []⟩] false
def c_L_FnExactNotesOf_7 : ACode := .reg [⟨.loc 24, .load true 3 (.var 7), none, []⟩,
  ⟨.loc 25, .mv (.var 1), none, []⟩,
  ⟨.loc 26, .call (.fn 30) [(.loc 24), (.loc 25)] [.borrow, .borrow], none, []⟩,
  ⟨.var 8, .mv (.loc 26), none, []⟩] false
def c_L_FnExactNotesOf_8 : ACode := .reg [⟨.loc 27, .mv (.var 8), none, []⟩,
  ⟨.loc 28, .mv (.var 6), none, []⟩,
  ⟨.loc 29, .call (.fn 31) [(.loc 27), (.loc 28)] [.borrow, .borrow], none, []⟩,
  ⟨.var 30, .un .not (.loc 29), none, []⟩] false
def c_L_FnExactNotesOf_9 : ACode := .reg [⟨.var 4, .mv (.const (.d (.bool false))), none, []⟩] false
def c_L_FnExactNotesOf_10 : ACode := .reg [⟨.loc 31, .load true 3 (.var 7), none, []⟩,
  ⟨.loc 32, .load true 3 (.var 2), none, []⟩,
  ⟨.loc 33, .call (.fn 19) [(.loc 32)] [.borrow], none, [1]⟩,
  ⟨.loc 34, .call (.fn 21) [(.loc 31), (.loc 33)] [.borrow, .borrow], none, [0, 2, 1]⟩,
  ⟨.var 35, .un .not (.loc 34), none, [3, 0, 2, 1]⟩] true
def c_L_FnExactNotesOf_11 : ACode := .reg [⟨.var 4, .mv (.const (.d (.bool false))), none, []⟩] false
def c_L_FnExactNotesOf_12 : ACode := .reg [⟨.var 9, .mv (.const (.d (.int .i64 1))), none, []⟩] false
def c_L_FnExactNotesOf_13 : ACode := .reg [⟨.loc 36, .load true 3 (.var 7), none, []⟩,
  ⟨.loc 37, .mv (.var 9), none, []⟩,
  ⟨.loc 38, .call (.fn 32) [(.loc 36), (.loc 37)] [.lend, .borrow], none, []⟩,
  ⟨.var 9, .mv (.loc 38), none, []⟩] false
def c_L_FnExactNotesOf_14 : ACode := .reg [⟨.loc 39, .mv (.var 9), none, []⟩,
  ⟨.loc 40, .bin .int .lss (.loc 39) (.const (.d (.int .i64 0))), none, []⟩,
  ⟨.loc 41, .split (.loc 40), none, []⟩,
  ⟨.loc 42, .mv (.var 8), some ((.loc 41), false), []⟩,
  ⟨.loc 43, .mv (.var 6), some ((.loc 41), false), []⟩,
  ⟨.loc 44, .call (.fn 31) [(.loc 42), (.loc 43)] [.borrow, .borrow], some ((.loc 41), false), []⟩,
  ⟨.loc 45, .un .not (.loc 44), some ((.loc 41), false), []⟩,
  ⟨.var 46, .pick (.loc 41) (.const (.d (.bool true))) (.loc 45), none, []⟩] false
def c_L_FnExactNotesOf_15 : ACode := .reg [⟨.var 4, .mv (.const (.d (.bool false))), none, []⟩] false
def c_L_FnExactNotesOf_16 : ACode := .reg [⟨.var 10, .mv (.const (.d (.int .i64 1))), none, []⟩] false
def c_L_FnExactNotesOf_17 : ACode := .reg [⟨.loc 47, .mv (.var 8), none, []⟩,
  ⟨.loc 48, .mv (.var 10), none, []⟩,
  ⟨.loc 49, .call (.fn 33) [(.loc 47), (.loc 48)] [.lend, .borrow], none, []⟩,
  ⟨.var 10, .mv (.loc 49), none, []⟩] false
def c_L_FnExactNotesOf_18 : ACode := .reg [⟨.var 11, .mv (.const (.d (.int .i64 1))), none, []⟩] false
def c_L_FnExactNotesOf_19 : ACode := .reg [⟨.loc 50, .mv (.var 8), none, []⟩,
  ⟨.loc 51, .mv (.var 11), none, []⟩,
  ⟨.loc 52, .call (.fn 34) [(.loc 50), (.loc 51)] [.borrow, .borrow], none, []⟩,
  ⟨.var 11, .mv (.loc 52), none, []⟩] false
def c_L_FnExactNotesOf_20 : ACode := .reg [⟨.loc 53, .mv (.var 11), none, []⟩,
  ⟨.var 54, .bin .int .lss (.loc 53) (.const (.d (.int .i64 0))), none, []⟩] false
def c_L_FnExactNotesOf_21 : ACode := .reg [⟨.var 4, .mv (.const (.d (.bool false))), none, []⟩] false
def c_L_FnExactNotesOf_22 : ACode := .reg [⟨.loc 55, .mv (.var 11), none, []⟩,
  ⟨.loc 56, .mv (.var 10), none, []⟩,
  ⟨.var 57, .bin .int .neq (.loc 55) (.loc 56), none, []⟩] false
def c_L_FnExactNotesOf_23 : ACode := .reg [⟨.var 4, .mv (.const (.d (.bool false))), none, []⟩] false
def c_L_FnExactNotesOf_24 : ACode := .reg [⟨.loc 58, .load true 3 (.var 2), none, []⟩,
  ⟨.loc 59, .call (.fn 19) [(.loc 58)] [.borrow], none, []⟩,
  ⟨.loc 60, .mv (.var 1), none, []⟩,
  ⟨.loc 61, .call (.fn 30) [(.loc 59), (.loc 60)] [.borrow, .borrow], none, []⟩,
  ⟨.var 12, .mv (.loc 61), none, []⟩] false
def c_L_FnExactNotesOf_25 : ACode := .reg [⟨.loc 62, .mv (.var 12), none, []⟩,
  ⟨.loc 63, .mv (.var 6), none, []⟩,
  ⟨.loc 64, .call (.fn 31) [(.loc 62), (.loc 63)] [.borrow, .borrow], none, []⟩,
  ⟨.var 65, .un .not (.loc 64), none, []⟩] false
def c_L_FnExactNotesOf_26 : ACode := .reg [⟨.var 4, .mv (.const (.d (.bool false))), none, []⟩] false
def c_L_FnExactNotesOf_27 : ACode := .reg [⟨.var 11, .mv (.const (.d (.int .i64 1))), none, []⟩] false
def c_L_FnExactNotesOf_28 : ACode := .reg [⟨.loc 66, .mv (.var 8), none, []⟩,
  ⟨.loc 67, .mv (.var 11), none, []⟩,
  ⟨.loc 68, .call (.fn 34) [(.loc 66), (.loc 67)] [.borrow, .borrow], none, []⟩,
  ⟨.var 11, .mv (.loc 68), none, []⟩] false
def c_L_FnExactNotesOf_29 : ACode := .reg [⟨.loc 69, .mv (.var 11), none, []⟩,
  ⟨.var 70, .bin .int .lss (.loc 69) (.const (.d (.int .i64 0))), none, []⟩] false
def c_L_FnExactNotesOf_30 : ACode := .reg [⟨.var 4, .mv (.const (.d (.bool false))), none, []⟩] false
def c_L_FnExactNotesOf_31 : ACode := .reg [⟨.loc 71, .mv (.var 11), none, []⟩,
  ⟨.loc 72, .mv (.var 10), none, []⟩,
  ⟨.var 73, .bin .int .neq (.loc 71) (.loc 72), none, []⟩] false
def c_L_FnExactNotesOf_32 : ACode := .reg [⟨.var 4, .mv (.const (.d (.bool false))), none, []⟩] false
def c_L_FnExactNotesOf_33 : ACode := .reg [⟨.var 4, .mv (.const (.d (.bool true))), none, []⟩] false
def c_L_FnExactNotesOf : ACode := (.seq c_L_FnExactNotesOf_0 (.seq c_L_FnExactNotesOf_1 (.seq c_L_FnExactNotesOf_2 (.seq (.seq c_L_FnExactNotesOf_3 (.cond (.var 17) (.seq c_L_FnExactNotesOf_4 .ret) .skip)) (.seq c_L_FnExactNotesOf_5 (.seq c_L_FnExactNotesOf_6 (.seq c_L_FnExactNotesOf_7 (.seq (.seq c_L_FnExactNotesOf_8 (.cond (.var 30) (.seq c_L_FnExactNotesOf_9 .ret) .skip)) (.seq (.seq c_L_FnExactNotesOf_10 (.cond (.var 35) (.seq c_L_FnExactNotesOf_11 .ret) .skip)) (.seq c_L_FnExactNotesOf_12 (.seq c_L_FnExactNotesOf_13 (.seq (.seq c_L_FnExactNotesOf_14 (.cond (.var 46) (.seq c_L_FnExactNotesOf_15 .ret) .skip)) (.seq c_L_FnExactNotesOf_16 (.seq c_L_FnExactNotesOf_17 (.seq c_L_FnExactNotesOf_18 (.seq c_L_FnExactNotesOf_19 (.seq (.seq c_L_FnExactNotesOf_20 (.cond (.var 54) (.seq c_L_FnExactNotesOf_21 .ret) .skip)) (.seq (.seq c_L_FnExactNotesOf_22 (.cond (.var 57) (.seq c_L_FnExactNotesOf_23 .ret) .skip)) (.seq c_L_FnExactNotesOf_24 (.seq (.seq c_L_FnExactNotesOf_25 (.cond (.var 65) (.seq c_L_FnExactNotesOf_26 .ret) .skip)) (.seq c_L_FnExactNotesOf_27 (.seq c_L_FnExactNotesOf_28 (.seq (.seq c_L_FnExactNotesOf_29 (.cond (.var 70) (.seq c_L_FnExactNotesOf_30 .ret) .skip)) (.seq (.seq c_L_FnExactNotesOf_31 (.cond (.var 73) (.seq c_L_FnExactNotesOf_32 .ret) .skip)) (.seq c_L_FnExactNotesOf_33 .ret)))))))))))))))))))))))))

abbrev F_L_FnExactNotesOf : FuncId := 7

theorem k_L_FnExactNotesOf : comp PP (Tryd.f7.ntmps, pinOf 0 [none, none]) [0, 1, 2, 4, 5, 6, 7, 8, 9, 10, 11, 12, 17, 30, 35, 46, 54, 57, 65, 70, 73] (Tryd.f7.body.getD .skip) = some c_L_FnExactNotesOf.erase := by kernel_rfl

theorem v_L_FnExactNotesOf {GG : GV} (rcs : List C) {cs : List C} {r : C} {os : List (Option C)} (hN : (cs.length == 2 && rcs.length == 1) = true) (hret : retOf rcs = r)
    (hW : W PP [0, 1, 2, 4, 5, 6, 7, 8, 9, 10, 11, 12, 17, 30, 35, 46, 54, 57, 65, 70, 73] (Tryd.f7.ntmps, pinOf 0 [none, none]) (Valid PP GG) c_L_FnExactNotesOf (entry cs) (Fin (Valid PP GG) [(.give, 4, none)] [none, none] rcs os) (fun _ _ => False) (Fin (Valid PP GG) [(.give, 4, none)] [none, none] rcs os)) : Valid PP GG F_L_FnExactNotesOf cs r os :=
  fn_valid_n 2 1 [0, 1, 2, 4, 5, 6, 7, 8, 9, 10, 11, 12, 17, 30, 35, 46, 54, 57, 65, 70, 73] c_L_FnExactNotesOf [(.give, 4, none)] [none, none] rcs Tryd.func7 rfl rfl (by kernel_rfl) k_L_FnExactNotesOf rfl rfl hN hret hW


end Go.Proofs.YtpbofdbleajagaaDoor.Ab
