/-
  A part of a proof about the given program; what is proved is said where each theorem stands.
-/
import Derived.Test.YtpbofdbleajagaaDoorFrameA
import Derived.Test.YtpbofdbleajagaaDoorFrameB
import Derived.Test.YtpbofdbleajagaaDoorFrameC
import Derived.Test.YtpbofdbleajagaaDoorFrameD
import Derived.Test.YtpbofdbleajagaaDoorFrameE
import Derived.Test.YtpbofdbleajagaaDoorShelf
import Derived.Test.YtpbofdbleajagaaDoorShelfB
import Derived.Test.YtpbofdbleajagaaDoorCodesM
import Derived.Test.YtpbofdbleajagaaDoorPartA
import Derived.Test.YtpbofdbleajagaaDoorPartB
import Derived.Test.YtpbofdbleajagaaDoorPartC
import Derived.Test.YtpbofdbleajagaaDoorPartD
namespace Go.Proofs.YtpbofdbleajagaaDoor.Ab
open Go.Proofs

/-
loop.example/g00705/laws.FnExactRekeyRack  params 2+0 results [4]
  seq  mid=[1, 2]
    c_L_FnExactRekeyRack_0
    seq  mid=[1, 2, 5]
      c_L_FnExactRekeyRack_1
      seq  mid=[1, 2, 5]
        c_L_FnExactRekeyRack_2
        seq  mid=[1, 2]
          seq  mid=[1, 2, 20]
            c_L_FnExactRekeyRack_3
            cond (.var 20)
              seq  mid=[4]
                c_L_FnExactRekeyRack_4
                ret
              skip
          seq  mid=[1, 2, 6, 7]
            c_L_FnExactRekeyRack_5
            seq  mid=[1, 2, 6, 7, 8]
              c_L_FnExactRekeyRack_6
              seq  mid=[1, 2, 6, 7, 8, 9, 10]
                c_L_FnExactRekeyRack_7
                seq  mid=[1, 2, 6, 7, 8, 9, 10]
                  seq  mid=[1, 2, 6, 7, 8, 9, 10, 44]
                    c_L_FnExactRekeyRack_8
                    cond (.var 44)
                      seq  mid=[4]
                        c_L_FnExactRekeyRack_9
                        ret
                      skip
                  seq  mid=[1, 2, 6, 7, 8, 9, 10]
                    seq  mid=[1, 2, 6, 7, 8, 9, 10, 49]
                      c_L_FnExactRekeyRack_10 DRAW
                      cond (.var 49)
                        seq  mid=[4]
                          c_L_FnExactRekeyRack_11
                          ret
                        skip
                    seq  mid=[1, 2, 6, 7, 8, 9, 10, 11]
                      c_L_FnExactRekeyRack_12
                      seq  mid=[1, 2, 6, 7, 9, 10, 11]
                        c_L_FnExactRekeyRack_13
                        seq  mid=[1, 2, 6, 7, 9]
                          seq  mid=[1, 2, 6, 7, 9, 65]
                            c_L_FnExactRekeyRack_14
                            cond (.var 65)
                              seq  mid=[4]
                                c_L_FnExactRekeyRack_15
                                ret
                              skip
                          seq  mid=[1, 2, 6, 7, 9, 12]
                            c_L_FnExactRekeyRack_16
                            seq  mid=[1, 2, 6, 7, 9, 12]
                              c_L_FnExactRekeyRack_17
                              seq  mid=[1, 2, 6, 7, 9, 12, 13]
                                c_L_FnExactRekeyRack_18
                                seq  mid=[1, 2, 6, 7, 9, 12, 13]
                                  c_L_FnExactRekeyRack_19
                                  seq  mid=[1, 2, 6, 7, 9, 12, 13]
                                    seq  mid=[1, 2, 6, 7, 9, 12, 13, 73]
                                      c_L_FnExactRekeyRack_20
                                      cond (.var 73)
                                        seq  mid=[4]
                                          c_L_FnExactRekeyRack_21
                                          ret
                                        skip
                                    seq  mid=[1, 2, 6, 7, 9, 12]
                                      seq  mid=[1, 2, 6, 7, 9, 12, 76]
                                        c_L_FnExactRekeyRack_22
                                        cond (.var 76)
                                          seq  mid=[4]
                                            c_L_FnExactRekeyRack_23
                                            ret
                                          skip
                                      seq  mid=[6, 7, 9, 12, 14, 15]
                                        c_L_FnExactRekeyRack_24
                                        seq  mid=[9, 12]
                                          seq  mid=[9, 12, 92]
                                            c_L_FnExactRekeyRack_25
                                            cond (.var 92)
                                              seq  mid=[4]
                                                c_L_FnExactRekeyRack_26
                                                ret
                                              skip
                                          seq  mid=[9, 12, 13]
                                            c_L_FnExactRekeyRack_27
                                            seq  mid=[12, 13]
                                              c_L_FnExactRekeyRack_28
                                              seq  mid=[12, 13]
                                                seq  mid=[12, 13, 97]
                                                  c_L_FnExactRekeyRack_29
                                                  cond (.var 97)
                                                    seq  mid=[4]
                                                      c_L_FnExactRekeyRack_30
                                                      ret
                                                    skip
                                                seq  mid=[]
                                                  seq  mid=[100]
                                                    c_L_FnExactRekeyRack_31
                                                    cond (.var 100)
                                                      seq  mid=[4]
                                                        c_L_FnExactRekeyRack_32
                                                        ret
                                                      skip
                                                  seq  mid=[4]
                                                    c_L_FnExactRekeyRack_33
                                                    ret
-/
def c_L_FnExactRekeyRack_0 : ACode := .reg [⟨.var 2, .box (.var 0), none, []⟩,
  ⟨.var 4, .mv (.const (.d (.bool false))), none, []⟩] false
def c_L_FnExactRekeyRack_1 : ACode := .reg [⟨.var 5, .mv (.const (.d (.int .i64 1048576))), none, []⟩] false
def c_L_FnExactRekeyRack_2 : ACode := .reg [⟨.loc 16, .load true 3 (.var 2), none, []⟩,
  ⟨.loc 17, .mv (.var 5), none, []⟩,
  ⟨.loc 18, .call (.fn 24) [(.loc 16), (.loc 17)] [.borrow, .borrow], none, []⟩,
  ⟨.var 5, .mv (.loc 18), none, []⟩] false
def c_L_FnExactRekeyRack_3 : ACode := .reg [⟨.loc 19, .mv (.var 5), none, []⟩,
  ⟨.var 20, .bin .int .lss (.loc 19) (.const (.d (.int .i64 0))), none, []⟩] false
def c_L_FnExactRekeyRack_4 : ACode := .reg [⟨.var 4, .mv (.const (.d (.bool true))), none, []⟩] false
def c_L_FnExactRekeyRack_5 : ACode := .reg [⟨.loc 22, .load true 3 (.var 2), none, []⟩,
  ⟨.loc 23, .call (.fn 26) [(.loc 22)] [.borrow], none, []⟩,
  ⟨.loc 24, .mv (.var 1), none, []⟩,
  ⟨.loc 25, .call (.fn 44) [(.loc 23), (.loc 24)] [.borrow, .borrow], none, []⟩,
  ⟨.loc 21, .mv (.loc 25), none, []⟩,
  ⟨.loc 26, .ext (.loc 21) 0, none, []⟩,
  ⟨.loc 27, .ext (.loc 21) 1, none, []⟩,
  ⟨.var 6, .alloc [.d (.int .i64 0), .d (.int .i64 0), .nil 1 6], none, []⟩,
  ⟨.none, .store 3 (.var 6) (.loc 26), none, []⟩,
  ⟨.var 7, .mv (.loc 27), none, []⟩] false
def c_L_FnExactRekeyRack_6 : ACode := .reg [⟨.loc 28, .load true 3 (.var 2), none, []⟩,
  ⟨.loc 29, .call (.fn 26) [(.loc 28)] [.borrow], none, []⟩,
  ⟨.var 8, .alloc [.d (.int .i64 0), .d (.int .i64 0), .nil 1 6], none, []⟩,
  ⟨.none, .store 3 (.var 8) (.loc 29), none, []⟩] false
def c_L_FnExactRekeyRack_7 : ACode := .reg [⟨.loc 31, .load true 3 (.var 8), none, []⟩,
  ⟨.loc 32, .mv (.var 1), none, []⟩,
  ⟨.loc 33, .call (.fn 45) [(.loc 31), (.loc 32)] [.borrow, .borrow], none, []⟩,
  ⟨.loc 30, .mv (.loc 33), none, []⟩,
  ⟨.loc 34, .ext (.loc 30) 0, none, []⟩,
  ⟨.loc 35, .ext (.loc 30) 1, none, []⟩,
  ⟨.var 9, .alloc [.d (.int .i64 0), .d (.int .i64 0), .nil 1 6], none, []⟩,
  ⟨.none, .store 3 (.var 9) (.loc 34), none, []⟩,
  ⟨.var 10, .mv (.loc 35), none, []⟩] false
def c_L_FnExactRekeyRack_8 : ACode := .reg [⟨.loc 36, .load true 3 (.var 9), none, []⟩,
  ⟨.loc 37, .load true 3 (.var 6), none, []⟩,
  ⟨.loc 38, .call (.fn 28) [(.loc 36), (.loc 37)] [.borrow, .borrow], none, []⟩,
  ⟨.loc 39, .un .not (.loc 38), none, []⟩,
  ⟨.loc 40, .split (.loc 39), none, []⟩,
  ⟨.loc 41, .mv (.var 10), some ((.loc 40), false), []⟩,
  ⟨.loc 42, .mv (.var 7), some ((.loc 40), false), []⟩,
  ⟨.loc 43, .bin .bool .neq (.loc 41) (.loc 42), some ((.loc 40), false), []⟩,
  ⟨.var 44, .pick (.loc 40) (.const (.d (.bool true))) (.loc 43), none, []⟩] false
def c_L_FnExactRekeyRack_9 : ACode := .reg [⟨.var 4, .mv (.const (.d (.bool false))), none, []⟩] false
def c_L_FnExactRekeyRack_10 : ACode := .reg [⟨.loc 45, .load true 3 (.var 8), none, []⟩,
  ⟨.loc 46, .load true 3 (.var 2), none, []⟩,
  ⟨.loc 47, .call (.fn 26) [(.loc 46)] [.borrow], none, [1]⟩,
  ⟨.loc 48, .call (.fn 28) [(.loc 45), (.loc 47)] [.borrow, .borrow], none, [0, 2, 1]⟩,
  ⟨.var 49, .un .not (.loc 48), none, [3, 0, 2, 1]⟩] true
def c_L_FnExactRekeyRack_11 : ACode := .reg [⟨.var 4, .mv (.const (.d (.bool false))), none, []⟩] false
def c_L_FnExactRekeyRack_12 : ACode := .reg [⟨.var 11, .mv (.const (.d (.int .i64 1))), none, []⟩] false
def c_L_FnExactRekeyRack_13 : ACode := .reg [⟨.loc 50, .load true 3 (.var 8), none, []⟩,
  ⟨.loc 51, .mv (.var 11), none, []⟩,
  ⟨.loc 52, .call (.fn 37) [(.loc 50), (.loc 51)] [.lend, .borrow], none, []⟩,
  ⟨.var 11, .mv (.loc 52), none, []⟩] false
def c_L_FnExactRekeyRack_14 : ACode := .reg [⟨.loc 53, .mv (.var 11), none, []⟩,
  ⟨.loc 54, .bin .int .lss (.loc 53) (.const (.d (.int .i64 0))), none, []⟩,
  ⟨.loc 55, .split (.loc 54), none, []⟩,
  ⟨.loc 56, .load true 3 (.var 9), some ((.loc 55), false), []⟩,
  ⟨.loc 57, .load true 3 (.var 6), some ((.loc 55), false), []⟩,
  ⟨.loc 58, .call (.fn 28) [(.loc 56), (.loc 57)] [.borrow, .borrow], some ((.loc 55), false), []⟩,
  ⟨.loc 59, .un .not (.loc 58), some ((.loc 55), false), []⟩,
  ⟨.loc 60, .pick (.loc 55) (.const (.d (.bool true))) (.loc 59), none, []⟩,
  ⟨.loc 61, .split (.loc 60), none, []⟩,
  ⟨.loc 62, .mv (.var 10), some ((.loc 61), false), []⟩,
  ⟨.loc 63, .mv (.var 7), some ((.loc 61), false), []⟩,
  ⟨.loc 64, .bin .bool .neq (.loc 62) (.loc 63), some ((.loc 61), false), []⟩,
  ⟨.var 65, .pick (.loc 61) (.const (.d (.bool true))) (.loc 64), none, []⟩] false
def c_L_FnExactRekeyRack_15 : ACode := .reg [⟨.var 4, .mv (.const (.d (.bool false))), none, []⟩] false
def c_L_FnExactRekeyRack_16 : ACode := .reg [⟨.var 12, .mv (.const (.d (.int .i64 1))), none, []⟩] false
def c_L_FnExactRekeyRack_17 : ACode := .reg [⟨.loc 66, .load true 3 (.var 9), none, []⟩,
  ⟨.loc 67, .mv (.var 12), none, []⟩,
  ⟨.loc 68, .call (.fn 37) [(.loc 66), (.loc 67)] [.lend, .borrow], none, []⟩,
  ⟨.var 12, .mv (.loc 68), none, []⟩] false
def c_L_FnExactRekeyRack_18 : ACode := .reg [⟨.var 13, .mv (.const (.d (.int .i64 1))), none, []⟩] false
def c_L_FnExactRekeyRack_19 : ACode := .reg [⟨.loc 69, .load true 3 (.var 9), none, []⟩,
  ⟨.loc 70, .mv (.var 13), none, []⟩,
  ⟨.loc 71, .call (.fn 38) [(.loc 69), (.loc 70)] [.borrow, .borrow], none, []⟩,
  ⟨.var 13, .mv (.loc 71), none, []⟩] false
def c_L_FnExactRekeyRack_20 : ACode := .reg [⟨.loc 72, .mv (.var 13), none, []⟩,
  ⟨.var 73, .bin .int .lss (.loc 72) (.const (.d (.int .i64 0))), none, []⟩] false
def c_L_FnExactRekeyRack_21 : ACode := .reg [⟨.var 4, .mv (.const (.d (.bool false))), none, []⟩] false
def c_L_FnExactRekeyRack_22 : ACode := .reg [⟨.loc 74, .mv (.var 13), none, []⟩,
  ⟨.loc 75, .mv (.var 12), none, []⟩,
  ⟨.var 76, .bin .int .neq (.loc 74) (.loc 75), none, []⟩] false
def c_L_FnExactRekeyRack_23 : ACode := .reg [⟨.var 4, .mv (.const (.d (.bool false))), none, []⟩] false
def c_L_FnExactRekeyRack_24 : ACode := .reg [⟨.loc 78, .load true 3 (.var 2), none, []⟩,
  ⟨.loc 79, .call (.fn 26) [(.loc 78)] [.borrow], none, []⟩,
  ⟨.loc 80, .mv (.var 1), none, []⟩,
  ⟨.loc 81, .call (.fn 45) [(.loc 79), (.loc 80)] [.borrow, .borrow], none, []⟩,
  ⟨.loc 77, .mv (.loc 81), none, []⟩,
  ⟨.loc 82, .ext (.loc 77) 0, none, []⟩,
  ⟨.loc 83, .ext (.loc 77) 1, none, []⟩,
  ⟨.var 14, .alloc [.d (.int .i64 0), .d (.int .i64 0), .nil 1 6], none, []⟩,
  ⟨.none, .store 3 (.var 14) (.loc 82), none, []⟩,
  ⟨.var 15, .mv (.loc 83), none, []⟩] false
def c_L_FnExactRekeyRack_25 : ACode := .reg [⟨.loc 84, .load true 3 (.var 14), none, []⟩,
  ⟨.loc 85, .load true 3 (.var 6), none, []⟩,
  ⟨.loc 86, .call (.fn 28) [(.loc 84), (.loc 85)] [.borrow, .borrow], none, []⟩,
  ⟨.loc 87, .un .not (.loc 86), none, []⟩,
  ⟨.loc 88, .split (.loc 87), none, []⟩,
  ⟨.loc 89, .mv (.var 15), some ((.loc 88), false), []⟩,
  ⟨.loc 90, .mv (.var 7), some ((.loc 88), false), []⟩,
  ⟨.loc 91, .bin .bool .neq (.loc 89) (.loc 90), some ((.loc 88), false), []⟩,
  ⟨.var 92, .pick (.loc 88) (.const (.d (.bool true))) (.loc 91), none, []⟩] false
def c_L_FnExactRekeyRack_26 : ACode := .reg [⟨.var 4, .mv (.const (.d (.bool false))), none, []⟩] false
def c_L_FnExactRekeyRack_27 : ACode := .reg [⟨.var 13, .mv (.const (.d (.int .i64 1))), none, []⟩] false
def c_L_FnExactRekeyRack_28 : ACode := .reg [⟨.loc 93, .load true 3 (.var 9), none, []⟩,
  ⟨.loc 94, .mv (.var 13), none, []⟩,
  ⟨.loc 95, .call (.fn 38) [(.loc 93), (.loc 94)] [.borrow, .borrow], none, []⟩,
  ⟨.var 13, .mv (.loc 95), none, []⟩] false
def c_L_FnExactRekeyRack_29 : ACode := .reg [⟨.loc 96, .mv (.var 13), none, []⟩,
  ⟨.var 97, .bin .int .lss (.loc 96) (.const (.d (.int .i64 0))), none, []⟩] false
def c_L_FnExactRekeyRack_30 : ACode := .reg [⟨.var 4, .mv (.const (.d (.bool false))), none, []⟩] false
def c_L_FnExactRekeyRack_31 : ACode := .reg [⟨.loc 98, .mv (.var 13), none, []⟩,
  ⟨.loc 99, .mv (.var 12), none, []⟩,
  ⟨.var 100, .bin .int .neq (.loc 98) (.loc 99), none, []⟩] false
def c_L_FnExactRekeyRack_32 : ACode := .reg [⟨.var 4, .mv (.const (.d (.bool false))), none, []⟩] false
def c_L_FnExactRekeyRack_33 : ACode := .reg [⟨.var 4, .mv (.const (.d (.bool true))), none, []⟩] false
def c_L_FnExactRekeyRack : ACode := (.seq c_L_FnExactRekeyRack_0 (.seq c_L_FnExactRekeyRack_1 (.seq c_L_FnExactRekeyRack_2 (.seq (.seq c_L_FnExactRekeyRack_3 (.cond (.var 20) (.seq c_L_FnExactRekeyRack_4 .ret) .skip)) (.seq c_L_FnExactRekeyRack_5 (.seq c_L_FnExactRekeyRack_6 (.seq c_L_FnExactRekeyRack_7 (.seq (.seq c_L_FnExactRekeyRack_8 (.cond (.var 44) (.seq c_L_FnExactRekeyRack_9 .ret) .skip)) (.seq (.seq c_L_FnExactRekeyRack_10 (.cond (.var 49) (.seq c_L_FnExactRekeyRack_11 .ret) .skip)) (.seq c_L_FnExactRekeyRack_12 (.seq c_L_FnExactRekeyRack_13 (.seq (.seq c_L_FnExactRekeyRack_14 (.cond (.var 65) (.seq c_L_FnExactRekeyRack_15 .ret) .skip)) (.seq c_L_FnExactRekeyRack_16 (.seq c_L_FnExactRekeyRack_17 (.seq c_L_FnExactRekeyRack_18 (.seq c_L_FnExactRekeyRack_19 (.seq (.seq c_L_FnExactRekeyRack_20 (.cond (.var 73) (.seq c_L_FnExactRekeyRack_21 .ret) .skip)) (.seq (.seq c_L_FnExactRekeyRack_22 (.cond (.var 76) (.seq c_L_FnExactRekeyRack_23 .ret) .skip)) (.seq c_L_FnExactRekeyRack_24 (.seq (.seq c_L_FnExactRekeyRack_25 (.cond (.var 92) (.seq c_L_FnExactRekeyRack_26 .ret) .skip)) (.seq c_L_FnExactRekeyRack_27 (.seq c_L_FnExactRekeyRack_28 (.seq (.seq c_L_FnExactRekeyRack_29 (.cond (.var 97) (.seq c_L_FnExactRekeyRack_30 .ret) .skip)) (.seq (.seq c_L_FnExactRekeyRack_31 (.cond (.var 100) (.seq c_L_FnExactRekeyRack_32 .ret) .skip)) (.seq c_L_FnExactRekeyRack_33 .ret)))))))))))))))))))))))))

abbrev F_L_FnExactRekeyRack : FuncId := 11

theorem k_L_FnExactRekeyRack : comp PP (Tryd.f11.ntmps, pinOf 0 [none, none]) [0, 1, 2, 4, 5, 6, 7, 8, 9, 10, 11, 12, 13, 14, 15, 20, 44, 49, 65, 73, 76, 92, 97, 100] (Tryd.f11.body.getD .skip) = some c_L_FnExactRekeyRack.erase := by kernel_rfl

theorem v_L_FnExactRekeyRack {GG : GV} (rcs : List C) {cs : List C} {r : C} {os : List (Option C)} (hN : (cs.length == 2 && rcs.length == 1) = true) (hret : retOf rcs = r)
    (hW : W PP [0, 1, 2, 4, 5, 6, 7, 8, 9, 10, 11, 12, 13, 14, 15, 20, 44, 49, 65, 73, 76, 92, 97, 100] (Tryd.f11.ntmps, pinOf 0 [none, none]) (Valid PP GG) c_L_FnExactRekeyRack (entry cs) (Fin (Valid PP GG) [(.give, 4, none)] [none, none] rcs os) (fun _ _ => False) (Fin (Valid PP GG) [(.give, 4, none)] [none, none] rcs os)) : Valid PP GG F_L_FnExactRekeyRack cs r os :=
  fn_valid_n 2 1 [0, 1, 2, 4, 5, 6, 7, 8, 9, 10, 11, 12, 13, 14, 15, 20, 44, 49, 65, 73, 76, 92, 97, 100] c_L_FnExactRekeyRack [(.give, 4, none)] [none, none] rcs Tryd.func11 rfl rfl (by kernel_rfl) k_L_FnExactRekeyRack rfl rfl hN hret hW


/-
loop.example/g00705/spec.RekeyRack  params 2+0 results [4, 5]
  seq  mid=[1, 2, 4]
    c_S_RekeyRack_0
    seq  mid=[1, 2, 4]
      seq  mid=[1, 2, 4, 18]
        c_S_RekeyRack_1
        cond (.var 18)
          seq  mid=[4, 5]
            c_S_RekeyRack_2
            ret
          skip
      seq  mid=[1, 2, 4, 6]
        c_S_RekeyRack_3
        seq  mid=[4, 6]
          seq  mid=[1, 2, 4, 6, 7]
            c_S_RekeyRack_4
            block 0
              loop live=[1, 2, 4, 6, 7]
                seq  mid=[1, 2, 4, 6, 7]
                  seq  mid=[1, 2, 4, 6, 7, 29]
                    c_S_RekeyRack_5
                    cond (.var 29)
                      skip
                      exit 0
                  seq  mid=[1, 2, 4, 6, 7]
                    block 1
                      seq  mid=[1, 2, 4, 6, 7, 8]
                        c_S_RekeyRack_6
                        seq  mid=[1, 2, 4, 6, 7, 8, 9, 10]
                          c_S_RekeyRack_7
                          seq  mid=[1, 2, 4, 6, 7, 8, 9, 45]
                            c_S_RekeyRack_8
                            cond (.var 45)
                              seq  mid=[1, 2, 4, 6, 7, 8]
                                c_S_RekeyRack_9
                                c_S_RekeyRack_10
                              skip
                    c_S_RekeyRack_11
          seq  mid=[4, 5]
            c_S_RekeyRack_13
            ret
-/
def c_S_RekeyRack_0 : ACode := .reg [⟨.var 2, .box (.var 0), none, []⟩,
  ⟨.var 4, .alloc [.d (.int .i64 0), .d (.int .i64 0), .nil 1 6], none, []⟩,
  ⟨.var 5, .mv (.const (.d (.bool false))), none, []⟩] false
def c_S_RekeyRack_1 : ACode := .reg [⟨.loc 11, .load true 3 (.var 2), none, []⟩,
  ⟨.loc 12, .call (.fn 59) [(.loc 11)] [.borrow], none, []⟩,
  ⟨.loc 13, .un .not (.loc 12), none, []⟩,
  ⟨.loc 14, .split (.loc 13), none, []⟩,
  ⟨.loc 15, .mv (.var 1), some ((.loc 14), false), []⟩,
  ⟨.loc 16, .call (.fn 50) [(.loc 15)] [.borrow], some ((.loc 14), false), []⟩,
  ⟨.loc 17, .un .not (.loc 16), some ((.loc 14), false), []⟩,
  ⟨.var 18, .pick (.loc 14) (.const (.d (.bool true))) (.loc 17), none, []⟩] false
def c_S_RekeyRack_2 : ACode := .reg [⟨.loc 19, .load true 3 (.var 2), none, []⟩,
  ⟨.loc 20, .call (.fn 66) [(.loc 19)] [.borrow], none, []⟩,
  ⟨.none, .store 3 (.var 4) (.loc 20), none, []⟩,
  ⟨.var 5, .mv (.const (.d (.bool false))), none, []⟩] false
def c_S_RekeyRack_3 : ACode := .reg [⟨.loc 21, .mv (.var 1), none, []⟩,
  ⟨.loc 22, .fld 1 (.var 2), none, []⟩,
  ⟨.loc 23, .load false 1 (.loc 22), none, []⟩,
  ⟨.loc 24, .build [.d (.int .i64 0), .d (.int .i64 0), .nil 1 6] [(0, 1, (.loc 21)), (1, 1, (.loc 23))], none, []⟩,
  ⟨.var 6, .alloc [.d (.int .i64 0), .d (.int .i64 0), .nil 1 6], none, []⟩,
  ⟨.none, .store 3 (.var 6) (.loc 24), none, []⟩] false
def c_S_RekeyRack_4 : ACode := .reg [⟨.var 7, .mv (.const (.d (.int .i64 0))), none, []⟩] false
def c_S_RekeyRack_5 : ACode := .reg [⟨.loc 25, .mv (.var 7), none, []⟩,
  ⟨.loc 26, .fld 2 (.var 2), none, []⟩,
  ⟨.loc 27, .load false 1 (.loc 26), none, []⟩,
  ⟨.loc 28, .len false (.loc 27), none, []⟩,
  ⟨.var 29, .bin .int .lss (.loc 25) (.loc 28), none, []⟩] false
def c_S_RekeyRack_6 : ACode := .reg [⟨.loc 32, .fld 2 (.var 2), none, []⟩,
  ⟨.loc 33, .load false 1 (.loc 32), none, []⟩,
  ⟨.loc 34, .mv (.var 7), none, []⟩,
  ⟨.loc 35, .idxA 6 (.loc 33) (.loc 34), none, []⟩,
  ⟨.loc 36, .load true 6 (.loc 35), none, []⟩,
  ⟨.var 8, .alloc [.d (.int .i64 0), .d (.int .i64 0), .d (.str []), .d (.int .i64 0), .nil 0 1, .d (.int .i64 0)], none, []⟩,
  ⟨.none, .store 6 (.var 8) (.loc 36), none, []⟩] false
def c_S_RekeyRack_7 : ACode := .reg [⟨.loc 38, .fld 0 (.var 2), none, []⟩,
  ⟨.loc 39, .load false 1 (.loc 38), none, []⟩,
  ⟨.loc 40, .fld 3 (.var 8), none, []⟩,
  ⟨.loc 41, .load true 3 (.loc 40), none, []⟩,
  ⟨.loc 42, .call (.fn 81) [(.loc 39), (.loc 41)] [.borrow, .borrow], none, []⟩,
  ⟨.loc 37, .mv (.loc 42), none, []⟩,
  ⟨.loc 43, .ext (.loc 37) 0, none, []⟩,
  ⟨.loc 44, .ext (.loc 37) 1, none, []⟩,
  ⟨.var 9, .mv (.loc 43), none, []⟩,
  ⟨.var 10, .mv (.loc 44), none, []⟩] false
def c_S_RekeyRack_8 : ACode := .reg [⟨.var 45, .mv (.var 10), none, []⟩] false
def c_S_RekeyRack_9 : ACode := .reg [⟨.loc 47, .mv (.var 1), none, []⟩,
  ⟨.loc 48, .fld 3 (.var 8), none, []⟩,
  ⟨.loc 49, .fld 0 (.loc 48), none, []⟩,
  ⟨.loc 50, .load false 1 (.loc 49), none, []⟩,
  ⟨.loc 51, .mv (.var 9), none, []⟩,
  ⟨.loc 52, .call (.fn 79) [(.loc 47), (.loc 50), (.loc 51)] [.borrow, .borrow, .borrow], none, []⟩,
  ⟨.loc 46, .mv (.loc 52), none, []⟩,
  ⟨.loc 53, .ext (.loc 46) 0, none, []⟩,
  ⟨.loc 54, .ext (.loc 46) 1, none, []⟩,
  ⟨.loc 55, .fld 3 (.var 8), none, []⟩,
  ⟨.none, .store 3 (.loc 55) (.loc 53), none, []⟩] false
def c_S_RekeyRack_10 : ACode := .reg [⟨.loc 56, .fld 2 (.var 6), none, []⟩,
  ⟨.loc 57, .load false 1 (.loc 56), none, []⟩,
  ⟨.loc 58, .load true 6 (.var 8), none, []⟩,
  ⟨.loc 59, .lit 1 6 1 [.int .i64 0, .int .i64 0, .str [], .int .i64 0, .slc 1 [], .int .i64 0] [(0, (.loc 58))], none, []⟩,
  ⟨.loc 60, .app 6 72 (.loc 57) (.loc 59), none, []⟩,
  ⟨.loc 61, .fld 2 (.var 6), none, []⟩,
  ⟨.none, .store 1 (.loc 61) (.loc 60), none, []⟩] false
def c_S_RekeyRack_11 : ACode := .reg [⟨.loc 30, .mv (.var 7), none, []⟩,
  ⟨.loc 31, .bin .int .add (.loc 30) (.const (.d (.int .i64 1))), none, []⟩,
  ⟨.var 7, .mv (.loc 31), none, []⟩] false
def c_S_RekeyRack_12 : ACode := (.seq (.seq c_S_RekeyRack_5 (.cond (.var 29) .skip (.exit 0))) (.seq (.block 1 (.seq c_S_RekeyRack_6 (.seq c_S_RekeyRack_7 (.seq c_S_RekeyRack_8 (.cond (.var 45) (.seq c_S_RekeyRack_9 c_S_RekeyRack_10) .skip))))) c_S_RekeyRack_11))
def c_S_RekeyRack_13 : ACode := .reg [⟨.loc 62, .load true 3 (.var 6), none, []⟩,
  ⟨.none, .store 3 (.var 4) (.loc 62), none, []⟩,
  ⟨.var 5, .mv (.const (.d (.bool true))), none, []⟩] false
def c_S_RekeyRack : ACode := (.seq c_S_RekeyRack_0 (.seq (.seq c_S_RekeyRack_1 (.cond (.var 18) (.seq c_S_RekeyRack_2 .ret) .skip)) (.seq c_S_RekeyRack_3 (.seq (.seq c_S_RekeyRack_4 (.block 0 (.loop [1, 2, 4, 6, 7] c_S_RekeyRack_12))) (.seq c_S_RekeyRack_13 .ret)))))

abbrev F_S_RekeyRack : FuncId := 44

theorem k_S_RekeyRack : comp PP (Tryd.f44.ntmps, pinOf 0 [none, none]) [0, 1, 2, 4, 5, 6, 7, 8, 9, 10, 18, 29, 45] (Tryd.f44.body.getD .skip) = some c_S_RekeyRack.erase := by kernel_rfl

theorem v_S_RekeyRack {GG : GV} (rcs : List C) {cs : List C} {r : C} {os : List (Option C)} (hN : (cs.length == 2 && rcs.length == 2) = true) (hret : retOf rcs = r)
    (hW : W PP [0, 1, 2, 4, 5, 6, 7, 8, 9, 10, 18, 29, 45] (Tryd.f44.ntmps, pinOf 0 [none, none]) (Valid PP GG) c_S_RekeyRack (entry cs) (Fin (Valid PP GG) [(.give, 4, some (true, 3)), (.give, 5, none)] [none, none] rcs os) (fun _ _ => False) (Fin (Valid PP GG) [(.give, 4, some (true, 3)), (.give, 5, none)] [none, none] rcs os)) : Valid PP GG F_S_RekeyRack cs r os :=
  fn_valid_n 2 2 [0, 1, 2, 4, 5, 6, 7, 8, 9, 10, 18, 29, 45] c_S_RekeyRack [(.give, 4, some (true, 3)), (.give, 5, none)] [none, none] rcs Tryd.func44 rfl rfl (by kernel_rfl) k_S_RekeyRack rfl rfl hN hret hW


/-
loop.example/g00705/impl.RekeyRack  params 2+0 results [4, 5]
  seq  mid=[1, 2, 4]
    c_I_RekeyRack_0
    seq  mid=[1, 2, 4]
      seq  mid=[1, 2, 4, 18]
        c_I_RekeyRack_1
        cond (.var 18)
          seq  mid=[4, 5]
            c_I_RekeyRack_2
            ret
          skip
      seq  mid=[1, 2, 4, 6]
        c_I_RekeyRack_3
        seq  mid=[4, 6]
          seq  mid=[1, 2, 4, 6, 26, 27, 28]
            c_I_RekeyRack_4
            block 0
              loop live=[1, 2, 4, 6, 26, 27, 28]
                seq  mid=[1, 2, 4, 6, 26, 27, 28, 29]
                  c_I_RekeyRack_5
                  seq  mid=[1, 2, 4, 6, 26, 27, 28]
                    cond (.var 29)
                      skip
                      exit 0
                    seq  mid=[1, 2, 4, 6, 26, 27, 28]
                      block 1
                        seq  mid=[1, 2, 4, 6, 8, 26, 27, 28]
                          c_I_RekeyRack_6
                          seq  mid=[1, 2, 4, 6, 8, 9, 10, 26, 27, 28]
                            c_I_RekeyRack_7
                            seq  mid=[1, 2, 4, 6, 8, 9, 26, 27, 28, 40]
                              c_I_RekeyRack_8
                              cond (.var 40)
                                seq  mid=[1, 2, 4, 6, 8, 26, 27, 28]
                                  c_I_RekeyRack_9
                                  c_I_RekeyRack_10
                                skip
                      c_I_RekeyRack_11
          seq  mid=[4, 5]
            c_I_RekeyRack_13
            ret
-/
def c_I_RekeyRack_0 : ACode := .reg [⟨.var 2, .box (.var 0), none, []⟩,
  ⟨.var 4, .alloc [.d (.int .i64 0), .d (.int .i64 0), .nil 1 6], none, []⟩,
  ⟨.var 5, .mv (.const (.d (.bool false))), none, []⟩] false
def c_I_RekeyRack_1 : ACode := .reg [⟨.loc 11, .load true 3 (.var 2), none, []⟩,
  ⟨.loc 12, .call (.fn 62) [(.loc 11)] [.borrow], none, []⟩,
  ⟨.loc 13, .un .not (.loc 12), none, []⟩,
  ⟨.loc 14, .split (.loc 13), none, []⟩,
  ⟨.loc 15, .mv (.var 1), some ((.loc 14), false), []⟩,
  ⟨.loc 16, .call (.fn 82) [(.loc 15)] [.borrow], some ((.loc 14), false), []⟩,
  ⟨.loc 17, .un .not (.loc 16), some ((.loc 14), false), []⟩,
  ⟨.var 18, .pick (.loc 14) (.const (.d (.bool true))) (.loc 17), none, []⟩] false
def c_I_RekeyRack_2 : ACode := .reg [⟨.loc 19, .load true 3 (.var 2), none, []⟩,
  ⟨.loc 20, .call (.fn 68) [(.loc 19)] [.borrow], none, []⟩,
  ⟨.none, .store 3 (.var 4) (.loc 20), none, []⟩,
  ⟨.var 5, .mv (.const (.d (.bool false))), none, []⟩] false
def c_I_RekeyRack_3 : ACode := .reg [⟨.loc 21, .mv (.var 1), none, []⟩,
  ⟨.loc 22, .fld 1 (.var 2), none, []⟩,
  ⟨.loc 23, .load false 1 (.loc 22), none, []⟩,
  ⟨.loc 24, .build [.d (.int .i64 0), .d (.int .i64 0), .nil 1 6] [(0, 1, (.loc 21)), (1, 1, (.loc 23))], none, []⟩,
  ⟨.var 6, .alloc [.d (.int .i64 0), .d (.int .i64 0), .nil 1 6], none, []⟩,
  ⟨.none, .store 3 (.var 6) (.loc 24), none, []⟩] false
def c_I_RekeyRack_4 : ACode := .reg [⟨.loc 25, .fld 2 (.var 2), none, []⟩,
  ⟨.var 26, .load false 1 (.loc 25), none, []⟩,
  ⟨.var 27, .len false (.var 26), none, []⟩,
  ⟨.var 28, .mv (.const (.d (.int .i64 0))), none, []⟩] false
def c_I_RekeyRack_5 : ACode := .reg [⟨.var 29, .bin .int .lss (.var 28) (.var 27), none, []⟩] false
def c_I_RekeyRack_6 : ACode := .reg [⟨.loc 30, .idxA 6 (.var 26) (.var 28), none, []⟩,
  ⟨.loc 31, .load true 6 (.loc 30), none, []⟩,
  ⟨.var 8, .alloc [.d (.int .i64 0), .d (.int .i64 0), .d (.str []), .d (.int .i64 0), .nil 0 1, .d (.int .i64 0)], none, []⟩,
  ⟨.none, .store 6 (.var 8) (.loc 31), none, []⟩] false
def c_I_RekeyRack_7 : ACode := .reg [⟨.loc 33, .fld 0 (.var 2), none, []⟩,
  ⟨.loc 34, .load false 1 (.loc 33), none, []⟩,
  ⟨.loc 35, .fld 3 (.var 8), none, []⟩,
  ⟨.loc 36, .load true 3 (.loc 35), none, []⟩,
  ⟨.loc 37, .call (.fn 83) [(.loc 34), (.loc 36)] [.borrow, .borrow], none, []⟩,
  ⟨.loc 32, .mv (.loc 37), none, []⟩,
  ⟨.loc 38, .ext (.loc 32) 0, none, []⟩,
  ⟨.loc 39, .ext (.loc 32) 1, none, []⟩,
  ⟨.var 9, .mv (.loc 38), none, []⟩,
  ⟨.var 10, .mv (.loc 39), none, []⟩] false
def c_I_RekeyRack_8 : ACode := .reg [⟨.var 40, .mv (.var 10), none, []⟩] false
def c_I_RekeyRack_9 : ACode := .reg [⟨.loc 41, .mv (.var 1), none, []⟩,
  ⟨.loc 42, .fld 3 (.var 8), none, []⟩,
  ⟨.loc 43, .fld 0 (.loc 42), none, []⟩,
  ⟨.loc 44, .load false 1 (.loc 43), none, []⟩,
  ⟨.loc 45, .mv (.var 9), none, []⟩,
  ⟨.loc 46, .call (.fn 84) [(.loc 41), (.loc 44), (.loc 45)] [.borrow, .borrow, .borrow], none, []⟩,
  ⟨.loc 47, .fld 3 (.var 8), none, []⟩,
  ⟨.none, .store 3 (.loc 47) (.loc 46), none, []⟩] false
def c_I_RekeyRack_10 : ACode := .reg [⟨.loc 48, .fld 2 (.var 6), none, []⟩,
  ⟨.loc 49, .load false 1 (.loc 48), none, []⟩,
  ⟨.loc 50, .load true 6 (.var 8), none, []⟩,
  ⟨.loc 51, .lit 1 6 1 [.int .i64 0, .int .i64 0, .str [], .int .i64 0, .slc 1 [], .int .i64 0] [(0, (.loc 50))], none, []⟩,
  ⟨.loc 52, .app 6 72 (.loc 49) (.loc 51), none, []⟩,
  ⟨.loc 53, .fld 2 (.var 6), none, []⟩,
  ⟨.none, .store 1 (.loc 53) (.loc 52), none, []⟩] false
def c_I_RekeyRack_11 : ACode := .reg [⟨.loc 54, .bin .int .add (.var 28) (.const (.d (.int .i64 1))), none, []⟩,
  ⟨.var 28, .mv (.loc 54), none, []⟩] false
def c_I_RekeyRack_12 : ACode := (.seq c_I_RekeyRack_5 (.seq (.cond (.var 29) .skip (.exit 0)) (.seq (.block 1 (.seq c_I_RekeyRack_6 (.seq c_I_RekeyRack_7 (.seq c_I_RekeyRack_8 (.cond (.var 40) (.seq c_I_RekeyRack_9 c_I_RekeyRack_10) .skip))))) c_I_RekeyRack_11)))
def c_I_RekeyRack_13 : ACode := .reg [⟨.loc 55, .load true 3 (.var 6), none, []⟩,
  ⟨.none, .store 3 (.var 4) (.loc 55), none, []⟩,
  ⟨.var 5, .mv (.const (.d (.bool true))), none, []⟩] false
def c_I_RekeyRack : ACode := (.seq c_I_RekeyRack_0 (.seq (.seq c_I_RekeyRack_1 (.cond (.var 18) (.seq c_I_RekeyRack_2 .ret) .skip)) (.seq c_I_RekeyRack_3 (.seq (.seq c_I_RekeyRack_4 (.block 0 (.loop [1, 2, 4, 6, 26, 27, 28] c_I_RekeyRack_12))) (.seq c_I_RekeyRack_13 .ret)))))

abbrev F_I_RekeyRack : FuncId := 45

theorem k_I_RekeyRack : comp PP (Tryd.f45.ntmps, pinOf 0 [none, none]) [0, 1, 2, 4, 5, 6, 8, 9, 10, 18, 26, 27, 28, 29, 40] (Tryd.f45.body.getD .skip) = some c_I_RekeyRack.erase := by kernel_rfl

theorem v_I_RekeyRack {GG : GV} (rcs : List C) {cs : List C} {r : C} {os : List (Option C)} (hN : (cs.length == 2 && rcs.length == 2) = true) (hret : retOf rcs = r)
    (hW : W PP [0, 1, 2, 4, 5, 6, 8, 9, 10, 18, 26, 27, 28, 29, 40] (Tryd.f45.ntmps, pinOf 0 [none, none]) (Valid PP GG) c_I_RekeyRack (entry cs) (Fin (Valid PP GG) [(.give, 4, some (true, 3)), (.give, 5, none)] [none, none] rcs os) (fun _ _ => False) (Fin (Valid PP GG) [(.give, 4, some (true, 3)), (.give, 5, none)] [none, none] rcs os)) : Valid PP GG F_I_RekeyRack cs r os :=
  fn_valid_n 2 2 [0, 1, 2, 4, 5, 6, 8, 9, 10, 18, 26, 27, 28, 29, 40] c_I_RekeyRack [(.give, 4, some (true, 3)), (.give, 5, none)] [none, none] rcs Tryd.func45 rfl rfl (by kernel_rfl) k_I_RekeyRack rfl rfl hN hret hW


end Go.Proofs.YtpbofdbleajagaaDoor.Ab
