/-
  A part of a proof about the given program; what is proved is said where each theorem stands.
-/
import Derived.Test.YtpbofdbleajagaaDoorFrameA
import Derived.Test.YtpbofdbleajagaaDoorFrameB
import Derived.Test.YtpbofdbleajagaaDoorFrameC
import Derived.Test.YtpbofdbleajagaaDoorFrameD
import Derived.Test.YtpbofdbleajagaaDoorFrameE
import Derived.Test.YtpbofdbleajagaaDoorShelf
import Derived.Test.YtpbofdbleajagaaDoorShelfB
import Derived.Test.YtpbofdbleajagaaDoorCodesM
import Derived.Test.YtpbofdbleajagaaDoorPartA
import Derived.Test.YtpbofdbleajagaaDoorPartB
import Derived.Test.YtpbofdbleajagaaDoorPartC
import Derived.Test.YtpbofdbleajagaaDoorPartD
namespace Go.Proofs.YtpbofdbleajagaaDoor.Ab
open Go.Proofs

/-
loop.example/g00705/laws.FnExactPutWrap  params 5+0 results [10]
  seq  mid=[1, 2, 3, 4, 5]
    c_L_FnExactPutWrap_0
    seq  mid=[1, 2, 3, 4, 5]
      seq  mid=[1, 2, 3, 4, 5, 28]
        c_L_FnExactPutWrap_1
        cond (.var 28)
          seq  mid=[10]
            c_L_FnExactPutWrap_2
            ret
          skip
      seq  mid=[1, 2, 3, 4, 5]
        seq  mid=[1, 2, 3, 4, 5, 31]
          c_L_FnExactPutWrap_3
          cond (.var 31)
            seq  mid=[10]
              c_L_FnExactPutWrap_4
              ret
            skip
        seq  mid=[1, 2, 3, 4, 5, 11]
          c_L_FnExactPutWrap_5
          seq  mid=[1, 2, 3, 4, 5, 11]
            c_L_FnExactPutWrap_6
            seq  mid=[1, 2, 3, 4, 5]
              seq  mid=[1, 2, 3, 4, 5, 36]
                c_L_FnExactPutWrap_7
                cond (.var 36)
                  seq  mid=[10]
                    c_L_FnExactPutWrap_8
                    ret
                  skip
              seq  mid=[1, 2, 3, 4, 5, 12, 13, 14]
                c_L_FnExactPutWrap_9
                seq  mid=[1, 2, 3, 4, 5, 12, 13, 14, 15]
                  c_L_FnExactPutWrap_10
                  seq  mid=[1, 2, 3, 4, 5, 12, 13, 14, 15, 16]
                    c_L_FnExactPutWrap_11
                    seq  mid=[1, 2, 3, 4, 5, 12, 13, 14, 15, 16, 17, 18, 19]
                      c_L_FnExactPutWrap_12
                      seq  mid=[1, 2, 3, 4, 5, 12, 13, 14, 15, 16, 17, 18, 19]
                        seq  mid=[1, 2, 3, 4, 5, 12, 13, 14, 15, 16, 17, 18, 19, 76]
                          c_L_FnExactPutWrap_13
                          cond (.var 76)
                            seq  mid=[10]
                              c_L_FnExactPutWrap_14
                              ret
                            skip
                        seq  mid=[1, 2, 3, 4, 5, 12, 13, 14, 15, 16, 17, 18, 19]
                          seq  mid=[1, 2, 3, 4, 5, 12, 13, 14, 15, 16, 17, 18, 19, 81]
                            c_L_FnExactPutWrap_15 DRAW
                            cond (.var 81)
                              seq  mid=[10]
                                c_L_FnExactPutWrap_16
                                ret
                              skip
                          seq  mid=[1, 2, 3, 4, 5, 12, 13, 14, 15, 16, 17, 18, 19]
                            seq  mid=[1, 2, 3, 4, 5, 12, 13, 14, 15, 16, 17, 18, 19, 86]
                              c_L_FnExactPutWrap_17
                              cond (.var 86)
                                seq  mid=[10]
                                  c_L_FnExactPutWrap_18
                                  ret
                                skip
                            seq  mid=[1, 2, 3, 4, 5, 12, 13, 14, 15, 16, 17, 18, 19, 20]
                              c_L_FnExactPutWrap_19
                              seq  mid=[1, 2, 3, 4, 5, 12, 13, 14, 16, 17, 18, 19, 20]
                                c_L_FnExactPutWrap_20
                                seq  mid=[1, 2, 3, 4, 5, 12, 13, 14, 17, 18, 19, 20]
                                  c_L_FnExactPutWrap_21
                                  seq  mid=[1, 2, 3, 4, 5, 12, 13, 14, 17]
                                    seq  mid=[1, 2, 3, 4, 5, 12, 13, 14, 17, 110]
                                      c_L_FnExactPutWrap_22
                                      cond (.var 110)
                                        seq  mid=[10]
                                          c_L_FnExactPutWrap_23
                                          ret
                                        skip
                                    seq  mid=[1, 2, 3, 4, 5, 12, 13, 14, 17, 21]
                                      c_L_FnExactPutWrap_24
                                      seq  mid=[1, 2, 3, 4, 5, 12, 13, 14, 17, 21]
                                        c_L_FnExactPutWrap_25
                                        seq  mid=[1, 2, 3, 4, 5, 12, 13, 14, 17, 21, 22]
                                          c_L_FnExactPutWrap_26
                                          seq  mid=[1, 2, 3, 4, 5, 12, 13, 14, 17, 21, 22]
                                            c_L_FnExactPutWrap_27
                                            seq  mid=[1, 2, 3, 4, 5, 12, 13, 14, 17, 21, 22]
                                              seq  mid=[1, 2, 3, 4, 5, 12, 13, 14, 17, 21, 22, 118]
                                                c_L_FnExactPutWrap_28
                                                cond (.var 118)
                                                  seq  mid=[10]
                                                    c_L_FnExactPutWrap_29
                                                    ret
                                                  skip
                                              seq  mid=[1, 2, 3, 4, 5, 12, 13, 14, 17, 21]
                                                seq  mid=[1, 2, 3, 4, 5, 12, 13, 14, 17, 21, 121]
                                                  c_L_FnExactPutWrap_30
                                                  cond (.var 121)
                                                    seq  mid=[10]
                                                      c_L_FnExactPutWrap_31
                                                      ret
                                                    skip
                                                seq  mid=[12, 13, 14, 17, 21, 23, 24, 25]
                                                  c_L_FnExactPutWrap_32
                                                  seq  mid=[17, 21]
                                                    seq  mid=[17, 21, 147]
                                                      c_L_FnExactPutWrap_33
                                                      cond (.var 147)
                                                        seq  mid=[10]
                                                          c_L_FnExactPutWrap_34
                                                          ret
                                                        skip
                                                    seq  mid=[17, 21, 22]
                                                      c_L_FnExactPutWrap_35
                                                      seq  mid=[21, 22]
                                                        c_L_FnExactPutWrap_36
                                                        seq  mid=[21, 22]
                                                          seq  mid=[21, 22, 152]
                                                            c_L_FnExactPutWrap_37
                                                            cond (.var 152)
                                                              seq  mid=[10]
                                                                c_L_FnExactPutWrap_38
                                                                ret
                                                              skip
                                                          seq  mid=[]
                                                            seq  mid=[155]
                                                              c_L_FnExactPutWrap_39
                                                              cond (.var 155)
                                                                seq  mid=[10]
                                                                  c_L_FnExactPutWrap_40
                                                                  ret
                                                                skip
                                                            seq  mid=[10]
                                                              c_L_FnExactPutWrap_41
                                                              ret
-/
def c_L_FnExactPutWrap_0 : ACode := .reg [⟨.var 5, .box (.var 0), none, []⟩,
  ⟨.var 10, .mv (.const (.d (.bool false))), none, []⟩] false
def c_L_FnExactPutWrap_1 : ACode := .reg [⟨.loc 26, .mv (.var 1), none, []⟩,
  ⟨.loc 27, .len true (.loc 26), none, []⟩,
  ⟨.var 28, .bin .int .gtr (.loc 27) (.const (.d (.int .i64 1048576))), none, []⟩] false
def c_L_FnExactPutWrap_2 : ACode := .reg [⟨.var 10, .mv (.const (.d (.bool true))), none, []⟩] false
def c_L_FnExactPutWrap_3 : ACode := .reg [⟨.loc 29, .mv (.var 2), none, []⟩,
  ⟨.loc 30, .len false (.loc 29), none, []⟩,
  ⟨.var 31, .bin .int .gtr (.loc 30) (.const (.d (.int .i64 1048576))), none, []⟩] false
def c_L_FnExactPutWrap_4 : ACode := .reg [⟨.var 10, .mv (.const (.d (.bool true))), none, []⟩] false
def c_L_FnExactPutWrap_5 : ACode := .reg [⟨.var 11, .mv (.const (.d (.int .i64 1048576))), none, []⟩] false
def c_L_FnExactPutWrap_6 : ACode := .reg [⟨.loc 32, .load true 3 (.var 5), none, []⟩,
  ⟨.loc 33, .mv (.var 11), none, []⟩,
  ⟨.loc 34, .call (.fn 24) [(.loc 32), (.loc 33)] [.borrow, .borrow], none, []⟩,
  ⟨.var 11, .mv (.loc 34), none, []⟩] false
def c_L_FnExactPutWrap_7 : ACode := .reg [⟨.loc 35, .mv (.var 11), none, []⟩,
  ⟨.var 36, .bin .int .lss (.loc 35) (.const (.d (.int .i64 0))), none, []⟩] false
def c_L_FnExactPutWrap_8 : ACode := .reg [⟨.var 10, .mv (.const (.d (.bool true))), none, []⟩] false
def c_L_FnExactPutWrap_9 : ACode := .reg [⟨.loc 38, .load true 3 (.var 5), none, []⟩,
  ⟨.loc 39, .call (.fn 26) [(.loc 38)] [.borrow], none, []⟩,
  ⟨.loc 40, .mv (.var 1), none, []⟩,
  ⟨.loc 41, .mv (.var 2), none, []⟩,
  ⟨.loc 42, .call (.fn 42) [(.loc 41)] [.borrow], none, []⟩,
  ⟨.loc 43, .mv (.var 3), none, []⟩,
  ⟨.loc 44, .mv (.var 4), none, []⟩,
  ⟨.loc 45, .call (.fn 41) [(.loc 39), (.loc 40), (.loc 42), (.loc 43), (.loc 44)] [.borrow, .borrow, .borrow, .borrow, .borrow], none, []⟩,
  ⟨.loc 37, .mv (.loc 45), none, []⟩,
  ⟨.loc 46, .ext (.loc 37) 0, none, []⟩,
  ⟨.loc 47, .ext (.loc 37) 1, none, []⟩,
  ⟨.loc 48, .ext (.loc 37) 2, none, []⟩,
  ⟨.var 12, .alloc [.d (.int .i64 0), .d (.int .i64 0), .nil 1 6], none, []⟩,
  ⟨.none, .store 3 (.var 12) (.loc 46), none, []⟩,
  ⟨.var 13, .mv (.loc 47), none, []⟩,
  ⟨.var 14, .mv (.loc 48), none, []⟩] false
def c_L_FnExactPutWrap_10 : ACode := .reg [⟨.loc 49, .load true 3 (.var 5), none, []⟩,
  ⟨.loc 50, .call (.fn 26) [(.loc 49)] [.borrow], none, []⟩,
  ⟨.var 15, .alloc [.d (.int .i64 0), .d (.int .i64 0), .nil 1 6], none, []⟩,
  ⟨.none, .store 3 (.var 15) (.loc 50), none, []⟩] false
def c_L_FnExactPutWrap_11 : ACode := .reg [⟨.loc 51, .mv (.var 2), none, []⟩,
  ⟨.loc 52, .call (.fn 42) [(.loc 51)] [.borrow], none, []⟩,
  ⟨.var 16, .mv (.loc 52), none, []⟩] false
def c_L_FnExactPutWrap_12 : ACode := .reg [⟨.loc 54, .load true 3 (.var 15), none, []⟩,
  ⟨.loc 55, .mv (.var 1), none, []⟩,
  ⟨.loc 56, .mv (.var 16), none, []⟩,
  ⟨.loc 57, .mv (.var 3), none, []⟩,
  ⟨.loc 58, .mv (.var 4), none, []⟩,
  ⟨.loc 59, .call (.fn 43) [(.loc 54), (.loc 55), (.loc 56), (.loc 57), (.loc 58)] [.borrow, .borrow, .borrow, .borrow, .borrow], none, []⟩,
  ⟨.loc 53, .mv (.loc 59), none, []⟩,
  ⟨.loc 60, .ext (.loc 53) 0, none, []⟩,
  ⟨.loc 61, .ext (.loc 53) 1, none, []⟩,
  ⟨.loc 62, .ext (.loc 53) 2, none, []⟩,
  ⟨.var 17, .alloc [.d (.int .i64 0), .d (.int .i64 0), .nil 1 6], none, []⟩,
  ⟨.none, .store 3 (.var 17) (.loc 60), none, []⟩,
  ⟨.var 18, .mv (.loc 61), none, []⟩,
  ⟨.var 19, .mv (.loc 62), none, []⟩] false
def c_L_FnExactPutWrap_13 : ACode := .reg [⟨.loc 63, .load true 3 (.var 17), none, []⟩,
  ⟨.loc 64, .load true 3 (.var 12), none, []⟩,
  ⟨.loc 65, .call (.fn 28) [(.loc 63), (.loc 64)] [.borrow, .borrow], none, []⟩,
  ⟨.loc 66, .un .not (.loc 65), none, []⟩,
  ⟨.loc 67, .split (.loc 66), none, []⟩,
  ⟨.loc 68, .mv (.var 18), some ((.loc 67), false), []⟩,
  ⟨.loc 69, .mv (.var 13), some ((.loc 67), false), []⟩,
  ⟨.loc 70, .bin .int .neq (.loc 68) (.loc 69), some ((.loc 67), false), []⟩,
  ⟨.loc 71, .pick (.loc 67) (.const (.d (.bool true))) (.loc 70), none, []⟩,
  ⟨.loc 72, .split (.loc 71), none, []⟩,
  ⟨.loc 73, .mv (.var 19), some ((.loc 72), false), []⟩,
  ⟨.loc 74, .mv (.var 14), some ((.loc 72), false), []⟩,
  ⟨.loc 75, .bin .int .neq (.loc 73) (.loc 74), some ((.loc 72), false), []⟩,
  ⟨.var 76, .pick (.loc 72) (.const (.d (.bool true))) (.loc 75), none, []⟩] false
def c_L_FnExactPutWrap_14 : ACode := .reg [⟨.var 10, .mv (.const (.d (.bool false))), none, []⟩] false
def c_L_FnExactPutWrap_15 : ACode := .reg [⟨.loc 77, .load true 3 (.var 15), none, []⟩,
  ⟨.loc 78, .load true 3 (.var 5), none, []⟩,
  ⟨.loc 79, .call (.fn 26) [(.loc 78)] [.borrow], none, [1]⟩,
  ⟨.loc 80, .call (.fn 28) [(.loc 77), (.loc 79)] [.borrow, .borrow], none, [0, 2, 1]⟩,
  ⟨.var 81, .un .not (.loc 80), none, [3, 0, 2, 1]⟩] true
def c_L_FnExactPutWrap_16 : ACode := .reg [⟨.var 10, .mv (.const (.d (.bool false))), none, []⟩] false
def c_L_FnExactPutWrap_17 : ACode := .reg [⟨.loc 82, .mv (.var 16), none, []⟩,
  ⟨.loc 83, .mv (.var 2), none, []⟩,
  ⟨.loc 84, .call (.fn 42) [(.loc 83)] [.borrow], none, []⟩,
  ⟨.loc 85, .call (.fn 14) [(.loc 82), (.loc 84)] [.borrow, .borrow], none, []⟩,
  ⟨.var 86, .un .not (.loc 85), none, []⟩] false
def c_L_FnExactPutWrap_18 : ACode := .reg [⟨.var 10, .mv (.const (.d (.bool false))), none, []⟩] false
def c_L_FnExactPutWrap_19 : ACode := .reg [⟨.var 20, .mv (.const (.d (.int .i64 1))), none, []⟩] false
def c_L_FnExactPutWrap_20 : ACode := .reg [⟨.loc 87, .load true 3 (.var 15), none, []⟩,
  ⟨.loc 88, .mv (.var 20), none, []⟩,
  ⟨.loc 89, .call (.fn 37) [(.loc 87), (.loc 88)] [.lend, .borrow], none, []⟩,
  ⟨.var 20, .mv (.loc 89), none, []⟩] false
def c_L_FnExactPutWrap_21 : ACode := .reg [⟨.loc 90, .mv (.var 16), none, []⟩,
  ⟨.loc 91, .mv (.var 20), none, []⟩,
  ⟨.loc 92, .call (.fn 15) [(.loc 90), (.loc 91)] [.lend, .borrow], none, []⟩,
  ⟨.var 20, .mv (.loc 92), none, []⟩] false
def c_L_FnExactPutWrap_22 : ACode := .reg [⟨.loc 93, .mv (.var 20), none, []⟩,
  ⟨.loc 94, .bin .int .lss (.loc 93) (.const (.d (.int .i64 0))), none, []⟩,
  ⟨.loc 95, .split (.loc 94), none, []⟩,
  ⟨.loc 96, .load true 3 (.var 17), some ((.loc 95), false), []⟩,
  ⟨.loc 97, .load true 3 (.var 12), some ((.loc 95), false), []⟩,
  ⟨.loc 98, .call (.fn 28) [(.loc 96), (.loc 97)] [.borrow, .borrow], some ((.loc 95), false), []⟩,
  ⟨.loc 99, .un .not (.loc 98), some ((.loc 95), false), []⟩,
  ⟨.loc 100, .pick (.loc 95) (.const (.d (.bool true))) (.loc 99), none, []⟩,
  ⟨.loc 101, .split (.loc 100), none, []⟩,
  ⟨.loc 102, .mv (.var 18), some ((.loc 101), false), []⟩,
  ⟨.loc 103, .mv (.var 13), some ((.loc 101), false), []⟩,
  ⟨.loc 104, .bin .int .neq (.loc 102) (.loc 103), some ((.loc 101), false), []⟩,
  ⟨.loc 105, .pick (.loc 101) (.const (.d (.bool true))) (.loc 104), none, []⟩,
  ⟨.loc 106, .split (.loc 105), none, []⟩,
  ⟨.loc 107, .mv (.var 19), some ((.loc 106), false), []⟩,
  ⟨.loc 108, .mv (.var 14), some ((.loc 106), false), []⟩,
  ⟨.loc 109, .bin .int .neq (.loc 107) (.loc 108), some ((.loc 106), false), []⟩,
  ⟨.var 110, .pick (.loc 106) (.const (.d (.bool true))) (.loc 109), none, []⟩] false
def c_L_FnExactPutWrap_23 : ACode := .reg [⟨.var 10, .mv (.const (.d (.bool false))), none, []⟩] false
def c_L_FnExactPutWrap_24 : ACode := .reg [⟨.var 21, .mv (.const (.d (.int .i64 1))), none, []⟩] false
def c_L_FnExactPutWrap_25 : ACode := .reg [⟨.loc 111, .load true 3 (.var 17), none, []⟩,
  ⟨.loc 112, .mv (.var 21), none, []⟩,
  ⟨.loc 113, .call (.fn 37) [(.loc 111), (.loc 112)] [.lend, .borrow], none, []⟩,
  ⟨.var 21, .mv (.loc 113), none, []⟩] false
def c_L_FnExactPutWrap_26 : ACode := .reg [⟨.var 22, .mv (.const (.d (.int .i64 1))), none, []⟩] false
def c_L_FnExactPutWrap_27 : ACode := .reg [⟨.loc 114, .load true 3 (.var 17), none, []⟩,
  ⟨.loc 115, .mv (.var 22), none, []⟩,
  ⟨.loc 116, .call (.fn 38) [(.loc 114), (.loc 115)] [.borrow, .borrow], none, []⟩,
  ⟨.var 22, .mv (.loc 116), none, []⟩] false
def c_L_FnExactPutWrap_28 : ACode := .reg [⟨.loc 117, .mv (.var 22), none, []⟩,
  ⟨.var 118, .bin .int .lss (.loc 117) (.const (.d (.int .i64 0))), none, []⟩] false
def c_L_FnExactPutWrap_29 : ACode := .reg [⟨.var 10, .mv (.const (.d (.bool false))), none, []⟩] false
def c_L_FnExactPutWrap_30 : ACode := .reg [⟨.loc 119, .mv (.var 22), none, []⟩,
  ⟨.loc 120, .mv (.var 21), none, []⟩,
  ⟨.var 121, .bin .int .neq (.loc 119) (.loc 120), none, []⟩] false
def c_L_FnExactPutWrap_31 : ACode := .reg [⟨.var 10, .mv (.const (.d (.bool false))), none, []⟩] false
def c_L_FnExactPutWrap_32 : ACode := .reg [⟨.loc 123, .load true 3 (.var 5), none, []⟩,
  ⟨.loc 124, .call (.fn 26) [(.loc 123)] [.borrow], none, []⟩,
  ⟨.loc 125, .mv (.var 1), none, []⟩,
  ⟨.loc 126, .mv (.var 2), none, []⟩,
  ⟨.loc 127, .call (.fn 42) [(.loc 126)] [.borrow], none, []⟩,
  ⟨.loc 128, .mv (.var 3), none, []⟩,
  ⟨.loc 129, .mv (.var 4), none, []⟩,
  ⟨.loc 130, .call (.fn 43) [(.loc 124), (.loc 125), (.loc 127), (.loc 128), (.loc 129)] [.borrow, .borrow, .borrow, .borrow, .borrow], none, []⟩,
  ⟨.loc 122, .mv (.loc 130), none, []⟩,
  ⟨.loc 131, .ext (.loc 122) 0, none, []⟩,
  ⟨.loc 132, .ext (.loc 122) 1, none, []⟩,
  ⟨.loc 133, .ext (.loc 122) 2, none, []⟩,
  ⟨.var 23, .alloc [.d (.int .i64 0), .d (.int .i64 0), .nil 1 6], none, []⟩,
  ⟨.none, .store 3 (.var 23) (.loc 131), none, []⟩,
  ⟨.var 24, .mv (.loc 132), none, []⟩,
  ⟨.var 25, .mv (.loc 133), none, []⟩] false
def c_L_FnExactPutWrap_33 : ACode := .reg [⟨.loc 134, .load true 3 (.var 23), none, []⟩,
  ⟨.loc 135, .load true 3 (.var 12), none, []⟩,
  ⟨.loc 136, .call (.fn 28) [(.loc 134), (.loc 135)] [.borrow, .borrow], none, []⟩,
  ⟨.loc 137, .un .not (.loc 136), none, []⟩,
  ⟨.loc 138, .split (.loc 137), none, []⟩,
  ⟨.loc 139, .mv (.var 24), some ((.loc 138), false), []⟩,
  ⟨.loc 140, .mv (.var 13), some ((.loc 138), false), []⟩,
  ⟨.loc 141, .bin .int .neq (.loc 139) (.loc 140), some ((.loc 138), false), []⟩,
  ⟨.loc 142, .pick (.loc 138) (.const (.d (.bool true))) (.loc 141), none, []⟩,
  ⟨.loc 143, .split (.loc 142), none, []⟩,
  ⟨.loc 144, .mv (.var 25), some ((.loc 143), false), []⟩,
  ⟨.loc 145, .mv (.var 14), some ((.loc 143), false), []⟩,
  ⟨.loc 146, .bin .int .neq (.loc 144) (.loc 145), some ((.loc 143), false), []⟩,
  ⟨.var 147, .pick (.loc 143) (.const (.d (.bool true))) (.loc 146), none, []⟩] false
def c_L_FnExactPutWrap_34 : ACode := .reg [⟨.var 10, .mv (.const (.d (.bool false))), none, []⟩] false
def c_L_FnExactPutWrap_35 : ACode := .reg [⟨.var 22, .mv (.const (.d (.int .i64 1))), none, []⟩] false
def c_L_FnExactPutWrap_36 : ACode := .reg [⟨.loc 148, .load true 3 (.var 17), none, []⟩,
  ⟨.loc 149, .mv (.var 22), none, []⟩,
  ⟨.loc 150, .call (.fn 38) [(.loc 148), (.loc 149)] [.borrow, .borrow], none, []⟩,
  ⟨.var 22, .mv (.loc 150), none, []⟩] false
def c_L_FnExactPutWrap_37 : ACode := .reg [⟨.loc 151, .mv (.var 22), none, []⟩,
  ⟨.var 152, .bin .int .lss (.loc 151) (.const (.d (.int .i64 0))), none, []⟩] false
def c_L_FnExactPutWrap_38 : ACode := .reg [⟨.var 10, .mv (.const (.d (.bool false))), none, []⟩] false
def c_L_FnExactPutWrap_39 : ACode := .reg [⟨.loc 153, .mv (.var 22), none, []⟩,
  ⟨.loc 154, .mv (.var 21), none, []⟩,
  ⟨.var 155, .bin .int .neq (.loc 153) (.loc 154), none, []⟩] false
def c_L_FnExactPutWrap_40 : ACode := .reg [⟨.var 10, .mv (.const (.d (.bool false))), none, []⟩] false
def c_L_FnExactPutWrap_41 : ACode := .reg [⟨.var 10, .mv (.const (.d (.bool true))), none, []⟩] false
def c_L_FnExactPutWrap : ACode := (.seq c_L_FnExactPutWrap_0 (.seq (.seq c_L_FnExactPutWrap_1 (.cond (.var 28) (.seq c_L_FnExactPutWrap_2 .ret) .skip)) (.seq (.seq c_L_FnExactPutWrap_3 (.cond (.var 31) (.seq c_L_FnExactPutWrap_4 .ret) .skip)) (.seq c_L_FnExactPutWrap_5 (.seq c_L_FnExactPutWrap_6 (.seq (.seq c_L_FnExactPutWrap_7 (.cond (.var 36) (.seq c_L_FnExactPutWrap_8 .ret) .skip)) (.seq c_L_FnExactPutWrap_9 (.seq c_L_FnExactPutWrap_10 (.seq c_L_FnExactPutWrap_11 (.seq c_L_FnExactPutWrap_12 (.seq (.seq c_L_FnExactPutWrap_13 (.cond (.var 76) (.seq c_L_FnExactPutWrap_14 .ret) .skip)) (.seq (.seq c_L_FnExactPutWrap_15 (.cond (.var 81) (.seq c_L_FnExactPutWrap_16 .ret) .skip)) (.seq (.seq c_L_FnExactPutWrap_17 (.cond (.var 86) (.seq c_L_FnExactPutWrap_18 .ret) .skip)) (.seq c_L_FnExactPutWrap_19 (.seq c_L_FnExactPutWrap_20 (.seq c_L_FnExactPutWrap_21 (.seq (.seq c_L_FnExactPutWrap_22 (.cond (.var 110) (.seq c_L_FnExactPutWrap_23 .ret) .skip)) (.seq c_L_FnExactPutWrap_24 (.seq c_L_FnExactPutWrap_25 (.seq c_L_FnExactPutWrap_26 (.seq c_L_FnExactPutWrap_27 (.seq (.seq c_L_FnExactPutWrap_28 (.cond (.var 118) (.seq c_L_FnExactPutWrap_29 .ret) .skip)) (.seq (.seq c_L_FnExactPutWrap_30 (.cond (.var 121) (.seq c_L_FnExactPutWrap_31 .ret) .skip)) (.seq c_L_FnExactPutWrap_32 (.seq (.seq c_L_FnExactPutWrap_33 (.cond (.var 147) (.seq c_L_FnExactPutWrap_34 .ret) .skip)) (.seq c_L_FnExactPutWrap_35 (.seq c_L_FnExactPutWrap_36 (.seq (.seq c_L_FnExactPutWrap_37 (.cond (.var 152) (.seq c_L_FnExactPutWrap_38 .ret) .skip)) (.seq (.seq c_L_FnExactPutWrap_39 (.cond (.var 155) (.seq c_L_FnExactPutWrap_40 .ret) .skip)) (.seq c_L_FnExactPutWrap_41 .ret))))))))))))))))))))))))))))))

abbrev F_L_FnExactPutWrap : FuncId := 10

theorem k_L_FnExactPutWrap : comp PP (Tryd.f10.ntmps, pinOf 0 [none, none, none, none, none]) [0, 1, 2, 3, 4, 5, 10, 11, 12, 13, 14, 15, 16, 17, 18, 19, 20, 21, 22, 23, 24, 25, 28, 31, 36, 76, 81, 86, 110, 118, 121, 147, 152, 155] (Tryd.f10.body.getD .skip) = some c_L_FnExactPutWrap.erase := by kernel_rfl

theorem v_L_FnExactPutWrap {GG : GV} (rcs : List C) {cs : List C} {r : C} {os : List (Option C)} (hN : (cs.length == 5 && rcs.length == 1) = true) (hret : retOf rcs = r)
    (hW : W PP [0, 1, 2, 3, 4, 5, 10, 11, 12, 13, 14, 15, 16, 17, 18, 19, 20, 21, 22, 23, 24, 25, 28, 31, 36, 76, 81, 86, 110, 118, 121, 147, 152, 155] (Tryd.f10.ntmps, pinOf 0 [none, none, none, none, none]) (Valid PP GG) c_L_FnExactPutWrap (entry cs) (Fin (Valid PP GG) [(.give, 10, none)] [none, none, none, none, none] rcs os) (fun _ _ => False) (Fin (Valid PP GG) [(.give, 10, none)] [none, none, none, none, none] rcs os)) : Valid PP GG F_L_FnExactPutWrap cs r os :=
  fn_valid_n 5 1 [0, 1, 2, 3, 4, 5, 10, 11, 12, 13, 14, 15, 16, 17, 18, 19, 20, 21, 22, 23, 24, 25, 28, 31, 36, 76, 81, 86, 110, 118, 121, 147, 152, 155] c_L_FnExactPutWrap [(.give, 10, none)] [none, none, none, none, none] rcs Tryd.func10 rfl rfl (by kernel_rfl) k_L_FnExactPutWrap rfl rfl hN hret hW


/-
loop.example/g00705/spec.PutWrap  params 5+0 results [10, 11, 12]
  seq  mid=[1, 2, 3, 4, 5, 10]
    c_S_PutWrap_0
    seq  mid=[1, 2, 3, 4, 5, 10]
      seq  mid=[1, 2, 3, 4, 5, 10, 49]
        c_S_PutWrap_1
        cond (.var 49)
          seq  mid=[10, 11, 12]
            c_S_PutWrap_2
            ret
          skip
      seq  mid=[1, 2, 3, 4, 5, 10]
        seq  mid=[1, 2, 3, 4, 5, 10, 55]
          c_S_PutWrap_3
          cond (.var 55)
            seq  mid=[10, 11, 12]
              c_S_PutWrap_4
              ret
            skip
        seq  mid=[1, 2, 3, 4, 5, 10, 13]
          c_S_PutWrap_5
          seq  mid=[1, 3, 4, 5, 10, 13, 14]
            c_S_PutWrap_6
            seq  mid=[5, 10, 13]
              c_S_PutWrap_7
              seq  mid=[5, 10, 13]
                c_S_PutWrap_8
                seq  mid=[10, 11, 12]
                  c_S_PutWrap_9 DRAW
                  ret
-/
def c_S_PutWrap_0 : ACode := .reg [⟨.var 5, .box (.var 0), none, []⟩,
  ⟨.var 10, .alloc [.d (.int .i64 0), .d (.int .i64 0), .nil 1 6], none, []⟩,
  ⟨.var 11, .mv (.const (.d (.int .i64 0))), none, []⟩,
  ⟨.var 12, .mv (.const (.d (.int .i64 0))), none, []⟩] false
def c_S_PutWrap_1 : ACode := .reg [⟨.loc 16, .load true 3 (.var 5), none, []⟩,
  ⟨.loc 17, .call (.fn 59) [(.loc 16)] [.borrow], none, []⟩,
  ⟨.loc 18, .un .not (.loc 17), none, []⟩,
  ⟨.loc 19, .split (.loc 18), none, []⟩,
  ⟨.loc 20, .mv (.var 1), some ((.loc 19), false), []⟩,
  ⟨.loc 21, .call (.fn 53) [(.loc 20)] [.borrow], some ((.loc 19), false), []⟩,
  ⟨.loc 22, .un .not (.loc 21), some ((.loc 19), false), []⟩,
  ⟨.loc 23, .pick (.loc 19) (.const (.d (.bool true))) (.loc 22), none, []⟩,
  ⟨.loc 24, .split (.loc 23), none, []⟩,
  ⟨.loc 25, .mv (.var 2), some ((.loc 24), false), []⟩,
  ⟨.loc 26, .len false (.loc 25), some ((.loc 24), false), []⟩,
  ⟨.loc 27, .bin .int .gtr (.loc 26) (.const (.d (.int .i64 2000))), some ((.loc 24), false), []⟩,
  ⟨.loc 28, .pick (.loc 24) (.const (.d (.bool true))) (.loc 27), none, []⟩,
  ⟨.loc 29, .split (.loc 28), none, []⟩,
  ⟨.loc 30, .mv (.var 3), some ((.loc 29), false), []⟩,
  ⟨.loc 31, .call (.fn 51) [(.loc 30), (.const (.d (.int .i64 0))), (.const (.d (.int .i64 1000000000)))] [.borrow, .borrow, .borrow], some ((.loc 29), false), []⟩,
  ⟨.loc 32, .un .not (.loc 31), some ((.loc 29), false), []⟩,
  ⟨.loc 33, .pick (.loc 29) (.const (.d (.bool true))) (.loc 32), none, []⟩,
  ⟨.loc 34, .split (.loc 33), none, []⟩,
  ⟨.loc 35, .mv (.var 4), some ((.loc 34), false), []⟩,
  ⟨.loc 36, .call (.fn 51) [(.loc 35), (.const (.d (.int .i64 1))), (.const (.d (.int .i64 1000000000)))] [.borrow, .borrow, .borrow], some ((.loc 34), false), []⟩,
  ⟨.loc 37, .un .not (.loc 36), some ((.loc 34), false), []⟩,
  ⟨.loc 38, .pick (.loc 34) (.const (.d (.bool true))) (.loc 37), none, []⟩,
  ⟨.loc 39, .split (.loc 38), none, []⟩,
  ⟨.loc 40, .mv (.var 3), some ((.loc 39), false), []⟩,
  ⟨.loc 41, .mv (.var 4), some ((.loc 39), false), []⟩,
  ⟨.loc 42, .bin .int .add (.loc 40) (.loc 41), some ((.loc 39), false), []⟩,
  ⟨.loc 43, .bin .int .gtr (.loc 42) (.const (.d (.int .i64 1000000000))), some ((.loc 39), false), []⟩,
  ⟨.loc 44, .pick (.loc 39) (.const (.d (.bool true))) (.loc 43), none, []⟩,
  ⟨.loc 45, .split (.loc 44), none, []⟩,
  ⟨.loc 46, .fld 1 (.var 5), some ((.loc 45), false), []⟩,
  ⟨.loc 47, .load false 1 (.loc 46), some ((.loc 45), false), []⟩,
  ⟨.loc 48, .bin .int .eql (.loc 47) (.const (.d (.int .i64 1000000000))), some ((.loc 45), false), []⟩,
  ⟨.var 49, .pick (.loc 45) (.const (.d (.bool true))) (.loc 48), none, []⟩] false
def c_S_PutWrap_2 : ACode := .reg [⟨.loc 50, .load true 3 (.var 5), none, []⟩,
  ⟨.loc 51, .call (.fn 66) [(.loc 50)] [.borrow], none, []⟩,
  ⟨.none, .store 3 (.var 10) (.loc 51), none, []⟩,
  ⟨.var 11, .mv (.const (.d (.int .i64 0))), none, []⟩,
  ⟨.var 12, .mv (.const (.d (.int .i64 1))), none, []⟩] false
def c_S_PutWrap_3 : ACode := .reg [⟨.loc 52, .fld 2 (.var 5), none, []⟩,
  ⟨.loc 53, .load false 1 (.loc 52), none, []⟩,
  ⟨.loc 54, .len false (.loc 53), none, []⟩,
  ⟨.var 55, .bin .int .eql (.loc 54) (.const (.d (.int .i64 60))), none, []⟩] false
def c_S_PutWrap_4 : ACode := .reg [⟨.loc 56, .load true 3 (.var 5), none, []⟩,
  ⟨.loc 57, .call (.fn 66) [(.loc 56)] [.borrow], none, []⟩,
  ⟨.none, .store 3 (.var 10) (.loc 57), none, []⟩,
  ⟨.var 11, .mv (.const (.d (.int .i64 0))), none, []⟩,
  ⟨.var 12, .mv (.const (.d (.int .i64 5))), none, []⟩] false
def c_S_PutWrap_5 : ACode := .reg [⟨.loc 58, .load true 3 (.var 5), none, []⟩,
  ⟨.loc 59, .call (.fn 66) [(.loc 58)] [.borrow], none, []⟩,
  ⟨.var 13, .alloc [.d (.int .i64 0), .d (.int .i64 0), .nil 1 6], none, []⟩,
  ⟨.none, .store 3 (.var 13) (.loc 59), none, []⟩] false
def c_S_PutWrap_6 : ACode := .reg [⟨.loc 61, .fld 0 (.var 5), none, []⟩,
  ⟨.loc 62, .load false 1 (.loc 61), none, []⟩,
  ⟨.loc 63, .fld 1 (.var 5), none, []⟩,
  ⟨.loc 64, .load false 1 (.loc 63), none, []⟩,
  ⟨.loc 65, .mv (.var 2), none, []⟩,
  ⟨.loc 66, .call (.fn 79) [(.loc 62), (.loc 64), (.loc 65)] [.borrow, .borrow, .borrow], none, []⟩,
  ⟨.loc 60, .mv (.loc 66), none, []⟩,
  ⟨.loc 67, .ext (.loc 60) 0, none, []⟩,
  ⟨.loc 68, .ext (.loc 60) 1, none, []⟩,
  ⟨.var 14, .alloc [.d (.int .i64 0), .nil 0 1, .d (.int .i64 0)], none, []⟩,
  ⟨.none, .store 3 (.var 14) (.loc 67), none, []⟩,
  ⟨.loc 15, .mv (.loc 68), none, []⟩] false
def c_S_PutWrap_7 : ACode := .reg [⟨.loc 69, .fld 2 (.var 13), none, []⟩,
  ⟨.loc 70, .load false 1 (.loc 69), none, []⟩,
  ⟨.loc 71, .fld 1 (.var 5), none, []⟩,
  ⟨.loc 72, .load false 1 (.loc 71), none, []⟩,
  ⟨.loc 73, .mv (.var 3), none, []⟩,
  ⟨.loc 74, .mv (.var 4), none, []⟩,
  ⟨.loc 75, .bin .int .add (.loc 73) (.loc 74), none, []⟩,
  ⟨.loc 76, .mv (.var 1), none, []⟩,
  ⟨.loc 77, .load true 3 (.var 14), none, []⟩,
  ⟨.loc 78, .build [.d (.int .i64 0), .d (.int .i64 0), .d (.str []), .d (.int .i64 0), .nil 0 1, .d (.int .i64 0)] [(0, 1, (.loc 72)), (1, 1, (.loc 75)), (2, 1, (.loc 76)), (3, 3, (.loc 77))], none, []⟩,
  ⟨.loc 79, .lit 1 6 1 [.int .i64 0, .int .i64 0, .str [], .int .i64 0, .slc 1 [], .int .i64 0] [(0, (.loc 78))], none, []⟩,
  ⟨.loc 80, .app 6 72 (.loc 70) (.loc 79), none, []⟩,
  ⟨.loc 81, .fld 2 (.var 13), none, []⟩,
  ⟨.none, .store 1 (.loc 81) (.loc 80), none, []⟩] false
def c_S_PutWrap_8 : ACode := .reg [⟨.loc 82, .fld 1 (.var 5), none, []⟩,
  ⟨.loc 83, .load false 1 (.loc 82), none, []⟩,
  ⟨.loc 84, .bin .int .add (.loc 83) (.const (.d (.int .i64 1))), none, []⟩,
  ⟨.loc 85, .fld 1 (.var 13), none, []⟩,
  ⟨.none, .store 1 (.loc 85) (.loc 84), none, []⟩] false
def c_S_PutWrap_9 : ACode := .reg [⟨.loc 86, .load true 3 (.var 13), none, []⟩,
  ⟨.loc 87, .fld 1 (.var 5), none, []⟩,
  ⟨.loc 88, .load false 1 (.loc 87), none, [1]⟩,
  ⟨.none, .store 3 (.var 10) (.loc 86), none, [0]⟩,
  ⟨.var 11, .mv (.loc 88), none, [2, 1, 3, 0]⟩,
  ⟨.var 12, .mv (.const (.d (.int .i64 0))), none, [4, 2, 1, 3, 0]⟩] true
def c_S_PutWrap : ACode := (.seq c_S_PutWrap_0 (.seq (.seq c_S_PutWrap_1 (.cond (.var 49) (.seq c_S_PutWrap_2 .ret) .skip)) (.seq (.seq c_S_PutWrap_3 (.cond (.var 55) (.seq c_S_PutWrap_4 .ret) .skip)) (.seq c_S_PutWrap_5 (.seq c_S_PutWrap_6 (.seq c_S_PutWrap_7 (.seq c_S_PutWrap_8 (.seq c_S_PutWrap_9 .ret))))))))

abbrev F_S_PutWrap : FuncId := 41

theorem k_S_PutWrap : comp PP (Tryd.f41.ntmps, pinOf 0 [none, none, none, none, none]) [0, 1, 2, 3, 4, 5, 10, 11, 12, 13, 14, 49, 55] (Tryd.f41.body.getD .skip) = some c_S_PutWrap.erase := by kernel_rfl

theorem v_S_PutWrap {GG : GV} (rcs : List C) {cs : List C} {r : C} {os : List (Option C)} (hN : (cs.length == 5 && rcs.length == 3) = true) (hret : retOf rcs = r)
    (hW : W PP [0, 1, 2, 3, 4, 5, 10, 11, 12, 13, 14, 49, 55] (Tryd.f41.ntmps, pinOf 0 [none, none, none, none, none]) (Valid PP GG) c_S_PutWrap (entry cs) (Fin (Valid PP GG) [(.give, 10, some (true, 3)), (.give, 11, none), (.give, 12, none)] [none, none, none, none, none] rcs os) (fun _ _ => False) (Fin (Valid PP GG) [(.give, 10, some (true, 3)), (.give, 11, none), (.give, 12, none)] [none, none, none, none, none] rcs os)) : Valid PP GG F_S_PutWrap cs r os :=
  fn_valid_n 5 3 [0, 1, 2, 3, 4, 5, 10, 11, 12, 13, 14, 49, 55] c_S_PutWrap [(.give, 10, some (true, 3)), (.give, 11, none), (.give, 12, none)] [none, none, none, none, none] rcs Tryd.func41 rfl rfl (by kernel_rfl) k_S_PutWrap rfl rfl hN hret hW


/-
loop.example/g00705/impl.PutWrap  params 5+0 results [10, 11, 12]
  seq  mid=[1, 2, 3, 4, 5, 10]
    c_I_PutWrap_0
    seq  mid=[1, 2, 3, 4, 5, 10]
      seq  mid=[1, 2, 3, 4, 5, 10, 15]
        c_I_PutWrap_1
        cond (.var 15)
          seq  mid=[10, 11, 12]
            c_I_PutWrap_2
            ret
          skip
      seq  mid=[10, 11, 12]
        c_I_PutWrap_3
        ret
-/
def c_I_PutWrap_0 : ACode := .reg [⟨.var 5, .box (.var 0), none, []⟩,
  ⟨.var 10, .alloc [.d (.int .i64 0), .d (.int .i64 0), .nil 1 6], none, []⟩,
  ⟨.var 11, .mv (.const (.d (.int .i64 0))), none, []⟩,
  ⟨.var 12, .mv (.const (.d (.int .i64 0))), none, []⟩] false
def c_I_PutWrap_1 : ACode := .reg [⟨.loc 13, .load true 3 (.var 5), none, []⟩,
  ⟨.loc 14, .call (.fn 62) [(.loc 13)] [.borrow], none, []⟩,
  ⟨.var 15, .un .not (.loc 14), none, []⟩] false
def c_I_PutWrap_2 : ACode := .reg [⟨.loc 16, .load true 3 (.var 5), none, []⟩,
  ⟨.loc 17, .call (.fn 68) [(.loc 16)] [.borrow], none, []⟩,
  ⟨.none, .store 3 (.var 10) (.loc 17), none, []⟩,
  ⟨.var 11, .mv (.const (.d (.int .i64 0))), none, []⟩,
  ⟨.var 12, .mv (.const (.d (.int .i64 1))), none, []⟩] false
def c_I_PutWrap_3 : ACode := .reg [⟨.loc 18, .load true 3 (.var 5), none, []⟩,
  ⟨.loc 19, .mv (.var 1), none, []⟩,
  ⟨.loc 20, .mv (.var 2), none, []⟩,
  ⟨.loc 21, .mv (.var 3), none, []⟩,
  ⟨.loc 22, .mv (.var 4), none, []⟩,
  ⟨.loc 23, .call (.fn 80) [(.loc 18), (.loc 19), (.loc 20), (.loc 21), (.loc 22)] [.borrow, .borrow, .borrow, .borrow, .borrow], none, []⟩,
  ⟨.loc 24, .ext (.loc 23) 0, none, []⟩,
  ⟨.loc 25, .ext (.loc 23) 1, none, []⟩,
  ⟨.loc 26, .ext (.loc 23) 2, none, []⟩,
  ⟨.none, .store 3 (.var 10) (.loc 24), none, []⟩,
  ⟨.var 11, .mv (.loc 25), none, []⟩,
  ⟨.var 12, .mv (.loc 26), none, []⟩] false
def c_I_PutWrap : ACode := (.seq c_I_PutWrap_0 (.seq (.seq c_I_PutWrap_1 (.cond (.var 15) (.seq c_I_PutWrap_2 .ret) .skip)) (.seq c_I_PutWrap_3 .ret)))

abbrev F_I_PutWrap : FuncId := 43

theorem k_I_PutWrap : comp PP (Tryd.f43.ntmps, pinOf 0 [none, none, none, none, none]) [0, 1, 2, 3, 4, 5, 10, 11, 12, 15] (Tryd.f43.body.getD .skip) = some c_I_PutWrap.erase := by kernel_rfl

theorem v_I_PutWrap {GG : GV} (rcs : List C) {cs : List C} {r : C} {os : List (Option C)} (hN : (cs.length == 5 && rcs.length == 3) = true) (hret : retOf rcs = r)
    (hW : W PP [0, 1, 2, 3, 4, 5, 10, 11, 12, 15] (Tryd.f43.ntmps, pinOf 0 [none, none, none, none, none]) (Valid PP GG) c_I_PutWrap (entry cs) (Fin (Valid PP GG) [(.give, 10, some (true, 3)), (.give, 11, none), (.give, 12, none)] [none, none, none, none, none] rcs os) (fun _ _ => False) (Fin (Valid PP GG) [(.give, 10, some (true, 3)), (.give, 11, none), (.give, 12, none)] [none, none, none, none, none] rcs os)) : Valid PP GG F_I_PutWrap cs r os :=
  fn_valid_n 5 3 [0, 1, 2, 3, 4, 5, 10, 11, 12, 15] c_I_PutWrap [(.give, 10, some (true, 3)), (.give, 11, none), (.give, 12, none)] [none, none, none, none, none] rcs Tryd.func43 rfl rfl (by kernel_rfl) k_I_PutWrap rfl rfl hN hret hW


/-
loop.example/g00705/impl.putWrap  params 5+0 results [10, 11, 12]
  seq  mid=[1, 2, 3, 4, 5, 10]
    c_I_putWrap_0
    seq  mid=[1, 2, 3, 4, 5, 10, 13]
      c_I_putWrap_1
      seq  mid=[1, 2, 3, 4, 5, 10, 13]
        seq  mid=[1, 2, 3, 4, 5, 10, 13, 44]
          c_I_putWrap_2
          cond (.var 44)
            seq  mid=[10, 11, 12]
              c_I_putWrap_3
              ret
            skip
        seq  mid=[1, 2, 3, 4, 5, 10, 13]
          seq  mid=[1, 2, 3, 4, 5, 10, 13, 49]
            c_I_putWrap_4
            cond (.var 49)
              seq  mid=[10, 11, 12]
                c_I_putWrap_5
                ret
              skip
          seq  mid=[5, 10, 13]
            c_I_putWrap_6 DRAW
            seq  mid=[5, 10, 13]
              c_I_putWrap_7
              seq  mid=[10, 11, 12]
                c_I_putWrap_8 DRAW
                ret
-/
def c_I_putWrap_0 : ACode := .reg [⟨.var 5, .box (.var 0), none, []⟩,
  ⟨.var 10, .alloc [.d (.int .i64 0), .d (.int .i64 0), .nil 1 6], none, []⟩,
  ⟨.var 11, .mv (.const (.d (.int .i64 0))), none, []⟩,
  ⟨.var 12, .mv (.const (.d (.int .i64 0))), none, []⟩] false
def c_I_putWrap_1 : ACode := .reg [⟨.loc 14, .load true 3 (.var 5), none, []⟩,
  ⟨.loc 15, .call (.fn 68) [(.loc 14)] [.borrow], none, []⟩,
  ⟨.var 13, .alloc [.d (.int .i64 0), .d (.int .i64 0), .nil 1 6], none, []⟩,
  ⟨.none, .store 3 (.var 13) (.loc 15), none, []⟩] false
def c_I_putWrap_2 : ACode := .reg [⟨.loc 16, .mv (.var 1), none, []⟩,
  ⟨.loc 17, .call (.fn 95) [(.loc 16)] [.borrow], none, []⟩,
  ⟨.loc 18, .un .not (.loc 17), none, []⟩,
  ⟨.loc 19, .split (.loc 18), none, []⟩,
  ⟨.loc 20, .mv (.var 2), some ((.loc 19), false), []⟩,
  ⟨.loc 21, .len false (.loc 20), some ((.loc 19), false), []⟩,
  ⟨.loc 22, .bin .int .gtr (.loc 21) (.const (.d (.int .i64 2000))), some ((.loc 19), false), []⟩,
  ⟨.loc 23, .pick (.loc 19) (.const (.d (.bool true))) (.loc 22), none, []⟩,
  ⟨.loc 24, .split (.loc 23), none, []⟩,
  ⟨.loc 25, .mv (.var 3), some ((.loc 24), false), []⟩,
  ⟨.loc 26, .call (.fn 94) [(.loc 25), (.const (.d (.int .i64 0))), (.const (.d (.int .i64 1000000000)))] [.borrow, .borrow, .borrow], some ((.loc 24), false), []⟩,
  ⟨.loc 27, .un .not (.loc 26), some ((.loc 24), false), []⟩,
  ⟨.loc 28, .pick (.loc 24) (.const (.d (.bool true))) (.loc 27), none, []⟩,
  ⟨.loc 29, .split (.loc 28), none, []⟩,
  ⟨.loc 30, .mv (.var 4), some ((.loc 29), false), []⟩,
  ⟨.loc 31, .call (.fn 94) [(.loc 30), (.const (.d (.int .i64 1))), (.const (.d (.int .i64 1000000000)))] [.borrow, .borrow, .borrow], some ((.loc 29), false), []⟩,
  ⟨.loc 32, .un .not (.loc 31), some ((.loc 29), false), []⟩,
  ⟨.loc 33, .pick (.loc 29) (.const (.d (.bool true))) (.loc 32), none, []⟩,
  ⟨.loc 34, .split (.loc 33), none, []⟩,
  ⟨.loc 35, .mv (.var 3), some ((.loc 34), false), []⟩,
  ⟨.loc 36, .mv (.var 4), some ((.loc 34), false), []⟩,
  ⟨.loc 37, .bin .int .add (.loc 35) (.loc 36), some ((.loc 34), false), []⟩,
  ⟨.loc 38, .bin .int .gtr (.loc 37) (.const (.d (.int .i64 1000000000))), some ((.loc 34), false), []⟩,
  ⟨.loc 39, .pick (.loc 34) (.const (.d (.bool true))) (.loc 38), none, []⟩,
  ⟨.loc 40, .split (.loc 39), none, []⟩,
  ⟨.loc 41, .fld 1 (.var 5), some ((.loc 40), false), []⟩,
  ⟨.loc 42, .load false 1 (.loc 41), some ((.loc 40), false), []⟩,
  ⟨.loc 43, .bin .int .eql (.loc 42) (.const (.d (.int .i64 1000000000))), some ((.loc 40), false), []⟩,
  ⟨.var 44, .pick (.loc 40) (.const (.d (.bool true))) (.loc 43), none, []⟩] false
def c_I_putWrap_3 : ACode := .reg [⟨.loc 45, .load true 3 (.var 13), none, []⟩,
  ⟨.none, .store 3 (.var 10) (.loc 45), none, []⟩,
  ⟨.var 11, .mv (.const (.d (.int .i64 0))), none, []⟩,
  ⟨.var 12, .mv (.const (.d (.int .i64 1))), none, []⟩] false
def c_I_putWrap_4 : ACode := .reg [⟨.loc 46, .fld 2 (.var 5), none, []⟩,
  ⟨.loc 47, .load false 1 (.loc 46), none, []⟩,
  ⟨.loc 48, .len false (.loc 47), none, []⟩,
  ⟨.var 49, .bin .int .eql (.loc 48) (.const (.d (.int .i64 60))), none, []⟩] false
def c_I_putWrap_5 : ACode := .reg [⟨.loc 50, .load true 3 (.var 13), none, []⟩,
  ⟨.none, .store 3 (.var 10) (.loc 50), none, []⟩,
  ⟨.var 11, .mv (.const (.d (.int .i64 0))), none, []⟩,
  ⟨.var 12, .mv (.const (.d (.int .i64 5))), none, []⟩] false
def c_I_putWrap_6 : ACode := .reg [⟨.loc 51, .fld 2 (.var 13), none, []⟩,
  ⟨.loc 52, .load false 1 (.loc 51), none, [0]⟩,
  ⟨.loc 53, .fld 1 (.var 5), none, []⟩,
  ⟨.loc 54, .load false 1 (.loc 53), none, [2]⟩,
  ⟨.loc 55, .mv (.var 3), none, []⟩,
  ⟨.loc 56, .mv (.var 4), none, []⟩,
  ⟨.loc 57, .bin .int .add (.loc 55) (.loc 56), none, [4, 5]⟩,
  ⟨.loc 58, .mv (.var 1), none, []⟩,
  ⟨.loc 59, .fld 0 (.var 5), none, []⟩,
  ⟨.loc 60, .load false 1 (.loc 59), none, [8]⟩,
  ⟨.loc 61, .fld 1 (.var 5), none, []⟩,
  ⟨.loc 62, .load false 1 (.loc 61), none, [10]⟩,
  ⟨.loc 63, .mv (.var 2), none, []⟩,
  ⟨.loc 64, .call (.fn 84) [(.loc 60), (.loc 62), (.loc 63)] [.borrow, .borrow, .borrow], none, [9, 8, 11, 10, 12]⟩,
  ⟨.loc 65, .build [.d (.int .i64 0), .d (.int .i64 0), .d (.str []), .d (.int .i64 0), .nil 0 1, .d (.int .i64 0)] [(0, 1, (.loc 54)), (1, 1, (.loc 57)), (2, 1, (.loc 58)), (3, 3, (.loc 64))], none, [3, 2, 6, 4, 5, 7, 13, 9, 8, 11, 10, 12]⟩,
  ⟨.loc 66, .lit 1 6 1 [.int .i64 0, .int .i64 0, .str [], .int .i64 0, .slc 1 [], .int .i64 0] [(0, (.loc 65))], none, [14, 3, 2, 6, 4, 5, 7, 13, 9, 8, 11, 10, 12]⟩,
  ⟨.loc 67, .app 6 72 (.loc 52) (.loc 66), none, [1, 0, 15, 14, 3, 2, 6, 4, 5, 7, 13, 9, 8, 11, 10, 12]⟩,
  ⟨.loc 68, .fld 2 (.var 13), none, [16, 1, 0, 15, 14, 3, 2, 6, 4, 5, 7, 13, 9, 8, 11, 10, 12]⟩,
  ⟨.none, .store 1 (.loc 68) (.loc 67), none, [17, 16, 1, 0, 15, 14, 3, 2, 6, 4, 5, 7, 13, 9, 8, 11, 10, 12]⟩] true
def c_I_putWrap_7 : ACode := .reg [⟨.loc 69, .fld 1 (.var 13), none, []⟩,
  ⟨.loc 70, .load false 1 (.loc 69), none, []⟩,
  ⟨.loc 71, .bin .int .add (.loc 70) (.const (.d (.int .i64 1))), none, []⟩,
  ⟨.loc 72, .fld 1 (.var 13), none, []⟩,
  ⟨.none, .store 1 (.loc 72) (.loc 71), none, []⟩] false
def c_I_putWrap_8 : ACode := .reg [⟨.loc 73, .load true 3 (.var 13), none, []⟩,
  ⟨.loc 74, .fld 1 (.var 5), none, []⟩,
  ⟨.loc 75, .load false 1 (.loc 74), none, [1]⟩,
  ⟨.none, .store 3 (.var 10) (.loc 73), none, [0]⟩,
  ⟨.var 11, .mv (.loc 75), none, [2, 1, 3, 0]⟩,
  ⟨.var 12, .mv (.const (.d (.int .i64 0))), none, [4, 2, 1, 3, 0]⟩] true
def c_I_putWrap : ACode := (.seq c_I_putWrap_0 (.seq c_I_putWrap_1 (.seq (.seq c_I_putWrap_2 (.cond (.var 44) (.seq c_I_putWrap_3 .ret) .skip)) (.seq (.seq c_I_putWrap_4 (.cond (.var 49) (.seq c_I_putWrap_5 .ret) .skip)) (.seq c_I_putWrap_6 (.seq c_I_putWrap_7 (.seq c_I_putWrap_8 .ret)))))))

abbrev F_I_putWrap : FuncId := 80

theorem k_I_putWrap : comp PP (Tryd.f80.ntmps, pinOf 0 [none, none, none, none, none]) [0, 1, 2, 3, 4, 5, 10, 11, 12, 13, 44, 49] (Tryd.f80.body.getD .skip) = some c_I_putWrap.erase := by kernel_rfl

theorem v_I_putWrap {GG : GV} (rcs : List C) {cs : List C} {r : C} {os : List (Option C)} (hN : (cs.length == 5 && rcs.length == 3) = true) (hret : retOf rcs = r)
    (hW : W PP [0, 1, 2, 3, 4, 5, 10, 11, 12, 13, 44, 49] (Tryd.f80.ntmps, pinOf 0 [none, none, none, none, none]) (Valid PP GG) c_I_putWrap (entry cs) (Fin (Valid PP GG) [(.give, 10, some (true, 3)), (.give, 11, none), (.give, 12, none)] [none, none, none, none, none] rcs os) (fun _ _ => False) (Fin (Valid PP GG) [(.give, 10, some (true, 3)), (.give, 11, none), (.give, 12, none)] [none, none, none, none, none] rcs os)) : Valid PP GG F_I_putWrap cs r os :=
  fn_valid_n 5 3 [0, 1, 2, 3, 4, 5, 10, 11, 12, 13, 44, 49] c_I_putWrap [(.give, 10, some (true, 3)), (.give, 11, none), (.give, 12, none)] [none, none, none, none, none] rcs Tryd.func80 rfl rfl (by kernel_rfl) k_I_putWrap rfl rfl hN hret hW


end Go.Proofs.YtpbofdbleajagaaDoor.Ab
