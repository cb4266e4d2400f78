/-
  A part of a proof about the given program; what is proved is said where each theorem stands.
-/
import Derived.Test.YtpbofdbleajagaaDoorFrameA
import Derived.Test.YtpbofdbleajagaaDoorFrameB
import Derived.Test.YtpbofdbleajagaaDoorFrameC
import Derived.Test.YtpbofdbleajagaaDoorFrameD
import Derived.Test.YtpbofdbleajagaaDoorFrameE
import Derived.Test.YtpbofdbleajagaaDoorShelf
import Derived.Test.YtpbofdbleajagaaDoorCodesA
import Derived.Test.YtpbofdbleajagaaDoorCodesB
import Derived.Test.YtpbofdbleajagaaDoorCodesC
import Derived.Test.YtpbofdbleajagaaDoorPartA
import Derived.Test.YtpbofdbleajagaaDoorPartB
import Derived.Test.YtpbofdbleajagaaDoorPartC
import Derived.Test.YtpbofdbleajagaaDoorPartD
namespace Go.Proofs.YtpbofdbleajagaaDoor.Ab
open Go.Proofs

/-
loop.example/g00705/laws.FnExactPeekWrap  params 2+0 results [4]
  seq  mid=[1, 2]
    c_L_FnExactPeekWrap_0
    seq  mid=[1, 2, 5]
      c_L_FnExactPeekWrap_1
      seq  mid=[1, 2, 5]
        c_L_FnExactPeekWrap_2
        seq  mid=[1, 2]
          seq  mid=[1, 2, 17]
            c_L_FnExactPeekWrap_3
            cond (.var 17)
              seq  mid=[4]
                c_L_FnExactPeekWrap_4
                ret
              skip
          seq  mid=[1, 2, 6, 7, 8]
            c_L_FnExactPeekWrap_5
            seq  mid=[1, 2, 6, 7, 8, 9]
              c_L_FnExactPeekWrap_6
              seq  mid=[2, 6, 7, 8, 9, 10, 11, 12]
                c_L_FnExactPeekWrap_7
                seq  mid=[2, 9]
                  seq  mid=[2, 9, 47]
                    c_L_FnExactPeekWrap_8
                    cond (.var 47)
                      seq  mid=[4]
                        c_L_FnExactPeekWrap_9
                        ret
                      skip
                  seq  mid=[]
                    seq  mid=[52]
                      c_L_FnExactPeekWrap_10 DRAW
                      cond (.var 52)
                        seq  mid=[4]
                          c_L_FnExactPeekWrap_11
                          ret
                        skip
                    seq  mid=[4]
                      c_L_FnExactPeekWrap_12
                      ret
-/
def c_L_FnExactPeekWrap_0 : ACode := .reg [⟨.var 2, .box (.var 0), none, []⟩,
  ⟨.var 4, .mv (.const (.d (.bool false))), none, []⟩] false
def c_L_FnExactPeekWrap_1 : ACode := .reg [⟨.var 5, .mv (.const (.d (.int .i64 1048576))), none, []⟩] false
def c_L_FnExactPeekWrap_2 : ACode := .reg [⟨.loc 13, .load true 3 (.var 2), none, []⟩,
  ⟨.loc 14, .mv (.var 5), none, []⟩,
  ⟨.loc 15, .call (.fn 24) [(.loc 13), (.loc 14)] [.borrow, .borrow], none, []⟩,
  ⟨.var 5, .mv (.loc 15), none, []⟩] false
def c_L_FnExactPeekWrap_3 : ACode := .reg [⟨.loc 16, .mv (.var 5), none, []⟩,
  ⟨.var 17, .bin .int .lss (.loc 16) (.const (.d (.int .i64 0))), none, []⟩] false
def c_L_FnExactPeekWrap_4 : ACode := .reg [⟨.var 4, .mv (.const (.d (.bool true))), none, []⟩] false
def c_L_FnExactPeekWrap_5 : ACode := .reg [⟨.loc 19, .load true 3 (.var 2), none, []⟩,
  ⟨.loc 20, .call (.fn 26) [(.loc 19)] [.borrow], none, []⟩,
  ⟨.loc 21, .mv (.var 1), none, []⟩,
  ⟨.loc 22, .call (.fn 25) [(.loc 20), (.loc 21)] [.borrow, .borrow], none, []⟩,
  ⟨.loc 18, .mv (.loc 22), none, []⟩,
  ⟨.loc 23, .ext (.loc 18) 0, none, []⟩,
  ⟨.loc 24, .ext (.loc 18) 1, none, []⟩,
  ⟨.loc 25, .ext (.loc 18) 2, none, []⟩,
  ⟨.var 6, .mv (.loc 23), none, []⟩,
  ⟨.var 7, .mv (.loc 24), none, []⟩,
  ⟨.var 8, .mv (.loc 25), none, []⟩] false
def c_L_FnExactPeekWrap_6 : ACode := .reg [⟨.loc 26, .load true 3 (.var 2), none, []⟩,
  ⟨.loc 27, .call (.fn 26) [(.loc 26)] [.borrow], none, []⟩,
  ⟨.var 9, .alloc [.d (.int .i64 0), .d (.int .i64 0), .nil 1 6], none, []⟩,
  ⟨.none, .store 3 (.var 9) (.loc 27), none, []⟩] false
def c_L_FnExactPeekWrap_7 : ACode := .reg [⟨.loc 29, .load true 3 (.var 9), none, []⟩,
  ⟨.loc 30, .mv (.var 1), none, []⟩,
  ⟨.loc 31, .call (.fn 27) [(.loc 29), (.loc 30)] [.borrow, .borrow], none, []⟩,
  ⟨.loc 28, .mv (.loc 31), none, []⟩,
  ⟨.loc 32, .ext (.loc 28) 0, none, []⟩,
  ⟨.loc 33, .ext (.loc 28) 1, none, []⟩,
  ⟨.loc 34, .ext (.loc 28) 2, none, []⟩,
  ⟨.var 10, .mv (.loc 32), none, []⟩,
  ⟨.var 11, .mv (.loc 33), none, []⟩,
  ⟨.var 12, .mv (.loc 34), none, []⟩] false
def c_L_FnExactPeekWrap_8 : ACode := .reg [⟨.loc 35, .mv (.var 10), none, []⟩,
  ⟨.loc 36, .mv (.var 6), none, []⟩,
  ⟨.loc 37, .bin .str .neq (.loc 35) (.loc 36), none, []⟩,
  ⟨.loc 38, .split (.loc 37), none, []⟩,
  ⟨.loc 39, .mv (.var 11), some ((.loc 38), false), []⟩,
  ⟨.loc 40, .mv (.var 7), some ((.loc 38), false), []⟩,
  ⟨.loc 41, .bin .int .neq (.loc 39) (.loc 40), some ((.loc 38), false), []⟩,
  ⟨.loc 42, .pick (.loc 38) (.const (.d (.bool true))) (.loc 41), none, []⟩,
  ⟨.loc 43, .split (.loc 42), none, []⟩,
  ⟨.loc 44, .mv (.var 12), some ((.loc 43), false), []⟩,
  ⟨.loc 45, .mv (.var 8), some ((.loc 43), false), []⟩,
  ⟨.loc 46, .bin .int .neq (.loc 44) (.loc 45), some ((.loc 43), false), []⟩,
  ⟨.var 47, .pick (.loc 43) (.const (.d (.bool true))) (.loc 46), none, []⟩] false
def c_L_FnExactPeekWrap_9 : ACode := .reg [⟨.var 4, .mv (.const (.d (.bool false))), none, []⟩] false
def c_L_FnExactPeekWrap_10 : ACode := .reg [⟨.loc 48, .load true 3 (.var 9), none, []⟩,
  ⟨.loc 49, .load true 3 (.var 2), none, []⟩,
  ⟨.loc 50, .call (.fn 26) [(.loc 49)] [.borrow], none, [1]⟩,
  ⟨.loc 51, .call (.fn 28) [(.loc 48), (.loc 50)] [.borrow, .borrow], none, [0, 2, 1]⟩,
  ⟨.var 52, .un .not (.loc 51), none, [3, 0, 2, 1]⟩] true
def c_L_FnExactPeekWrap_11 : ACode := .reg [⟨.var 4, .mv (.const (.d (.bool false))), none, []⟩] false
def c_L_FnExactPeekWrap_12 : ACode := .reg [⟨.var 4, .mv (.const (.d (.bool true))), none, []⟩] false
def c_L_FnExactPeekWrap : ACode := (.seq c_L_FnExactPeekWrap_0 (.seq c_L_FnExactPeekWrap_1 (.seq c_L_FnExactPeekWrap_2 (.seq (.seq c_L_FnExactPeekWrap_3 (.cond (.var 17) (.seq c_L_FnExactPeekWrap_4 .ret) .skip)) (.seq c_L_FnExactPeekWrap_5 (.seq c_L_FnExactPeekWrap_6 (.seq c_L_FnExactPeekWrap_7 (.seq (.seq c_L_FnExactPeekWrap_8 (.cond (.var 47) (.seq c_L_FnExactPeekWrap_9 .ret) .skip)) (.seq (.seq c_L_FnExactPeekWrap_10 (.cond (.var 52) (.seq c_L_FnExactPeekWrap_11 .ret) .skip)) (.seq c_L_FnExactPeekWrap_12 .ret))))))))))

abbrev F_L_FnExactPeekWrap : FuncId := 6

theorem k_L_FnExactPeekWrap : comp PP (Tryd.f6.ntmps, pinOf 0 [none, none]) [0, 1, 2, 4, 5, 6, 7, 8, 9, 10, 11, 12, 17, 47, 52] (Tryd.f6.body.getD .skip) = some c_L_FnExactPeekWrap.erase := by kernel_rfl

theorem v_L_FnExactPeekWrap {GG : GV} (rcs : List C) {cs : List C} {r : C} {os : List (Option C)} (hN : (cs.length == 2 && rcs.length == 1) = true) (hret : retOf rcs = r)
    (hW : W PP [0, 1, 2, 4, 5, 6, 7, 8, 9, 10, 11, 12, 17, 47, 52] (Tryd.f6.ntmps, pinOf 0 [none, none]) (Valid PP GG) c_L_FnExactPeekWrap (entry cs) (Fin (Valid PP GG) [(.give, 4, none)] [none, none] rcs os) (fun _ _ => False) (Fin (Valid PP GG) [(.give, 4, none)] [none, none] rcs os)) : Valid PP GG F_L_FnExactPeekWrap cs r os :=
  fn_valid_n 2 1 [0, 1, 2, 4, 5, 6, 7, 8, 9, 10, 11, 12, 17, 47, 52] c_L_FnExactPeekWrap [(.give, 4, none)] [none, none] rcs Tryd.func6 rfl rfl (by kernel_rfl) k_L_FnExactPeekWrap rfl rfl hN hret hW


/-
loop.example/g00705/laws.FnExactSalted  params 2+0 results [4]
  seq  mid=[1, 2]
    c_L_FnExactSalted_0
    seq  mid=[1, 2]
      seq  mid=[1, 2, 11]
        c_L_FnExactSalted_1
        cond (.var 11)
          seq  mid=[4]
            c_L_FnExactSalted_2
            ret
          skip
      seq  mid=[1, 2, 5]
        c_L_FnExactSalted_3
        seq  mid=[1, 2, 5]
          c_L_FnExactSalted_4
          seq  mid=[1, 2]
            seq  mid=[1, 2, 16]
              c_L_FnExactSalted_5
              cond (.var 16)
                seq  mid=[4]
                  c_L_FnExactSalted_6
                  ret
                skip
            seq  mid=[1, 2, 6]
              c_L_FnExactSalted_7
              seq  mid=[1, 2, 6, 7]
                c_L_FnExactSalted_8
                seq  mid=[2, 6, 7, 8]
                  c_L_FnExactSalted_9
                  seq  mid=[2, 7]
                    seq  mid=[2, 7, 28]
                      c_L_FnExactSalted_10
                      cond (.var 28)
                        seq  mid=[4]
                          c_L_FnExactSalted_11
                          ret
                        skip
                    seq  mid=[]
                      seq  mid=[33]
                        c_L_FnExactSalted_12 DRAW
                        cond (.var 33)
                          seq  mid=[4]
                            c_L_FnExactSalted_13
                            ret
                          skip
                      seq  mid=[4]
                        c_L_FnExactSalted_14
                        ret
-/
def c_L_FnExactSalted_0 : ACode := .reg [⟨.var 2, .box (.var 0), none, []⟩,
  ⟨.var 4, .mv (.const (.d (.bool false))), none, []⟩] false
def c_L_FnExactSalted_1 : ACode := .reg [⟨.loc 9, .mv (.var 1), none, []⟩,
  ⟨.loc 10, .len true (.loc 9), none, []⟩,
  ⟨.var 11, .bin .int .gtr (.loc 10) (.const (.d (.int .i64 1048576))), none, []⟩] false
def c_L_FnExactSalted_2 : ACode := .reg [⟨.var 4, .mv (.const (.d (.bool true))), none, []⟩] false
def c_L_FnExactSalted_3 : ACode := .reg [⟨.var 5, .mv (.const (.d (.int .i64 1048576))), none, []⟩] false
def c_L_FnExactSalted_4 : ACode := .reg [⟨.loc 12, .load true 3 (.var 2), none, []⟩,
  ⟨.loc 13, .mv (.var 5), none, []⟩,
  ⟨.loc 14, .call (.fn 17) [(.loc 12), (.loc 13)] [.borrow, .borrow], none, []⟩,
  ⟨.var 5, .mv (.loc 14), none, []⟩] false
def c_L_FnExactSalted_5 : ACode := .reg [⟨.loc 15, .mv (.var 5), none, []⟩,
  ⟨.var 16, .bin .int .lss (.loc 15) (.const (.d (.int .i64 0))), none, []⟩] false
def c_L_FnExactSalted_6 : ACode := .reg [⟨.var 4, .mv (.const (.d (.bool true))), none, []⟩] false
def c_L_FnExactSalted_7 : ACode := .reg [⟨.loc 17, .load true 3 (.var 2), none, []⟩,
  ⟨.loc 18, .call (.fn 19) [(.loc 17)] [.borrow], none, []⟩,
  ⟨.loc 19, .mv (.var 1), none, []⟩,
  ⟨.loc 20, .call (.fn 39) [(.loc 18), (.loc 19)] [.borrow, .borrow], none, []⟩,
  ⟨.var 6, .mv (.loc 20), none, []⟩] false
def c_L_FnExactSalted_8 : ACode := .reg [⟨.loc 21, .load true 3 (.var 2), none, []⟩,
  ⟨.loc 22, .call (.fn 19) [(.loc 21)] [.borrow], none, []⟩,
  ⟨.var 7, .alloc [.d (.int .i64 0), .d (.int .i64 0), .nil 0 7], none, []⟩,
  ⟨.none, .store 3 (.var 7) (.loc 22), none, []⟩] false
def c_L_FnExactSalted_9 : ACode := .reg [⟨.loc 23, .load true 3 (.var 7), none, []⟩,
  ⟨.loc 24, .mv (.var 1), none, []⟩,
  ⟨.loc 25, .call (.fn 40) [(.loc 23), (.loc 24)] [.borrow, .borrow], none, []⟩,
  ⟨.var 8, .mv (.loc 25), none, []⟩] false
def c_L_FnExactSalted_10 : ACode := .reg [⟨.loc 26, .mv (.var 8), none, []⟩,
  ⟨.loc 27, .mv (.var 6), none, []⟩,
  ⟨.var 28, .bin .str .neq (.loc 26) (.loc 27), none, []⟩] false
def c_L_FnExactSalted_11 : ACode := .reg [⟨.var 4, .mv (.const (.d (.bool false))), none, []⟩] false
def c_L_FnExactSalted_12 : ACode := .reg [⟨.loc 29, .load true 3 (.var 7), none, []⟩,
  ⟨.loc 30, .load true 3 (.var 2), none, []⟩,
  ⟨.loc 31, .call (.fn 19) [(.loc 30)] [.borrow], none, [1]⟩,
  ⟨.loc 32, .call (.fn 21) [(.loc 29), (.loc 31)] [.borrow, .borrow], none, [0, 2, 1]⟩,
  ⟨.var 33, .un .not (.loc 32), none, [3, 0, 2, 1]⟩] true
def c_L_FnExactSalted_13 : ACode := .reg [⟨.var 4, .mv (.const (.d (.bool false))), none, []⟩] false
def c_L_FnExactSalted_14 : ACode := .reg [⟨.var 4, .mv (.const (.d (.bool true))), none, []⟩] false
def c_L_FnExactSalted : ACode := (.seq c_L_FnExactSalted_0 (.seq (.seq c_L_FnExactSalted_1 (.cond (.var 11) (.seq c_L_FnExactSalted_2 .ret) .skip)) (.seq c_L_FnExactSalted_3 (.seq c_L_FnExactSalted_4 (.seq (.seq c_L_FnExactSalted_5 (.cond (.var 16) (.seq c_L_FnExactSalted_6 .ret) .skip)) (.seq c_L_FnExactSalted_7 (.seq c_L_FnExactSalted_8 (.seq c_L_FnExactSalted_9 (.seq (.seq c_L_FnExactSalted_10 (.cond (.var 28) (.seq c_L_FnExactSalted_11 .ret) .skip)) (.seq (.seq c_L_FnExactSalted_12 (.cond (.var 33) (.seq c_L_FnExactSalted_13 .ret) .skip)) (.seq c_L_FnExactSalted_14 .ret)))))))))))

abbrev F_L_FnExactSalted : FuncId := 9

theorem k_L_FnExactSalted : comp PP (Tryd.f9.ntmps, pinOf 0 [none, none]) [0, 1, 2, 4, 5, 6, 7, 8, 11, 16, 28, 33] (Tryd.f9.body.getD .skip) = some c_L_FnExactSalted.erase := by kernel_rfl

theorem v_L_FnExactSalted {GG : GV} (rcs : List C) {cs : List C} {r : C} {os : List (Option C)} (hN : (cs.length == 2 && rcs.length == 1) = true) (hret : retOf rcs = r)
    (hW : W PP [0, 1, 2, 4, 5, 6, 7, 8, 11, 16, 28, 33] (Tryd.f9.ntmps, pinOf 0 [none, none]) (Valid PP GG) c_L_FnExactSalted (entry cs) (Fin (Valid PP GG) [(.give, 4, none)] [none, none] rcs os) (fun _ _ => False) (Fin (Valid PP GG) [(.give, 4, none)] [none, none] rcs os)) : Valid PP GG F_L_FnExactSalted cs r os :=
  fn_valid_n 2 1 [0, 1, 2, 4, 5, 6, 7, 8, 11, 16, 28, 33] c_L_FnExactSalted [(.give, 4, none)] [none, none] rcs Tryd.func9 rfl rfl (by kernel_rfl) k_L_FnExactSalted rfl rfl hN hret hW


/-
loop.example/g00705/spec.PeekWrap  params 2+0 results [4, 5, 6]
  seq  mid=[1, 2]
    c_S_PeekWrap_0
    seq  mid=[1, 2]
      seq  mid=[1, 2, 10]
        c_S_PeekWrap_1
        cond (.var 10)
          seq  mid=[4, 5, 6]
            c_S_PeekWrap_2
            ret
          skip
      seq  mid=[2, 7]
        c_S_PeekWrap_3
        seq  mid=[2, 7]
          seq  mid=[2, 7, 15]
            c_S_PeekWrap_4
            cond (.var 15)
              seq  mid=[4, 5, 6]
                c_S_PeekWrap_5
                ret
              skip
          seq  mid=[4, 5, 6]
            c_S_PeekWrap_6 DRAW
            ret
-/
def c_S_PeekWrap_0 : ACode := .reg [⟨.var 2, .box (.var 0), none, []⟩,
  ⟨.var 4, .mv (.const (.d (.str []))), none, []⟩,
  ⟨.var 5, .mv (.const (.d (.int .i64 0))), none, []⟩,
  ⟨.var 6, .mv (.const (.d (.int .i64 0))), none, []⟩] false
def c_S_PeekWrap_1 : ACode := .reg [⟨.loc 8, .load true 3 (.var 2), none, []⟩,
  ⟨.loc 9, .call (.fn 59) [(.loc 8)] [.borrow], none, []⟩,
  ⟨.var 10, .un .not (.loc 9), none, []⟩] false
def c_S_PeekWrap_2 : ACode := .reg [⟨.var 4, .mv (.const (.d (.str []))), none, []⟩,
  ⟨.var 5, .mv (.const (.d (.int .i64 0))), none, []⟩,
  ⟨.var 6, .mv (.const (.d (.int .i64 1))), none, []⟩] false
def c_S_PeekWrap_3 : ACode := .reg [⟨.loc 11, .load true 3 (.var 2), none, []⟩,
  ⟨.loc 12, .mv (.var 1), none, []⟩,
  ⟨.loc 13, .call (.fn 60) [(.loc 11), (.loc 12)] [.borrow, .borrow], none, []⟩,
  ⟨.var 7, .mv (.loc 13), none, []⟩] false
def c_S_PeekWrap_4 : ACode := .reg [⟨.loc 14, .mv (.var 7), none, []⟩,
  ⟨.var 15, .bin .int .lss (.loc 14) (.const (.d (.int .i64 0))), none, []⟩] false
def c_S_PeekWrap_5 : ACode := .reg [⟨.var 4, .mv (.const (.d (.str []))), none, []⟩,
  ⟨.var 5, .mv (.const (.d (.int .i64 0))), none, []⟩,
  ⟨.var 6, .mv (.const (.d (.int .i64 2))), none, []⟩] false
def c_S_PeekWrap_6 : ACode := .reg [⟨.loc 16, .fld 2 (.var 2), none, []⟩,
  ⟨.loc 17, .load false 1 (.loc 16), none, [0]⟩,
  ⟨.loc 18, .mv (.var 7), none, []⟩,
  ⟨.loc 19, .idxA 6 (.loc 17) (.loc 18), none, [1, 0, 2]⟩,
  ⟨.loc 20, .fld 2 (.loc 19), none, [3, 1, 0, 2]⟩,
  ⟨.loc 21, .load false 1 (.loc 20), none, [4, 3, 1, 0, 2]⟩,
  ⟨.loc 22, .fld 2 (.var 2), none, []⟩,
  ⟨.loc 23, .load false 1 (.loc 22), none, [6]⟩,
  ⟨.loc 24, .mv (.var 7), none, []⟩,
  ⟨.loc 25, .idxA 6 (.loc 23) (.loc 24), none, [7, 6, 8]⟩,
  ⟨.loc 26, .fld 1 (.loc 25), none, [9, 7, 6, 8]⟩,
  ⟨.loc 27, .load false 1 (.loc 26), none, [10, 9, 7, 6, 8]⟩,
  ⟨.var 4, .mv (.loc 21), none, [5, 4, 3, 1, 0, 2]⟩,
  ⟨.var 5, .mv (.loc 27), none, [11, 10, 9, 7, 6, 8, 12, 5, 4, 3, 1, 0, 2]⟩,
  ⟨.var 6, .mv (.const (.d (.int .i64 0))), none, [13, 11, 10, 9, 7, 6, 8, 12, 5, 4, 3, 1, 0, 2]⟩] true
def c_S_PeekWrap : ACode := (.seq c_S_PeekWrap_0 (.seq (.seq c_S_PeekWrap_1 (.cond (.var 10) (.seq c_S_PeekWrap_2 .ret) .skip)) (.seq c_S_PeekWrap_3 (.seq (.seq c_S_PeekWrap_4 (.cond (.var 15) (.seq c_S_PeekWrap_5 .ret) .skip)) (.seq c_S_PeekWrap_6 .ret)))))

abbrev F_S_PeekWrap : FuncId := 25

theorem k_S_PeekWrap : comp PP (Tryd.f25.ntmps, pinOf 0 [none, none]) [0, 1, 2, 4, 5, 6, 7, 10, 15] (Tryd.f25.body.getD .skip) = some c_S_PeekWrap.erase := by kernel_rfl

theorem v_S_PeekWrap {GG : GV} (rcs : List C) {cs : List C} {r : C} {os : List (Option C)} (hN : (cs.length == 2 && rcs.length == 3) = true) (hret : retOf rcs = r)
    (hW : W PP [0, 1, 2, 4, 5, 6, 7, 10, 15] (Tryd.f25.ntmps, pinOf 0 [none, none]) (Valid PP GG) c_S_PeekWrap (entry cs) (Fin (Valid PP GG) [(.give, 4, none), (.give, 5, none), (.give, 6, none)] [none, none] rcs os) (fun _ _ => False) (Fin (Valid PP GG) [(.give, 4, none), (.give, 5, none), (.give, 6, none)] [none, none] rcs os)) : Valid PP GG F_S_PeekWrap cs r os :=
  fn_valid_n 2 3 [0, 1, 2, 4, 5, 6, 7, 10, 15] c_S_PeekWrap [(.give, 4, none), (.give, 5, none), (.give, 6, none)] [none, none] rcs Tryd.func25 rfl rfl (by kernel_rfl) k_S_PeekWrap rfl rfl hN hret hW


/-
loop.example/g00705/impl.PeekWrap  params 2+0 results [4, 5, 6]
  seq  mid=[1, 2]
    c_I_PeekWrap_0
    seq  mid=[1, 2]
      seq  mid=[1, 2, 10]
        c_I_PeekWrap_1
        cond (.var 10)
          seq  mid=[4, 5, 6]
            c_I_PeekWrap_2
            ret
          skip
      seq  mid=[2, 7]
        c_I_PeekWrap_3
        seq  mid=[2, 7]
          seq  mid=[2, 7, 15]
            c_I_PeekWrap_4
            cond (.var 15)
              seq  mid=[4, 5, 6]
                c_I_PeekWrap_5
                ret
              skip
          seq  mid=[4, 5, 6]
            c_I_PeekWrap_6 DRAW
            ret
-/
def c_I_PeekWrap_0 : ACode := .reg [⟨.var 2, .box (.var 0), none, []⟩,
  ⟨.var 4, .mv (.const (.d (.str []))), none, []⟩,
  ⟨.var 5, .mv (.const (.d (.int .i64 0))), none, []⟩,
  ⟨.var 6, .mv (.const (.d (.int .i64 0))), none, []⟩] false
def c_I_PeekWrap_1 : ACode := .reg [⟨.loc 8, .load true 3 (.var 2), none, []⟩,
  ⟨.loc 9, .call (.fn 62) [(.loc 8)] [.borrow], none, []⟩,
  ⟨.var 10, .un .not (.loc 9), none, []⟩] false
def c_I_PeekWrap_2 : ACode := .reg [⟨.var 4, .mv (.const (.d (.str []))), none, []⟩,
  ⟨.var 5, .mv (.const (.d (.int .i64 0))), none, []⟩,
  ⟨.var 6, .mv (.const (.d (.int .i64 1))), none, []⟩] false
def c_I_PeekWrap_3 : ACode := .reg [⟨.loc 11, .load true 3 (.var 2), none, []⟩,
  ⟨.loc 12, .mv (.var 1), none, []⟩,
  ⟨.loc 13, .call (.fn 63) [(.loc 11), (.loc 12)] [.borrow, .borrow], none, []⟩,
  ⟨.var 7, .mv (.loc 13), none, []⟩] false
def c_I_PeekWrap_4 : ACode := .reg [⟨.loc 14, .mv (.var 7), none, []⟩,
  ⟨.var 15, .bin .int .lss (.loc 14) (.const (.d (.int .i64 0))), none, []⟩] false
def c_I_PeekWrap_5 : ACode := .reg [⟨.var 4, .mv (.const (.d (.str []))), none, []⟩,
  ⟨.var 5, .mv (.const (.d (.int .i64 0))), none, []⟩,
  ⟨.var 6, .mv (.const (.d (.int .i64 2))), none, []⟩] false
def c_I_PeekWrap_6 : ACode := .reg [⟨.loc 16, .fld 2 (.var 2), none, []⟩,
  ⟨.loc 17, .load false 1 (.loc 16), none, [0]⟩,
  ⟨.loc 18, .mv (.var 7), none, []⟩,
  ⟨.loc 19, .idxA 6 (.loc 17) (.loc 18), none, [1, 0, 2]⟩,
  ⟨.loc 20, .fld 2 (.loc 19), none, [3, 1, 0, 2]⟩,
  ⟨.loc 21, .load false 1 (.loc 20), none, [4, 3, 1, 0, 2]⟩,
  ⟨.loc 22, .fld 2 (.var 2), none, []⟩,
  ⟨.loc 23, .load false 1 (.loc 22), none, [6]⟩,
  ⟨.loc 24, .mv (.var 7), none, []⟩,
  ⟨.loc 25, .idxA 6 (.loc 23) (.loc 24), none, [7, 6, 8]⟩,
  ⟨.loc 26, .fld 1 (.loc 25), none, [9, 7, 6, 8]⟩,
  ⟨.loc 27, .load false 1 (.loc 26), none, [10, 9, 7, 6, 8]⟩,
  ⟨.var 4, .mv (.loc 21), none, [5, 4, 3, 1, 0, 2]⟩,
  ⟨.var 5, .mv (.loc 27), none, [11, 10, 9, 7, 6, 8, 12, 5, 4, 3, 1, 0, 2]⟩,
  ⟨.var 6, .mv (.const (.d (.int .i64 0))), none, [13, 11, 10, 9, 7, 6, 8, 12, 5, 4, 3, 1, 0, 2]⟩] true
def c_I_PeekWrap : ACode := (.seq c_I_PeekWrap_0 (.seq (.seq c_I_PeekWrap_1 (.cond (.var 10) (.seq c_I_PeekWrap_2 .ret) .skip)) (.seq c_I_PeekWrap_3 (.seq (.seq c_I_PeekWrap_4 (.cond (.var 15) (.seq c_I_PeekWrap_5 .ret) .skip)) (.seq c_I_PeekWrap_6 .ret)))))

abbrev F_I_PeekWrap : FuncId := 27

theorem k_I_PeekWrap : comp PP (Tryd.f27.ntmps, pinOf 0 [none, none]) [0, 1, 2, 4, 5, 6, 7, 10, 15] (Tryd.f27.body.getD .skip) = some c_I_PeekWrap.erase := by kernel_rfl

theorem v_I_PeekWrap {GG : GV} (rcs : List C) {cs : List C} {r : C} {os : List (Option C)} (hN : (cs.length == 2 && rcs.length == 3) = true) (hret : retOf rcs = r)
    (hW : W PP [0, 1, 2, 4, 5, 6, 7, 10, 15] (Tryd.f27.ntmps, pinOf 0 [none, none]) (Valid PP GG) c_I_PeekWrap (entry cs) (Fin (Valid PP GG) [(.give, 4, none), (.give, 5, none), (.give, 6, none)] [none, none] rcs os) (fun _ _ => False) (Fin (Valid PP GG) [(.give, 4, none), (.give, 5, none), (.give, 6, none)] [none, none] rcs os)) : Valid PP GG F_I_PeekWrap cs r os :=
  fn_valid_n 2 3 [0, 1, 2, 4, 5, 6, 7, 10, 15] c_I_PeekWrap [(.give, 4, none), (.give, 5, none), (.give, 6, none)] [none, none] rcs Tryd.func27 rfl rfl (by kernel_rfl) k_I_PeekWrap rfl rfl hN hret hW


/-
loop.example/g00705/spec.Salted  params 2+0 results [4]
  seq  mid=[1, 2]
    c_S_Salted_0
    seq  mid=[1, 2]
      seq  mid=[1, 2, 12]
        c_S_Salted_1
        cond (.var 12)
          seq  mid=[4]
            c_S_Salted_2
            ret
          skip
      seq  mid=[4]
        c_S_Salted_3
        ret
-/
def c_S_Salted_0 : ACode := .reg [⟨.var 2, .box (.var 0), none, []⟩,
  ⟨.var 4, .mv (.const (.d (.str []))), none, []⟩] false
def c_S_Salted_1 : ACode := .reg [⟨.loc 5, .load true 3 (.var 2), none, []⟩,
  ⟨.loc 6, .call (.fn 18) [(.loc 5)] [.borrow], none, []⟩,
  ⟨.loc 7, .un .not (.loc 6), none, []⟩,
  ⟨.loc 8, .split (.loc 7), none, []⟩,
  ⟨.loc 9, .mv (.var 1), some ((.loc 8), false), []⟩,
  ⟨.loc 10, .len true (.loc 9), some ((.loc 8), false), []⟩,
  ⟨.loc 11, .bin .int .gtr (.loc 10) (.const (.d (.int .i64 2000))), some ((.loc 8), false), []⟩,
  ⟨.var 12, .pick (.loc 8) (.const (.d (.bool true))) (.loc 11), none, []⟩] false
def c_S_Salted_2 : ACode := .reg [⟨.var 4, .mv (.const (.d (.str []))), none, []⟩] false
def c_S_Salted_3 : ACode := .reg [⟨.loc 13, .fld 1 (.var 2), none, []⟩,
  ⟨.loc 14, .load false 1 (.loc 13), none, []⟩,
  ⟨.loc 15, .call (.fn 75) [(.loc 14)] [.borrow], none, []⟩,
  ⟨.loc 16, .mv (.var 1), none, []⟩,
  ⟨.loc 17, .s2b (.loc 16), none, []⟩,
  ⟨.loc 18, .call (.fn 74) [(.loc 15), (.loc 17)] [.borrow, .borrow], none, []⟩,
  ⟨.loc 19, .call (.fn 73) [(.loc 18)] [.borrow], none, []⟩,
  ⟨.loc 20, .call (.fn 72) [(.loc 19)] [.borrow], none, []⟩,
  ⟨.loc 21, .bin .str .add (.const (.d (.str [104]))) (.loc 20), none, []⟩,
  ⟨.var 4, .mv (.loc 21), none, []⟩] false
def c_S_Salted : ACode := (.seq c_S_Salted_0 (.seq (.seq c_S_Salted_1 (.cond (.var 12) (.seq c_S_Salted_2 .ret) .skip)) (.seq c_S_Salted_3 .ret)))

abbrev F_S_Salted : FuncId := 39

theorem k_S_Salted : comp PP (Tryd.f39.ntmps, pinOf 0 [none, none]) [0, 1, 2, 4, 12] (Tryd.f39.body.getD .skip) = some c_S_Salted.erase := by kernel_rfl

theorem v_S_Salted {GG : GV} (rcs : List C) {cs : List C} {r : C} {os : List (Option C)} (hN : (cs.length == 2 && rcs.length == 1) = true) (hret : retOf rcs = r)
    (hW : W PP [0, 1, 2, 4, 12] (Tryd.f39.ntmps, pinOf 0 [none, none]) (Valid PP GG) c_S_Salted (entry cs) (Fin (Valid PP GG) [(.give, 4, none)] [none, none] rcs os) (fun _ _ => False) (Fin (Valid PP GG) [(.give, 4, none)] [none, none] rcs os)) : Valid PP GG F_S_Salted cs r os :=
  fn_valid_n 2 1 [0, 1, 2, 4, 12] c_S_Salted [(.give, 4, none)] [none, none] rcs Tryd.func39 rfl rfl (by kernel_rfl) k_S_Salted rfl rfl hN hret hW


/-
loop.example/g00705/impl.Salted  params 2+0 results [4]
  seq  mid=[1, 2]
    c_I_Salted_0
    seq  mid=[1, 2]
      seq  mid=[1, 2, 12]
        c_I_Salted_1
        cond (.var 12)
          seq  mid=[4]
            c_I_Salted_2
            ret
          skip
      seq  mid=[4]
        c_I_Salted_3
        ret
-/
def c_I_Salted_0 : ACode := .reg [⟨.var 2, .box (.var 0), none, []⟩,
  ⟨.var 4, .mv (.const (.d (.str []))), none, []⟩] false
def c_I_Salted_1 : ACode := .reg [⟨.loc 5, .load true 3 (.var 2), none, []⟩,
  ⟨.loc 6, .call (.fn 55) [(.loc 5)] [.borrow], none, []⟩,
  ⟨.loc 7, .un .not (.loc 6), none, []⟩,
  ⟨.loc 8, .split (.loc 7), none, []⟩,
  ⟨.loc 9, .mv (.var 1), some ((.loc 8), false), []⟩,
  ⟨.loc 10, .len true (.loc 9), some ((.loc 8), false), []⟩,
  ⟨.loc 11, .bin .int .gtr (.loc 10) (.const (.d (.int .i64 2000))), some ((.loc 8), false), []⟩,
  ⟨.var 12, .pick (.loc 8) (.const (.d (.bool true))) (.loc 11), none, []⟩] false
def c_I_Salted_2 : ACode := .reg [⟨.var 4, .mv (.const (.d (.str []))), none, []⟩] false
def c_I_Salted_3 : ACode := .reg [⟨.loc 13, .fld 1 (.var 2), none, []⟩,
  ⟨.loc 14, .load false 1 (.loc 13), none, []⟩,
  ⟨.loc 15, .call (.fn 78) [(.loc 14)] [.borrow], none, []⟩,
  ⟨.loc 16, .mv (.var 1), none, []⟩,
  ⟨.loc 17, .appS (.loc 15) (.loc 16), none, []⟩,
  ⟨.loc 18, .call (.fn 77) [(.loc 17)] [.borrow], none, []⟩,
  ⟨.loc 19, .call (.fn 76) [(.loc 18)] [.borrow], none, []⟩,
  ⟨.loc 20, .bin .str .add (.const (.d (.str [104]))) (.loc 19), none, []⟩,
  ⟨.var 4, .mv (.loc 20), none, []⟩] false
def c_I_Salted : ACode := (.seq c_I_Salted_0 (.seq (.seq c_I_Salted_1 (.cond (.var 12) (.seq c_I_Salted_2 .ret) .skip)) (.seq c_I_Salted_3 .ret)))

abbrev F_I_Salted : FuncId := 40

theorem k_I_Salted : comp PP (Tryd.f40.ntmps, pinOf 0 [none, none]) [0, 1, 2, 4, 12] (Tryd.f40.body.getD .skip) = some c_I_Salted.erase := by kernel_rfl

theorem v_I_Salted {GG : GV} (rcs : List C) {cs : List C} {r : C} {os : List (Option C)} (hN : (cs.length == 2 && rcs.length == 1) = true) (hret : retOf rcs = r)
    (hW : W PP [0, 1, 2, 4, 12] (Tryd.f40.ntmps, pinOf 0 [none, none]) (Valid PP GG) c_I_Salted (entry cs) (Fin (Valid PP GG) [(.give, 4, none)] [none, none] rcs os) (fun _ _ => False) (Fin (Valid PP GG) [(.give, 4, none)] [none, none] rcs os)) : Valid PP GG F_I_Salted cs r os :=
  fn_valid_n 2 1 [0, 1, 2, 4, 12] c_I_Salted [(.give, 4, none)] [none, none] rcs Tryd.func40 rfl rfl (by kernel_rfl) k_I_Salted rfl rfl hN hret hW


/-
loop.example/g00705/spec.RackOk  params 1+0 results [2]
  seq  mid=[1]
    c_S_RackOk_0
    seq  mid=[1]
      seq  mid=[1, 20]
        c_S_RackOk_1
        cond (.var 20)
          seq  mid=[2]
            c_S_RackOk_2
            ret
          skip
      seq  mid=[]
        seq  mid=[1, 3]
          c_S_RackOk_3
          block 0
            loop live=[1, 3]
              seq  mid=[1, 3]
                seq  mid=[1, 3, 25]
                  c_S_RackOk_4
                  cond (.var 25)
                    skip
                    exit 0
                seq  mid=[1, 3]
                  block 1
                    seq  mid=[1, 3, 4]
                      c_S_RackOk_5
                      seq  mid=[1, 3, 67]
                        c_S_RackOk_6 DRAW
                        cond (.var 67)
                          seq  mid=[2]
                            c_S_RackOk_7
                            ret
                          skip
                  c_S_RackOk_8
        seq  mid=[2]
          c_S_RackOk_10
          ret
-/
def c_S_RackOk_0 : ACode := .reg [⟨.var 1, .box (.var 0), none, []⟩,
  ⟨.var 2, .mv (.const (.d (.bool false))), none, []⟩] false
def c_S_RackOk_1 : ACode := .reg [⟨.loc 5, .fld 0 (.var 1), none, []⟩,
  ⟨.loc 6, .load false 1 (.loc 5), none, []⟩,
  ⟨.loc 7, .call (.fn 50) [(.loc 6)] [.borrow], none, []⟩,
  ⟨.loc 8, .un .not (.loc 7), none, []⟩,
  ⟨.loc 9, .split (.loc 8), none, []⟩,
  ⟨.loc 10, .fld 1 (.var 1), some ((.loc 9), false), []⟩,
  ⟨.loc 11, .load false 1 (.loc 10), some ((.loc 9), false), []⟩,
  ⟨.loc 12, .call (.fn 51) [(.loc 11), (.const (.d (.int .i64 1))), (.const (.d (.int .i64 1000000000)))] [.borrow, .borrow, .borrow], some ((.loc 9), false), []⟩,
  ⟨.loc 13, .un .not (.loc 12), some ((.loc 9), false), []⟩,
  ⟨.loc 14, .pick (.loc 9) (.const (.d (.bool true))) (.loc 13), none, []⟩,
  ⟨.loc 15, .split (.loc 14), none, []⟩,
  ⟨.loc 16, .fld 2 (.var 1), some ((.loc 15), false), []⟩,
  ⟨.loc 17, .load false 1 (.loc 16), some ((.loc 15), false), []⟩,
  ⟨.loc 18, .len false (.loc 17), some ((.loc 15), false), []⟩,
  ⟨.loc 19, .bin .int .gtr (.loc 18) (.const (.d (.int .i64 60))), some ((.loc 15), false), []⟩,
  ⟨.var 20, .pick (.loc 15) (.const (.d (.bool true))) (.loc 19), none, []⟩] false
def c_S_RackOk_2 : ACode := .reg [⟨.var 2, .mv (.const (.d (.bool false))), none, []⟩] false
def c_S_RackOk_3 : ACode := .reg [⟨.var 3, .mv (.const (.d (.int .i64 0))), none, []⟩] false
def c_S_RackOk_4 : ACode := .reg [⟨.loc 21, .mv (.var 3), none, []⟩,
  ⟨.loc 22, .fld 2 (.var 1), none, []⟩,
  ⟨.loc 23, .load false 1 (.loc 22), none, []⟩,
  ⟨.loc 24, .len false (.loc 23), none, []⟩,
  ⟨.var 25, .bin .int .lss (.loc 21) (.loc 24), none, []⟩] false
def c_S_RackOk_5 : ACode := .reg [⟨.loc 28, .fld 2 (.var 1), none, []⟩,
  ⟨.loc 29, .load false 1 (.loc 28), none, []⟩,
  ⟨.loc 30, .mv (.var 3), none, []⟩,
  ⟨.loc 31, .idxA 6 (.loc 29) (.loc 30), none, []⟩,
  ⟨.loc 32, .load true 6 (.loc 31), none, []⟩,
  ⟨.var 4, .alloc [.d (.int .i64 0), .d (.int .i64 0), .d (.str []), .d (.int .i64 0), .nil 0 1, .d (.int .i64 0)], none, []⟩,
  ⟨.none, .store 6 (.var 4) (.loc 32), none, []⟩] false
def c_S_RackOk_6 : ACode := .reg [⟨.loc 33, .fld 0 (.var 4), none, []⟩,
  ⟨.loc 34, .load false 1 (.loc 33), none, [0]⟩,
  ⟨.loc 35, .fld 1 (.var 1), none, []⟩,
  ⟨.loc 36, .load false 1 (.loc 35), none, [2]⟩,
  ⟨.loc 37, .bin .int .sub (.loc 36) (.const (.d (.int .i64 1))), none, [3, 2]⟩,
  ⟨.loc 38, .call (.fn 51) [(.loc 34), (.const (.d (.int .i64 1))), (.loc 37)] [.borrow, .borrow, .borrow], none, [1, 0, 4, 3, 2]⟩,
  ⟨.loc 39, .un .not (.loc 38), none, [5, 1, 0, 4, 3, 2]⟩,
  ⟨.loc 40, .split (.loc 39), none, [6, 5, 1, 0, 4, 3, 2]⟩,
  ⟨.loc 41, .fld 1 (.var 4), some ((.loc 40), false), [7, 6, 5, 1, 0, 4, 3, 2]⟩,
  ⟨.loc 42, .load false 1 (.loc 41), some ((.loc 40), false), [8, 7, 6, 5, 1, 0, 4, 3, 2]⟩,
  ⟨.loc 43, .call (.fn 51) [(.loc 42), (.const (.d (.int .i64 1))), (.const (.d (.int .i64 1000000000)))] [.borrow, .borrow, .borrow], some ((.loc 40), false), [9, 8, 7, 6, 5, 1, 0, 4, 3, 2]⟩,
  ⟨.loc 44, .un .not (.loc 43), some ((.loc 40), false), [10, 9, 8, 7, 6, 5, 1, 0, 4, 3, 2]⟩,
  ⟨.loc 45, .pick (.loc 40) (.const (.d (.bool true))) (.loc 44), none, [11, 10, 9, 8, 7, 6, 5, 1, 0, 4, 3, 2]⟩,
  ⟨.loc 46, .split (.loc 45), none, [12, 11, 10, 9, 8, 7, 6, 5, 1, 0, 4, 3, 2]⟩,
  ⟨.loc 47, .fld 2 (.var 4), some ((.loc 46), false), [13, 12, 11, 10, 9, 8, 7, 6, 5, 1, 0, 4, 3, 2]⟩,
  ⟨.loc 48, .load false 1 (.loc 47), some ((.loc 46), false), [14, 13, 12, 11, 10, 9, 8, 7, 6, 5, 1, 0, 4, 3, 2]⟩,
  ⟨.loc 49, .call (.fn 53) [(.loc 48)] [.borrow], some ((.loc 46), false), [15, 14, 13, 12, 11, 10, 9, 8, 7, 6, 5, 1, 0, 4, 3, 2]⟩,
  ⟨.loc 50, .un .not (.loc 49), some ((.loc 46), false), [16, 15, 14, 13, 12, 11, 10, 9, 8, 7, 6, 5, 1, 0, 4, 3, 2]⟩,
  ⟨.loc 51, .pick (.loc 46) (.const (.d (.bool true))) (.loc 50), none, [17, 16, 15, 14, 13, 12, 11, 10, 9, 8, 7, 6, 5, 1, 0, 4, 3, 2]⟩,
  ⟨.loc 52, .split (.loc 51), none, [18, 17, 16, 15, 14, 13, 12, 11, 10, 9, 8, 7, 6, 5, 1, 0, 4, 3, 2]⟩,
  ⟨.loc 53, .mv (.var 3), some ((.loc 52), false), [19, 18, 17, 16, 15, 14, 13, 12, 11, 10, 9, 8, 7, 6, 5, 1, 0, 4, 3, 2]⟩,
  ⟨.loc 54, .bin .int .gtr (.loc 53) (.const (.d (.int .i64 0))), some ((.loc 52), false), [20, 19, 18, 17, 16, 15, 14, 13, 12, 11, 10, 9, 8, 7, 6, 5, 1, 0, 4, 3, 2]⟩,
  ⟨.loc 55, .split (.loc 54), some ((.loc 52), false), [21, 20, 19, 18, 17, 16, 15, 14, 13, 12, 11, 10, 9, 8, 7, 6, 5, 1, 0, 4, 3, 2]⟩,
  ⟨.loc 56, .fld 2 (.var 1), some ((.loc 55), true), [22, 21, 20, 19, 18, 17, 16, 15, 14, 13, 12, 11, 10, 9, 8, 7, 6, 5, 1, 0, 4, 3, 2]⟩,
  ⟨.loc 57, .load false 1 (.loc 56), some ((.loc 55), true), [23, 22, 21, 20, 19, 18, 17, 16, 15, 14, 13, 12, 11, 10, 9, 8, 7, 6, 5, 1, 0, 4, 3, 2]⟩,
  ⟨.loc 58, .mv (.var 3), some ((.loc 55), true), [22, 21, 20, 19, 18, 17, 16, 15, 14, 13, 12, 11, 10, 9, 8, 7, 6, 5, 1, 0, 4, 3, 2]⟩,
  ⟨.loc 59, .bin .int .sub (.loc 58) (.const (.d (.int .i64 1))), some ((.loc 55), true), [25, 22, 21, 20, 19, 18, 17, 16, 15, 14, 13, 12, 11, 10, 9, 8, 7, 6, 5, 1, 0, 4, 3, 2]⟩,
  ⟨.loc 60, .idxA 6 (.loc 57) (.loc 59), some ((.loc 55), true), [24, 23, 26, 25, 22, 21, 20, 19, 18, 17, 16, 15, 14, 13, 12, 11, 10, 9, 8, 7, 6, 5, 1, 0, 4, 3, 2]⟩,
  ⟨.loc 61, .fld 0 (.loc 60), some ((.loc 55), true), [27, 24, 23, 26, 25, 22, 21, 20, 19, 18, 17, 16, 15, 14, 13, 12, 11, 10, 9, 8, 7, 6, 5, 1, 0, 4, 3, 2]⟩,
  ⟨.loc 62, .load false 1 (.loc 61), some ((.loc 55), true), [28, 27, 24, 23, 26, 25, 22, 21, 20, 19, 18, 17, 16, 15, 14, 13, 12, 11, 10, 9, 8, 7, 6, 5, 1, 0, 4, 3, 2]⟩,
  ⟨.loc 63, .fld 0 (.var 4), some ((.loc 55), true), [22, 21, 20, 19, 18, 17, 16, 15, 14, 13, 12, 11, 10, 9, 8, 7, 6, 5, 1, 0, 4, 3, 2]⟩,
  ⟨.loc 64, .load false 1 (.loc 63), some ((.loc 55), true), [30, 22, 21, 20, 19, 18, 17, 16, 15, 14, 13, 12, 11, 10, 9, 8, 7, 6, 5, 1, 0, 4, 3, 2]⟩,
  ⟨.loc 65, .bin .int .geq (.loc 62) (.loc 64), some ((.loc 55), true), [29, 28, 27, 24, 23, 26, 25, 31, 30, 22, 21, 20, 19, 18, 17, 16, 15, 14, 13, 12, 11, 10, 9, 8, 7, 6, 5, 1, 0, 4, 3, 2]⟩,
  ⟨.loc 66, .pick (.loc 55) (.loc 65) (.const (.d (.bool false))), some ((.loc 52), false), [32, 29, 28, 27, 24, 23, 26, 25, 31, 30, 22, 21, 20, 19, 18, 17, 16, 15, 14, 13, 12, 11, 10, 9, 8, 7, 6, 5, 1, 0, 4, 3, 2]⟩,
  ⟨.var 67, .pick (.loc 52) (.const (.d (.bool true))) (.loc 66), none, [33, 32, 29, 28, 27, 24, 23, 26, 25, 31, 30, 22, 21, 20, 19, 18, 17, 16, 15, 14, 13, 12, 11, 10, 9, 8, 7, 6, 5, 1, 0, 4, 3, 2]⟩] true
def c_S_RackOk_7 : ACode := .reg [⟨.var 2, .mv (.const (.d (.bool false))), none, []⟩] false
def c_S_RackOk_8 : ACode := .reg [⟨.loc 26, .mv (.var 3), none, []⟩,
  ⟨.loc 27, .bin .int .add (.loc 26) (.const (.d (.int .i64 1))), none, []⟩,
  ⟨.var 3, .mv (.loc 27), none, []⟩] false
def c_S_RackOk_9 : ACode := (.seq (.seq c_S_RackOk_4 (.cond (.var 25) .skip (.exit 0))) (.seq (.block 1 (.seq c_S_RackOk_5 (.seq c_S_RackOk_6 (.cond (.var 67) (.seq c_S_RackOk_7 .ret) .skip)))) c_S_RackOk_8))
def c_S_RackOk_10 : ACode := .reg [⟨.var 2, .mv (.const (.d (.bool true))), none, []⟩] false
def c_S_RackOk : ACode := (.seq c_S_RackOk_0 (.seq (.seq c_S_RackOk_1 (.cond (.var 20) (.seq c_S_RackOk_2 .ret) .skip)) (.seq (.seq c_S_RackOk_3 (.block 0 (.loop [1, 3] c_S_RackOk_9))) (.seq c_S_RackOk_10 .ret))))

abbrev F_S_RackOk : FuncId := 59

theorem k_S_RackOk : comp PP (Tryd.f59.ntmps, pinOf 0 [none]) [0, 1, 2, 3, 4, 20, 25, 67] (Tryd.f59.body.getD .skip) = some c_S_RackOk.erase := by kernel_rfl

theorem v_S_RackOk {GG : GV} (rcs : List C) {cs : List C} {r : C} {os : List (Option C)} (hN : (cs.length == 1 && rcs.length == 1) = true) (hret : retOf rcs = r)
    (hW : W PP [0, 1, 2, 3, 4, 20, 25, 67] (Tryd.f59.ntmps, pinOf 0 [none]) (Valid PP GG) c_S_RackOk (entry cs) (Fin (Valid PP GG) [(.give, 2, none)] [none] rcs os) (fun _ _ => False) (Fin (Valid PP GG) [(.give, 2, none)] [none] rcs os)) : Valid PP GG F_S_RackOk cs r os :=
  fn_valid_n 1 1 [0, 1, 2, 3, 4, 20, 25, 67] c_S_RackOk [(.give, 2, none)] [none] rcs Tryd.func59 rfl rfl (by kernel_rfl) k_S_RackOk rfl rfl hN hret hW


/-
loop.example/g00705/spec.l14At  params 2+0 results [4]
  seq  mid=[1, 2]
    c_S_l14At_0
    seq  mid=[]
      seq  mid=[1, 2, 5]
        c_S_l14At_1
        block 0
          loop live=[1, 2, 5]
            seq  mid=[1, 2, 5]
              seq  mid=[1, 2, 5, 10]
                c_S_l14At_2
                cond (.var 10)
                  skip
                  exit 0
              seq  mid=[1, 2, 5]
                block 1
                  seq  mid=[1, 2, 5, 20]
                    c_S_l14At_3
                    cond (.var 20)
                      seq  mid=[4]
                        c_S_l14At_4
                        ret
                      skip
                c_S_l14At_5
      seq  mid=[4]
        c_S_l14At_7
        ret
-/
def c_S_l14At_0 : ACode := .reg [⟨.var 2, .box (.var 0), none, []⟩,
  ⟨.var 4, .mv (.const (.d (.int .i64 0))), none, []⟩] false
def c_S_l14At_1 : ACode := .reg [⟨.var 5, .mv (.const (.d (.int .i64 0))), none, []⟩] false
def c_S_l14At_2 : ACode := .reg [⟨.loc 6, .mv (.var 5), none, []⟩,
  ⟨.loc 7, .fld 2 (.var 2), none, []⟩,
  ⟨.loc 8, .load false 1 (.loc 7), none, []⟩,
  ⟨.loc 9, .len false (.loc 8), none, []⟩,
  ⟨.var 10, .bin .int .lss (.loc 6) (.loc 9), none, []⟩] false
def c_S_l14At_3 : ACode := .reg [⟨.loc 13, .fld 2 (.var 2), none, []⟩,
  ⟨.loc 14, .load false 1 (.loc 13), none, []⟩,
  ⟨.loc 15, .mv (.var 5), none, []⟩,
  ⟨.loc 16, .idxA 6 (.loc 14) (.loc 15), none, []⟩,
  ⟨.loc 17, .fld 0 (.loc 16), none, []⟩,
  ⟨.loc 18, .load false 1 (.loc 17), none, []⟩,
  ⟨.loc 19, .mv (.var 1), none, []⟩,
  ⟨.var 20, .bin .int .eql (.loc 18) (.loc 19), none, []⟩] false
def c_S_l14At_4 : ACode := .reg [⟨.loc 21, .mv (.var 5), none, []⟩,
  ⟨.var 4, .mv (.loc 21), none, []⟩] false
def c_S_l14At_5 : ACode := .reg [⟨.loc 11, .mv (.var 5), none, []⟩,
  ⟨.loc 12, .bin .int .add (.loc 11) (.const (.d (.int .i64 1))), none, []⟩,
  ⟨.var 5, .mv (.loc 12), none, []⟩] false
def c_S_l14At_6 : ACode := (.seq (.seq c_S_l14At_2 (.cond (.var 10) .skip (.exit 0))) (.seq (.block 1 (.seq c_S_l14At_3 (.cond (.var 20) (.seq c_S_l14At_4 .ret) .skip))) c_S_l14At_5))
def c_S_l14At_7 : ACode := .reg [⟨.var 4, .mv (.const (.d (.int .i64 (-1)))), none, []⟩] false
def c_S_l14At : ACode := (.seq c_S_l14At_0 (.seq (.seq c_S_l14At_1 (.block 0 (.loop [1, 2, 5] c_S_l14At_6))) (.seq c_S_l14At_7 .ret)))

abbrev F_S_l14At : FuncId := 60

theorem k_S_l14At : comp PP (Tryd.f60.ntmps, pinOf 0 [none, none]) [0, 1, 2, 4, 5, 10, 20] (Tryd.f60.body.getD .skip) = some c_S_l14At.erase := by kernel_rfl

theorem v_S_l14At {GG : GV} (rcs : List C) {cs : List C} {r : C} {os : List (Option C)} (hN : (cs.length == 2 && rcs.length == 1) = true) (hret : retOf rcs = r)
    (hW : W PP [0, 1, 2, 4, 5, 10, 20] (Tryd.f60.ntmps, pinOf 0 [none, none]) (Valid PP GG) c_S_l14At (entry cs) (Fin (Valid PP GG) [(.give, 4, none)] [none, none] rcs os) (fun _ _ => False) (Fin (Valid PP GG) [(.give, 4, none)] [none, none] rcs os)) : Valid PP GG F_S_l14At cs r os :=
  fn_valid_n 2 1 [0, 1, 2, 4, 5, 10, 20] c_S_l14At [(.give, 4, none)] [none, none] rcs Tryd.func60 rfl rfl (by kernel_rfl) k_S_l14At rfl rfl hN hret hW


/-
loop.example/g00705/impl.isRack  params 1+0 results [2]
  seq  mid=[1]
    c_I_isRack_0
    seq  mid=[1]
      seq  mid=[1, 20]
        c_I_isRack_1
        cond (.var 20)
          seq  mid=[2]
            c_I_isRack_2
            ret
          skip
      seq  mid=[]
        seq  mid=[1, 22, 23, 24]
          c_I_isRack_3
          block 0
            loop live=[1, 22, 23, 24]
              seq  mid=[1, 22, 23, 24, 25]
                c_I_isRack_4
                seq  mid=[1, 22, 23, 24]
                  cond (.var 25)
                    skip
                    exit 0
                  seq  mid=[1, 22, 23, 24]
                    block 1
                      seq  mid=[1, 3, 4, 22, 23, 24]
                        c_I_isRack_5
                        seq  mid=[1, 22, 23, 24, 63]
                          c_I_isRack_6 DRAW
                          cond (.var 63)
                            seq  mid=[2]
                              c_I_isRack_7
                              ret
                            skip
                    c_I_isRack_8
        seq  mid=[2]
          c_I_isRack_10
          ret
-/
def c_I_isRack_0 : ACode := .reg [⟨.var 1, .box (.var 0), none, []⟩,
  ⟨.var 2, .mv (.const (.d (.bool false))), none, []⟩] false
def c_I_isRack_1 : ACode := .reg [⟨.loc 5, .fld 0 (.var 1), none, []⟩,
  ⟨.loc 6, .load false 1 (.loc 5), none, []⟩,
  ⟨.loc 7, .call (.fn 82) [(.loc 6)] [.borrow], none, []⟩,
  ⟨.loc 8, .un .not (.loc 7), none, []⟩,
  ⟨.loc 9, .split (.loc 8), none, []⟩,
  ⟨.loc 10, .fld 1 (.var 1), some ((.loc 9), false), []⟩,
  ⟨.loc 11, .load false 1 (.loc 10), some ((.loc 9), false), []⟩,
  ⟨.loc 12, .call (.fn 94) [(.loc 11), (.const (.d (.int .i64 1))), (.const (.d (.int .i64 1000000000)))] [.borrow, .borrow, .borrow], some ((.loc 9), false), []⟩,
  ⟨.loc 13, .un .not (.loc 12), some ((.loc 9), false), []⟩,
  ⟨.loc 14, .pick (.loc 9) (.const (.d (.bool true))) (.loc 13), none, []⟩,
  ⟨.loc 15, .split (.loc 14), none, []⟩,
  ⟨.loc 16, .fld 2 (.var 1), some ((.loc 15), false), []⟩,
  ⟨.loc 17, .load false 1 (.loc 16), some ((.loc 15), false), []⟩,
  ⟨.loc 18, .len false (.loc 17), some ((.loc 15), false), []⟩,
  ⟨.loc 19, .bin .int .gtr (.loc 18) (.const (.d (.int .i64 60))), some ((.loc 15), false), []⟩,
  ⟨.var 20, .pick (.loc 15) (.const (.d (.bool true))) (.loc 19), none, []⟩] false
def c_I_isRack_2 : ACode := .reg [⟨.var 2, .mv (.const (.d (.bool false))), none, []⟩] false
def c_I_isRack_3 : ACode := .reg [⟨.loc 21, .fld 2 (.var 1), none, []⟩,
  ⟨.var 22, .load false 1 (.loc 21), none, []⟩,
  ⟨.var 23, .len false (.var 22), none, []⟩,
  ⟨.var 24, .mv (.const (.d (.int .i64 0))), none, []⟩] false
def c_I_isRack_4 : ACode := .reg [⟨.var 25, .bin .int .lss (.var 24) (.var 23), none, []⟩] false
def c_I_isRack_5 : ACode := .reg [⟨.loc 26, .mv (.var 24), none, []⟩,
  ⟨.loc 27, .idxA 6 (.var 22) (.var 24), none, []⟩,
  ⟨.loc 28, .load true 6 (.loc 27), none, []⟩,
  ⟨.var 4, .alloc [.d (.int .i64 0), .d (.int .i64 0), .d (.str []), .d (.int .i64 0), .nil 0 1, .d (.int .i64 0)], none, []⟩,
  ⟨.var 3, .mv (.loc 26), none, []⟩,
  ⟨.none, .store 6 (.var 4) (.loc 28), none, []⟩] false
def c_I_isRack_6 : ACode := .reg [⟨.loc 29, .fld 0 (.var 4), none, []⟩,
  ⟨.loc 30, .load false 1 (.loc 29), none, [0]⟩,
  ⟨.loc 31, .fld 1 (.var 1), none, []⟩,
  ⟨.loc 32, .load false 1 (.loc 31), none, [2]⟩,
  ⟨.loc 33, .bin .int .sub (.loc 32) (.const (.d (.int .i64 1))), none, [3, 2]⟩,
  ⟨.loc 34, .call (.fn 94) [(.loc 30), (.const (.d (.int .i64 1))), (.loc 33)] [.borrow, .borrow, .borrow], none, [1, 0, 4, 3, 2]⟩,
  ⟨.loc 35, .un .not (.loc 34), none, [5, 1, 0, 4, 3, 2]⟩,
  ⟨.loc 36, .split (.loc 35), none, [6, 5, 1, 0, 4, 3, 2]⟩,
  ⟨.loc 37, .fld 1 (.var 4), some ((.loc 36), false), [7, 6, 5, 1, 0, 4, 3, 2]⟩,
  ⟨.loc 38, .load false 1 (.loc 37), some ((.loc 36), false), [8, 7, 6, 5, 1, 0, 4, 3, 2]⟩,
  ⟨.loc 39, .call (.fn 94) [(.loc 38), (.const (.d (.int .i64 1))), (.const (.d (.int .i64 1000000000)))] [.borrow, .borrow, .borrow], some ((.loc 36), false), [9, 8, 7, 6, 5, 1, 0, 4, 3, 2]⟩,
  ⟨.loc 40, .un .not (.loc 39), some ((.loc 36), false), [10, 9, 8, 7, 6, 5, 1, 0, 4, 3, 2]⟩,
  ⟨.loc 41, .pick (.loc 36) (.const (.d (.bool true))) (.loc 40), none, [11, 10, 9, 8, 7, 6, 5, 1, 0, 4, 3, 2]⟩,
  ⟨.loc 42, .split (.loc 41), none, [12, 11, 10, 9, 8, 7, 6, 5, 1, 0, 4, 3, 2]⟩,
  ⟨.loc 43, .fld 2 (.var 4), some ((.loc 42), false), [13, 12, 11, 10, 9, 8, 7, 6, 5, 1, 0, 4, 3, 2]⟩,
  ⟨.loc 44, .load false 1 (.loc 43), some ((.loc 42), false), [14, 13, 12, 11, 10, 9, 8, 7, 6, 5, 1, 0, 4, 3, 2]⟩,
  ⟨.loc 45, .call (.fn 95) [(.loc 44)] [.borrow], some ((.loc 42), false), [15, 14, 13, 12, 11, 10, 9, 8, 7, 6, 5, 1, 0, 4, 3, 2]⟩,
  ⟨.loc 46, .un .not (.loc 45), some ((.loc 42), false), [16, 15, 14, 13, 12, 11, 10, 9, 8, 7, 6, 5, 1, 0, 4, 3, 2]⟩,
  ⟨.loc 47, .pick (.loc 42) (.const (.d (.bool true))) (.loc 46), none, [17, 16, 15, 14, 13, 12, 11, 10, 9, 8, 7, 6, 5, 1, 0, 4, 3, 2]⟩,
  ⟨.loc 48, .split (.loc 47), none, [18, 17, 16, 15, 14, 13, 12, 11, 10, 9, 8, 7, 6, 5, 1, 0, 4, 3, 2]⟩,
  ⟨.loc 49, .mv (.var 3), some ((.loc 48), false), [19, 18, 17, 16, 15, 14, 13, 12, 11, 10, 9, 8, 7, 6, 5, 1, 0, 4, 3, 2]⟩,
  ⟨.loc 50, .bin .int .gtr (.loc 49) (.const (.d (.int .i64 0))), some ((.loc 48), false), [20, 19, 18, 17, 16, 15, 14, 13, 12, 11, 10, 9, 8, 7, 6, 5, 1, 0, 4, 3, 2]⟩,
  ⟨.loc 51, .split (.loc 50), some ((.loc 48), false), [21, 20, 19, 18, 17, 16, 15, 14, 13, 12, 11, 10, 9, 8, 7, 6, 5, 1, 0, 4, 3, 2]⟩,
  ⟨.loc 52, .fld 2 (.var 1), some ((.loc 51), true), [22, 21, 20, 19, 18, 17, 16, 15, 14, 13, 12, 11, 10, 9, 8, 7, 6, 5, 1, 0, 4, 3, 2]⟩,
  ⟨.loc 53, .load false 1 (.loc 52), some ((.loc 51), true), [23, 22, 21, 20, 19, 18, 17, 16, 15, 14, 13, 12, 11, 10, 9, 8, 7, 6, 5, 1, 0, 4, 3, 2]⟩,
  ⟨.loc 54, .mv (.var 3), some ((.loc 51), true), [22, 21, 20, 19, 18, 17, 16, 15, 14, 13, 12, 11, 10, 9, 8, 7, 6, 5, 1, 0, 4, 3, 2]⟩,
  ⟨.loc 55, .bin .int .sub (.loc 54) (.const (.d (.int .i64 1))), some ((.loc 51), true), [25, 22, 21, 20, 19, 18, 17, 16, 15, 14, 13, 12, 11, 10, 9, 8, 7, 6, 5, 1, 0, 4, 3, 2]⟩,
  ⟨.loc 56, .idxA 6 (.loc 53) (.loc 55), some ((.loc 51), true), [24, 23, 26, 25, 22, 21, 20, 19, 18, 17, 16, 15, 14, 13, 12, 11, 10, 9, 8, 7, 6, 5, 1, 0, 4, 3, 2]⟩,
  ⟨.loc 57, .fld 0 (.loc 56), some ((.loc 51), true), [27, 24, 23, 26, 25, 22, 21, 20, 19, 18, 17, 16, 15, 14, 13, 12, 11, 10, 9, 8, 7, 6, 5, 1, 0, 4, 3, 2]⟩,
  ⟨.loc 58, .load false 1 (.loc 57), some ((.loc 51), true), [28, 27, 24, 23, 26, 25, 22, 21, 20, 19, 18, 17, 16, 15, 14, 13, 12, 11, 10, 9, 8, 7, 6, 5, 1, 0, 4, 3, 2]⟩,
  ⟨.loc 59, .fld 0 (.var 4), some ((.loc 51), true), [22, 21, 20, 19, 18, 17, 16, 15, 14, 13, 12, 11, 10, 9, 8, 7, 6, 5, 1, 0, 4, 3, 2]⟩,
  ⟨.loc 60, .load false 1 (.loc 59), some ((.loc 51), true), [30, 22, 21, 20, 19, 18, 17, 16, 15, 14, 13, 12, 11, 10, 9, 8, 7, 6, 5, 1, 0, 4, 3, 2]⟩,
  ⟨.loc 61, .bin .int .geq (.loc 58) (.loc 60), some ((.loc 51), true), [29, 28, 27, 24, 23, 26, 25, 31, 30, 22, 21, 20, 19, 18, 17, 16, 15, 14, 13, 12, 11, 10, 9, 8, 7, 6, 5, 1, 0, 4, 3, 2]⟩,
  ⟨.loc 62, .pick (.loc 51) (.loc 61) (.const (.d (.bool false))), some ((.loc 48), false), [32, 29, 28, 27, 24, 23, 26, 25, 31, 30, 22, 21, 20, 19, 18, 17, 16, 15, 14, 13, 12, 11, 10, 9, 8, 7, 6, 5, 1, 0, 4, 3, 2]⟩,
  ⟨.var 63, .pick (.loc 48) (.const (.d (.bool true))) (.loc 62), none, [33, 32, 29, 28, 27, 24, 23, 26, 25, 31, 30, 22, 21, 20, 19, 18, 17, 16, 15, 14, 13, 12, 11, 10, 9, 8, 7, 6, 5, 1, 0, 4, 3, 2]⟩] true
def c_I_isRack_7 : ACode := .reg [⟨.var 2, .mv (.const (.d (.bool false))), none, []⟩] false
def c_I_isRack_8 : ACode := .reg [⟨.loc 64, .bin .int .add (.var 24) (.const (.d (.int .i64 1))), none, []⟩,
  ⟨.var 24, .mv (.loc 64), none, []⟩] false
def c_I_isRack_9 : ACode := (.seq c_I_isRack_4 (.seq (.cond (.var 25) .skip (.exit 0)) (.seq (.block 1 (.seq c_I_isRack_5 (.seq c_I_isRack_6 (.cond (.var 63) (.seq c_I_isRack_7 .ret) .skip)))) c_I_isRack_8)))
def c_I_isRack_10 : ACode := .reg [⟨.var 2, .mv (.const (.d (.bool true))), none, []⟩] false
def c_I_isRack : ACode := (.seq c_I_isRack_0 (.seq (.seq c_I_isRack_1 (.cond (.var 20) (.seq c_I_isRack_2 .ret) .skip)) (.seq (.seq c_I_isRack_3 (.block 0 (.loop [1, 22, 23, 24] c_I_isRack_9))) (.seq c_I_isRack_10 .ret))))

abbrev F_I_isRack : FuncId := 62

theorem k_I_isRack : comp PP (Tryd.f62.ntmps, pinOf 0 [none]) [0, 1, 2, 3, 4, 20, 22, 23, 24, 25, 63] (Tryd.f62.body.getD .skip) = some c_I_isRack.erase := by kernel_rfl

theorem v_I_isRack {GG : GV} (rcs : List C) {cs : List C} {r : C} {os : List (Option C)} (hN : (cs.length == 1 && rcs.length == 1) = true) (hret : retOf rcs = r)
    (hW : W PP [0, 1, 2, 3, 4, 20, 22, 23, 24, 25, 63] (Tryd.f62.ntmps, pinOf 0 [none]) (Valid PP GG) c_I_isRack (entry cs) (Fin (Valid PP GG) [(.give, 2, none)] [none] rcs os) (fun _ _ => False) (Fin (Valid PP GG) [(.give, 2, none)] [none] rcs os)) : Valid PP GG F_I_isRack cs r os :=
  fn_valid_n 1 1 [0, 1, 2, 3, 4, 20, 22, 23, 24, 25, 63] c_I_isRack [(.give, 2, none)] [none] rcs Tryd.func62 rfl rfl (by kernel_rfl) k_I_isRack rfl rfl hN hret hW


/-
loop.example/g00705/impl.wrapIndex  params 2+0 results [4]
  seq  mid=[2, 3]
    c_I_wrapIndex_0
    seq  mid=[4]
      c_I_wrapIndex_1
      ret
-/
def c_I_wrapIndex_0 : ACode := .reg [⟨.var 2, .box (.var 0), none, []⟩,
  ⟨.var 3, .box (.var 1), none, []⟩,
  ⟨.var 4, .mv (.const (.d (.int .i64 0))), none, []⟩] false
def c_I_wrapIndex_1 : ACode := .reg [⟨.loc 5, .fld 2 (.var 2), none, []⟩,
  ⟨.loc 6, .load false 1 (.loc 5), none, []⟩,
  ⟨.loc 7, .clo 97 [(.var 3)], none, []⟩,
  ⟨.loc 8, .call (.fn 96) [(.loc 6), (.loc 7)] [.borrow, .borrow], none, []⟩,
  ⟨.var 4, .mv (.loc 8), none, []⟩] false
def c_I_wrapIndex : ACode := (.seq c_I_wrapIndex_0 (.seq c_I_wrapIndex_1 .ret))

abbrev F_I_wrapIndex : FuncId := 63

theorem k_I_wrapIndex : comp PP (Tryd.f63.ntmps, pinOf 0 [none, none]) [0, 1, 2, 3, 4] (Tryd.f63.body.getD .skip) = some c_I_wrapIndex.erase := by kernel_rfl

theorem v_I_wrapIndex {GG : GV} (rcs : List C) {cs : List C} {r : C} {os : List (Option C)} (hN : (cs.length == 2 && rcs.length == 1) = true) (hret : retOf rcs = r)
    (hW : W PP [0, 1, 2, 3, 4] (Tryd.f63.ntmps, pinOf 0 [none, none]) (Valid PP GG) c_I_wrapIndex (entry cs) (Fin (Valid PP GG) [(.give, 4, none)] [none, none] rcs os) (fun _ _ => False) (Fin (Valid PP GG) [(.give, 4, none)] [none, none] rcs os)) : Valid PP GG F_I_wrapIndex cs r os :=
  fn_valid_n 2 1 [0, 1, 2, 3, 4] c_I_wrapIndex [(.give, 4, none)] [none, none] rcs Tryd.func63 rfl rfl (by kernel_rfl) k_I_wrapIndex rfl rfl hN hret hW


/-
slices.IndexFunc[[]loop.example/g00705/impl.Wrap,loop.example/g00705/impl.Wrap]  params 2+0 results [4]
  seq  mid=[0, 1]
    c_slices_IndexFunc___impl_Wrap_impl_Wrap__0
    seq  mid=[]
      seq  mid=[0, 1, 7, 8]
        c_slices_IndexFunc___impl_Wrap_impl_Wrap__1
        block 0
          loop live=[0, 1, 7, 8]
            seq  mid=[0, 1, 7, 8, 9]
              c_slices_IndexFunc___impl_Wrap_impl_Wrap__2
              seq  mid=[0, 1, 7, 8]
                cond (.var 9)
                  skip
                  exit 0
                seq  mid=[0, 1, 7, 8]
                  block 1
                    seq  mid=[0, 1, 5, 7, 8]
                      c_slices_IndexFunc___impl_Wrap_impl_Wrap__3
                      seq  mid=[0, 1, 5, 7, 8, 16]
                        c_slices_IndexFunc___impl_Wrap_impl_Wrap__4
                        cond (.var 16)
                          seq  mid=[4]
                            c_slices_IndexFunc___impl_Wrap_impl_Wrap__5
                            ret
                          skip
                  c_slices_IndexFunc___impl_Wrap_impl_Wrap__6
      seq  mid=[4]
        c_slices_IndexFunc___impl_Wrap_impl_Wrap__8
        ret
-/
def c_slices_IndexFunc___impl_Wrap_impl_Wrap__0 : ACode := .reg [⟨.var 4, .mv (.const (.d (.int .i64 0))), none, []⟩] false
def c_slices_IndexFunc___impl_Wrap_impl_Wrap__1 : ACode := .reg [⟨.loc 6, .mv (.var 0), none, []⟩,
  ⟨.var 7, .len false (.loc 6), none, []⟩,
  ⟨.var 8, .mv (.const (.d (.int .i64 0))), none, []⟩] false
def c_slices_IndexFunc___impl_Wrap_impl_Wrap__2 : ACode := .reg [⟨.var 9, .bin .int .lss (.var 8) (.var 7), none, []⟩] false
def c_slices_IndexFunc___impl_Wrap_impl_Wrap__3 : ACode := .reg [⟨.loc 10, .mv (.var 8), none, []⟩,
  ⟨.var 5, .mv (.loc 10), none, []⟩] false
def c_slices_IndexFunc___impl_Wrap_impl_Wrap__4 : ACode := .reg [⟨.loc 11, .mv (.var 1), none, []⟩,
  ⟨.loc 12, .mv (.var 0), none, []⟩,
  ⟨.loc 13, .mv (.var 5), none, []⟩,
  ⟨.loc 14, .idxA 6 (.loc 12) (.loc 13), none, []⟩,
  ⟨.loc 15, .load true 6 (.loc 14), none, []⟩,
  ⟨.var 16, .call (.loc 11) [(.loc 15)] [.borrow], none, []⟩] false
def c_slices_IndexFunc___impl_Wrap_impl_Wrap__5 : ACode := .reg [⟨.loc 17, .mv (.var 5), none, []⟩,
  ⟨.var 4, .mv (.loc 17), none, []⟩] false
def c_slices_IndexFunc___impl_Wrap_impl_Wrap__6 : ACode := .reg [⟨.loc 18, .bin .int .add (.var 8) (.const (.d (.int .i64 1))), none, []⟩,
  ⟨.var 8, .mv (.loc 18), none, []⟩] false
def c_slices_IndexFunc___impl_Wrap_impl_Wrap__7 : ACode := (.seq c_slices_IndexFunc___impl_Wrap_impl_Wrap__2 (.seq (.cond (.var 9) .skip (.exit 0)) (.seq (.block 1 (.seq c_slices_IndexFunc___impl_Wrap_impl_Wrap__3 (.seq c_slices_IndexFunc___impl_Wrap_impl_Wrap__4 (.cond (.var 16) (.seq c_slices_IndexFunc___impl_Wrap_impl_Wrap__5 .ret) .skip)))) c_slices_IndexFunc___impl_Wrap_impl_Wrap__6)))
def c_slices_IndexFunc___impl_Wrap_impl_Wrap__8 : ACode := .reg [⟨.var 4, .mv (.const (.d (.int .i64 (-1)))), none, []⟩] false
def c_slices_IndexFunc___impl_Wrap_impl_Wrap_ : ACode := (.seq c_slices_IndexFunc___impl_Wrap_impl_Wrap__0 (.seq (.seq c_slices_IndexFunc___impl_Wrap_impl_Wrap__1 (.block 0 (.loop [0, 1, 7, 8] c_slices_IndexFunc___impl_Wrap_impl_Wrap__7))) (.seq c_slices_IndexFunc___impl_Wrap_impl_Wrap__8 .ret)))

abbrev F_slices_IndexFunc___impl_Wrap_impl_Wrap_ : FuncId := 96

theorem k_slices_IndexFunc___impl_Wrap_impl_Wrap_ : comp PP (Tryd.f96.ntmps, pinOf 0 [none, none]) [0, 1, 4, 5, 7, 8, 9, 16] (Tryd.f96.body.getD .skip) = some c_slices_IndexFunc___impl_Wrap_impl_Wrap_.erase := by kernel_rfl

theorem v_slices_IndexFunc___impl_Wrap_impl_Wrap_ {GG : GV} (rcs : List C) {cs : List C} {r : C} {os : List (Option C)} (hN : (cs.length == 2 && rcs.length == 1) = true) (hret : retOf rcs = r)
    (hW : W PP [0, 1, 4, 5, 7, 8, 9, 16] (Tryd.f96.ntmps, pinOf 0 [none, none]) (Valid PP GG) c_slices_IndexFunc___impl_Wrap_impl_Wrap_ (entry cs) (Fin (Valid PP GG) [(.give, 4, none)] [none, none] rcs os) (fun _ _ => False) (Fin (Valid PP GG) [(.give, 4, none)] [none, none] rcs os)) : Valid PP GG F_slices_IndexFunc___impl_Wrap_impl_Wrap_ cs r os :=
  fn_valid_n 2 1 [0, 1, 4, 5, 7, 8, 9, 16] c_slices_IndexFunc___impl_Wrap_impl_Wrap_ [(.give, 4, none)] [none, none] rcs Tryd.func96 rfl rfl (by kernel_rfl) k_slices_IndexFunc___impl_Wrap_impl_Wrap_ rfl rfl hN hret hW


/-
loop.example/g00705/impl.wrapIndex$1  params 1+1 results [3]
  seq  mid=[1, 2]
    c_I_wrapIndex_c1_0
    seq  mid=[3]
      c_I_wrapIndex_c1_1
      ret
-/
def c_I_wrapIndex_c1_0 : ACode := .reg [⟨.var 2, .box (.var 0), none, []⟩,
  ⟨.var 3, .mv (.const (.d (.bool false))), none, []⟩] false
def c_I_wrapIndex_c1_1 : ACode := .reg [⟨.loc 4, .fld 0 (.var 2), none, []⟩,
  ⟨.loc 5, .load false 1 (.loc 4), none, []⟩,
  ⟨.loc 6, .load false 1 (.var 1), none, []⟩,
  ⟨.loc 7, .bin .int .eql (.loc 5) (.loc 6), none, []⟩,
  ⟨.var 3, .mv (.loc 7), none, []⟩] false
def c_I_wrapIndex_c1 : ACode := (.seq c_I_wrapIndex_c1_0 (.seq c_I_wrapIndex_c1_1 .ret))

abbrev F_I_wrapIndex_c1 : FuncId := 97

theorem k_I_wrapIndex_c1 : comp PP (Tryd.f97.ntmps, pinOf 0 [none]) [0, 1, 2, 3] (Tryd.f97.body.getD .skip) = some c_I_wrapIndex_c1.erase := by kernel_rfl

theorem v_I_wrapIndex_c1 {GG : GV} (rcs : List C) {cs : List C} {r : C} {os : List (Option C)} (hN : (cs.length == 2 && rcs.length == 1) = true) (hret : retOf rcs = r)
    (hW : W PP [0, 1, 2, 3] (Tryd.f97.ntmps, pinOf 0 [none]) (Valid PP GG) c_I_wrapIndex_c1 (entry cs) (Fin (Valid PP GG) [(.give, 3, none)] [none] rcs os) (fun _ _ => False) (Fin (Valid PP GG) [(.give, 3, none)] [none] rcs os)) : Valid PP GG F_I_wrapIndex_c1 cs r os :=
  fn_valid_n 2 1 [0, 1, 2, 3] c_I_wrapIndex_c1 [(.give, 3, none)] [none] rcs Tryd.func97 rfl rfl (by kernel_rfl) k_I_wrapIndex_c1 rfl rfl hN hret hW


/-
loop.example/g00705/spec.Digest  params 1+0 results [2]
  seq  mid=[0]
    c_S_Digest_0
    seq  mid=[0, 3]
      c_S_Digest_1
      seq  mid=[0, 3, 4]
        c_S_Digest_2
        seq  mid=[3, 4]
          seq  mid=[0, 3, 4, 5]
            c_S_Digest_3
            block 0
              loop live=[0, 3, 4, 5]
                seq  mid=[0, 3, 4, 5]
                  seq  mid=[0, 3, 4, 5, 9]
                    c_S_Digest_4
                    cond (.var 9)
                      skip
                      exit 0
                  seq  mid=[0, 3, 4, 5]
                    block 1
                      seq  mid=[0, 3, 4, 5]
                        c_S_Digest_5
                        c_S_Digest_6
                    c_S_Digest_7
          seq  mid=[2]
            c_S_Digest_9
            ret
-/
def c_S_Digest_0 : ACode := .reg [⟨.var 2, .mv (.const (.d (.int .i64 0))), none, []⟩] false
def c_S_Digest_1 : ACode := .reg [⟨.var 3, .mv (.const (.d (.int .i64 7))), none, []⟩] false
def c_S_Digest_2 : ACode := .reg [⟨.var 4, .mv (.const (.d (.int .i64 11))), none, []⟩] false
def c_S_Digest_3 : ACode := .reg [⟨.var 5, .mv (.const (.d (.int .i64 0))), none, []⟩] false
def c_S_Digest_4 : ACode := .reg [⟨.loc 6, .mv (.var 5), none, []⟩,
  ⟨.loc 7, .mv (.var 0), none, []⟩,
  ⟨.loc 8, .len false (.loc 7), none, []⟩,
  ⟨.var 9, .bin .int .lss (.loc 6) (.loc 8), none, []⟩] false
def c_S_Digest_5 : ACode := .reg [⟨.loc 12, .mv (.var 3), none, []⟩,
  ⟨.loc 13, .bin .int .mul (.const (.d (.int .i64 131))) (.loc 12), none, []⟩,
  ⟨.loc 14, .mv (.var 0), none, []⟩,
  ⟨.loc 15, .mv (.var 5), none, []⟩,
  ⟨.loc 16, .idxA 1 (.loc 14) (.loc 15), none, []⟩,
  ⟨.loc 17, .load false 1 (.loc 16), none, []⟩,
  ⟨.loc 18, .conv .i64 (.loc 17), none, []⟩,
  ⟨.loc 19, .bin .int .add (.loc 13) (.loc 18), none, []⟩,
  ⟨.loc 20, .bin .int .add (.loc 19) (.const (.d (.int .i64 1))), none, []⟩,
  ⟨.loc 21, .bin .int .rem (.loc 20) (.const (.d (.int .i64 2147483647))), none, []⟩,
  ⟨.var 3, .mv (.loc 21), none, []⟩] false
def c_S_Digest_6 : ACode := .reg [⟨.loc 22, .mv (.var 4), none, []⟩,
  ⟨.loc 23, .bin .int .mul (.const (.d (.int .i64 137))) (.loc 22), none, []⟩,
  ⟨.loc 24, .mv (.var 0), none, []⟩,
  ⟨.loc 25, .mv (.var 5), none, []⟩,
  ⟨.loc 26, .idxA 1 (.loc 24) (.loc 25), none, []⟩,
  ⟨.loc 27, .load false 1 (.loc 26), none, []⟩,
  ⟨.loc 28, .conv .i64 (.loc 27), none, []⟩,
  ⟨.loc 29, .bin .int .add (.loc 23) (.loc 28), none, []⟩,
  ⟨.loc 30, .bin .int .add (.loc 29) (.const (.d (.int .i64 3))), none, []⟩,
  ⟨.loc 31, .bin .int .rem (.loc 30) (.const (.d (.int .i64 2147483629))), none, []⟩,
  ⟨.var 4, .mv (.loc 31), none, []⟩] false
def c_S_Digest_7 : ACode := .reg [⟨.loc 10, .mv (.var 5), none, []⟩,
  ⟨.loc 11, .bin .int .add (.loc 10) (.const (.d (.int .i64 1))), none, []⟩,
  ⟨.var 5, .mv (.loc 11), none, []⟩] false
def c_S_Digest_8 : ACode := (.seq (.seq c_S_Digest_4 (.cond (.var 9) .skip (.exit 0))) (.seq (.block 1 (.seq c_S_Digest_5 c_S_Digest_6)) c_S_Digest_7))
def c_S_Digest_9 : ACode := .reg [⟨.loc 32, .mv (.var 3), none, []⟩,
  ⟨.loc 33, .bin .int .mul (.const (.d (.int .i64 2147483648))) (.loc 32), none, []⟩,
  ⟨.loc 34, .mv (.var 4), none, []⟩,
  ⟨.loc 35, .bin .int .add (.loc 33) (.loc 34), none, []⟩,
  ⟨.var 2, .mv (.loc 35), none, []⟩] false
def c_S_Digest : ACode := (.seq c_S_Digest_0 (.seq c_S_Digest_1 (.seq c_S_Digest_2 (.seq (.seq c_S_Digest_3 (.block 0 (.loop [0, 3, 4, 5] c_S_Digest_8))) (.seq c_S_Digest_9 .ret)))))

abbrev F_S_Digest : FuncId := 73

theorem k_S_Digest : comp PP (Tryd.f73.ntmps, pinOf 0 [none]) [0, 2, 3, 4, 5, 9] (Tryd.f73.body.getD .skip) = some c_S_Digest.erase := by kernel_rfl

theorem v_S_Digest {GG : GV} (rcs : List C) {cs : List C} {r : C} {os : List (Option C)} (hN : (cs.length == 1 && rcs.length == 1) = true) (hret : retOf rcs = r)
    (hW : W PP [0, 2, 3, 4, 5, 9] (Tryd.f73.ntmps, pinOf 0 [none]) (Valid PP GG) c_S_Digest (entry cs) (Fin (Valid PP GG) [(.give, 2, none)] [none] rcs os) (fun _ _ => False) (Fin (Valid PP GG) [(.give, 2, none)] [none] rcs os)) : Valid PP GG F_S_Digest cs r os :=
  fn_valid_n 1 1 [0, 2, 3, 4, 5, 9] c_S_Digest [(.give, 2, none)] [none] rcs Tryd.func73 rfl rfl (by kernel_rfl) k_S_Digest rfl rfl hN hret hW


/-
loop.example/g00705/spec.l01Join  params 2+0 results [4]
  seq  mid=[0, 1]
    c_S_l01Join_0
    seq  mid=[1, 5]
      c_S_l01Join_1
      seq  mid=[5]
        seq  mid=[1, 5, 6]
          c_S_l01Join_2
          block 0
            loop live=[1, 5, 6]
              seq  mid=[1, 5, 6]
                seq  mid=[1, 5, 6, 12]
                  c_S_l01Join_3
                  cond (.var 12)
                    skip
                    exit 0
                seq  mid=[1, 5, 6]
                  block 1
                    c_S_l01Join_4
                  c_S_l01Join_5
        seq  mid=[4]
          c_S_l01Join_7
          ret
-/
def c_S_l01Join_0 : ACode := .reg [⟨.var 4, .mv (.const (.nil 0 1)), none, []⟩] false
def c_S_l01Join_1 : ACode := .reg [⟨.loc 7, .mv (.var 0), none, []⟩,
  ⟨.loc 8, .call (.fn 100) [(.loc 7)] [.borrow], none, []⟩,
  ⟨.var 5, .mv (.loc 8), none, []⟩] false
def c_S_l01Join_2 : ACode := .reg [⟨.var 6, .mv (.const (.d (.int .i64 0))), none, []⟩] false
def c_S_l01Join_3 : ACode := .reg [⟨.loc 9, .mv (.var 6), none, []⟩,
  ⟨.loc 10, .mv (.var 1), none, []⟩,
  ⟨.loc 11, .len false (.loc 10), none, []⟩,
  ⟨.var 12, .bin .int .lss (.loc 9) (.loc 11), none, []⟩] false
def c_S_l01Join_4 : ACode := .reg [⟨.loc 15, .mv (.var 5), none, []⟩,
  ⟨.loc 16, .mv (.var 1), none, []⟩,
  ⟨.loc 17, .mv (.var 6), none, []⟩,
  ⟨.loc 18, .idxA 1 (.loc 16) (.loc 17), none, []⟩,
  ⟨.loc 19, .load false 1 (.loc 18), none, []⟩,
  ⟨.loc 20, .lit 0 1 1 [.int .u8 0] [(0, (.loc 19))], none, []⟩,
  ⟨.loc 21, .app 1 1 (.loc 15) (.loc 20), none, []⟩,
  ⟨.var 5, .mv (.loc 21), none, []⟩] false
def c_S_l01Join_5 : ACode := .reg [⟨.loc 13, .mv (.var 6), none, []⟩,
  ⟨.loc 14, .bin .int .add (.loc 13) (.const (.d (.int .i64 1))), none, []⟩,
  ⟨.var 6, .mv (.loc 14), none, []⟩] false
def c_S_l01Join_6 : ACode := (.seq (.seq c_S_l01Join_3 (.cond (.var 12) .skip (.exit 0))) (.seq (.block 1 c_S_l01Join_4) c_S_l01Join_5))
def c_S_l01Join_7 : ACode := .reg [⟨.loc 22, .mv (.var 5), none, []⟩,
  ⟨.var 4, .mv (.loc 22), none, []⟩] false
def c_S_l01Join : ACode := (.seq c_S_l01Join_0 (.seq c_S_l01Join_1 (.seq (.seq c_S_l01Join_2 (.block 0 (.loop [1, 5, 6] c_S_l01Join_6))) (.seq c_S_l01Join_7 .ret))))

abbrev F_S_l01Join : FuncId := 74

theorem k_S_l01Join : comp PP (Tryd.f74.ntmps, pinOf 0 [none, none]) [0, 1, 4, 5, 6, 12] (Tryd.f74.body.getD .skip) = some c_S_l01Join.erase := by kernel_rfl

theorem v_S_l01Join {GG : GV} (rcs : List C) {cs : List C} {r : C} {os : List (Option C)} (hN : (cs.length == 2 && rcs.length == 1) = true) (hret : retOf rcs = r)
    (hW : W PP [0, 1, 4, 5, 6, 12] (Tryd.f74.ntmps, pinOf 0 [none, none]) (Valid PP GG) c_S_l01Join (entry cs) (Fin (Valid PP GG) [(.give, 4, none)] [none, none] rcs os) (fun _ _ => False) (Fin (Valid PP GG) [(.give, 4, none)] [none, none] rcs os)) : Valid PP GG F_S_l01Join cs r os :=
  fn_valid_n 2 1 [0, 1, 4, 5, 6, 12] c_S_l01Join [(.give, 4, none)] [none, none] rcs Tryd.func74 rfl rfl (by kernel_rfl) k_S_l01Join rfl rfl hN hret hW


/-
loop.example/g00705/spec.PutWide  params 1+0 results [2]
  seq  mid=[0]
    c_S_PutWide_0
    seq  mid=[0, 3]
      c_S_PutWide_1
      seq  mid=[0, 3]
        seq  mid=[0, 3, 8]
          c_S_PutWide_2
          cond (.var 8)
            seq  mid=[2]
              c_S_PutWide_3
              ret
            skip
        seq  mid=[3]
          seq  mid=[0, 3, 4]
            c_S_PutWide_4
            block 0
              loop live=[0, 3, 4]
                seq  mid=[0, 3, 4]
                  seq  mid=[0, 3, 4, 10]
                    c_S_PutWide_5
                    cond (.var 10)
                      skip
                      exit 0
                  seq  mid=[0, 3, 4]
                    block 1
                      c_S_PutWide_6
                    c_S_PutWide_7
          seq  mid=[2]
            c_S_PutWide_9
            ret
-/
def c_S_PutWide_0 : ACode := .reg [⟨.var 2, .mv (.const (.nil 0 1)), none, []⟩] false
def c_S_PutWide_1 : ACode := .reg [⟨.loc 5, .lit 0 1 0 [.int .u8 0] [], none, []⟩,
  ⟨.var 3, .mv (.loc 5), none, []⟩] false
def c_S_PutWide_2 : ACode := .reg [⟨.loc 6, .mv (.var 0), none, []⟩,
  ⟨.loc 7, .call (.fn 50) [(.loc 6)] [.borrow], none, []⟩,
  ⟨.var 8, .un .not (.loc 7), none, []⟩] false
def c_S_PutWide_3 : ACode := .reg [⟨.var 2, .mv (.const (.nil 0 1)), none, []⟩] false
def c_S_PutWide_4 : ACode := .reg [⟨.var 4, .mv (.const (.d (.int .i64 0))), none, []⟩] false
def c_S_PutWide_5 : ACode := .reg [⟨.loc 9, .mv (.var 4), none, []⟩,
  ⟨.var 10, .bin .int .lss (.loc 9) (.const (.d (.int .i64 8))), none, []⟩] false
def c_S_PutWide_6 : ACode := .reg [⟨.loc 13, .mv (.var 3), none, []⟩,
  ⟨.loc 14, .mv (.var 0), none, []⟩,
  ⟨.loc 15, .mv (.var 4), none, []⟩,
  ⟨.loc 16, .bin .int .mul (.const (.d (.int .i64 8))) (.loc 15), none, []⟩,
  ⟨.loc 17, .conv .u64 (.loc 16), none, []⟩,
  ⟨.loc 18, .bin .int .shr (.loc 14) (.loc 17), none, []⟩,
  ⟨.loc 19, .bin .int .and (.loc 18) (.const (.d (.int .i64 255))), none, []⟩,
  ⟨.loc 20, .conv .u8 (.loc 19), none, []⟩,
  ⟨.loc 21, .lit 0 1 1 [.int .u8 0] [(0, (.loc 20))], none, []⟩,
  ⟨.loc 22, .app 1 1 (.loc 13) (.loc 21), none, []⟩,
  ⟨.var 3, .mv (.loc 22), none, []⟩] false
def c_S_PutWide_7 : ACode := .reg [⟨.loc 11, .mv (.var 4), none, []⟩,
  ⟨.loc 12, .bin .int .add (.loc 11) (.const (.d (.int .i64 1))), none, []⟩,
  ⟨.var 4, .mv (.loc 12), none, []⟩] false
def c_S_PutWide_8 : ACode := (.seq (.seq c_S_PutWide_5 (.cond (.var 10) .skip (.exit 0))) (.seq (.block 1 c_S_PutWide_6) c_S_PutWide_7))
def c_S_PutWide_9 : ACode := .reg [⟨.loc 23, .mv (.var 3), none, []⟩,
  ⟨.var 2, .mv (.loc 23), none, []⟩] false
def c_S_PutWide : ACode := (.seq c_S_PutWide_0 (.seq c_S_PutWide_1 (.seq (.seq c_S_PutWide_2 (.cond (.var 8) (.seq c_S_PutWide_3 .ret) .skip)) (.seq (.seq c_S_PutWide_4 (.block 0 (.loop [0, 3, 4] c_S_PutWide_8))) (.seq c_S_PutWide_9 .ret)))))

abbrev F_S_PutWide : FuncId := 75

theorem k_S_PutWide : comp PP (Tryd.f75.ntmps, pinOf 0 [none]) [0, 2, 3, 4, 8, 10] (Tryd.f75.body.getD .skip) = some c_S_PutWide.erase := by kernel_rfl

theorem v_S_PutWide {GG : GV} (rcs : List C) {cs : List C} {r : C} {os : List (Option C)} (hN : (cs.length == 1 && rcs.length == 1) = true) (hret : retOf rcs = r)
    (hW : W PP [0, 2, 3, 4, 8, 10] (Tryd.f75.ntmps, pinOf 0 [none]) (Valid PP GG) c_S_PutWide (entry cs) (Fin (Valid PP GG) [(.give, 2, none)] [none] rcs os) (fun _ _ => False) (Fin (Valid PP GG) [(.give, 2, none)] [none] rcs os)) : Valid PP GG F_S_PutWide cs r os :=
  fn_valid_n 1 1 [0, 2, 3, 4, 8, 10] c_S_PutWide [(.give, 2, none)] [none] rcs Tryd.func75 rfl rfl (by kernel_rfl) k_S_PutWide rfl rfl hN hret hW


/-
loop.example/g00705/impl.digest  params 1+0 results [2]
  seq  mid=[0]
    c_I_digest_0
    seq  mid=[0, 3, 4]
      c_I_digest_1
      seq  mid=[3, 4]
        seq  mid=[3, 4, 7, 8, 9]
          c_I_digest_2
          block 0
            loop live=[3, 4, 7, 8, 9]
              seq  mid=[3, 4, 7, 8, 9, 10]
                c_I_digest_3
                seq  mid=[3, 4, 7, 8, 9]
                  cond (.var 10)
                    skip
                    exit 0
                  seq  mid=[3, 4, 7, 8, 9]
                    block 1
                      seq  mid=[3, 4, 6, 7, 8, 9]
                        c_I_digest_4
                        seq  mid=[3, 4, 6, 7, 8, 9]
                          c_I_digest_5
                          c_I_digest_6
                    c_I_digest_7
        seq  mid=[2]
          c_I_digest_9
          ret
-/
def c_I_digest_0 : ACode := .reg [⟨.var 2, .mv (.const (.d (.int .i64 0))), none, []⟩] false
def c_I_digest_1 : ACode := .reg [⟨.var 3, .mv (.const (.d (.int .i64 7))), none, []⟩,
  ⟨.var 4, .mv (.const (.d (.int .i64 11))), none, []⟩] false
def c_I_digest_2 : ACode := .reg [⟨.var 7, .mv (.var 0), none, []⟩,
  ⟨.var 8, .len false (.var 7), none, []⟩,
  ⟨.var 9, .mv (.const (.d (.int .i64 0))), none, []⟩] false
def c_I_digest_3 : ACode := .reg [⟨.var 10, .bin .int .lss (.var 9) (.var 8), none, []⟩] false
def c_I_digest_4 : ACode := .reg [⟨.loc 11, .idxA 1 (.var 7) (.var 9), none, []⟩,
  ⟨.loc 12, .load false 1 (.loc 11), none, []⟩,
  ⟨.var 6, .mv (.loc 12), none, []⟩] false
def c_I_digest_5 : ACode := .reg [⟨.loc 13, .mv (.var 3), none, []⟩,
  ⟨.loc 14, .bin .int .mul (.const (.d (.int .i64 131))) (.loc 13), none, []⟩,
  ⟨.loc 15, .mv (.var 6), none, []⟩,
  ⟨.loc 16, .conv .i64 (.loc 15), none, []⟩,
  ⟨.loc 17, .bin .int .add (.loc 14) (.loc 16), none, []⟩,
  ⟨.loc 18, .bin .int .add (.loc 17) (.const (.d (.int .i64 1))), none, []⟩,
  ⟨.loc 19, .bin .int .rem (.loc 18) (.const (.d (.int .i64 2147483647))), none, []⟩,
  ⟨.var 3, .mv (.loc 19), none, []⟩] false
def c_I_digest_6 : ACode := .reg [⟨.loc 20, .mv (.var 4), none, []⟩,
  ⟨.loc 21, .bin .int .mul (.const (.d (.int .i64 137))) (.loc 20), none, []⟩,
  ⟨.loc 22, .mv (.var 6), none, []⟩,
  ⟨.loc 23, .conv .i64 (.loc 22), none, []⟩,
  ⟨.loc 24, .bin .int .add (.loc 21) (.loc 23), none, []⟩,
  ⟨.loc 25, .bin .int .add (.loc 24) (.const (.d (.int .i64 3))), none, []⟩,
  ⟨.loc 26, .bin .int .rem (.loc 25) (.const (.d (.int .i64 2147483629))), none, []⟩,
  ⟨.var 4, .mv (.loc 26), none, []⟩] false
def c_I_digest_7 : ACode := .reg [⟨.loc 27, .bin .int .add (.var 9) (.const (.d (.int .i64 1))), none, []⟩,
  ⟨.var 9, .mv (.loc 27), none, []⟩] false
def c_I_digest_8 : ACode := (.seq c_I_digest_3 (.seq (.cond (.var 10) .skip (.exit 0)) (.seq (.block 1 (.seq c_I_digest_4 (.seq c_I_digest_5 c_I_digest_6))) c_I_digest_7)))
def c_I_digest_9 : ACode := .reg [⟨.loc 28, .mv (.var 3), none, []⟩,
  ⟨.loc 29, .bin .int .mul (.const (.d (.int .i64 2147483648))) (.loc 28), none, []⟩,
  ⟨.loc 30, .mv (.var 4), none, []⟩,
  ⟨.loc 31, .bin .int .add (.loc 29) (.loc 30), none, []⟩,
  ⟨.var 2, .mv (.loc 31), none, []⟩] false
def c_I_digest : ACode := (.seq c_I_digest_0 (.seq c_I_digest_1 (.seq (.seq c_I_digest_2 (.block 0 (.loop [3, 4, 7, 8, 9] c_I_digest_8))) (.seq c_I_digest_9 .ret))))

abbrev F_I_digest : FuncId := 77

theorem k_I_digest : comp PP (Tryd.f77.ntmps, pinOf 0 [none]) [0, 2, 3, 4, 6, 7, 8, 9, 10] (Tryd.f77.body.getD .skip) = some c_I_digest.erase := by kernel_rfl

theorem v_I_digest {GG : GV} (rcs : List C) {cs : List C} {r : C} {os : List (Option C)} (hN : (cs.length == 1 && rcs.length == 1) = true) (hret : retOf rcs = r)
    (hW : W PP [0, 2, 3, 4, 6, 7, 8, 9, 10] (Tryd.f77.ntmps, pinOf 0 [none]) (Valid PP GG) c_I_digest (entry cs) (Fin (Valid PP GG) [(.give, 2, none)] [none] rcs os) (fun _ _ => False) (Fin (Valid PP GG) [(.give, 2, none)] [none] rcs os)) : Valid PP GG F_I_digest cs r os :=
  fn_valid_n 1 1 [0, 2, 3, 4, 6, 7, 8, 9, 10] c_I_digest [(.give, 2, none)] [none] rcs Tryd.func77 rfl rfl (by kernel_rfl) k_I_digest rfl rfl hN hret hW


/-
loop.example/g00705/impl.putWide  params 1+0 results [2]
  seq  mid=[0]
    c_I_putWide_0
    seq  mid=[0, 3]
      c_I_putWide_1
      seq  mid=[3]
        seq  mid=[0, 3, 7, 8]
          c_I_putWide_2
          block 0
            loop live=[0, 3, 7, 8]
              seq  mid=[0, 3, 7, 8, 9]
                c_I_putWide_3
                seq  mid=[0, 3, 7, 8]
                  cond (.var 9)
                    skip
                    exit 0
                  seq  mid=[0, 3, 7, 8]
                    block 1
                      seq  mid=[0, 3, 4, 7, 8]
                        c_I_putWide_4
                        c_I_putWide_5
                    c_I_putWide_6
        seq  mid=[2]
          c_I_putWide_8
          ret
-/
def c_I_putWide_0 : ACode := .reg [⟨.var 2, .mv (.const (.nil 0 1)), none, []⟩] false
def c_I_putWide_1 : ACode := .reg [⟨.loc 5, .mkslice 0 1 1 [.int .u8 0] (.const (.d (.int .i64 8))) (.const (.d (.int .i64 8))), none, []⟩,
  ⟨.var 3, .mv (.loc 5), none, []⟩] false
def c_I_putWide_2 : ACode := .reg [⟨.loc 6, .mv (.var 3), none, []⟩,
  ⟨.var 7, .len false (.loc 6), none, []⟩,
  ⟨.var 8, .mv (.const (.d (.int .i64 0))), none, []⟩] false
def c_I_putWide_3 : ACode := .reg [⟨.var 9, .bin .int .lss (.var 8) (.var 7), none, []⟩] false
def c_I_putWide_4 : ACode := .reg [⟨.loc 10, .mv (.var 8), none, []⟩,
  ⟨.var 4, .mv (.loc 10), none, []⟩] false
def c_I_putWide_5 : ACode := .reg [⟨.loc 11, .mv (.var 3), none, []⟩,
  ⟨.loc 12, .mv (.var 4), none, []⟩,
  ⟨.loc 13, .mv (.var 0), none, []⟩,
  ⟨.loc 14, .mv (.var 4), none, []⟩,
  ⟨.loc 15, .bin .int .mul (.const (.d (.int .i64 8))) (.loc 14), none, []⟩,
  ⟨.loc 16, .bin .int .shr (.loc 13) (.loc 15), none, []⟩,
  ⟨.loc 17, .conv .u8 (.loc 16), none, []⟩,
  ⟨.loc 18, .idxA 1 (.loc 11) (.loc 12), none, []⟩,
  ⟨.none, .store 1 (.loc 18) (.loc 17), none, []⟩] false
def c_I_putWide_6 : ACode := .reg [⟨.loc 19, .bin .int .add (.var 8) (.const (.d (.int .i64 1))), none, []⟩,
  ⟨.var 8, .mv (.loc 19), none, []⟩] false
def c_I_putWide_7 : ACode := (.seq c_I_putWide_3 (.seq (.cond (.var 9) .skip (.exit 0)) (.seq (.block 1 (.seq c_I_putWide_4 c_I_putWide_5)) c_I_putWide_6)))
def c_I_putWide_8 : ACode := .reg [⟨.loc 20, .mv (.var 3), none, []⟩,
  ⟨.var 2, .mv (.loc 20), none, []⟩] false
def c_I_putWide : ACode := (.seq c_I_putWide_0 (.seq c_I_putWide_1 (.seq (.seq c_I_putWide_2 (.block 0 (.loop [0, 3, 7, 8] c_I_putWide_7))) (.seq c_I_putWide_8 .ret))))

abbrev F_I_putWide : FuncId := 78

theorem k_I_putWide : comp PP (Tryd.f78.ntmps, pinOf 0 [none]) [0, 2, 3, 4, 7, 8, 9] (Tryd.f78.body.getD .skip) = some c_I_putWide.erase := by kernel_rfl

theorem v_I_putWide {GG : GV} (rcs : List C) {cs : List C} {r : C} {os : List (Option C)} (hN : (cs.length == 1 && rcs.length == 1) = true) (hret : retOf rcs = r)
    (hW : W PP [0, 2, 3, 4, 7, 8, 9] (Tryd.f78.ntmps, pinOf 0 [none]) (Valid PP GG) c_I_putWide (entry cs) (Fin (Valid PP GG) [(.give, 2, none)] [none] rcs os) (fun _ _ => False) (Fin (Valid PP GG) [(.give, 2, none)] [none] rcs os)) : Valid PP GG F_I_putWide cs r os :=
  fn_valid_n 1 1 [0, 2, 3, 4, 7, 8, 9] c_I_putWide [(.give, 2, none)] [none] rcs Tryd.func78 rfl rfl (by kernel_rfl) k_I_putWide rfl rfl hN hret hW


/-
loop.example/g00705/spec.l01Bytes  params 1+0 results [2]
  seq  mid=[0]
    c_S_l01Bytes_0
    seq  mid=[0, 3]
      c_S_l01Bytes_1
      seq  mid=[3]
        seq  mid=[0, 3, 4]
          c_S_l01Bytes_2
          block 0
            loop live=[0, 3, 4]
              seq  mid=[0, 3, 4]
                seq  mid=[0, 3, 4, 9]
                  c_S_l01Bytes_3
                  cond (.var 9)
                    skip
                    exit 0
                seq  mid=[0, 3, 4]
                  block 1
                    c_S_l01Bytes_4
                  c_S_l01Bytes_5
        seq  mid=[2]
          c_S_l01Bytes_7
          ret
-/
def c_S_l01Bytes_0 : ACode := .reg [⟨.var 2, .mv (.const (.nil 0 1)), none, []⟩] false
def c_S_l01Bytes_1 : ACode := .reg [⟨.loc 5, .lit 0 1 0 [.int .u8 0] [], none, []⟩,
  ⟨.var 3, .mv (.loc 5), none, []⟩] false
def c_S_l01Bytes_2 : ACode := .reg [⟨.var 4, .mv (.const (.d (.int .i64 0))), none, []⟩] false
def c_S_l01Bytes_3 : ACode := .reg [⟨.loc 6, .mv (.var 4), none, []⟩,
  ⟨.loc 7, .mv (.var 0), none, []⟩,
  ⟨.loc 8, .len false (.loc 7), none, []⟩,
  ⟨.var 9, .bin .int .lss (.loc 6) (.loc 8), none, []⟩] false
def c_S_l01Bytes_4 : ACode := .reg [⟨.loc 12, .mv (.var 3), none, []⟩,
  ⟨.loc 13, .mv (.var 0), none, []⟩,
  ⟨.loc 14, .mv (.var 4), none, []⟩,
  ⟨.loc 15, .idxA 1 (.loc 13) (.loc 14), none, []⟩,
  ⟨.loc 16, .load false 1 (.loc 15), none, []⟩,
  ⟨.loc 17, .lit 0 1 1 [.int .u8 0] [(0, (.loc 16))], none, []⟩,
  ⟨.loc 18, .app 1 1 (.loc 12) (.loc 17), none, []⟩,
  ⟨.var 3, .mv (.loc 18), none, []⟩] false
def c_S_l01Bytes_5 : ACode := .reg [⟨.loc 10, .mv (.var 4), none, []⟩,
  ⟨.loc 11, .bin .int .add (.loc 10) (.const (.d (.int .i64 1))), none, []⟩,
  ⟨.var 4, .mv (.loc 11), none, []⟩] false
def c_S_l01Bytes_6 : ACode := (.seq (.seq c_S_l01Bytes_3 (.cond (.var 9) .skip (.exit 0))) (.seq (.block 1 c_S_l01Bytes_4) c_S_l01Bytes_5))
def c_S_l01Bytes_7 : ACode := .reg [⟨.loc 19, .mv (.var 3), none, []⟩,
  ⟨.var 2, .mv (.loc 19), none, []⟩] false
def c_S_l01Bytes : ACode := (.seq c_S_l01Bytes_0 (.seq c_S_l01Bytes_1 (.seq (.seq c_S_l01Bytes_2 (.block 0 (.loop [0, 3, 4] c_S_l01Bytes_6))) (.seq c_S_l01Bytes_7 .ret))))

abbrev F_S_l01Bytes : FuncId := 100

theorem k_S_l01Bytes : comp PP (Tryd.f100.ntmps, pinOf 0 [none]) [0, 2, 3, 4, 9] (Tryd.f100.body.getD .skip) = some c_S_l01Bytes.erase := by kernel_rfl

theorem v_S_l01Bytes {GG : GV} (rcs : List C) {cs : List C} {r : C} {os : List (Option C)} (hN : (cs.length == 1 && rcs.length == 1) = true) (hret : retOf rcs = r)
    (hW : W PP [0, 2, 3, 4, 9] (Tryd.f100.ntmps, pinOf 0 [none]) (Valid PP GG) c_S_l01Bytes (entry cs) (Fin (Valid PP GG) [(.give, 2, none)] [none] rcs os) (fun _ _ => False) (Fin (Valid PP GG) [(.give, 2, none)] [none] rcs os)) : Valid PP GG F_S_l01Bytes cs r os :=
  fn_valid_n 1 1 [0, 2, 3, 4, 9] c_S_l01Bytes [(.give, 2, none)] [none] rcs Tryd.func100 rfl rfl (by kernel_rfl) k_S_l01Bytes rfl rfl hN hret hW


/-
loop.example/g00705/spec.l01Num  params 1+0 results [2]
  seq  mid=[0]
    c_S_l01Num_0
    seq  mid=[0]
      seq  mid=[0, 7]
        c_S_l01Num_1
        cond (.var 7)
          seq  mid=[2]
            c_S_l01Num_2
            ret
          skip
      seq  mid=[0, 3]
        c_S_l01Num_3
        seq  mid=[0, 3, 4]
          c_S_l01Num_4
          seq  mid=[3, 4]
            block 0
              loop live=[0, 3, 4]
                seq  mid=[0, 3, 4]
                  seq  mid=[0, 3, 4, 11]
                    c_S_l01Num_5
                    cond (.var 11)
                      skip
                      exit 0
                  block 1
                    seq  mid=[0, 3, 4, 5]
                      c_S_l01Num_6
                      seq  mid=[0, 3, 4, 5]
                        seq  mid=[0, 3, 4, 5, 15]
                          c_S_l01Num_7
                          cond (.var 15)
                            c_S_l01Num_8
                            skip
                        seq  mid=[0, 3, 4]
                          c_S_l01Num_9
                          c_S_l01Num_10
            seq  mid=[3]
              seq  mid=[3, 27]
                c_S_l01Num_12
                cond (.var 27)
                  seq  mid=[2]
                    c_S_l01Num_13
                    ret
                  skip
              seq  mid=[2]
                c_S_l01Num_14
                ret
-/
def c_S_l01Num_0 : ACode := .reg [⟨.var 2, .mv (.const (.d (.str []))), none, []⟩] false
def c_S_l01Num_1 : ACode := .reg [⟨.loc 6, .mv (.var 0), none, []⟩,
  ⟨.var 7, .bin .int .eql (.loc 6) (.const (.d (.int .i64 0))), none, []⟩] false
def c_S_l01Num_2 : ACode := .reg [⟨.var 2, .mv (.const (.d (.str [48]))), none, []⟩] false
def c_S_l01Num_3 : ACode := .reg [⟨.var 3, .mv (.const (.d (.str []))), none, []⟩] false
def c_S_l01Num_4 : ACode := .reg [⟨.loc 8, .mv (.var 0), none, []⟩,
  ⟨.loc 9, .bin .int .lss (.loc 8) (.const (.d (.int .i64 0))), none, []⟩,
  ⟨.var 4, .mv (.loc 9), none, []⟩] false
def c_S_l01Num_5 : ACode := .reg [⟨.loc 10, .mv (.var 0), none, []⟩,
  ⟨.var 11, .bin .int .neq (.loc 10) (.const (.d (.int .i64 0))), none, []⟩] false
def c_S_l01Num_6 : ACode := .reg [⟨.loc 12, .mv (.var 0), none, []⟩,
  ⟨.loc 13, .bin .int .rem (.loc 12) (.const (.d (.int .i64 10))), none, []⟩,
  ⟨.var 5, .mv (.loc 13), none, []⟩] false
def c_S_l01Num_7 : ACode := .reg [⟨.loc 14, .mv (.var 5), none, []⟩,
  ⟨.var 15, .bin .int .lss (.loc 14) (.const (.d (.int .i64 0))), none, []⟩] false
def c_S_l01Num_8 : ACode := .reg [⟨.loc 16, .mv (.var 5), none, []⟩,
  ⟨.loc 17, .un .neg (.loc 16), none, []⟩,
  ⟨.var 5, .mv (.loc 17), none, []⟩] false
def c_S_l01Num_9 : ACode := .reg [⟨.loc 18, .mv (.var 5), none, []⟩,
  ⟨.loc 19, .bin .int .add (.const (.d (.int .i64 48))) (.loc 18), none, []⟩,
  ⟨.loc 20, .conv .u8 (.loc 19), none, []⟩,
  ⟨.loc 21, .lit 0 1 1 [.int .u8 0] [(0, (.loc 20))], none, []⟩,
  ⟨.loc 22, .b2s (.loc 21), none, []⟩,
  ⟨.loc 23, .mv (.var 3), none, []⟩,
  ⟨.loc 24, .bin .str .add (.loc 22) (.loc 23), none, []⟩,
  ⟨.var 3, .mv (.loc 24), none, []⟩] false
def c_S_l01Num_10 : ACode := .reg [⟨.loc 25, .mv (.var 0), none, []⟩,
  ⟨.loc 26, .bin .int .quo (.loc 25) (.const (.d (.int .i64 10))), none, []⟩,
  ⟨.var 0, .mv (.loc 26), none, []⟩] false
def c_S_l01Num_11 : ACode := (.seq (.seq c_S_l01Num_5 (.cond (.var 11) .skip (.exit 0))) (.block 1 (.seq c_S_l01Num_6 (.seq (.seq c_S_l01Num_7 (.cond (.var 15) c_S_l01Num_8 .skip)) (.seq c_S_l01Num_9 c_S_l01Num_10)))))
def c_S_l01Num_12 : ACode := .reg [⟨.var 27, .mv (.var 4), none, []⟩] false
def c_S_l01Num_13 : ACode := .reg [⟨.loc 28, .mv (.var 3), none, []⟩,
  ⟨.loc 29, .bin .str .add (.const (.d (.str [45]))) (.loc 28), none, []⟩,
  ⟨.var 2, .mv (.loc 29), none, []⟩] false
def c_S_l01Num_14 : ACode := .reg [⟨.loc 30, .mv (.var 3), none, []⟩,
  ⟨.var 2, .mv (.loc 30), none, []⟩] false
def c_S_l01Num : ACode := (.seq c_S_l01Num_0 (.seq (.seq c_S_l01Num_1 (.cond (.var 7) (.seq c_S_l01Num_2 .ret) .skip)) (.seq c_S_l01Num_3 (.seq c_S_l01Num_4 (.seq (.block 0 (.loop [0, 3, 4] c_S_l01Num_11)) (.seq (.seq c_S_l01Num_12 (.cond (.var 27) (.seq c_S_l01Num_13 .ret) .skip)) (.seq c_S_l01Num_14 .ret)))))))

abbrev F_S_l01Num : FuncId := 72

theorem k_S_l01Num : comp PP (Tryd.f72.ntmps, pinOf 0 [none]) [0, 2, 3, 4, 5, 7, 11, 15, 27] (Tryd.f72.body.getD .skip) = some c_S_l01Num.erase := by kernel_rfl

theorem v_S_l01Num {GG : GV} (rcs : List C) {cs : List C} {r : C} {os : List (Option C)} (hN : (cs.length == 1 && rcs.length == 1) = true) (hret : retOf rcs = r)
    (hW : W PP [0, 2, 3, 4, 5, 7, 11, 15, 27] (Tryd.f72.ntmps, pinOf 0 [none]) (Valid PP GG) c_S_l01Num (entry cs) (Fin (Valid PP GG) [(.give, 2, none)] [none] rcs os) (fun _ _ => False) (Fin (Valid PP GG) [(.give, 2, none)] [none] rcs os)) : Valid PP GG F_S_l01Num cs r os :=
  fn_valid_n 1 1 [0, 2, 3, 4, 5, 7, 11, 15, 27] c_S_l01Num [(.give, 2, none)] [none] rcs Tryd.func72 rfl rfl (by kernel_rfl) k_S_l01Num rfl rfl hN hret hW


end Go.Proofs.YtpbofdbleajagaaDoor.Ab
