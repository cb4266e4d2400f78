/-
  A part of a proof about the given program; what is proved is said where each theorem stands.
-/
import Derived.KernelRfl
import Derived.Test.YtjdepagpjkoglaaProg
import Derived.Test.YtjdepagpjkoglaaFrameA
import Derived.Test.YtjdepagpjkoglaaFrameB
import Derived.Test.YtjdepagpjkoglaaFrameC
import Derived.Test.YtjdepagpjkoglaaFrameD
import Derived.Test.YtjdepagpjkoglaaFrameE
namespace Go.Proofs.Ytjdepagpjkoglaa.Ab
open Go.Proofs
noncomputable abbrev PP : Program := Try.prog

/-
loop.example/g00705/laws.FnExactHexText  params 1+0 results [2]
  seq  mid=[0]
    c_L_FnExactHexText_0
    seq  mid=[0]
      seq  mid=[0, 8]
        c_L_FnExactHexText_1
        cond (.var 8)
          seq  mid=[2]
            c_L_FnExactHexText_2
            ret
          skip
      seq  mid=[0, 3]
        c_L_FnExactHexText_3
        seq  mid=[0, 3, 4]
          c_L_FnExactHexText_4
          seq  mid=[0, 3, 4, 5]
            c_L_FnExactHexText_5
            seq  mid=[0, 4]
              seq  mid=[0, 4, 18]
                c_L_FnExactHexText_6
                cond (.var 18)
                  seq  mid=[2]
                    c_L_FnExactHexText_7
                    ret
                  skip
              seq  mid=[]
                seq  mid=[23]
                  c_L_FnExactHexText_8
                  cond (.var 23)
                    seq  mid=[2]
                      c_L_FnExactHexText_9
                      ret
                    skip
                seq  mid=[2]
                  c_L_FnExactHexText_10
                  ret
-/
def c_L_FnExactHexText_0 : ACode := .reg [⟨.var 2, .mv (.const (.d (.bool false))), none, []⟩] false
def c_L_FnExactHexText_1 : ACode := .reg [⟨.loc 6, .mv (.var 0), none, []⟩,
  ⟨.loc 7, .len false (.loc 6), none, []⟩,
  ⟨.var 8, .bin .int .gtr (.loc 7) (.const (.d (.int .i64 1048576))), none, []⟩] false
def c_L_FnExactHexText_2 : ACode := .reg [⟨.var 2, .mv (.const (.d (.bool true))), none, []⟩] false
def c_L_FnExactHexText_3 : ACode := .reg [⟨.loc 9, .mv (.var 0), none, []⟩,
  ⟨.loc 10, .call (.fn 7) [(.loc 9)] [.borrow], none, []⟩,
  ⟨.loc 11, .call (.fn 6) [(.loc 10)] [.borrow], none, []⟩,
  ⟨.var 3, .mv (.loc 11), none, []⟩] false
def c_L_FnExactHexText_4 : ACode := .reg [⟨.loc 12, .mv (.var 0), none, []⟩,
  ⟨.loc 13, .call (.fn 7) [(.loc 12)] [.borrow], none, []⟩,
  ⟨.var 4, .mv (.loc 13), none, []⟩] false
def c_L_FnExactHexText_5 : ACode := .reg [⟨.loc 14, .mv (.var 4), none, []⟩,
  ⟨.loc 15, .call (.fn 8) [(.loc 14)] [.borrow], none, []⟩,
  ⟨.var 5, .mv (.loc 15), none, []⟩] false
def c_L_FnExactHexText_6 : ACode := .reg [⟨.loc 16, .mv (.var 5), none, []⟩,
  ⟨.loc 17, .mv (.var 3), none, []⟩,
  ⟨.var 18, .bin .str .neq (.loc 16) (.loc 17), none, []⟩] false
def c_L_FnExactHexText_7 : ACode := .reg [⟨.var 2, .mv (.const (.d (.bool false))), none, []⟩] false
def c_L_FnExactHexText_8 : ACode := .reg [⟨.loc 19, .mv (.var 4), none, []⟩,
  ⟨.loc 20, .mv (.var 0), none, []⟩,
  ⟨.loc 21, .call (.fn 7) [(.loc 20)] [.borrow], none, []⟩,
  ⟨.loc 22, .call (.fn 9) [(.loc 19), (.loc 21)] [.borrow, .borrow], none, []⟩,
  ⟨.var 23, .un .not (.loc 22), none, []⟩] false
def c_L_FnExactHexText_9 : ACode := .reg [⟨.var 2, .mv (.const (.d (.bool false))), none, []⟩] false
def c_L_FnExactHexText_10 : ACode := .reg [⟨.var 2, .mv (.const (.d (.bool true))), none, []⟩] false
def c_L_FnExactHexText : ACode := (.seq c_L_FnExactHexText_0 (.seq (.seq c_L_FnExactHexText_1 (.cond (.var 8) (.seq c_L_FnExactHexText_2 .ret) .skip)) (.seq c_L_FnExactHexText_3 (.seq c_L_FnExactHexText_4 (.seq c_L_FnExactHexText_5 (.seq (.seq c_L_FnExactHexText_6 (.cond (.var 18) (.seq c_L_FnExactHexText_7 .ret) .skip)) (.seq (.seq c_L_FnExactHexText_8 (.cond (.var 23) (.seq c_L_FnExactHexText_9 .ret) .skip)) (.seq c_L_FnExactHexText_10 .ret))))))))

abbrev F_L_FnExactHexText : FuncId := 3

theorem k_L_FnExactHexText : comp PP (Try.f3.ntmps, pinOf 0 [none]) [0, 2, 3, 4, 5, 8, 18, 23] (Try.f3.body.getD .skip) = some c_L_FnExactHexText.erase := by kernel_rfl

theorem v_L_FnExactHexText (rcs : List C) {cs : List C} {r : C} {os : List (Option C)} (hN : (cs.length == 1 && rcs.length == 1) = true) (hret : retOf rcs = r)
    (hW : W PP [0, 2, 3, 4, 5, 8, 18, 23] (Try.f3.ntmps, pinOf 0 [none]) (Valid PP) c_L_FnExactHexText (entry cs) (Fin (Valid PP) [(.give, 2, none)] [none] rcs os) (fun _ _ => False) (Fin (Valid PP) [(.give, 2, none)] [none] rcs os)) : Valid PP F_L_FnExactHexText cs r os :=
  fn_valid_n 1 1 [0, 2, 3, 4, 5, 8, 18, 23] c_L_FnExactHexText [(.give, 2, none)] [none] rcs Try.func3 rfl rfl (by kernel_rfl) k_L_FnExactHexText rfl rfl hN hret hW


/-
loop.example/g00705/laws.FnExactRecordReq  params 1+0 results [2]
  seq  mid=[1]
    c_L_FnExactRecordReq_0
    seq  mid=[1, 3]
      c_L_FnExactRecordReq_1
      seq  mid=[1, 3]
        c_L_FnExactRecordReq_2
        seq  mid=[1]
          seq  mid=[1, 13]
            c_L_FnExactRecordReq_3
            cond (.var 13)
              seq  mid=[2]
                c_L_FnExactRecordReq_4
                ret
              skip
          seq  mid=[1, 4, 5]
            c_L_FnExactRecordReq_5
            seq  mid=[1, 4, 5, 6]
              c_L_FnExactRecordReq_6
              seq  mid=[1, 4, 5, 6, 7, 8]
                c_L_FnExactRecordReq_7
                seq  mid=[1, 6]
                  seq  mid=[1, 6, 35]
                    c_L_FnExactRecordReq_8
                    cond (.var 35)
                      seq  mid=[2]
                        c_L_FnExactRecordReq_9
                        ret
                      skip
                  seq  mid=[]
                    seq  mid=[40]
                      c_L_FnExactRecordReq_10 DRAW
                      cond (.var 40)
                        seq  mid=[2]
                          c_L_FnExactRecordReq_11
                          ret
                        skip
                    seq  mid=[2]
                      c_L_FnExactRecordReq_12
                      ret
-/
def c_L_FnExactRecordReq_0 : ACode := .reg [⟨.var 1, .box (.var 0), none, []⟩,
  ⟨.var 2, .mv (.const (.d (.bool false))), none, []⟩] false
def c_L_FnExactRecordReq_1 : ACode := .reg [⟨.var 3, .mv (.const (.d (.int .i64 1048576))), none, []⟩] false
def c_L_FnExactRecordReq_2 : ACode := .reg [⟨.loc 9, .load true 3 (.var 1), none, []⟩,
  ⟨.loc 10, .mv (.var 3), none, []⟩,
  ⟨.loc 11, .call (.fn 10) [(.loc 9), (.loc 10)] [.borrow, .borrow], none, []⟩,
  ⟨.var 3, .mv (.loc 11), none, []⟩] false
def c_L_FnExactRecordReq_3 : ACode := .reg [⟨.loc 12, .mv (.var 3), none, []⟩,
  ⟨.var 13, .bin .int .lss (.loc 12) (.const (.d (.int .i64 0))), none, []⟩] false
def c_L_FnExactRecordReq_4 : ACode := .reg [⟨.var 2, .mv (.const (.d (.bool true))), none, []⟩] false
def c_L_FnExactRecordReq_5 : ACode := .reg [⟨.loc 15, .load true 3 (.var 1), none, []⟩,
  ⟨.loc 16, .call (.fn 12) [(.loc 15)] [.borrow], none, []⟩,
  ⟨.loc 17, .call (.fn 11) [(.loc 16)] [.borrow], none, []⟩,
  ⟨.loc 14, .mv (.loc 17), none, []⟩,
  ⟨.loc 18, .ext (.loc 14) 0, none, []⟩,
  ⟨.loc 19, .ext (.loc 14) 1, none, []⟩,
  ⟨.var 4, .alloc [.d (.int .i64 0), .d (.int .i64 0), .d (.str []), .d (.str []), .d (.str []), .d (.int .i64 0)], none, []⟩,
  ⟨.none, .store 6 (.var 4) (.loc 18), none, []⟩,
  ⟨.var 5, .mv (.loc 19), none, []⟩] false
def c_L_FnExactRecordReq_6 : ACode := .reg [⟨.loc 20, .load true 3 (.var 1), none, []⟩,
  ⟨.loc 21, .call (.fn 12) [(.loc 20)] [.borrow], none, []⟩,
  ⟨.var 6, .alloc [.d (.int .i64 0), .nil 0 1, .nil 0 1], none, []⟩,
  ⟨.none, .store 3 (.var 6) (.loc 21), none, []⟩] false
def c_L_FnExactRecordReq_7 : ACode := .reg [⟨.loc 23, .load true 3 (.var 6), none, []⟩,
  ⟨.loc 24, .call (.fn 13) [(.loc 23)] [.borrow], none, []⟩,
  ⟨.loc 22, .mv (.loc 24), none, []⟩,
  ⟨.loc 25, .ext (.loc 22) 0, none, []⟩,
  ⟨.loc 26, .ext (.loc 22) 1, none, []⟩,
  ⟨.var 7, .alloc [.d (.int .i64 0), .d (.int .i64 0), .d (.str []), .d (.str []), .d (.str []), .d (.int .i64 0)], none, []⟩,
  ⟨.none, .store 6 (.var 7) (.loc 25), none, []⟩,
  ⟨.var 8, .mv (.loc 26), none, []⟩] false
def c_L_FnExactRecordReq_8 : ACode := .reg [⟨.loc 27, .load true 6 (.var 7), none, []⟩,
  ⟨.loc 28, .load true 6 (.var 4), none, []⟩,
  ⟨.loc 29, .call (.fn 14) [(.loc 27), (.loc 28)] [.borrow, .borrow], none, []⟩,
  ⟨.loc 30, .un .not (.loc 29), none, []⟩,
  ⟨.loc 31, .split (.loc 30), none, []⟩,
  ⟨.loc 32, .mv (.var 8), some ((.loc 31), false), []⟩,
  ⟨.loc 33, .mv (.var 5), some ((.loc 31), false), []⟩,
  ⟨.loc 34, .bin .bool .neq (.loc 32) (.loc 33), some ((.loc 31), false), []⟩,
  ⟨.var 35, .pick (.loc 31) (.const (.d (.bool true))) (.loc 34), none, []⟩] false
def c_L_FnExactRecordReq_9 : ACode := .reg [⟨.var 2, .mv (.const (.d (.bool false))), none, []⟩] false
def c_L_FnExactRecordReq_10 : ACode := .reg [⟨.loc 36, .load true 3 (.var 6), none, []⟩,
  ⟨.loc 37, .load true 3 (.var 1), none, []⟩,
  ⟨.loc 38, .call (.fn 12) [(.loc 37)] [.borrow], none, [1]⟩,
  ⟨.loc 39, .call (.fn 15) [(.loc 36), (.loc 38)] [.borrow, .borrow], none, [0, 2, 1]⟩,
  ⟨.var 40, .un .not (.loc 39), none, [3, 0, 2, 1]⟩] true
def c_L_FnExactRecordReq_11 : ACode := .reg [⟨.var 2, .mv (.const (.d (.bool false))), none, []⟩] false
def c_L_FnExactRecordReq_12 : ACode := .reg [⟨.var 2, .mv (.const (.d (.bool true))), none, []⟩] false
def c_L_FnExactRecordReq : ACode := (.seq c_L_FnExactRecordReq_0 (.seq c_L_FnExactRecordReq_1 (.seq c_L_FnExactRecordReq_2 (.seq (.seq c_L_FnExactRecordReq_3 (.cond (.var 13) (.seq c_L_FnExactRecordReq_4 .ret) .skip)) (.seq c_L_FnExactRecordReq_5 (.seq c_L_FnExactRecordReq_6 (.seq c_L_FnExactRecordReq_7 (.seq (.seq c_L_FnExactRecordReq_8 (.cond (.var 35) (.seq c_L_FnExactRecordReq_9 .ret) .skip)) (.seq (.seq c_L_FnExactRecordReq_10 (.cond (.var 40) (.seq c_L_FnExactRecordReq_11 .ret) .skip)) (.seq c_L_FnExactRecordReq_12 .ret))))))))))

abbrev F_L_FnExactRecordReq : FuncId := 4

theorem k_L_FnExactRecordReq : comp PP (Try.f4.ntmps, pinOf 0 [none]) [0, 1, 2, 3, 4, 5, 6, 7, 8, 13, 35, 40] (Try.f4.body.getD .skip) = some c_L_FnExactRecordReq.erase := by kernel_rfl

theorem v_L_FnExactRecordReq (rcs : List C) {cs : List C} {r : C} {os : List (Option C)} (hN : (cs.length == 1 && rcs.length == 1) = true) (hret : retOf rcs = r)
    (hW : W PP [0, 1, 2, 3, 4, 5, 6, 7, 8, 13, 35, 40] (Try.f4.ntmps, pinOf 0 [none]) (Valid PP) c_L_FnExactRecordReq (entry cs) (Fin (Valid PP) [(.give, 2, none)] [none] rcs os) (fun _ _ => False) (Fin (Valid PP) [(.give, 2, none)] [none] rcs os)) : Valid PP F_L_FnExactRecordReq cs r os :=
  fn_valid_n 1 1 [0, 1, 2, 3, 4, 5, 6, 7, 8, 13, 35, 40] c_L_FnExactRecordReq [(.give, 2, none)] [none] rcs Try.func4 rfl rfl (by kernel_rfl) k_L_FnExactRecordReq rfl rfl hN hret hW


/-
loop.example/g00705/laws.FnExactReqRecord  params 1+0 results [2]
  seq  mid=[1]
    c_L_FnExactReqRecord_0
    seq  mid=[1, 3]
      c_L_FnExactReqRecord_1
      seq  mid=[1, 3]
        c_L_FnExactReqRecord_2
        seq  mid=[1]
          seq  mid=[1, 16]
            c_L_FnExactReqRecord_3
            cond (.var 16)
              seq  mid=[2]
                c_L_FnExactReqRecord_4
                ret
              skip
          seq  mid=[1, 4, 5]
            c_L_FnExactReqRecord_5
            seq  mid=[1, 4, 5, 6, 7]
              c_L_FnExactReqRecord_6
              seq  mid=[1, 4, 5, 6]
                seq  mid=[1, 4, 5, 6, 37]
                  c_L_FnExactReqRecord_7
                  cond (.var 37)
                    seq  mid=[2]
                      c_L_FnExactReqRecord_8
                      ret
                    skip
                seq  mid=[1, 4, 5, 6, 8]
                  c_L_FnExactReqRecord_9
                  seq  mid=[1, 4, 5, 6, 8]
                    c_L_FnExactReqRecord_10
                    seq  mid=[1, 4, 5, 6, 8, 9]
                      c_L_FnExactReqRecord_11
                      seq  mid=[1, 4, 5, 6, 8, 9]
                        c_L_FnExactReqRecord_12
                        seq  mid=[1, 4, 5, 6, 8, 9]
                          seq  mid=[1, 4, 5, 6, 8, 9, 45]
                            c_L_FnExactReqRecord_13
                            cond (.var 45)
                              seq  mid=[2]
                                c_L_FnExactReqRecord_14
                                ret
                              skip
                          seq  mid=[1, 4, 5, 6, 8]
                            seq  mid=[1, 4, 5, 6, 8, 48]
                              c_L_FnExactReqRecord_15
                              cond (.var 48)
                                seq  mid=[2]
                                  c_L_FnExactReqRecord_16
                                  ret
                                skip
                            seq  mid=[4, 5, 6, 8, 10, 11]
                              c_L_FnExactReqRecord_17
                              seq  mid=[6, 8]
                                seq  mid=[6, 8, 63]
                                  c_L_FnExactReqRecord_18
                                  cond (.var 63)
                                    seq  mid=[2]
                                      c_L_FnExactReqRecord_19
                                      ret
                                    skip
                                seq  mid=[6, 8, 9]
                                  c_L_FnExactReqRecord_20
                                  seq  mid=[8, 9]
                                    c_L_FnExactReqRecord_21
                                    seq  mid=[8, 9]
                                      seq  mid=[8, 9, 68]
                                        c_L_FnExactReqRecord_22
                                        cond (.var 68)
                                          seq  mid=[2]
                                            c_L_FnExactReqRecord_23
                                            ret
                                          skip
                                      seq  mid=[]
                                        seq  mid=[71]
                                          c_L_FnExactReqRecord_24
                                          cond (.var 71)
                                            seq  mid=[2]
                                              c_L_FnExactReqRecord_25
                                              ret
                                            skip
                                        seq  mid=[2]
                                          c_L_FnExactReqRecord_26
                                          ret
-/
def c_L_FnExactReqRecord_0 : ACode := .reg [⟨.var 1, .box (.var 0), none, []⟩,
  ⟨.var 2, .mv (.const (.d (.bool false))), none, []⟩] false
def c_L_FnExactReqRecord_1 : ACode := .reg [⟨.var 3, .mv (.const (.d (.int .i64 1048576))), none, []⟩] false
def c_L_FnExactReqRecord_2 : ACode := .reg [⟨.loc 12, .load true 6 (.var 1), none, []⟩,
  ⟨.loc 13, .mv (.var 3), none, []⟩,
  ⟨.loc 14, .call (.fn 16) [(.loc 12), (.loc 13)] [.borrow, .borrow], none, []⟩,
  ⟨.var 3, .mv (.loc 14), none, []⟩] false
def c_L_FnExactReqRecord_3 : ACode := .reg [⟨.loc 15, .mv (.var 3), none, []⟩,
  ⟨.var 16, .bin .int .lss (.loc 15) (.const (.d (.int .i64 0))), none, []⟩] false
def c_L_FnExactReqRecord_4 : ACode := .reg [⟨.var 2, .mv (.const (.d (.bool true))), none, []⟩] false
def c_L_FnExactReqRecord_5 : ACode := .reg [⟨.loc 18, .load true 6 (.var 1), none, []⟩,
  ⟨.loc 19, .call (.fn 18) [(.loc 18)] [.borrow], none, []⟩,
  ⟨.loc 20, .call (.fn 17) [(.loc 19)] [.borrow], none, []⟩,
  ⟨.loc 17, .mv (.loc 20), none, []⟩,
  ⟨.loc 21, .ext (.loc 17) 0, none, []⟩,
  ⟨.loc 22, .ext (.loc 17) 1, none, []⟩,
  ⟨.var 4, .alloc [.d (.int .i64 0), .nil 0 1, .nil 0 1], none, []⟩,
  ⟨.none, .store 3 (.var 4) (.loc 21), none, []⟩,
  ⟨.var 5, .mv (.loc 22), none, []⟩] false
def c_L_FnExactReqRecord_6 : ACode := .reg [⟨.loc 24, .load true 6 (.var 1), none, []⟩,
  ⟨.loc 25, .call (.fn 18) [(.loc 24)] [.borrow], none, []⟩,
  ⟨.loc 26, .call (.fn 19) [(.loc 25)] [.borrow], none, []⟩,
  ⟨.loc 23, .mv (.loc 26), none, []⟩,
  ⟨.loc 27, .ext (.loc 23) 0, none, []⟩,
  ⟨.loc 28, .ext (.loc 23) 1, none, []⟩,
  ⟨.var 6, .alloc [.d (.int .i64 0), .nil 0 1, .nil 0 1], none, []⟩,
  ⟨.none, .store 3 (.var 6) (.loc 27), none, []⟩,
  ⟨.var 7, .mv (.loc 28), none, []⟩] false
def c_L_FnExactReqRecord_7 : ACode := .reg [⟨.loc 29, .load true 3 (.var 6), none, []⟩,
  ⟨.loc 30, .load true 3 (.var 4), none, []⟩,
  ⟨.loc 31, .call (.fn 15) [(.loc 29), (.loc 30)] [.borrow, .borrow], none, []⟩,
  ⟨.loc 32, .un .not (.loc 31), none, []⟩,
  ⟨.loc 33, .split (.loc 32), none, []⟩,
  ⟨.loc 34, .mv (.var 7), some ((.loc 33), false), []⟩,
  ⟨.loc 35, .mv (.var 5), some ((.loc 33), false), []⟩,
  ⟨.loc 36, .bin .bool .neq (.loc 34) (.loc 35), some ((.loc 33), false), []⟩,
  ⟨.var 37, .pick (.loc 33) (.const (.d (.bool true))) (.loc 36), none, []⟩] false
def c_L_FnExactReqRecord_8 : ACode := .reg [⟨.var 2, .mv (.const (.d (.bool false))), none, []⟩] false
def c_L_FnExactReqRecord_9 : ACode := .reg [⟨.var 8, .mv (.const (.d (.int .i64 1))), none, []⟩] false
def c_L_FnExactReqRecord_10 : ACode := .reg [⟨.loc 38, .load true 3 (.var 6), none, []⟩,
  ⟨.loc 39, .mv (.var 8), none, []⟩,
  ⟨.loc 40, .call (.fn 20) [(.loc 38), (.loc 39)] [.lend, .borrow], none, []⟩,
  ⟨.var 8, .mv (.loc 40), none, []⟩] false
def c_L_FnExactReqRecord_11 : ACode := .reg [⟨.var 9, .mv (.const (.d (.int .i64 1))), none, []⟩] false
def c_L_FnExactReqRecord_12 : ACode := .reg [⟨.loc 41, .load true 3 (.var 6), none, []⟩,
  ⟨.loc 42, .mv (.var 9), none, []⟩,
  ⟨.loc 43, .call (.fn 21) [(.loc 41), (.loc 42)] [.borrow, .borrow], none, []⟩,
  ⟨.var 9, .mv (.loc 43), none, []⟩] false
def c_L_FnExactReqRecord_13 : ACode := .reg [⟨.loc 44, .mv (.var 9), none, []⟩,
  ⟨.var 45, .bin .int .lss (.loc 44) (.const (.d (.int .i64 0))), none, []⟩] false
def c_L_FnExactReqRecord_14 : ACode := .reg [⟨.var 2, .mv (.const (.d (.bool false))), none, []⟩] false
def c_L_FnExactReqRecord_15 : ACode := .reg [⟨.loc 46, .mv (.var 9), none, []⟩,
  ⟨.loc 47, .mv (.var 8), none, []⟩,
  ⟨.var 48, .bin .int .neq (.loc 46) (.loc 47), none, []⟩] false
def c_L_FnExactReqRecord_16 : ACode := .reg [⟨.var 2, .mv (.const (.d (.bool false))), none, []⟩] false
def c_L_FnExactReqRecord_17 : ACode := .reg [⟨.loc 50, .load true 6 (.var 1), none, []⟩,
  ⟨.loc 51, .call (.fn 18) [(.loc 50)] [.borrow], none, []⟩,
  ⟨.loc 52, .call (.fn 19) [(.loc 51)] [.borrow], none, []⟩,
  ⟨.loc 49, .mv (.loc 52), none, []⟩,
  ⟨.loc 53, .ext (.loc 49) 0, none, []⟩,
  ⟨.loc 54, .ext (.loc 49) 1, none, []⟩,
  ⟨.var 10, .alloc [.d (.int .i64 0), .nil 0 1, .nil 0 1], none, []⟩,
  ⟨.none, .store 3 (.var 10) (.loc 53), none, []⟩,
  ⟨.var 11, .mv (.loc 54), none, []⟩] false
def c_L_FnExactReqRecord_18 : ACode := .reg [⟨.loc 55, .load true 3 (.var 10), none, []⟩,
  ⟨.loc 56, .load true 3 (.var 4), none, []⟩,
  ⟨.loc 57, .call (.fn 15) [(.loc 55), (.loc 56)] [.borrow, .borrow], none, []⟩,
  ⟨.loc 58, .un .not (.loc 57), none, []⟩,
  ⟨.loc 59, .split (.loc 58), none, []⟩,
  ⟨.loc 60, .mv (.var 11), some ((.loc 59), false), []⟩,
  ⟨.loc 61, .mv (.var 5), some ((.loc 59), false), []⟩,
  ⟨.loc 62, .bin .bool .neq (.loc 60) (.loc 61), some ((.loc 59), false), []⟩,
  ⟨.var 63, .pick (.loc 59) (.const (.d (.bool true))) (.loc 62), none, []⟩] false
def c_L_FnExactReqRecord_19 : ACode := .reg [⟨.var 2, .mv (.const (.d (.bool false))), none, []⟩] false
def c_L_FnExactReqRecord_20 : ACode := .reg [⟨.var 9, .mv (.const (.d (.int .i64 1))), none, []⟩] false
def c_L_FnExactReqRecord_21 : ACode := .reg [⟨.loc 64, .load true 3 (.var 6), none, []⟩,
  ⟨.loc 65, .mv (.var 9), none, []⟩,
  ⟨.loc 66, .call (.fn 21) [(.loc 64), (.loc 65)] [.borrow, .borrow], none, []⟩,
  ⟨.var 9, .mv (.loc 66), none, []⟩] false
def c_L_FnExactReqRecord_22 : ACode := .reg [⟨.loc 67, .mv (.var 9), none, []⟩,
  ⟨.var 68, .bin .int .lss (.loc 67) (.const (.d (.int .i64 0))), none, []⟩] false
def c_L_FnExactReqRecord_23 : ACode := .reg [⟨.var 2, .mv (.const (.d (.bool false))), none, []⟩] false
def c_L_FnExactReqRecord_24 : ACode := .reg [⟨.loc 69, .mv (.var 9), none, []⟩,
  ⟨.loc 70, .mv (.var 8), none, []⟩,
  ⟨.var 71, .bin .int .neq (.loc 69) (.loc 70), none, []⟩] false
def c_L_FnExactReqRecord_25 : ACode := .reg [⟨.var 2, .mv (.const (.d (.bool false))), none, []⟩] false
def c_L_FnExactReqRecord_26 : ACode := .reg [⟨.var 2, .mv (.const (.d (.bool true))), none, []⟩] false
def c_L_FnExactReqRecord : ACode := (.seq c_L_FnExactReqRecord_0 (.seq c_L_FnExactReqRecord_1 (.seq c_L_FnExactReqRecord_2 (.seq (.seq c_L_FnExactReqRecord_3 (.cond (.var 16) (.seq c_L_FnExactReqRecord_4 .ret) .skip)) (.seq c_L_FnExactReqRecord_5 (.seq c_L_FnExactReqRecord_6 (.seq (.seq c_L_FnExactReqRecord_7 (.cond (.var 37) (.seq c_L_FnExactReqRecord_8 .ret) .skip)) (.seq c_L_FnExactReqRecord_9 (.seq c_L_FnExactReqRecord_10 (.seq c_L_FnExactReqRecord_11 (.seq c_L_FnExactReqRecord_12 (.seq (.seq c_L_FnExactReqRecord_13 (.cond (.var 45) (.seq c_L_FnExactReqRecord_14 .ret) .skip)) (.seq (.seq c_L_FnExactReqRecord_15 (.cond (.var 48) (.seq c_L_FnExactReqRecord_16 .ret) .skip)) (.seq c_L_FnExactReqRecord_17 (.seq (.seq c_L_FnExactReqRecord_18 (.cond (.var 63) (.seq c_L_FnExactReqRecord_19 .ret) .skip)) (.seq c_L_FnExactReqRecord_20 (.seq c_L_FnExactReqRecord_21 (.seq (.seq c_L_FnExactReqRecord_22 (.cond (.var 68) (.seq c_L_FnExactReqRecord_23 .ret) .skip)) (.seq (.seq c_L_FnExactReqRecord_24 (.cond (.var 71) (.seq c_L_FnExactReqRecord_25 .ret) .skip)) (.seq c_L_FnExactReqRecord_26 .ret))))))))))))))))))))

abbrev F_L_FnExactReqRecord : FuncId := 5

theorem k_L_FnExactReqRecord : comp PP (Try.f5.ntmps, pinOf 0 [none]) [0, 1, 2, 3, 4, 5, 6, 7, 8, 9, 10, 11, 16, 37, 45, 48, 63, 68, 71] (Try.f5.body.getD .skip) = some c_L_FnExactReqRecord.erase := by kernel_rfl

theorem v_L_FnExactReqRecord (rcs : List C) {cs : List C} {r : C} {os : List (Option C)} (hN : (cs.length == 1 && rcs.length == 1) = true) (hret : retOf rcs = r)
    (hW : W PP [0, 1, 2, 3, 4, 5, 6, 7, 8, 9, 10, 11, 16, 37, 45, 48, 63, 68, 71] (Try.f5.ntmps, pinOf 0 [none]) (Valid PP) c_L_FnExactReqRecord (entry cs) (Fin (Valid PP) [(.give, 2, none)] [none] rcs os) (fun _ _ => False) (Fin (Valid PP) [(.give, 2, none)] [none] rcs os)) : Valid PP F_L_FnExactReqRecord cs r os :=
  fn_valid_n 1 1 [0, 1, 2, 3, 4, 5, 6, 7, 8, 9, 10, 11, 16, 37, 45, 48, 63, 68, 71] c_L_FnExactReqRecord [(.give, 2, none)] [none] rcs Try.func5 rfl rfl (by kernel_rfl) k_L_FnExactReqRecord rfl rfl hN hret hW


/-
loop.example/g00705/spec.HexText  params 1+0 results [2]
  seq  mid=[0]
    c_S_HexText_0
    seq  mid=[0]
      seq  mid=[0, 8]
        c_S_HexText_1
        cond (.var 8)
          seq  mid=[2]
            c_S_HexText_2
            ret
          skip
      seq  mid=[0, 3]
        c_S_HexText_3
        seq  mid=[0, 3, 4]
          c_S_HexText_4
          seq  mid=[4]
            seq  mid=[0, 3, 4, 5]
              c_S_HexText_5
              block 0
                loop live=[0, 3, 4, 5]
                  seq  mid=[0, 3, 4, 5]
                    seq  mid=[0, 3, 4, 5, 13]
                      c_S_HexText_6
                      cond (.var 13)
                        skip
                        exit 0
                    seq  mid=[0, 3, 4, 5]
                      block 1
                        c_S_HexText_7 DRAW
                      c_S_HexText_8
            seq  mid=[2]
              c_S_HexText_10
              ret
-/
def c_S_HexText_0 : ACode := .reg [⟨.var 2, .mv (.const (.d (.str []))), none, []⟩] false
def c_S_HexText_1 : ACode := .reg [⟨.loc 6, .mv (.var 0), none, []⟩,
  ⟨.loc 7, .len false (.loc 6), none, []⟩,
  ⟨.var 8, .bin .int .gtr (.loc 7) (.const (.d (.int .i64 2000))), none, []⟩] false
def c_S_HexText_2 : ACode := .reg [⟨.var 2, .mv (.const (.d (.str []))), none, []⟩] false
def c_S_HexText_3 : ACode := .reg [⟨.var 3, .mv (.const (.d (.str [48, 49, 50, 51, 52, 53, 54, 55, 56, 57, 97, 98, 99, 100, 101, 102]))), none, []⟩] false
def c_S_HexText_4 : ACode := .reg [⟨.loc 9, .lit 0 1 0 [.int .u8 0] [], none, []⟩,
  ⟨.var 4, .mv (.loc 9), none, []⟩] false
def c_S_HexText_5 : ACode := .reg [⟨.var 5, .mv (.const (.d (.int .i64 0))), none, []⟩] false
def c_S_HexText_6 : ACode := .reg [⟨.loc 10, .mv (.var 5), none, []⟩,
  ⟨.loc 11, .mv (.var 0), none, []⟩,
  ⟨.loc 12, .len false (.loc 11), none, []⟩,
  ⟨.var 13, .bin .int .lss (.loc 10) (.loc 12), none, []⟩] false
def c_S_HexText_7 : ACode := .reg [⟨.loc 16, .mv (.var 4), none, []⟩,
  ⟨.loc 17, .mv (.var 3), none, []⟩,
  ⟨.loc 18, .mv (.var 0), none, []⟩,
  ⟨.loc 19, .mv (.var 5), none, []⟩,
  ⟨.loc 20, .idxA 1 (.loc 18) (.loc 19), none, [2, 3]⟩,
  ⟨.loc 21, .load false 1 (.loc 20), none, [4, 2, 3]⟩,
  ⟨.loc 22, .bin .int .quo (.loc 21) (.const (.d (.int .u8 16))), none, [5, 4, 2, 3]⟩,
  ⟨.loc 23, .idxS (.loc 17) (.loc 22), none, [1, 6, 5, 4, 2, 3]⟩,
  ⟨.loc 24, .mv (.var 3), none, []⟩,
  ⟨.loc 25, .mv (.var 0), none, []⟩,
  ⟨.loc 26, .mv (.var 5), none, []⟩,
  ⟨.loc 27, .idxA 1 (.loc 25) (.loc 26), none, [9, 10]⟩,
  ⟨.loc 28, .load false 1 (.loc 27), none, [11, 9, 10]⟩,
  ⟨.loc 29, .bin .int .rem (.loc 28) (.const (.d (.int .u8 16))), none, [12, 11, 9, 10]⟩,
  ⟨.loc 30, .idxS (.loc 24) (.loc 29), none, [8, 13, 12, 11, 9, 10]⟩,
  ⟨.loc 31, .lit 0 1 2 [.int .u8 0] [(0, (.loc 23)), (1, (.loc 30))], none, [7, 1, 6, 5, 4, 2, 3, 14, 8, 13, 12, 11, 9, 10]⟩,
  ⟨.loc 32, .app 1 1 (.loc 16) (.loc 31), none, [0, 15, 7, 1, 6, 5, 4, 2, 3, 14, 8, 13, 12, 11, 9, 10]⟩,
  ⟨.var 4, .mv (.loc 32), none, [16, 0, 15, 7, 1, 6, 5, 4, 2, 3, 14, 8, 13, 12, 11, 9, 10]⟩] true
def c_S_HexText_8 : ACode := .reg [⟨.loc 14, .mv (.var 5), none, []⟩,
  ⟨.loc 15, .bin .int .add (.loc 14) (.const (.d (.int .i64 1))), none, []⟩,
  ⟨.var 5, .mv (.loc 15), none, []⟩] false
def c_S_HexText_9 : ACode := (.seq (.seq c_S_HexText_6 (.cond (.var 13) .skip (.exit 0))) (.seq (.block 1 c_S_HexText_7) c_S_HexText_8))
def c_S_HexText_10 : ACode := .reg [⟨.loc 33, .mv (.var 4), none, []⟩,
  ⟨.loc 34, .b2s (.loc 33), none, []⟩,
  ⟨.var 2, .mv (.loc 34), none, []⟩] false
def c_S_HexText : ACode := (.seq c_S_HexText_0 (.seq (.seq c_S_HexText_1 (.cond (.var 8) (.seq c_S_HexText_2 .ret) .skip)) (.seq c_S_HexText_3 (.seq c_S_HexText_4 (.seq (.seq c_S_HexText_5 (.block 0 (.loop [0, 3, 4, 5] c_S_HexText_9))) (.seq c_S_HexText_10 .ret))))))

abbrev F_S_HexText : FuncId := 6

theorem k_S_HexText : comp PP (Try.f6.ntmps, pinOf 0 [none]) [0, 2, 3, 4, 5, 8, 13] (Try.f6.body.getD .skip) = some c_S_HexText.erase := by kernel_rfl

theorem v_S_HexText (rcs : List C) {cs : List C} {r : C} {os : List (Option C)} (hN : (cs.length == 1 && rcs.length == 1) = true) (hret : retOf rcs = r)
    (hW : W PP [0, 2, 3, 4, 5, 8, 13] (Try.f6.ntmps, pinOf 0 [none]) (Valid PP) c_S_HexText (entry cs) (Fin (Valid PP) [(.give, 2, none)] [none] rcs os) (fun _ _ => False) (Fin (Valid PP) [(.give, 2, none)] [none] rcs os)) : Valid PP F_S_HexText cs r os :=
  fn_valid_n 1 1 [0, 2, 3, 4, 5, 8, 13] c_S_HexText [(.give, 2, none)] [none] rcs Try.func6 rfl rfl (by kernel_rfl) k_S_HexText rfl rfl hN hret hW


/-
loop.example/g00705/laws.toByteS  params 1+0 results [2]
  seq  mid=[0]
    c_L_toByteS_0
    seq  mid=[0, 3]
      c_L_toByteS_1
      seq  mid=[3]
        seq  mid=[0, 3, 4]
          c_L_toByteS_2
          block 0
            loop live=[0, 3, 4]
              seq  mid=[0, 3, 4]
                seq  mid=[0, 3, 4, 11]
                  c_L_toByteS_3
                  cond (.var 11)
                    skip
                    exit 0
                seq  mid=[0, 3, 4]
                  block 1
                    c_L_toByteS_4
                  c_L_toByteS_5
        seq  mid=[2]
          c_L_toByteS_7
          ret
-/
def c_L_toByteS_0 : ACode := .reg [⟨.var 2, .mv (.const (.nil 0 1)), none, []⟩] false
def c_L_toByteS_1 : ACode := .reg [⟨.loc 5, .mv (.var 0), none, []⟩,
  ⟨.loc 6, .len false (.loc 5), none, []⟩,
  ⟨.loc 7, .mkslice 0 1 1 [.int .u8 0] (.loc 6) (.loc 6), none, []⟩,
  ⟨.var 3, .mv (.loc 7), none, []⟩] false
def c_L_toByteS_2 : ACode := .reg [⟨.var 4, .mv (.const (.d (.int .i64 0))), none, []⟩] false
def c_L_toByteS_3 : ACode := .reg [⟨.loc 8, .mv (.var 4), none, []⟩,
  ⟨.loc 9, .mv (.var 0), none, []⟩,
  ⟨.loc 10, .len false (.loc 9), none, []⟩,
  ⟨.var 11, .bin .int .lss (.loc 8) (.loc 10), none, []⟩] false
def c_L_toByteS_4 : ACode := .reg [⟨.loc 14, .mv (.var 3), none, []⟩,
  ⟨.loc 15, .mv (.var 4), none, []⟩,
  ⟨.loc 16, .mv (.var 0), none, []⟩,
  ⟨.loc 17, .mv (.var 4), none, []⟩,
  ⟨.loc 18, .idxA 1 (.loc 16) (.loc 17), none, []⟩,
  ⟨.loc 19, .load false 1 (.loc 18), none, []⟩,
  ⟨.loc 20, .idxA 1 (.loc 14) (.loc 15), none, []⟩,
  ⟨.none, .store 1 (.loc 20) (.loc 19), none, []⟩] false
def c_L_toByteS_5 : ACode := .reg [⟨.loc 12, .mv (.var 4), none, []⟩,
  ⟨.loc 13, .bin .int .add (.loc 12) (.const (.d (.int .i64 1))), none, []⟩,
  ⟨.var 4, .mv (.loc 13), none, []⟩] false
def c_L_toByteS_6 : ACode := (.seq (.seq c_L_toByteS_3 (.cond (.var 11) .skip (.exit 0))) (.seq (.block 1 c_L_toByteS_4) c_L_toByteS_5))
def c_L_toByteS_7 : ACode := .reg [⟨.loc 21, .mv (.var 3), none, []⟩,
  ⟨.var 2, .mv (.loc 21), none, []⟩] false
def c_L_toByteS : ACode := (.seq c_L_toByteS_0 (.seq c_L_toByteS_1 (.seq (.seq c_L_toByteS_2 (.block 0 (.loop [0, 3, 4] c_L_toByteS_6))) (.seq c_L_toByteS_7 .ret))))

abbrev F_L_toByteS : FuncId := 7

theorem k_L_toByteS : comp PP (Try.f7.ntmps, pinOf 0 [none]) [0, 2, 3, 4, 11] (Try.f7.body.getD .skip) = some c_L_toByteS.erase := by kernel_rfl

theorem v_L_toByteS (rcs : List C) {cs : List C} {r : C} {os : List (Option C)} (hN : (cs.length == 1 && rcs.length == 1) = true) (hret : retOf rcs = r)
    (hW : W PP [0, 2, 3, 4, 11] (Try.f7.ntmps, pinOf 0 [none]) (Valid PP) c_L_toByteS (entry cs) (Fin (Valid PP) [(.give, 2, none)] [none] rcs os) (fun _ _ => False) (Fin (Valid PP) [(.give, 2, none)] [none] rcs os)) : Valid PP F_L_toByteS cs r os :=
  fn_valid_n 1 1 [0, 2, 3, 4, 11] c_L_toByteS [(.give, 2, none)] [none] rcs Try.func7 rfl rfl (by kernel_rfl) k_L_toByteS rfl rfl hN hret hW


/-
loop.example/g00705/impl.HexText  params 1+0 results [2]
  seq  mid=[0]
    c_I_HexText_0
    seq  mid=[0]
      seq  mid=[0, 5]
        c_I_HexText_1
        cond (.var 5)
          seq  mid=[2]
            c_I_HexText_2
            ret
          skip
      seq  mid=[2]
        c_I_HexText_3
        ret
-/
def c_I_HexText_0 : ACode := .reg [⟨.var 2, .mv (.const (.d (.str []))), none, []⟩] false
def c_I_HexText_1 : ACode := .reg [⟨.loc 3, .mv (.var 0), none, []⟩,
  ⟨.loc 4, .len false (.loc 3), none, []⟩,
  ⟨.var 5, .bin .int .gtr (.loc 4) (.const (.d (.int .i64 2000))), none, []⟩] false
def c_I_HexText_2 : ACode := .reg [⟨.var 2, .mv (.const (.d (.str []))), none, []⟩] false
def c_I_HexText_3 : ACode := .reg [⟨.loc 6, .mv (.var 0), none, []⟩,
  ⟨.loc 7, .call (.fn 22) [(.loc 6)] [.borrow], none, []⟩,
  ⟨.var 2, .mv (.loc 7), none, []⟩] false
def c_I_HexText : ACode := (.seq c_I_HexText_0 (.seq (.seq c_I_HexText_1 (.cond (.var 5) (.seq c_I_HexText_2 .ret) .skip)) (.seq c_I_HexText_3 .ret)))

abbrev F_I_HexText : FuncId := 8

theorem k_I_HexText : comp PP (Try.f8.ntmps, pinOf 0 [none]) [0, 2, 5] (Try.f8.body.getD .skip) = some c_I_HexText.erase := by kernel_rfl

theorem v_I_HexText (rcs : List C) {cs : List C} {r : C} {os : List (Option C)} (hN : (cs.length == 1 && rcs.length == 1) = true) (hret : retOf rcs = r)
    (hW : W PP [0, 2, 5] (Try.f8.ntmps, pinOf 0 [none]) (Valid PP) c_I_HexText (entry cs) (Fin (Valid PP) [(.give, 2, none)] [none] rcs os) (fun _ _ => False) (Fin (Valid PP) [(.give, 2, none)] [none] rcs os)) : Valid PP F_I_HexText cs r os :=
  fn_valid_n 1 1 [0, 2, 5] c_I_HexText [(.give, 2, none)] [none] rcs Try.func8 rfl rfl (by kernel_rfl) k_I_HexText rfl rfl hN hret hW


/-
loop.example/g00705/laws.eqByteS  params 2+0 results [4]
  seq  mid=[0, 1]
    c_L_eqByteS_0
    seq  mid=[0, 1]
      seq  mid=[0, 1, 10]
        c_L_eqByteS_1
        cond (.var 10)
          seq  mid=[4]
            c_L_eqByteS_2
            ret
          skip
      seq  mid=[]
        seq  mid=[0, 1, 5]
          c_L_eqByteS_3
          block 0
            loop live=[0, 1, 5]
              seq  mid=[0, 1, 5]
                seq  mid=[0, 1, 5, 14]
                  c_L_eqByteS_4
                  cond (.var 14)
                    skip
                    exit 0
                seq  mid=[0, 1, 5]
                  block 1
                    seq  mid=[0, 1, 5, 25]
                      c_L_eqByteS_5 DRAW
                      cond (.var 25)
                        seq  mid=[4]
                          c_L_eqByteS_6
                          ret
                        skip
                  c_L_eqByteS_7
        seq  mid=[4]
          c_L_eqByteS_9
          ret
-/
def c_L_eqByteS_0 : ACode := .reg [⟨.var 4, .mv (.const (.d (.bool false))), none, []⟩] false
def c_L_eqByteS_1 : ACode := .reg [⟨.loc 6, .mv (.var 0), none, []⟩,
  ⟨.loc 7, .len false (.loc 6), none, []⟩,
  ⟨.loc 8, .mv (.var 1), none, []⟩,
  ⟨.loc 9, .len false (.loc 8), none, []⟩,
  ⟨.var 10, .bin .int .neq (.loc 7) (.loc 9), none, []⟩] false
def c_L_eqByteS_2 : ACode := .reg [⟨.var 4, .mv (.const (.d (.bool false))), none, []⟩] false
def c_L_eqByteS_3 : ACode := .reg [⟨.var 5, .mv (.const (.d (.int .i64 0))), none, []⟩] false
def c_L_eqByteS_4 : ACode := .reg [⟨.loc 11, .mv (.var 5), none, []⟩,
  ⟨.loc 12, .mv (.var 0), none, []⟩,
  ⟨.loc 13, .len false (.loc 12), none, []⟩,
  ⟨.var 14, .bin .int .lss (.loc 11) (.loc 13), none, []⟩] false
def c_L_eqByteS_5 : ACode := .reg [⟨.loc 17, .mv (.var 0), none, []⟩,
  ⟨.loc 18, .mv (.var 5), none, []⟩,
  ⟨.loc 19, .idxA 1 (.loc 17) (.loc 18), none, [0, 1]⟩,
  ⟨.loc 20, .load false 1 (.loc 19), none, [2, 0, 1]⟩,
  ⟨.loc 21, .mv (.var 1), none, []⟩,
  ⟨.loc 22, .mv (.var 5), none, []⟩,
  ⟨.loc 23, .idxA 1 (.loc 21) (.loc 22), none, [4, 5]⟩,
  ⟨.loc 24, .load false 1 (.loc 23), none, [6, 4, 5]⟩,
  ⟨.var 25, .bin .int .neq (.loc 20) (.loc 24), none, [3, 2, 0, 1, 7, 6, 4, 5]⟩] true
def c_L_eqByteS_6 : ACode := .reg [⟨.var 4, .mv (.const (.d (.bool false))), none, []⟩] false
def c_L_eqByteS_7 : ACode := .reg [⟨.loc 15, .mv (.var 5), none, []⟩,
  ⟨.loc 16, .bin .int .add (.loc 15) (.const (.d (.int .i64 1))), none, []⟩,
  ⟨.var 5, .mv (.loc 16), none, []⟩] false
def c_L_eqByteS_8 : ACode := (.seq (.seq c_L_eqByteS_4 (.cond (.var 14) .skip (.exit 0))) (.seq (.block 1 (.seq c_L_eqByteS_5 (.cond (.var 25) (.seq c_L_eqByteS_6 .ret) .skip))) c_L_eqByteS_7))
def c_L_eqByteS_9 : ACode := .reg [⟨.var 4, .mv (.const (.d (.bool true))), none, []⟩] false
def c_L_eqByteS : ACode := (.seq c_L_eqByteS_0 (.seq (.seq c_L_eqByteS_1 (.cond (.var 10) (.seq c_L_eqByteS_2 .ret) .skip)) (.seq (.seq c_L_eqByteS_3 (.block 0 (.loop [0, 1, 5] c_L_eqByteS_8))) (.seq c_L_eqByteS_9 .ret))))

abbrev F_L_eqByteS : FuncId := 9

theorem k_L_eqByteS : comp PP (Try.f9.ntmps, pinOf 0 [none, none]) [0, 1, 4, 5, 10, 14, 25] (Try.f9.body.getD .skip) = some c_L_eqByteS.erase := by kernel_rfl

theorem v_L_eqByteS (rcs : List C) {cs : List C} {r : C} {os : List (Option C)} (hN : (cs.length == 2 && rcs.length == 1) = true) (hret : retOf rcs = r)
    (hW : W PP [0, 1, 4, 5, 10, 14, 25] (Try.f9.ntmps, pinOf 0 [none, none]) (Valid PP) c_L_eqByteS (entry cs) (Fin (Valid PP) [(.give, 4, none)] [none, none] rcs os) (fun _ _ => False) (Fin (Valid PP) [(.give, 4, none)] [none, none] rcs os)) : Valid PP F_L_eqByteS cs r os :=
  fn_valid_n 2 1 [0, 1, 4, 5, 10, 14, 25] c_L_eqByteS [(.give, 4, none)] [none, none] rcs Try.func9 rfl rfl (by kernel_rfl) k_L_eqByteS rfl rfl hN hret hW


/-
loop.example/g00705/laws.szRecord  params 2+0 results [4]
  seq  mid=[1, 2]
    c_L_szRecord_0
    seq  mid=[1, 2]
      c_L_szRecord_1
      seq  mid=[1, 2]
        seq  mid=[1, 2, 10]
          c_L_szRecord_2
          cond (.var 10)
            seq  mid=[4]
              c_L_szRecord_3
              ret
            skip
        seq  mid=[1]
          c_L_szRecord_4
          seq  mid=[1]
            seq  mid=[1, 16]
              c_L_szRecord_5
              cond (.var 16)
                seq  mid=[4]
                  c_L_szRecord_6
                  ret
                skip
            seq  mid=[4]
              c_L_szRecord_7
              ret
-/
def c_L_szRecord_0 : ACode := .reg [⟨.var 2, .box (.var 0), none, []⟩,
  ⟨.var 4, .mv (.const (.d (.int .i64 0))), none, []⟩] false
def c_L_szRecord_1 : ACode := .reg [⟨.loc 5, .fld 1 (.var 2), none, []⟩,
  ⟨.loc 6, .load false 1 (.loc 5), none, []⟩,
  ⟨.loc 7, .mv (.var 1), none, []⟩,
  ⟨.loc 8, .call (.fn 23) [(.loc 6), (.loc 7)] [.borrow, .borrow], none, []⟩,
  ⟨.var 1, .mv (.loc 8), none, []⟩] false
def c_L_szRecord_2 : ACode := .reg [⟨.loc 9, .mv (.var 1), none, []⟩,
  ⟨.var 10, .bin .int .lss (.loc 9) (.const (.d (.int .i64 0))), none, []⟩] false
def c_L_szRecord_3 : ACode := .reg [⟨.var 4, .mv (.const (.d (.int .i64 (-1)))), none, []⟩] false
def c_L_szRecord_4 : ACode := .reg [⟨.loc 11, .fld 2 (.var 2), none, []⟩,
  ⟨.loc 12, .load false 1 (.loc 11), none, []⟩,
  ⟨.loc 13, .mv (.var 1), none, []⟩,
  ⟨.loc 14, .call (.fn 24) [(.loc 12), (.loc 13)] [.borrow, .borrow], none, []⟩,
  ⟨.var 1, .mv (.loc 14), none, []⟩] false
def c_L_szRecord_5 : ACode := .reg [⟨.loc 15, .mv (.var 1), none, []⟩,
  ⟨.var 16, .bin .int .lss (.loc 15) (.const (.d (.int .i64 0))), none, []⟩] false
def c_L_szRecord_6 : ACode := .reg [⟨.var 4, .mv (.const (.d (.int .i64 (-1)))), none, []⟩] false
def c_L_szRecord_7 : ACode := .reg [⟨.loc 17, .mv (.var 1), none, []⟩,
  ⟨.var 4, .mv (.loc 17), none, []⟩] false
def c_L_szRecord : ACode := (.seq c_L_szRecord_0 (.seq c_L_szRecord_1 (.seq (.seq c_L_szRecord_2 (.cond (.var 10) (.seq c_L_szRecord_3 .ret) .skip)) (.seq c_L_szRecord_4 (.seq (.seq c_L_szRecord_5 (.cond (.var 16) (.seq c_L_szRecord_6 .ret) .skip)) (.seq c_L_szRecord_7 .ret))))))

abbrev F_L_szRecord : FuncId := 10

theorem k_L_szRecord : comp PP (Try.f10.ntmps, pinOf 0 [none, none]) [0, 1, 2, 4, 10, 16] (Try.f10.body.getD .skip) = some c_L_szRecord.erase := by kernel_rfl

theorem v_L_szRecord (rcs : List C) {cs : List C} {r : C} {os : List (Option C)} (hN : (cs.length == 2 && rcs.length == 1) = true) (hret : retOf rcs = r)
    (hW : W PP [0, 1, 2, 4, 10, 16] (Try.f10.ntmps, pinOf 0 [none, none]) (Valid PP) c_L_szRecord (entry cs) (Fin (Valid PP) [(.give, 4, none)] [none, none] rcs os) (fun _ _ => False) (Fin (Valid PP) [(.give, 4, none)] [none, none] rcs os)) : Valid PP F_L_szRecord cs r os :=
  fn_valid_n 2 1 [0, 1, 2, 4, 10, 16] c_L_szRecord [(.give, 4, none)] [none, none] rcs Try.func10 rfl rfl (by kernel_rfl) k_L_szRecord rfl rfl hN hret hW


/-
loop.example/g00705/spec.RecordReq  params 1+0 results [2, 3]
  seq  mid=[1, 2]
    c_S_RecordReq_0
    seq  mid=[1, 2]
      seq  mid=[1, 2, 24]
        c_S_RecordReq_1
        cond (.var 24)
          seq  mid=[2, 3]
            c_S_RecordReq_2
            ret
          skip
      seq  mid=[2, 3]
        c_S_RecordReq_3 DRAW
        ret
-/
def c_S_RecordReq_0 : ACode := .reg [⟨.var 1, .box (.var 0), none, []⟩,
  ⟨.var 2, .alloc [.d (.int .i64 0), .d (.int .i64 0), .d (.str []), .d (.str []), .d (.str []), .d (.int .i64 0)], none, []⟩,
  ⟨.var 3, .mv (.const (.d (.bool false))), none, []⟩] false
def c_S_RecordReq_1 : ACode := .reg [⟨.loc 4, .fld 0 (.var 1), none, []⟩,
  ⟨.loc 5, .load false 1 (.loc 4), none, []⟩,
  ⟨.loc 6, .call (.fn 25) [(.loc 5), (.const (.d (.int .i64 0))), (.const (.d (.int .i64 13)))] [.borrow, .borrow, .borrow], none, []⟩,
  ⟨.loc 7, .un .not (.loc 6), none, []⟩,
  ⟨.loc 8, .split (.loc 7), none, []⟩,
  ⟨.loc 9, .fld 1 (.var 1), some ((.loc 8), false), []⟩,
  ⟨.loc 10, .load false 1 (.loc 9), some ((.loc 8), false), []⟩,
  ⟨.loc 11, .len false (.loc 10), some ((.loc 8), false), []⟩,
  ⟨.loc 12, .bin .int .neq (.loc 11) (.const (.d (.int .i64 2))), some ((.loc 8), false), []⟩,
  ⟨.loc 13, .pick (.loc 8) (.const (.d (.bool true))) (.loc 12), none, []⟩,
  ⟨.loc 14, .split (.loc 13), none, []⟩,
  ⟨.loc 15, .fld 2 (.var 1), some ((.loc 14), false), []⟩,
  ⟨.loc 16, .load false 1 (.loc 15), some ((.loc 14), false), []⟩,
  ⟨.loc 17, .len false (.loc 16), some ((.loc 14), false), []⟩,
  ⟨.loc 18, .bin .int .neq (.loc 17) (.const (.d (.int .i64 3))), some ((.loc 14), false), []⟩,
  ⟨.loc 19, .pick (.loc 14) (.const (.d (.bool true))) (.loc 18), none, []⟩,
  ⟨.loc 20, .split (.loc 19), none, []⟩,
  ⟨.loc 21, .load true 3 (.var 1), some ((.loc 20), false), []⟩,
  ⟨.loc 22, .call (.fn 26) [(.loc 21)] [.borrow], some ((.loc 20), false), []⟩,
  ⟨.loc 23, .un .not (.loc 22), some ((.loc 20), false), []⟩,
  ⟨.var 24, .pick (.loc 20) (.const (.d (.bool true))) (.loc 23), none, []⟩] false
def c_S_RecordReq_2 : ACode := .reg [⟨.loc 25, .build [.d (.int .i64 0), .d (.int .i64 0), .d (.str []), .d (.str []), .d (.str []), .d (.int .i64 0)] [], none, []⟩,
  ⟨.none, .store 6 (.var 2) (.loc 25), none, []⟩,
  ⟨.var 3, .mv (.const (.d (.bool false))), none, []⟩] false
def c_S_RecordReq_3 : ACode := .reg [⟨.loc 26, .fld 0 (.var 1), none, []⟩,
  ⟨.loc 27, .load false 1 (.loc 26), none, [0]⟩,
  ⟨.loc 28, .fld 1 (.var 1), none, []⟩,
  ⟨.loc 29, .load false 1 (.loc 28), none, [2]⟩,
  ⟨.loc 30, .idxA 1 (.loc 29) (.const (.d (.int .i64 0))), none, [3, 2]⟩,
  ⟨.loc 31, .load false 1 (.loc 30), none, [4, 3, 2]⟩,
  ⟨.loc 32, .fld 1 (.var 1), none, []⟩,
  ⟨.loc 33, .load false 1 (.loc 32), none, [6]⟩,
  ⟨.loc 34, .idxA 1 (.loc 33) (.const (.d (.int .i64 1))), none, [7, 6]⟩,
  ⟨.loc 35, .load false 1 (.loc 34), none, [8, 7, 6]⟩,
  ⟨.loc 36, .fld 2 (.var 1), none, []⟩,
  ⟨.loc 37, .load false 1 (.loc 36), none, [10]⟩,
  ⟨.loc 38, .idxA 1 (.loc 37) (.const (.d (.int .i64 0))), none, [11, 10]⟩,
  ⟨.loc 39, .load false 1 (.loc 38), none, [12, 11, 10]⟩,
  ⟨.loc 40, .fld 2 (.var 1), none, []⟩,
  ⟨.loc 41, .load false 1 (.loc 40), none, [14]⟩,
  ⟨.loc 42, .idxA 1 (.loc 41) (.const (.d (.int .i64 1))), none, [15, 14]⟩,
  ⟨.loc 43, .load false 1 (.loc 42), none, [16, 15, 14]⟩,
  ⟨.loc 44, .fld 2 (.var 1), none, []⟩,
  ⟨.loc 45, .load false 1 (.loc 44), none, [18]⟩,
  ⟨.loc 46, .idxA 1 (.loc 45) (.const (.d (.int .i64 2))), none, [19, 18]⟩,
  ⟨.loc 47, .load false 1 (.loc 46), none, [20, 19, 18]⟩,
  ⟨.loc 48, .build [.d (.int .i64 0), .d (.int .i64 0), .d (.str []), .d (.str []), .d (.str []), .d (.int .i64 0)] [(0, 1, (.loc 27)), (1, 1, (.loc 31)), (5, 1, (.loc 35)), (2, 1, (.loc 39)), (3, 1, (.loc 43)), (4, 1, (.loc 47))], none, [1, 0, 5, 4, 3, 2, 9, 8, 7, 6, 13, 12, 11, 10, 17, 16, 15, 14, 21, 20, 19, 18]⟩,
  ⟨.none, .store 6 (.var 2) (.loc 48), none, [22, 1, 0, 5, 4, 3, 2, 9, 8, 7, 6, 13, 12, 11, 10, 17, 16, 15, 14, 21, 20, 19, 18]⟩,
  ⟨.var 3, .mv (.const (.d (.bool true))), none, [23, 22, 1, 0, 5, 4, 3, 2, 9, 8, 7, 6, 13, 12, 11, 10, 17, 16, 15, 14, 21, 20, 19, 18]⟩] true
def c_S_RecordReq : ACode := (.seq c_S_RecordReq_0 (.seq (.seq c_S_RecordReq_1 (.cond (.var 24) (.seq c_S_RecordReq_2 .ret) .skip)) (.seq c_S_RecordReq_3 .ret)))

abbrev F_S_RecordReq : FuncId := 11

theorem k_S_RecordReq : comp PP (Try.f11.ntmps, pinOf 0 [none]) [0, 1, 2, 3, 24] (Try.f11.body.getD .skip) = some c_S_RecordReq.erase := by kernel_rfl

theorem v_S_RecordReq (rcs : List C) {cs : List C} {r : C} {os : List (Option C)} (hN : (cs.length == 1 && rcs.length == 2) = true) (hret : retOf rcs = r)
    (hW : W PP [0, 1, 2, 3, 24] (Try.f11.ntmps, pinOf 0 [none]) (Valid PP) c_S_RecordReq (entry cs) (Fin (Valid PP) [(.give, 2, some (true, 6)), (.give, 3, none)] [none] rcs os) (fun _ _ => False) (Fin (Valid PP) [(.give, 2, some (true, 6)), (.give, 3, none)] [none] rcs os)) : Valid PP F_S_RecordReq cs r os :=
  fn_valid_n 1 2 [0, 1, 2, 3, 24] c_S_RecordReq [(.give, 2, some (true, 6)), (.give, 3, none)] [none] rcs Try.func11 rfl rfl (by kernel_rfl) k_S_RecordReq rfl rfl hN hret hW


/-
loop.example/g00705/laws.toRecord  params 1+0 results [2]
  seq  mid=[1, 2]
    c_L_toRecord_0
    seq  mid=[1, 2, 3]
      c_L_toRecord_1
      seq  mid=[1, 2, 3]
        c_L_toRecord_2
        seq  mid=[1, 2, 3]
          c_L_toRecord_3
          seq  mid=[2, 3]
            c_L_toRecord_4
            seq  mid=[2]
              c_L_toRecord_5
              ret
-/
def c_L_toRecord_0 : ACode := .reg [⟨.var 1, .box (.var 0), none, []⟩,
  ⟨.var 2, .alloc [.d (.int .i64 0), .nil 0 1, .nil 0 1], none, []⟩] false
def c_L_toRecord_1 : ACode := .reg [⟨.var 3, .alloc [.d (.int .i64 0), .nil 0 1, .nil 0 1], none, []⟩] false
def c_L_toRecord_2 : ACode := .reg [⟨.loc 4, .fld 0 (.var 1), none, []⟩,
  ⟨.loc 5, .load false 1 (.loc 4), none, []⟩,
  ⟨.loc 6, .fld 0 (.var 3), none, []⟩,
  ⟨.none, .store 1 (.loc 6) (.loc 5), none, []⟩] false
def c_L_toRecord_3 : ACode := .reg [⟨.loc 7, .fld 1 (.var 1), none, []⟩,
  ⟨.loc 8, .load false 1 (.loc 7), none, []⟩,
  ⟨.loc 9, .call (.fn 27) [(.loc 8)] [.borrow], none, []⟩,
  ⟨.loc 10, .fld 1 (.var 3), none, []⟩,
  ⟨.none, .store 1 (.loc 10) (.loc 9), none, []⟩] false
def c_L_toRecord_4 : ACode := .reg [⟨.loc 11, .fld 2 (.var 1), none, []⟩,
  ⟨.loc 12, .load false 1 (.loc 11), none, []⟩,
  ⟨.loc 13, .call (.fn 28) [(.loc 12)] [.borrow], none, []⟩,
  ⟨.loc 14, .fld 2 (.var 3), none, []⟩,
  ⟨.none, .store 1 (.loc 14) (.loc 13), none, []⟩] false
def c_L_toRecord_5 : ACode := .reg [⟨.loc 15, .load true 3 (.var 3), none, []⟩,
  ⟨.none, .store 3 (.var 2) (.loc 15), none, []⟩] false
def c_L_toRecord : ACode := (.seq c_L_toRecord_0 (.seq c_L_toRecord_1 (.seq c_L_toRecord_2 (.seq c_L_toRecord_3 (.seq c_L_toRecord_4 (.seq c_L_toRecord_5 .ret))))))

abbrev F_L_toRecord : FuncId := 12

theorem k_L_toRecord : comp PP (Try.f12.ntmps, pinOf 0 [none]) [0, 1, 2, 3] (Try.f12.body.getD .skip) = some c_L_toRecord.erase := by kernel_rfl

theorem v_L_toRecord (rcs : List C) {cs : List C} {r : C} {os : List (Option C)} (hN : (cs.length == 1 && rcs.length == 1) = true) (hret : retOf rcs = r)
    (hW : W PP [0, 1, 2, 3] (Try.f12.ntmps, pinOf 0 [none]) (Valid PP) c_L_toRecord (entry cs) (Fin (Valid PP) [(.give, 2, some (true, 3))] [none] rcs os) (fun _ _ => False) (Fin (Valid PP) [(.give, 2, some (true, 3))] [none] rcs os)) : Valid PP F_L_toRecord cs r os :=
  fn_valid_n 1 1 [0, 1, 2, 3] c_L_toRecord [(.give, 2, some (true, 3))] [none] rcs Try.func12 rfl rfl (by kernel_rfl) k_L_toRecord rfl rfl hN hret hW


/-
loop.example/g00705/impl.RecordReq  params 1+0 results [2, 3]
  seq  mid=[1, 2]
    c_I_RecordReq_0
    seq  mid=[1, 2]
      seq  mid=[1, 2, 11]
        c_I_RecordReq_1
        cond (.var 11)
          seq  mid=[2, 3]
            c_I_RecordReq_2
            ret
          skip
      seq  mid=[2, 3]
        c_I_RecordReq_3
        ret
-/
def c_I_RecordReq_0 : ACode := .reg [⟨.var 1, .box (.var 0), none, []⟩,
  ⟨.var 2, .alloc [.d (.int .i64 0), .d (.int .i64 0), .d (.str []), .d (.str []), .d (.str []), .d (.int .i64 0)], none, []⟩,
  ⟨.var 3, .mv (.const (.d (.bool false))), none, []⟩] false
def c_I_RecordReq_1 : ACode := .reg [⟨.loc 4, .load true 3 (.var 1), none, []⟩,
  ⟨.loc 5, .call (.fn 29) [(.loc 4)] [.borrow], none, []⟩,
  ⟨.loc 6, .un .not (.loc 5), none, []⟩,
  ⟨.loc 7, .split (.loc 6), none, []⟩,
  ⟨.loc 8, .load true 3 (.var 1), some ((.loc 7), false), []⟩,
  ⟨.loc 9, .call (.fn 30) [(.loc 8)] [.borrow], some ((.loc 7), false), []⟩,
  ⟨.loc 10, .un .not (.loc 9), some ((.loc 7), false), []⟩,
  ⟨.var 11, .pick (.loc 7) (.const (.d (.bool true))) (.loc 10), none, []⟩] false
def c_I_RecordReq_2 : ACode := .reg [⟨.loc 12, .build [.d (.int .i64 0), .d (.int .i64 0), .d (.str []), .d (.str []), .d (.str []), .d (.int .i64 0)] [], none, []⟩,
  ⟨.none, .store 6 (.var 2) (.loc 12), none, []⟩,
  ⟨.var 3, .mv (.const (.d (.bool false))), none, []⟩] false
def c_I_RecordReq_3 : ACode := .reg [⟨.loc 13, .load true 3 (.var 1), none, []⟩,
  ⟨.loc 14, .call (.fn 31) [(.loc 13)] [.borrow], none, []⟩,
  ⟨.none, .store 6 (.var 2) (.loc 14), none, []⟩,
  ⟨.var 3, .mv (.const (.d (.bool true))), none, []⟩] false
def c_I_RecordReq : ACode := (.seq c_I_RecordReq_0 (.seq (.seq c_I_RecordReq_1 (.cond (.var 11) (.seq c_I_RecordReq_2 .ret) .skip)) (.seq c_I_RecordReq_3 .ret)))

abbrev F_I_RecordReq : FuncId := 13

theorem k_I_RecordReq : comp PP (Try.f13.ntmps, pinOf 0 [none]) [0, 1, 2, 3, 11] (Try.f13.body.getD .skip) = some c_I_RecordReq.erase := by kernel_rfl

theorem v_I_RecordReq (rcs : List C) {cs : List C} {r : C} {os : List (Option C)} (hN : (cs.length == 1 && rcs.length == 2) = true) (hret : retOf rcs = r)
    (hW : W PP [0, 1, 2, 3, 11] (Try.f13.ntmps, pinOf 0 [none]) (Valid PP) c_I_RecordReq (entry cs) (Fin (Valid PP) [(.give, 2, some (true, 6)), (.give, 3, none)] [none] rcs os) (fun _ _ => False) (Fin (Valid PP) [(.give, 2, some (true, 6)), (.give, 3, none)] [none] rcs os)) : Valid PP F_I_RecordReq cs r os :=
  fn_valid_n 1 2 [0, 1, 2, 3, 11] c_I_RecordReq [(.give, 2, some (true, 6)), (.give, 3, none)] [none] rcs Try.func13 rfl rfl (by kernel_rfl) k_I_RecordReq rfl rfl hN hret hW


/-
loop.example/g00705/laws.eqReq  params 2+0 results [4]
  seq  mid=[2, 3]
    c_L_eqReq_0
    seq  mid=[2, 3]
      seq  mid=[2, 3, 9]
        c_L_eqReq_1
        cond (.var 9)
          seq  mid=[4]
            c_L_eqReq_2
            ret
          skip
      seq  mid=[2, 3]
        seq  mid=[2, 3, 14]
          c_L_eqReq_3
          cond (.var 14)
            seq  mid=[4]
              c_L_eqReq_4
              ret
            skip
        seq  mid=[2, 3]
          seq  mid=[2, 3, 19]
            c_L_eqReq_5
            cond (.var 19)
              seq  mid=[4]
                c_L_eqReq_6
                ret
              skip
          seq  mid=[2, 3]
            seq  mid=[2, 3, 24]
              c_L_eqReq_7
              cond (.var 24)
                seq  mid=[4]
                  c_L_eqReq_8
                  ret
                skip
            seq  mid=[2, 3]
              seq  mid=[2, 3, 29]
                c_L_eqReq_9
                cond (.var 29)
                  seq  mid=[4]
                    c_L_eqReq_10
                    ret
                  skip
              seq  mid=[]
                seq  mid=[34]
                  c_L_eqReq_11
                  cond (.var 34)
                    seq  mid=[4]
                      c_L_eqReq_12
                      ret
                    skip
                seq  mid=[4]
                  c_L_eqReq_13
                  ret
-/
def c_L_eqReq_0 : ACode := .reg [⟨.var 2, .box (.var 0), none, []⟩,
  ⟨.var 3, .box (.var 1), none, []⟩,
  ⟨.var 4, .mv (.const (.d (.bool false))), none, []⟩] false
def c_L_eqReq_1 : ACode := .reg [⟨.loc 5, .fld 0 (.var 2), none, []⟩,
  ⟨.loc 6, .load false 1 (.loc 5), none, []⟩,
  ⟨.loc 7, .fld 0 (.var 3), none, []⟩,
  ⟨.loc 8, .load false 1 (.loc 7), none, []⟩,
  ⟨.var 9, .bin .int .neq (.loc 6) (.loc 8), none, []⟩] false
def c_L_eqReq_2 : ACode := .reg [⟨.var 4, .mv (.const (.d (.bool false))), none, []⟩] false
def c_L_eqReq_3 : ACode := .reg [⟨.loc 10, .fld 1 (.var 2), none, []⟩,
  ⟨.loc 11, .load false 1 (.loc 10), none, []⟩,
  ⟨.loc 12, .fld 1 (.var 3), none, []⟩,
  ⟨.loc 13, .load false 1 (.loc 12), none, []⟩,
  ⟨.var 14, .bin .int .neq (.loc 11) (.loc 13), none, []⟩] false
def c_L_eqReq_4 : ACode := .reg [⟨.var 4, .mv (.const (.d (.bool false))), none, []⟩] false
def c_L_eqReq_5 : ACode := .reg [⟨.loc 15, .fld 2 (.var 2), none, []⟩,
  ⟨.loc 16, .load false 1 (.loc 15), none, []⟩,
  ⟨.loc 17, .fld 2 (.var 3), none, []⟩,
  ⟨.loc 18, .load false 1 (.loc 17), none, []⟩,
  ⟨.var 19, .bin .str .neq (.loc 16) (.loc 18), none, []⟩] false
def c_L_eqReq_6 : ACode := .reg [⟨.var 4, .mv (.const (.d (.bool false))), none, []⟩] false
def c_L_eqReq_7 : ACode := .reg [⟨.loc 20, .fld 3 (.var 2), none, []⟩,
  ⟨.loc 21, .load false 1 (.loc 20), none, []⟩,
  ⟨.loc 22, .fld 3 (.var 3), none, []⟩,
  ⟨.loc 23, .load false 1 (.loc 22), none, []⟩,
  ⟨.var 24, .bin .str .neq (.loc 21) (.loc 23), none, []⟩] false
def c_L_eqReq_8 : ACode := .reg [⟨.var 4, .mv (.const (.d (.bool false))), none, []⟩] false
def c_L_eqReq_9 : ACode := .reg [⟨.loc 25, .fld 4 (.var 2), none, []⟩,
  ⟨.loc 26, .load false 1 (.loc 25), none, []⟩,
  ⟨.loc 27, .fld 4 (.var 3), none, []⟩,
  ⟨.loc 28, .load false 1 (.loc 27), none, []⟩,
  ⟨.var 29, .bin .str .neq (.loc 26) (.loc 28), none, []⟩] false
def c_L_eqReq_10 : ACode := .reg [⟨.var 4, .mv (.const (.d (.bool false))), none, []⟩] false
def c_L_eqReq_11 : ACode := .reg [⟨.loc 30, .fld 5 (.var 2), none, []⟩,
  ⟨.loc 31, .load false 1 (.loc 30), none, []⟩,
  ⟨.loc 32, .fld 5 (.var 3), none, []⟩,
  ⟨.loc 33, .load false 1 (.loc 32), none, []⟩,
  ⟨.var 34, .bin .int .neq (.loc 31) (.loc 33), none, []⟩] false
def c_L_eqReq_12 : ACode := .reg [⟨.var 4, .mv (.const (.d (.bool false))), none, []⟩] false
def c_L_eqReq_13 : ACode := .reg [⟨.var 4, .mv (.const (.d (.bool true))), none, []⟩] false
def c_L_eqReq : ACode := (.seq c_L_eqReq_0 (.seq (.seq c_L_eqReq_1 (.cond (.var 9) (.seq c_L_eqReq_2 .ret) .skip)) (.seq (.seq c_L_eqReq_3 (.cond (.var 14) (.seq c_L_eqReq_4 .ret) .skip)) (.seq (.seq c_L_eqReq_5 (.cond (.var 19) (.seq c_L_eqReq_6 .ret) .skip)) (.seq (.seq c_L_eqReq_7 (.cond (.var 24) (.seq c_L_eqReq_8 .ret) .skip)) (.seq (.seq c_L_eqReq_9 (.cond (.var 29) (.seq c_L_eqReq_10 .ret) .skip)) (.seq (.seq c_L_eqReq_11 (.cond (.var 34) (.seq c_L_eqReq_12 .ret) .skip)) (.seq c_L_eqReq_13 .ret))))))))

abbrev F_L_eqReq : FuncId := 14

theorem k_L_eqReq : comp PP (Try.f14.ntmps, pinOf 0 [none, none]) [0, 1, 2, 3, 4, 9, 14, 19, 24, 29, 34] (Try.f14.body.getD .skip) = some c_L_eqReq.erase := by kernel_rfl

theorem v_L_eqReq (rcs : List C) {cs : List C} {r : C} {os : List (Option C)} (hN : (cs.length == 2 && rcs.length == 1) = true) (hret : retOf rcs = r)
    (hW : W PP [0, 1, 2, 3, 4, 9, 14, 19, 24, 29, 34] (Try.f14.ntmps, pinOf 0 [none, none]) (Valid PP) c_L_eqReq (entry cs) (Fin (Valid PP) [(.give, 4, none)] [none, none] rcs os) (fun _ _ => False) (Fin (Valid PP) [(.give, 4, none)] [none, none] rcs os)) : Valid PP F_L_eqReq cs r os :=
  fn_valid_n 2 1 [0, 1, 2, 3, 4, 9, 14, 19, 24, 29, 34] c_L_eqReq [(.give, 4, none)] [none, none] rcs Try.func14 rfl rfl (by kernel_rfl) k_L_eqReq rfl rfl hN hret hW


/-
loop.example/g00705/laws.eqRecord  params 2+0 results [4]
  seq  mid=[2, 3]
    c_L_eqRecord_0
    seq  mid=[2, 3]
      seq  mid=[2, 3, 9]
        c_L_eqRecord_1
        cond (.var 9)
          seq  mid=[4]
            c_L_eqRecord_2
            ret
          skip
      seq  mid=[2, 3]
        seq  mid=[2, 3, 15]
          c_L_eqRecord_3
          cond (.var 15)
            seq  mid=[4]
              c_L_eqRecord_4
              ret
            skip
        seq  mid=[]
          seq  mid=[21]
            c_L_eqRecord_5
            cond (.var 21)
              seq  mid=[4]
                c_L_eqRecord_6
                ret
              skip
          seq  mid=[4]
            c_L_eqRecord_7
            ret
-/
def c_L_eqRecord_0 : ACode := .reg [⟨.var 2, .box (.var 0), none, []⟩,
  ⟨.var 3, .box (.var 1), none, []⟩,
  ⟨.var 4, .mv (.const (.d (.bool false))), none, []⟩] false
def c_L_eqRecord_1 : ACode := .reg [⟨.loc 5, .fld 0 (.var 2), none, []⟩,
  ⟨.loc 6, .load false 1 (.loc 5), none, []⟩,
  ⟨.loc 7, .fld 0 (.var 3), none, []⟩,
  ⟨.loc 8, .load false 1 (.loc 7), none, []⟩,
  ⟨.var 9, .bin .int .neq (.loc 6) (.loc 8), none, []⟩] false
def c_L_eqRecord_2 : ACode := .reg [⟨.var 4, .mv (.const (.d (.bool false))), none, []⟩] false
def c_L_eqRecord_3 : ACode := .reg [⟨.loc 10, .fld 1 (.var 2), none, []⟩,
  ⟨.loc 11, .load false 1 (.loc 10), none, []⟩,
  ⟨.loc 12, .fld 1 (.var 3), none, []⟩,
  ⟨.loc 13, .load false 1 (.loc 12), none, []⟩,
  ⟨.loc 14, .call (.fn 32) [(.loc 11), (.loc 13)] [.borrow, .borrow], none, []⟩,
  ⟨.var 15, .un .not (.loc 14), none, []⟩] false
def c_L_eqRecord_4 : ACode := .reg [⟨.var 4, .mv (.const (.d (.bool false))), none, []⟩] false
def c_L_eqRecord_5 : ACode := .reg [⟨.loc 16, .fld 2 (.var 2), none, []⟩,
  ⟨.loc 17, .load false 1 (.loc 16), none, []⟩,
  ⟨.loc 18, .fld 2 (.var 3), none, []⟩,
  ⟨.loc 19, .load false 1 (.loc 18), none, []⟩,
  ⟨.loc 20, .call (.fn 33) [(.loc 17), (.loc 19)] [.borrow, .borrow], none, []⟩,
  ⟨.var 21, .un .not (.loc 20), none, []⟩] false
def c_L_eqRecord_6 : ACode := .reg [⟨.var 4, .mv (.const (.d (.bool false))), none, []⟩] false
def c_L_eqRecord_7 : ACode := .reg [⟨.var 4, .mv (.const (.d (.bool true))), none, []⟩] false
def c_L_eqRecord : ACode := (.seq c_L_eqRecord_0 (.seq (.seq c_L_eqRecord_1 (.cond (.var 9) (.seq c_L_eqRecord_2 .ret) .skip)) (.seq (.seq c_L_eqRecord_3 (.cond (.var 15) (.seq c_L_eqRecord_4 .ret) .skip)) (.seq (.seq c_L_eqRecord_5 (.cond (.var 21) (.seq c_L_eqRecord_6 .ret) .skip)) (.seq c_L_eqRecord_7 .ret)))))

abbrev F_L_eqRecord : FuncId := 15

theorem k_L_eqRecord : comp PP (Try.f15.ntmps, pinOf 0 [none, none]) [0, 1, 2, 3, 4, 9, 15, 21] (Try.f15.body.getD .skip) = some c_L_eqRecord.erase := by kernel_rfl

theorem v_L_eqRecord (rcs : List C) {cs : List C} {r : C} {os : List (Option C)} (hN : (cs.length == 2 && rcs.length == 1) = true) (hret : retOf rcs = r)
    (hW : W PP [0, 1, 2, 3, 4, 9, 15, 21] (Try.f15.ntmps, pinOf 0 [none, none]) (Valid PP) c_L_eqRecord (entry cs) (Fin (Valid PP) [(.give, 4, none)] [none, none] rcs os) (fun _ _ => False) (Fin (Valid PP) [(.give, 4, none)] [none, none] rcs os)) : Valid PP F_L_eqRecord cs r os :=
  fn_valid_n 2 1 [0, 1, 2, 3, 4, 9, 15, 21] c_L_eqRecord [(.give, 4, none)] [none, none] rcs Try.func15 rfl rfl (by kernel_rfl) k_L_eqRecord rfl rfl hN hret hW


/-
loop.example/g00705/laws.szReq  params 2+0 results [4]
  seq  mid=[1, 2]
    c_L_szReq_0
    seq  mid=[1, 2]
      c_L_szReq_1
      seq  mid=[1, 2]
        seq  mid=[1, 2, 11]
          c_L_szReq_2
          cond (.var 11)
            seq  mid=[4]
              c_L_szReq_3
              ret
            skip
        seq  mid=[1, 2]
          c_L_szReq_4
          seq  mid=[1, 2]
            seq  mid=[1, 2, 18]
              c_L_szReq_5
              cond (.var 18)
                seq  mid=[4]
                  c_L_szReq_6
                  ret
                skip
            seq  mid=[1]
              c_L_szReq_7
              seq  mid=[1]
                seq  mid=[1, 25]
                  c_L_szReq_8
                  cond (.var 25)
                    seq  mid=[4]
                      c_L_szReq_9
                      ret
                    skip
                seq  mid=[4]
                  c_L_szReq_10
                  ret
-/
def c_L_szReq_0 : ACode := .reg [⟨.var 2, .box (.var 0), none, []⟩,
  ⟨.var 4, .mv (.const (.d (.int .i64 0))), none, []⟩] false
def c_L_szReq_1 : ACode := .reg [⟨.loc 5, .mv (.var 1), none, []⟩,
  ⟨.loc 6, .fld 2 (.var 2), none, []⟩,
  ⟨.loc 7, .load false 1 (.loc 6), none, []⟩,
  ⟨.loc 8, .len true (.loc 7), none, []⟩,
  ⟨.loc 9, .bin .int .sub (.loc 5) (.loc 8), none, []⟩,
  ⟨.var 1, .mv (.loc 9), none, []⟩] false
def c_L_szReq_2 : ACode := .reg [⟨.loc 10, .mv (.var 1), none, []⟩,
  ⟨.var 11, .bin .int .lss (.loc 10) (.const (.d (.int .i64 0))), none, []⟩] false
def c_L_szReq_3 : ACode := .reg [⟨.var 4, .mv (.const (.d (.int .i64 (-1)))), none, []⟩] false
def c_L_szReq_4 : ACode := .reg [⟨.loc 12, .mv (.var 1), none, []⟩,
  ⟨.loc 13, .fld 3 (.var 2), none, []⟩,
  ⟨.loc 14, .load false 1 (.loc 13), none, []⟩,
  ⟨.loc 15, .len true (.loc 14), none, []⟩,
  ⟨.loc 16, .bin .int .sub (.loc 12) (.loc 15), none, []⟩,
  ⟨.var 1, .mv (.loc 16), none, []⟩] false
def c_L_szReq_5 : ACode := .reg [⟨.loc 17, .mv (.var 1), none, []⟩,
  ⟨.var 18, .bin .int .lss (.loc 17) (.const (.d (.int .i64 0))), none, []⟩] false
def c_L_szReq_6 : ACode := .reg [⟨.var 4, .mv (.const (.d (.int .i64 (-1)))), none, []⟩] false
def c_L_szReq_7 : ACode := .reg [⟨.loc 19, .mv (.var 1), none, []⟩,
  ⟨.loc 20, .fld 4 (.var 2), none, []⟩,
  ⟨.loc 21, .load false 1 (.loc 20), none, []⟩,
  ⟨.loc 22, .len true (.loc 21), none, []⟩,
  ⟨.loc 23, .bin .int .sub (.loc 19) (.loc 22), none, []⟩,
  ⟨.var 1, .mv (.loc 23), none, []⟩] false
def c_L_szReq_8 : ACode := .reg [⟨.loc 24, .mv (.var 1), none, []⟩,
  ⟨.var 25, .bin .int .lss (.loc 24) (.const (.d (.int .i64 0))), none, []⟩] false
def c_L_szReq_9 : ACode := .reg [⟨.var 4, .mv (.const (.d (.int .i64 (-1)))), none, []⟩] false
def c_L_szReq_10 : ACode := .reg [⟨.loc 26, .mv (.var 1), none, []⟩,
  ⟨.var 4, .mv (.loc 26), none, []⟩] false
def c_L_szReq : ACode := (.seq c_L_szReq_0 (.seq c_L_szReq_1 (.seq (.seq c_L_szReq_2 (.cond (.var 11) (.seq c_L_szReq_3 .ret) .skip)) (.seq c_L_szReq_4 (.seq (.seq c_L_szReq_5 (.cond (.var 18) (.seq c_L_szReq_6 .ret) .skip)) (.seq c_L_szReq_7 (.seq (.seq c_L_szReq_8 (.cond (.var 25) (.seq c_L_szReq_9 .ret) .skip)) (.seq c_L_szReq_10 .ret))))))))

abbrev F_L_szReq : FuncId := 16

theorem k_L_szReq : comp PP (Try.f16.ntmps, pinOf 0 [none, none]) [0, 1, 2, 4, 11, 18, 25] (Try.f16.body.getD .skip) = some c_L_szReq.erase := by kernel_rfl

theorem v_L_szReq (rcs : List C) {cs : List C} {r : C} {os : List (Option C)} (hN : (cs.length == 2 && rcs.length == 1) = true) (hret : retOf rcs = r)
    (hW : W PP [0, 1, 2, 4, 11, 18, 25] (Try.f16.ntmps, pinOf 0 [none, none]) (Valid PP) c_L_szReq (entry cs) (Fin (Valid PP) [(.give, 4, none)] [none, none] rcs os) (fun _ _ => False) (Fin (Valid PP) [(.give, 4, none)] [none, none] rcs os)) : Valid PP F_L_szReq cs r os :=
  fn_valid_n 2 1 [0, 1, 2, 4, 11, 18, 25] c_L_szReq [(.give, 4, none)] [none, none] rcs Try.func16 rfl rfl (by kernel_rfl) k_L_szReq rfl rfl hN hret hW


/-
loop.example/g00705/spec.ReqRecord  params 1+0 results [2, 3]
  seq  mid=[1, 2]
    c_S_ReqRecord_0
    seq  mid=[1, 2, 4]
      c_S_ReqRecord_1
      seq  mid=[2, 4]
        seq  mid=[2, 4, 28]
          c_S_ReqRecord_2
          cond (.var 28)
            seq  mid=[2, 3]
              c_S_ReqRecord_3
              ret
            skip
        seq  mid=[2, 3]
          c_S_ReqRecord_4
          ret
-/
def c_S_ReqRecord_0 : ACode := .reg [⟨.var 1, .box (.var 0), none, []⟩,
  ⟨.var 2, .alloc [.d (.int .i64 0), .nil 0 1, .nil 0 1], none, []⟩,
  ⟨.var 3, .mv (.const (.d (.bool false))), none, []⟩] false
def c_S_ReqRecord_1 : ACode := .reg [⟨.loc 5, .fld 0 (.var 1), none, []⟩,
  ⟨.loc 6, .load false 1 (.loc 5), none, []⟩,
  ⟨.loc 7, .fld 1 (.var 1), none, []⟩,
  ⟨.loc 8, .load false 1 (.loc 7), none, []⟩,
  ⟨.loc 9, .fld 5 (.var 1), none, []⟩,
  ⟨.loc 10, .load false 1 (.loc 9), none, []⟩,
  ⟨.loc 11, .lit 0 1 2 [.int .i64 0] [(0, (.loc 8)), (1, (.loc 10))], none, []⟩,
  ⟨.loc 12, .fld 2 (.var 1), none, []⟩,
  ⟨.loc 13, .load false 1 (.loc 12), none, []⟩,
  ⟨.loc 14, .fld 3 (.var 1), none, []⟩,
  ⟨.loc 15, .load false 1 (.loc 14), none, []⟩,
  ⟨.loc 16, .fld 4 (.var 1), none, []⟩,
  ⟨.loc 17, .load false 1 (.loc 16), none, []⟩,
  ⟨.loc 18, .lit 0 1 3 [.str []] [(0, (.loc 13)), (1, (.loc 15)), (2, (.loc 17))], none, []⟩,
  ⟨.loc 19, .build [.d (.int .i64 0), .nil 0 1, .nil 0 1] [(0, 1, (.loc 6)), (1, 1, (.loc 11)), (2, 1, (.loc 18))], none, []⟩,
  ⟨.var 4, .alloc [.d (.int .i64 0), .nil 0 1, .nil 0 1], none, []⟩,
  ⟨.none, .store 3 (.var 4) (.loc 19), none, []⟩] false
def c_S_ReqRecord_2 : ACode := .reg [⟨.loc 20, .fld 0 (.var 1), none, []⟩,
  ⟨.loc 21, .load false 1 (.loc 20), none, []⟩,
  ⟨.loc 22, .call (.fn 25) [(.loc 21), (.const (.d (.int .i64 0))), (.const (.d (.int .i64 13)))] [.borrow, .borrow, .borrow], none, []⟩,
  ⟨.loc 23, .un .not (.loc 22), none, []⟩,
  ⟨.loc 24, .split (.loc 23), none, []⟩,
  ⟨.loc 25, .load true 3 (.var 4), some ((.loc 24), false), []⟩,
  ⟨.loc 26, .call (.fn 26) [(.loc 25)] [.borrow], some ((.loc 24), false), []⟩,
  ⟨.loc 27, .un .not (.loc 26), some ((.loc 24), false), []⟩,
  ⟨.var 28, .pick (.loc 24) (.const (.d (.bool true))) (.loc 27), none, []⟩] false
def c_S_ReqRecord_3 : ACode := .reg [⟨.loc 29, .build [.d (.int .i64 0), .nil 0 1, .nil 0 1] [], none, []⟩,
  ⟨.none, .store 3 (.var 2) (.loc 29), none, []⟩,
  ⟨.var 3, .mv (.const (.d (.bool false))), none, []⟩] false
def c_S_ReqRecord_4 : ACode := .reg [⟨.loc 30, .load true 3 (.var 4), none, []⟩,
  ⟨.none, .store 3 (.var 2) (.loc 30), none, []⟩,
  ⟨.var 3, .mv (.const (.d (.bool true))), none, []⟩] false
def c_S_ReqRecord : ACode := (.seq c_S_ReqRecord_0 (.seq c_S_ReqRecord_1 (.seq (.seq c_S_ReqRecord_2 (.cond (.var 28) (.seq c_S_ReqRecord_3 .ret) .skip)) (.seq c_S_ReqRecord_4 .ret))))

abbrev F_S_ReqRecord : FuncId := 17

theorem k_S_ReqRecord : comp PP (Try.f17.ntmps, pinOf 0 [none]) [0, 1, 2, 3, 4, 28] (Try.f17.body.getD .skip) = some c_S_ReqRecord.erase := by kernel_rfl

theorem v_S_ReqRecord (rcs : List C) {cs : List C} {r : C} {os : List (Option C)} (hN : (cs.length == 1 && rcs.length == 2) = true) (hret : retOf rcs = r)
    (hW : W PP [0, 1, 2, 3, 4, 28] (Try.f17.ntmps, pinOf 0 [none]) (Valid PP) c_S_ReqRecord (entry cs) (Fin (Valid PP) [(.give, 2, some (true, 3)), (.give, 3, none)] [none] rcs os) (fun _ _ => False) (Fin (Valid PP) [(.give, 2, some (true, 3)), (.give, 3, none)] [none] rcs os)) : Valid PP F_S_ReqRecord cs r os :=
  fn_valid_n 1 2 [0, 1, 2, 3, 4, 28] c_S_ReqRecord [(.give, 2, some (true, 3)), (.give, 3, none)] [none] rcs Try.func17 rfl rfl (by kernel_rfl) k_S_ReqRecord rfl rfl hN hret hW


/-
loop.example/g00705/laws.toReq  params 1+0 results [2]
  seq  mid=[1, 2]
    c_L_toReq_0
    seq  mid=[1, 2, 3]
      c_L_toReq_1
      seq  mid=[1, 2, 3]
        c_L_toReq_2
        seq  mid=[1, 2, 3]
          c_L_toReq_3
          seq  mid=[1, 2, 3]
            c_L_toReq_4
            seq  mid=[1, 2, 3]
              c_L_toReq_5
              seq  mid=[1, 2, 3]
                c_L_toReq_6
                seq  mid=[2, 3]
                  c_L_toReq_7
                  seq  mid=[2]
                    c_L_toReq_8
                    ret
-/
def c_L_toReq_0 : ACode := .reg [⟨.var 1, .box (.var 0), none, []⟩,
  ⟨.var 2, .alloc [.d (.int .i64 0), .d (.int .i64 0), .d (.str []), .d (.str []), .d (.str []), .d (.int .i64 0)], none, []⟩] false
def c_L_toReq_1 : ACode := .reg [⟨.var 3, .alloc [.d (.int .i64 0), .d (.int .i64 0), .d (.str []), .d (.str []), .d (.str []), .d (.int .i64 0)], none, []⟩] false
def c_L_toReq_2 : ACode := .reg [⟨.loc 4, .fld 0 (.var 1), none, []⟩,
  ⟨.loc 5, .load false 1 (.loc 4), none, []⟩,
  ⟨.loc 6, .fld 0 (.var 3), none, []⟩,
  ⟨.none, .store 1 (.loc 6) (.loc 5), none, []⟩] false
def c_L_toReq_3 : ACode := .reg [⟨.loc 7, .fld 1 (.var 1), none, []⟩,
  ⟨.loc 8, .load false 1 (.loc 7), none, []⟩,
  ⟨.loc 9, .fld 1 (.var 3), none, []⟩,
  ⟨.none, .store 1 (.loc 9) (.loc 8), none, []⟩] false
def c_L_toReq_4 : ACode := .reg [⟨.loc 10, .fld 2 (.var 1), none, []⟩,
  ⟨.loc 11, .load false 1 (.loc 10), none, []⟩,
  ⟨.loc 12, .fld 2 (.var 3), none, []⟩,
  ⟨.none, .store 1 (.loc 12) (.loc 11), none, []⟩] false
def c_L_toReq_5 : ACode := .reg [⟨.loc 13, .fld 3 (.var 1), none, []⟩,
  ⟨.loc 14, .load false 1 (.loc 13), none, []⟩,
  ⟨.loc 15, .fld 3 (.var 3), none, []⟩,
  ⟨.none, .store 1 (.loc 15) (.loc 14), none, []⟩] false
def c_L_toReq_6 : ACode := .reg [⟨.loc 16, .fld 4 (.var 1), none, []⟩,
  ⟨.loc 17, .load false 1 (.loc 16), none, []⟩,
  ⟨.loc 18, .fld 4 (.var 3), none, []⟩,
  ⟨.none, .store 1 (.loc 18) (.loc 17), none, []⟩] false
def c_L_toReq_7 : ACode := .reg [⟨.loc 19, .fld 5 (.var 1), none, []⟩,
  ⟨.loc 20, .load false 1 (.loc 19), none, []⟩,
  ⟨.loc 21, .fld 5 (.var 3), none, []⟩,
  ⟨.none, .store 1 (.loc 21) (.loc 20), none, []⟩] false
def c_L_toReq_8 : ACode := .reg [⟨.loc 22, .load true 6 (.var 3), none, []⟩,
  ⟨.none, .store 6 (.var 2) (.loc 22), none, []⟩] false
def c_L_toReq : ACode := (.seq c_L_toReq_0 (.seq c_L_toReq_1 (.seq c_L_toReq_2 (.seq c_L_toReq_3 (.seq c_L_toReq_4 (.seq c_L_toReq_5 (.seq c_L_toReq_6 (.seq c_L_toReq_7 (.seq c_L_toReq_8 .ret)))))))))

abbrev F_L_toReq : FuncId := 18

theorem k_L_toReq : comp PP (Try.f18.ntmps, pinOf 0 [none]) [0, 1, 2, 3] (Try.f18.body.getD .skip) = some c_L_toReq.erase := by kernel_rfl

theorem v_L_toReq (rcs : List C) {cs : List C} {r : C} {os : List (Option C)} (hN : (cs.length == 1 && rcs.length == 1) = true) (hret : retOf rcs = r)
    (hW : W PP [0, 1, 2, 3] (Try.f18.ntmps, pinOf 0 [none]) (Valid PP) c_L_toReq (entry cs) (Fin (Valid PP) [(.give, 2, some (true, 6))] [none] rcs os) (fun _ _ => False) (Fin (Valid PP) [(.give, 2, some (true, 6))] [none] rcs os)) : Valid PP F_L_toReq cs r os :=
  fn_valid_n 1 1 [0, 1, 2, 3] c_L_toReq [(.give, 2, some (true, 6))] [none] rcs Try.func18 rfl rfl (by kernel_rfl) k_L_toReq rfl rfl hN hret hW


/-
loop.example/g00705/impl.ReqRecord  params 1+0 results [2, 3]
  seq  mid=[1, 2]
    c_I_ReqRecord_0
    seq  mid=[2]
      seq  mid=[1, 2, 4]
        c_I_ReqRecord_1
        seq  mid=[2, 4, 13]
          c_I_ReqRecord_2
          cond (.var 13)
            seq  mid=[2, 3]
              c_I_ReqRecord_3
              ret
            skip
      seq  mid=[2, 3]
        c_I_ReqRecord_4
        ret
-/
def c_I_ReqRecord_0 : ACode := .reg [⟨.var 1, .box (.var 0), none, []⟩,
  ⟨.var 2, .alloc [.d (.int .i64 0), .nil 0 1, .nil 0 1], none, []⟩,
  ⟨.var 3, .mv (.const (.d (.bool false))), none, []⟩] false
def c_I_ReqRecord_1 : ACode := .reg [⟨.loc 5, .load true 6 (.var 1), none, []⟩,
  ⟨.loc 6, .call (.fn 34) [(.loc 5)] [.borrow], none, []⟩,
  ⟨.var 4, .alloc [.d (.int .i64 0), .nil 0 1, .nil 0 1], none, []⟩,
  ⟨.none, .store 3 (.var 4) (.loc 6), none, []⟩] false
def c_I_ReqRecord_2 : ACode := .reg [⟨.loc 7, .fld 0 (.var 1), none, []⟩,
  ⟨.loc 8, .load false 1 (.loc 7), none, []⟩,
  ⟨.loc 9, .call (.fn 35) [(.loc 8), (.const (.d (.int .i64 0))), (.const (.d (.int .i64 13)))] [.borrow, .borrow, .borrow], none, []⟩,
  ⟨.loc 10, .split (.loc 9), none, []⟩,
  ⟨.loc 11, .load true 3 (.var 4), some ((.loc 10), true), []⟩,
  ⟨.loc 12, .call (.fn 29) [(.loc 11)] [.borrow], some ((.loc 10), true), []⟩,
  ⟨.var 13, .pick (.loc 10) (.loc 12) (.const (.d (.bool false))), none, []⟩] false
def c_I_ReqRecord_3 : ACode := .reg [⟨.loc 14, .load true 3 (.var 4), none, []⟩,
  ⟨.none, .store 3 (.var 2) (.loc 14), none, []⟩,
  ⟨.var 3, .mv (.const (.d (.bool true))), none, []⟩] false
def c_I_ReqRecord_4 : ACode := .reg [⟨.loc 15, .build [.d (.int .i64 0), .nil 0 1, .nil 0 1] [], none, []⟩,
  ⟨.none, .store 3 (.var 2) (.loc 15), none, []⟩,
  ⟨.var 3, .mv (.const (.d (.bool false))), none, []⟩] false
def c_I_ReqRecord : ACode := (.seq c_I_ReqRecord_0 (.seq (.seq c_I_ReqRecord_1 (.seq c_I_ReqRecord_2 (.cond (.var 13) (.seq c_I_ReqRecord_3 .ret) .skip))) (.seq c_I_ReqRecord_4 .ret)))

abbrev F_I_ReqRecord : FuncId := 19

theorem k_I_ReqRecord : comp PP (Try.f19.ntmps, pinOf 0 [none]) [0, 1, 2, 3, 4, 13] (Try.f19.body.getD .skip) = some c_I_ReqRecord.erase := by kernel_rfl

theorem v_I_ReqRecord (rcs : List C) {cs : List C} {r : C} {os : List (Option C)} (hN : (cs.length == 1 && rcs.length == 2) = true) (hret : retOf rcs = r)
    (hW : W PP [0, 1, 2, 3, 4, 13] (Try.f19.ntmps, pinOf 0 [none]) (Valid PP) c_I_ReqRecord (entry cs) (Fin (Valid PP) [(.give, 2, some (true, 3)), (.give, 3, none)] [none] rcs os) (fun _ _ => False) (Fin (Valid PP) [(.give, 2, some (true, 3)), (.give, 3, none)] [none] rcs os)) : Valid PP F_I_ReqRecord cs r os :=
  fn_valid_n 1 2 [0, 1, 2, 3, 4, 13] c_I_ReqRecord [(.give, 2, some (true, 3)), (.give, 3, none)] [none] rcs Try.func19 rfl rfl (by kernel_rfl) k_I_ReqRecord rfl rfl hN hret hW


/-
loop.example/g00705/laws.markRecord  params 2+0 results [4]
  seq  mid=[0, 1, 2]
    c_L_markRecord_0
    seq  mid=[0, 1, 2]
      c_L_markRecord_1
      seq  mid=[0, 1]
        c_L_markRecord_2
        seq  mid=[0, 4]
          c_L_markRecord_3
          ret
-/
def c_L_markRecord_0 : ACode := .reg [⟨.var 2, .box (.var 0), none, []⟩,
  ⟨.var 4, .mv (.const (.d (.int .i64 0))), none, []⟩] false
def c_L_markRecord_1 : ACode := .reg [⟨.loc 5, .fld 1 (.var 2), none, []⟩,
  ⟨.loc 6, .load false 1 (.loc 5), none, []⟩,
  ⟨.loc 7, .mv (.var 1), none, []⟩,
  ⟨.loc 8, .call (.fn 36) [(.loc 6), (.loc 7)] [.lend, .borrow], none, []⟩,
  ⟨.var 1, .mv (.loc 8), none, []⟩] false
def c_L_markRecord_2 : ACode := .reg [⟨.loc 9, .fld 2 (.var 2), none, []⟩,
  ⟨.loc 10, .load false 1 (.loc 9), none, []⟩,
  ⟨.loc 11, .mv (.var 1), none, []⟩,
  ⟨.loc 12, .call (.fn 37) [(.loc 10), (.loc 11)] [.lend, .borrow], none, []⟩,
  ⟨.var 1, .mv (.loc 12), none, []⟩] false
def c_L_markRecord_3 : ACode := .reg [⟨.loc 13, .mv (.var 1), none, []⟩,
  ⟨.var 4, .mv (.loc 13), none, []⟩] false
def c_L_markRecord : ACode := (.seq c_L_markRecord_0 (.seq c_L_markRecord_1 (.seq c_L_markRecord_2 (.seq c_L_markRecord_3 .ret))))

abbrev F_L_markRecord : FuncId := 20

theorem k_L_markRecord : comp PP (Try.f20.ntmps, pinOf 0 [some .give, none]) [0, 1, 2, 4] (Try.f20.body.getD .skip) = some c_L_markRecord.erase := by kernel_rfl

theorem v_L_markRecord (rcs : List C) {cs : List C} {r : C} {os : List (Option C)} (hN : (cs.length == 2 && rcs.length == 1) = true) (hret : retOf rcs = r)
    (hW : W PP [0, 1, 2, 4] (Try.f20.ntmps, pinOf 0 [some .give, none]) (Valid PP) c_L_markRecord (entry cs) (Fin (Valid PP) [(.give, 4, none)] [some .give, none] rcs os) (fun _ _ => False) (Fin (Valid PP) [(.give, 4, none)] [some .give, none] rcs os)) : Valid PP F_L_markRecord cs r os :=
  fn_valid_n 2 1 [0, 1, 2, 4] c_L_markRecord [(.give, 4, none)] [some .give, none] rcs Try.func20 rfl rfl (by kernel_rfl) k_L_markRecord rfl rfl hN hret hW


/-
loop.example/g00705/laws.heldRecord  params 2+0 results [4]
  seq  mid=[1, 2]
    c_L_heldRecord_0
    seq  mid=[1, 2]
      c_L_heldRecord_1
      seq  mid=[1, 2]
        seq  mid=[1, 2, 10]
          c_L_heldRecord_2
          cond (.var 10)
            seq  mid=[4]
              c_L_heldRecord_3
              ret
            skip
        seq  mid=[1]
          c_L_heldRecord_4
          seq  mid=[1]
            seq  mid=[1, 16]
              c_L_heldRecord_5
              cond (.var 16)
                seq  mid=[4]
                  c_L_heldRecord_6
                  ret
                skip
            seq  mid=[4]
              c_L_heldRecord_7
              ret
-/
def c_L_heldRecord_0 : ACode := .reg [⟨.var 2, .box (.var 0), none, []⟩,
  ⟨.var 4, .mv (.const (.d (.int .i64 0))), none, []⟩] false
def c_L_heldRecord_1 : ACode := .reg [⟨.loc 5, .fld 1 (.var 2), none, []⟩,
  ⟨.loc 6, .load false 1 (.loc 5), none, []⟩,
  ⟨.loc 7, .mv (.var 1), none, []⟩,
  ⟨.loc 8, .call (.fn 38) [(.loc 6), (.loc 7)] [.borrow, .borrow], none, []⟩,
  ⟨.var 1, .mv (.loc 8), none, []⟩] false
def c_L_heldRecord_2 : ACode := .reg [⟨.loc 9, .mv (.var 1), none, []⟩,
  ⟨.var 10, .bin .int .lss (.loc 9) (.const (.d (.int .i64 0))), none, []⟩] false
def c_L_heldRecord_3 : ACode := .reg [⟨.var 4, .mv (.const (.d (.int .i64 (-1)))), none, []⟩] false
def c_L_heldRecord_4 : ACode := .reg [⟨.loc 11, .fld 2 (.var 2), none, []⟩,
  ⟨.loc 12, .load false 1 (.loc 11), none, []⟩,
  ⟨.loc 13, .mv (.var 1), none, []⟩,
  ⟨.loc 14, .call (.fn 39) [(.loc 12), (.loc 13)] [.borrow, .borrow], none, []⟩,
  ⟨.var 1, .mv (.loc 14), none, []⟩] false
def c_L_heldRecord_5 : ACode := .reg [⟨.loc 15, .mv (.var 1), none, []⟩,
  ⟨.var 16, .bin .int .lss (.loc 15) (.const (.d (.int .i64 0))), none, []⟩] false
def c_L_heldRecord_6 : ACode := .reg [⟨.var 4, .mv (.const (.d (.int .i64 (-1)))), none, []⟩] false
def c_L_heldRecord_7 : ACode := .reg [⟨.loc 17, .mv (.var 1), none, []⟩,
  ⟨.var 4, .mv (.loc 17), none, []⟩] false
def c_L_heldRecord : ACode := (.seq c_L_heldRecord_0 (.seq c_L_heldRecord_1 (.seq (.seq c_L_heldRecord_2 (.cond (.var 10) (.seq c_L_heldRecord_3 .ret) .skip)) (.seq c_L_heldRecord_4 (.seq (.seq c_L_heldRecord_5 (.cond (.var 16) (.seq c_L_heldRecord_6 .ret) .skip)) (.seq c_L_heldRecord_7 .ret))))))

abbrev F_L_heldRecord : FuncId := 21

theorem k_L_heldRecord : comp PP (Try.f21.ntmps, pinOf 0 [none, none]) [0, 1, 2, 4, 10, 16] (Try.f21.body.getD .skip) = some c_L_heldRecord.erase := by kernel_rfl

theorem v_L_heldRecord (rcs : List C) {cs : List C} {r : C} {os : List (Option C)} (hN : (cs.length == 2 && rcs.length == 1) = true) (hret : retOf rcs = r)
    (hW : W PP [0, 1, 2, 4, 10, 16] (Try.f21.ntmps, pinOf 0 [none, none]) (Valid PP) c_L_heldRecord (entry cs) (Fin (Valid PP) [(.give, 4, none)] [none, none] rcs os) (fun _ _ => False) (Fin (Valid PP) [(.give, 4, none)] [none, none] rcs os)) : Valid PP F_L_heldRecord cs r os :=
  fn_valid_n 2 1 [0, 1, 2, 4, 10, 16] c_L_heldRecord [(.give, 4, none)] [none, none] rcs Try.func21 rfl rfl (by kernel_rfl) k_L_heldRecord rfl rfl hN hret hW


/-
loop.example/g00705/impl.hexText  params 1+0 results [2]
  seq  mid=[0]
    c_I_hexText_0
    seq  mid=[0, 3]
      c_I_hexText_1
      seq  mid=[3]
        seq  mid=[3, 10, 11, 12]
          c_I_hexText_2
          block 0
            loop live=[3, 10, 11, 12]
              seq  mid=[3, 10, 11, 12, 13]
                c_I_hexText_3
                seq  mid=[3, 10, 11, 12]
                  cond (.var 13)
                    skip
                    exit 0
                  seq  mid=[3, 10, 11, 12]
                    block 1
                      seq  mid=[3, 5, 10, 11, 12]
                        c_I_hexText_4
                        c_I_hexText_5 DRAW
                    c_I_hexText_6
        seq  mid=[2]
          c_I_hexText_8
          ret
-/
def c_I_hexText_0 : ACode := .reg [⟨.var 2, .mv (.const (.d (.str []))), none, []⟩] false
def c_I_hexText_1 : ACode := .reg [⟨.loc 6, .mv (.var 0), none, []⟩,
  ⟨.loc 7, .len false (.loc 6), none, []⟩,
  ⟨.loc 8, .bin .int .mul (.const (.d (.int .i64 2))) (.loc 7), none, []⟩,
  ⟨.loc 9, .mkslice 0 1 1 [.int .u8 0] (.const (.d (.int .i64 0))) (.loc 8), none, []⟩,
  ⟨.var 3, .mv (.loc 9), none, []⟩] false
def c_I_hexText_2 : ACode := .reg [⟨.var 10, .mv (.var 0), none, []⟩,
  ⟨.var 11, .len false (.var 10), none, []⟩,
  ⟨.var 12, .mv (.const (.d (.int .i64 0))), none, []⟩] false
def c_I_hexText_3 : ACode := .reg [⟨.var 13, .bin .int .lss (.var 12) (.var 11), none, []⟩] false
def c_I_hexText_4 : ACode := .reg [⟨.loc 14, .idxA 1 (.var 10) (.var 12), none, []⟩,
  ⟨.loc 15, .load false 1 (.loc 14), none, []⟩,
  ⟨.var 5, .mv (.loc 15), none, []⟩] false
def c_I_hexText_5 : ACode := .reg [⟨.loc 16, .mv (.var 3), none, []⟩,
  ⟨.loc 17, .mv (.var 5), none, []⟩,
  ⟨.loc 18, .bin .int .shr (.loc 17) (.const (.d (.int .u64 4))), none, [1]⟩,
  ⟨.loc 19, .idxS (.const (.d (.str [48, 49, 50, 51, 52, 53, 54, 55, 56, 57, 97, 98, 99, 100, 101, 102]))) (.loc 18), none, [2, 1]⟩,
  ⟨.loc 20, .mv (.var 5), none, []⟩,
  ⟨.loc 21, .bin .int .and (.loc 20) (.const (.d (.int .u8 15))), none, [4]⟩,
  ⟨.loc 22, .idxS (.const (.d (.str [48, 49, 50, 51, 52, 53, 54, 55, 56, 57, 97, 98, 99, 100, 101, 102]))) (.loc 21), none, [5, 4]⟩,
  ⟨.loc 23, .lit 0 1 2 [.int .u8 0] [(0, (.loc 19)), (1, (.loc 22))], none, [3, 2, 1, 6, 5, 4]⟩,
  ⟨.loc 24, .app 1 1 (.loc 16) (.loc 23), none, [0, 7, 3, 2, 1, 6, 5, 4]⟩,
  ⟨.var 3, .mv (.loc 24), none, [8, 0, 7, 3, 2, 1, 6, 5, 4]⟩] true
def c_I_hexText_6 : ACode := .reg [⟨.loc 25, .bin .int .add (.var 12) (.const (.d (.int .i64 1))), none, []⟩,
  ⟨.var 12, .mv (.loc 25), none, []⟩] false
def c_I_hexText_7 : ACode := (.seq c_I_hexText_3 (.seq (.cond (.var 13) .skip (.exit 0)) (.seq (.block 1 (.seq c_I_hexText_4 c_I_hexText_5)) c_I_hexText_6)))
def c_I_hexText_8 : ACode := .reg [⟨.loc 26, .mv (.var 3), none, []⟩,
  ⟨.loc 27, .b2s (.loc 26), none, []⟩,
  ⟨.var 2, .mv (.loc 27), none, []⟩] false
def c_I_hexText : ACode := (.seq c_I_hexText_0 (.seq c_I_hexText_1 (.seq (.seq c_I_hexText_2 (.block 0 (.loop [3, 10, 11, 12] c_I_hexText_7))) (.seq c_I_hexText_8 .ret))))

abbrev F_I_hexText : FuncId := 22

theorem k_I_hexText : comp PP (Try.f22.ntmps, pinOf 0 [none]) [0, 2, 3, 5, 10, 11, 12, 13] (Try.f22.body.getD .skip) = some c_I_hexText.erase := by kernel_rfl

theorem v_I_hexText (rcs : List C) {cs : List C} {r : C} {os : List (Option C)} (hN : (cs.length == 1 && rcs.length == 1) = true) (hret : retOf rcs = r)
    (hW : W PP [0, 2, 3, 5, 10, 11, 12, 13] (Try.f22.ntmps, pinOf 0 [none]) (Valid PP) c_I_hexText (entry cs) (Fin (Valid PP) [(.give, 2, none)] [none] rcs os) (fun _ _ => False) (Fin (Valid PP) [(.give, 2, none)] [none] rcs os)) : Valid PP F_I_hexText cs r os :=
  fn_valid_n 1 1 [0, 2, 3, 5, 10, 11, 12, 13] c_I_hexText [(.give, 2, none)] [none] rcs Try.func22 rfl rfl (by kernel_rfl) k_I_hexText rfl rfl hN hret hW


/-
loop.example/g00705/laws.szIntS  params 2+0 results [4]
  seq  mid=[0, 1]
    c_L_szIntS_0
    seq  mid=[1]
      c_L_szIntS_1
      seq  mid=[1]
        seq  mid=[1, 10]
          c_L_szIntS_2
          cond (.var 10)
            seq  mid=[4]
              c_L_szIntS_3
              ret
            skip
        seq  mid=[4]
          c_L_szIntS_4
          ret
-/
def c_L_szIntS_0 : ACode := .reg [⟨.var 4, .mv (.const (.d (.int .i64 0))), none, []⟩] false
def c_L_szIntS_1 : ACode := .reg [⟨.loc 5, .mv (.var 1), none, []⟩,
  ⟨.loc 6, .mv (.var 0), none, []⟩,
  ⟨.loc 7, .len false (.loc 6), none, []⟩,
  ⟨.loc 8, .bin .int .sub (.loc 5) (.loc 7), none, []⟩,
  ⟨.var 1, .mv (.loc 8), none, []⟩] false
def c_L_szIntS_2 : ACode := .reg [⟨.loc 9, .mv (.var 1), none, []⟩,
  ⟨.var 10, .bin .int .lss (.loc 9) (.const (.d (.int .i64 0))), none, []⟩] false
def c_L_szIntS_3 : ACode := .reg [⟨.var 4, .mv (.const (.d (.int .i64 (-1)))), none, []⟩] false
def c_L_szIntS_4 : ACode := .reg [⟨.loc 11, .mv (.var 1), none, []⟩,
  ⟨.var 4, .mv (.loc 11), none, []⟩] false
def c_L_szIntS : ACode := (.seq c_L_szIntS_0 (.seq c_L_szIntS_1 (.seq (.seq c_L_szIntS_2 (.cond (.var 10) (.seq c_L_szIntS_3 .ret) .skip)) (.seq c_L_szIntS_4 .ret))))

abbrev F_L_szIntS : FuncId := 23

theorem k_L_szIntS : comp PP (Try.f23.ntmps, pinOf 0 [none, none]) [0, 1, 4, 10] (Try.f23.body.getD .skip) = some c_L_szIntS.erase := by kernel_rfl

theorem v_L_szIntS (rcs : List C) {cs : List C} {r : C} {os : List (Option C)} (hN : (cs.length == 2 && rcs.length == 1) = true) (hret : retOf rcs = r)
    (hW : W PP [0, 1, 4, 10] (Try.f23.ntmps, pinOf 0 [none, none]) (Valid PP) c_L_szIntS (entry cs) (Fin (Valid PP) [(.give, 4, none)] [none, none] rcs os) (fun _ _ => False) (Fin (Valid PP) [(.give, 4, none)] [none, none] rcs os)) : Valid PP F_L_szIntS cs r os :=
  fn_valid_n 2 1 [0, 1, 4, 10] c_L_szIntS [(.give, 4, none)] [none, none] rcs Try.func23 rfl rfl (by kernel_rfl) k_L_szIntS rfl rfl hN hret hW


/-
loop.example/g00705/laws.szStringS  params 2+0 results [4]
  seq  mid=[0, 1]
    c_L_szStringS_0
    seq  mid=[0, 1]
      c_L_szStringS_1
      seq  mid=[0, 1]
        seq  mid=[0, 1, 11]
          c_L_szStringS_2
          cond (.var 11)
            seq  mid=[4]
              c_L_szStringS_3
              ret
            skip
        seq  mid=[1]
          seq  mid=[0, 1, 5]
            c_L_szStringS_4
            block 0
              loop live=[0, 1, 5]
                seq  mid=[0, 1, 5]
                  seq  mid=[0, 1, 5, 15]
                    c_L_szStringS_5
                    cond (.var 15)
                      skip
                      exit 0
                  seq  mid=[0, 1, 5]
                    block 1
                      seq  mid=[0, 1, 5]
                        c_L_szStringS_6
                        seq  mid=[0, 1, 5, 26]
                          c_L_szStringS_7
                          cond (.var 26)
                            seq  mid=[4]
                              c_L_szStringS_8
                              ret
                            skip
                    c_L_szStringS_9
          seq  mid=[4]
            c_L_szStringS_11
            ret
-/
def c_L_szStringS_0 : ACode := .reg [⟨.var 4, .mv (.const (.d (.int .i64 0))), none, []⟩] false
def c_L_szStringS_1 : ACode := .reg [⟨.loc 6, .mv (.var 1), none, []⟩,
  ⟨.loc 7, .mv (.var 0), none, []⟩,
  ⟨.loc 8, .len false (.loc 7), none, []⟩,
  ⟨.loc 9, .bin .int .sub (.loc 6) (.loc 8), none, []⟩,
  ⟨.var 1, .mv (.loc 9), none, []⟩] false
def c_L_szStringS_2 : ACode := .reg [⟨.loc 10, .mv (.var 1), none, []⟩,
  ⟨.var 11, .bin .int .lss (.loc 10) (.const (.d (.int .i64 0))), none, []⟩] false
def c_L_szStringS_3 : ACode := .reg [⟨.var 4, .mv (.const (.d (.int .i64 (-1)))), none, []⟩] false
def c_L_szStringS_4 : ACode := .reg [⟨.var 5, .mv (.const (.d (.int .i64 0))), none, []⟩] false
def c_L_szStringS_5 : ACode := .reg [⟨.loc 12, .mv (.var 5), none, []⟩,
  ⟨.loc 13, .mv (.var 0), none, []⟩,
  ⟨.loc 14, .len false (.loc 13), none, []⟩,
  ⟨.var 15, .bin .int .lss (.loc 12) (.loc 14), none, []⟩] false
def c_L_szStringS_6 : ACode := .reg [⟨.loc 18, .mv (.var 1), none, []⟩,
  ⟨.loc 19, .mv (.var 0), none, []⟩,
  ⟨.loc 20, .mv (.var 5), none, []⟩,
  ⟨.loc 21, .idxA 1 (.loc 19) (.loc 20), none, []⟩,
  ⟨.loc 22, .load false 1 (.loc 21), none, []⟩,
  ⟨.loc 23, .len true (.loc 22), none, []⟩,
  ⟨.loc 24, .bin .int .sub (.loc 18) (.loc 23), none, []⟩,
  ⟨.var 1, .mv (.loc 24), none, []⟩] false
def c_L_szStringS_7 : ACode := .reg [⟨.loc 25, .mv (.var 1), none, []⟩,
  ⟨.var 26, .bin .int .lss (.loc 25) (.const (.d (.int .i64 0))), none, []⟩] false
def c_L_szStringS_8 : ACode := .reg [⟨.var 4, .mv (.const (.d (.int .i64 (-1)))), none, []⟩] false
def c_L_szStringS_9 : ACode := .reg [⟨.loc 16, .mv (.var 5), none, []⟩,
  ⟨.loc 17, .bin .int .add (.loc 16) (.const (.d (.int .i64 1))), none, []⟩,
  ⟨.var 5, .mv (.loc 17), none, []⟩] false
def c_L_szStringS_10 : ACode := (.seq (.seq c_L_szStringS_5 (.cond (.var 15) .skip (.exit 0))) (.seq (.block 1 (.seq c_L_szStringS_6 (.seq c_L_szStringS_7 (.cond (.var 26) (.seq c_L_szStringS_8 .ret) .skip)))) c_L_szStringS_9))
def c_L_szStringS_11 : ACode := .reg [⟨.loc 27, .mv (.var 1), none, []⟩,
  ⟨.var 4, .mv (.loc 27), none, []⟩] false
def c_L_szStringS : ACode := (.seq c_L_szStringS_0 (.seq c_L_szStringS_1 (.seq (.seq c_L_szStringS_2 (.cond (.var 11) (.seq c_L_szStringS_3 .ret) .skip)) (.seq (.seq c_L_szStringS_4 (.block 0 (.loop [0, 1, 5] c_L_szStringS_10))) (.seq c_L_szStringS_11 .ret)))))

abbrev F_L_szStringS : FuncId := 24

theorem k_L_szStringS : comp PP (Try.f24.ntmps, pinOf 0 [none, none]) [0, 1, 4, 5, 11, 15, 26] (Try.f24.body.getD .skip) = some c_L_szStringS.erase := by kernel_rfl

theorem v_L_szStringS (rcs : List C) {cs : List C} {r : C} {os : List (Option C)} (hN : (cs.length == 2 && rcs.length == 1) = true) (hret : retOf rcs = r)
    (hW : W PP [0, 1, 4, 5, 11, 15, 26] (Try.f24.ntmps, pinOf 0 [none, none]) (Valid PP) c_L_szStringS (entry cs) (Fin (Valid PP) [(.give, 4, none)] [none, none] rcs os) (fun _ _ => False) (Fin (Valid PP) [(.give, 4, none)] [none, none] rcs os)) : Valid PP F_L_szStringS cs r os :=
  fn_valid_n 2 1 [0, 1, 4, 5, 11, 15, 26] c_L_szStringS [(.give, 4, none)] [none, none] rcs Try.func24 rfl rfl (by kernel_rfl) k_L_szStringS rfl rfl hN hret hW


/-
loop.example/g00705/spec.l01In  params 3+0 results [6]
  seq  mid=[0, 1, 2]
    c_S_l01In_0
    seq  mid=[6]
      c_S_l01In_1
      ret
-/
def c_S_l01In_0 : ACode := .reg [⟨.var 6, .mv (.const (.d (.bool false))), none, []⟩] false
def c_S_l01In_1 : ACode := .reg [⟨.loc 7, .mv (.var 1), none, []⟩,
  ⟨.loc 8, .mv (.var 0), none, []⟩,
  ⟨.loc 9, .bin .int .leq (.loc 7) (.loc 8), none, []⟩,
  ⟨.loc 10, .split (.loc 9), none, []⟩,
  ⟨.loc 11, .mv (.var 0), some ((.loc 10), true), []⟩,
  ⟨.loc 12, .mv (.var 2), some ((.loc 10), true), []⟩,
  ⟨.loc 13, .bin .int .leq (.loc 11) (.loc 12), some ((.loc 10), true), []⟩,
  ⟨.loc 14, .pick (.loc 10) (.loc 13) (.const (.d (.bool false))), none, []⟩,
  ⟨.var 6, .mv (.loc 14), none, []⟩] false
def c_S_l01In : ACode := (.seq c_S_l01In_0 (.seq c_S_l01In_1 .ret))

abbrev F_S_l01In : FuncId := 25

theorem k_S_l01In : comp PP (Try.f25.ntmps, pinOf 0 [none, none, none]) [0, 1, 2, 6] (Try.f25.body.getD .skip) = some c_S_l01In.erase := by kernel_rfl

theorem v_S_l01In (rcs : List C) {cs : List C} {r : C} {os : List (Option C)} (hN : (cs.length == 3 && rcs.length == 1) = true) (hret : retOf rcs = r)
    (hW : W PP [0, 1, 2, 6] (Try.f25.ntmps, pinOf 0 [none, none, none]) (Valid PP) c_S_l01In (entry cs) (Fin (Valid PP) [(.give, 6, none)] [none, none, none] rcs os) (fun _ _ => False) (Fin (Valid PP) [(.give, 6, none)] [none, none, none] rcs os)) : Valid PP F_S_l01In cs r os :=
  fn_valid_n 3 1 [0, 1, 2, 6] c_S_l01In [(.give, 6, none)] [none, none, none] rcs Try.func25 rfl rfl (by kernel_rfl) k_S_l01In rfl rfl hN hret hW


/-
loop.example/g00705/spec.RecordOk  params 1+0 results [2]
  seq  mid=[1]
    c_S_RecordOk_0
    seq  mid=[1]
      seq  mid=[1, 20]
        c_S_RecordOk_1
        cond (.var 20)
          seq  mid=[2]
            c_S_RecordOk_2
            ret
          skip
      seq  mid=[1]
        seq  mid=[1, 3]
          c_S_RecordOk_3
          block 0
            loop live=[1, 3]
              seq  mid=[1, 3]
                seq  mid=[1, 3, 25]
                  c_S_RecordOk_4
                  cond (.var 25)
                    skip
                    exit 0
                seq  mid=[1, 3]
                  block 1
                    seq  mid=[1, 3, 34]
                      c_S_RecordOk_5
                      cond (.var 34)
                        seq  mid=[2]
                          c_S_RecordOk_6
                          ret
                        skip
                  c_S_RecordOk_7
        seq  mid=[]
          seq  mid=[1, 4]
            c_S_RecordOk_9
            block 2
              loop live=[1, 4]
                seq  mid=[1, 4]
                  seq  mid=[1, 4, 39]
                    c_S_RecordOk_10
                    cond (.var 39)
                      skip
                      exit 2
                  seq  mid=[1, 4]
                    block 3
                      seq  mid=[1, 4, 48]
                        c_S_RecordOk_11
                        cond (.var 48)
                          seq  mid=[2]
                            c_S_RecordOk_12
                            ret
                          skip
                    c_S_RecordOk_13
          seq  mid=[2]
            c_S_RecordOk_15
            ret
-/
def c_S_RecordOk_0 : ACode := .reg [⟨.var 1, .box (.var 0), none, []⟩,
  ⟨.var 2, .mv (.const (.d (.bool false))), none, []⟩] false
def c_S_RecordOk_1 : ACode := .reg [⟨.loc 5, .fld 0 (.var 1), none, []⟩,
  ⟨.loc 6, .load false 1 (.loc 5), none, []⟩,
  ⟨.loc 7, .call (.fn 25) [(.loc 6), (.const (.d (.int .i64 0))), (.const (.d (.int .i64 99)))] [.borrow, .borrow, .borrow], none, []⟩,
  ⟨.loc 8, .un .not (.loc 7), none, []⟩,
  ⟨.loc 9, .split (.loc 8), none, []⟩,
  ⟨.loc 10, .fld 1 (.var 1), some ((.loc 9), false), []⟩,
  ⟨.loc 11, .load false 1 (.loc 10), some ((.loc 9), false), []⟩,
  ⟨.loc 12, .len false (.loc 11), some ((.loc 9), false), []⟩,
  ⟨.loc 13, .bin .int .gtr (.loc 12) (.const (.d (.int .i64 40))), some ((.loc 9), false), []⟩,
  ⟨.loc 14, .pick (.loc 9) (.const (.d (.bool true))) (.loc 13), none, []⟩,
  ⟨.loc 15, .split (.loc 14), none, []⟩,
  ⟨.loc 16, .fld 2 (.var 1), some ((.loc 15), false), []⟩,
  ⟨.loc 17, .load false 1 (.loc 16), some ((.loc 15), false), []⟩,
  ⟨.loc 18, .len false (.loc 17), some ((.loc 15), false), []⟩,
  ⟨.loc 19, .bin .int .gtr (.loc 18) (.const (.d (.int .i64 40))), some ((.loc 15), false), []⟩,
  ⟨.var 20, .pick (.loc 15) (.const (.d (.bool true))) (.loc 19), none, []⟩] false
def c_S_RecordOk_2 : ACode := .reg [⟨.var 2, .mv (.const (.d (.bool false))), none, []⟩] false
def c_S_RecordOk_3 : ACode := .reg [⟨.var 3, .mv (.const (.d (.int .i64 0))), none, []⟩] false
def c_S_RecordOk_4 : ACode := .reg [⟨.loc 21, .mv (.var 3), none, []⟩,
  ⟨.loc 22, .fld 1 (.var 1), none, []⟩,
  ⟨.loc 23, .load false 1 (.loc 22), none, []⟩,
  ⟨.loc 24, .len false (.loc 23), none, []⟩,
  ⟨.var 25, .bin .int .lss (.loc 21) (.loc 24), none, []⟩] false
def c_S_RecordOk_5 : ACode := .reg [⟨.loc 28, .fld 1 (.var 1), none, []⟩,
  ⟨.loc 29, .load false 1 (.loc 28), none, []⟩,
  ⟨.loc 30, .mv (.var 3), none, []⟩,
  ⟨.loc 31, .idxA 1 (.loc 29) (.loc 30), none, []⟩,
  ⟨.loc 32, .load false 1 (.loc 31), none, []⟩,
  ⟨.loc 33, .call (.fn 25) [(.loc 32), (.const (.d (.int .i64 (-1099511627776)))), (.const (.d (.int .i64 1099511627776)))] [.borrow, .borrow, .borrow], none, []⟩,
  ⟨.var 34, .un .not (.loc 33), none, []⟩] false
def c_S_RecordOk_6 : ACode := .reg [⟨.var 2, .mv (.const (.d (.bool false))), none, []⟩] false
def c_S_RecordOk_7 : ACode := .reg [⟨.loc 26, .mv (.var 3), none, []⟩,
  ⟨.loc 27, .bin .int .add (.loc 26) (.const (.d (.int .i64 1))), none, []⟩,
  ⟨.var 3, .mv (.loc 27), none, []⟩] false
def c_S_RecordOk_8 : ACode := (.seq (.seq c_S_RecordOk_4 (.cond (.var 25) .skip (.exit 0))) (.seq (.block 1 (.seq c_S_RecordOk_5 (.cond (.var 34) (.seq c_S_RecordOk_6 .ret) .skip))) c_S_RecordOk_7))
def c_S_RecordOk_9 : ACode := .reg [⟨.var 4, .mv (.const (.d (.int .i64 0))), none, []⟩] false
def c_S_RecordOk_10 : ACode := .reg [⟨.loc 35, .mv (.var 4), none, []⟩,
  ⟨.loc 36, .fld 2 (.var 1), none, []⟩,
  ⟨.loc 37, .load false 1 (.loc 36), none, []⟩,
  ⟨.loc 38, .len false (.loc 37), none, []⟩,
  ⟨.var 39, .bin .int .lss (.loc 35) (.loc 38), none, []⟩] false
def c_S_RecordOk_11 : ACode := .reg [⟨.loc 42, .fld 2 (.var 1), none, []⟩,
  ⟨.loc 43, .load false 1 (.loc 42), none, []⟩,
  ⟨.loc 44, .mv (.var 4), none, []⟩,
  ⟨.loc 45, .idxA 1 (.loc 43) (.loc 44), none, []⟩,
  ⟨.loc 46, .load false 1 (.loc 45), none, []⟩,
  ⟨.loc 47, .len true (.loc 46), none, []⟩,
  ⟨.var 48, .bin .int .gtr (.loc 47) (.const (.d (.int .i64 300))), none, []⟩] false
def c_S_RecordOk_12 : ACode := .reg [⟨.var 2, .mv (.const (.d (.bool false))), none, []⟩] false
def c_S_RecordOk_13 : ACode := .reg [⟨.loc 40, .mv (.var 4), none, []⟩,
  ⟨.loc 41, .bin .int .add (.loc 40) (.const (.d (.int .i64 1))), none, []⟩,
  ⟨.var 4, .mv (.loc 41), none, []⟩] false
def c_S_RecordOk_14 : ACode := (.seq (.seq c_S_RecordOk_10 (.cond (.var 39) .skip (.exit 2))) (.seq (.block 3 (.seq c_S_RecordOk_11 (.cond (.var 48) (.seq c_S_RecordOk_12 .ret) .skip))) c_S_RecordOk_13))
def c_S_RecordOk_15 : ACode := .reg [⟨.var 2, .mv (.const (.d (.bool true))), none, []⟩] false
def c_S_RecordOk : ACode := (.seq c_S_RecordOk_0 (.seq (.seq c_S_RecordOk_1 (.cond (.var 20) (.seq c_S_RecordOk_2 .ret) .skip)) (.seq (.seq c_S_RecordOk_3 (.block 0 (.loop [1, 3] c_S_RecordOk_8))) (.seq (.seq c_S_RecordOk_9 (.block 2 (.loop [1, 4] c_S_RecordOk_14))) (.seq c_S_RecordOk_15 .ret)))))

abbrev F_S_RecordOk : FuncId := 26

theorem k_S_RecordOk : comp PP (Try.f26.ntmps, pinOf 0 [none]) [0, 1, 2, 3, 4, 20, 25, 34, 39, 48] (Try.f26.body.getD .skip) = some c_S_RecordOk.erase := by kernel_rfl

theorem v_S_RecordOk (rcs : List C) {cs : List C} {r : C} {os : List (Option C)} (hN : (cs.length == 1 && rcs.length == 1) = true) (hret : retOf rcs = r)
    (hW : W PP [0, 1, 2, 3, 4, 20, 25, 34, 39, 48] (Try.f26.ntmps, pinOf 0 [none]) (Valid PP) c_S_RecordOk (entry cs) (Fin (Valid PP) [(.give, 2, none)] [none] rcs os) (fun _ _ => False) (Fin (Valid PP) [(.give, 2, none)] [none] rcs os)) : Valid PP F_S_RecordOk cs r os :=
  fn_valid_n 1 1 [0, 1, 2, 3, 4, 20, 25, 34, 39, 48] c_S_RecordOk [(.give, 2, none)] [none] rcs Try.func26 rfl rfl (by kernel_rfl) k_S_RecordOk rfl rfl hN hret hW


/-
loop.example/g00705/laws.toIntS  params 1+0 results [2]
  seq  mid=[0]
    c_L_toIntS_0
    seq  mid=[0, 3]
      c_L_toIntS_1
      seq  mid=[3]
        seq  mid=[0, 3, 4]
          c_L_toIntS_2
          block 0
            loop live=[0, 3, 4]
              seq  mid=[0, 3, 4]
                seq  mid=[0, 3, 4, 11]
                  c_L_toIntS_3
                  cond (.var 11)
                    skip
                    exit 0
                seq  mid=[0, 3, 4]
                  block 1
                    c_L_toIntS_4
                  c_L_toIntS_5
        seq  mid=[2]
          c_L_toIntS_7
          ret
-/
def c_L_toIntS_0 : ACode := .reg [⟨.var 2, .mv (.const (.nil 0 1)), none, []⟩] false
def c_L_toIntS_1 : ACode := .reg [⟨.loc 5, .mv (.var 0), none, []⟩,
  ⟨.loc 6, .len false (.loc 5), none, []⟩,
  ⟨.loc 7, .mkslice 0 1 8 [.int .i64 0] (.loc 6) (.loc 6), none, []⟩,
  ⟨.var 3, .mv (.loc 7), none, []⟩] false
def c_L_toIntS_2 : ACode := .reg [⟨.var 4, .mv (.const (.d (.int .i64 0))), none, []⟩] false
def c_L_toIntS_3 : ACode := .reg [⟨.loc 8, .mv (.var 4), none, []⟩,
  ⟨.loc 9, .mv (.var 0), none, []⟩,
  ⟨.loc 10, .len false (.loc 9), none, []⟩,
  ⟨.var 11, .bin .int .lss (.loc 8) (.loc 10), none, []⟩] false
def c_L_toIntS_4 : ACode := .reg [⟨.loc 14, .mv (.var 3), none, []⟩,
  ⟨.loc 15, .mv (.var 4), none, []⟩,
  ⟨.loc 16, .mv (.var 0), none, []⟩,
  ⟨.loc 17, .mv (.var 4), none, []⟩,
  ⟨.loc 18, .idxA 1 (.loc 16) (.loc 17), none, []⟩,
  ⟨.loc 19, .load false 1 (.loc 18), none, []⟩,
  ⟨.loc 20, .idxA 1 (.loc 14) (.loc 15), none, []⟩,
  ⟨.none, .store 1 (.loc 20) (.loc 19), none, []⟩] false
def c_L_toIntS_5 : ACode := .reg [⟨.loc 12, .mv (.var 4), none, []⟩,
  ⟨.loc 13, .bin .int .add (.loc 12) (.const (.d (.int .i64 1))), none, []⟩,
  ⟨.var 4, .mv (.loc 13), none, []⟩] false
def c_L_toIntS_6 : ACode := (.seq (.seq c_L_toIntS_3 (.cond (.var 11) .skip (.exit 0))) (.seq (.block 1 c_L_toIntS_4) c_L_toIntS_5))
def c_L_toIntS_7 : ACode := .reg [⟨.loc 21, .mv (.var 3), none, []⟩,
  ⟨.var 2, .mv (.loc 21), none, []⟩] false
def c_L_toIntS : ACode := (.seq c_L_toIntS_0 (.seq c_L_toIntS_1 (.seq (.seq c_L_toIntS_2 (.block 0 (.loop [0, 3, 4] c_L_toIntS_6))) (.seq c_L_toIntS_7 .ret))))

abbrev F_L_toIntS : FuncId := 27

theorem k_L_toIntS : comp PP (Try.f27.ntmps, pinOf 0 [none]) [0, 2, 3, 4, 11] (Try.f27.body.getD .skip) = some c_L_toIntS.erase := by kernel_rfl

theorem v_L_toIntS (rcs : List C) {cs : List C} {r : C} {os : List (Option C)} (hN : (cs.length == 1 && rcs.length == 1) = true) (hret : retOf rcs = r)
    (hW : W PP [0, 2, 3, 4, 11] (Try.f27.ntmps, pinOf 0 [none]) (Valid PP) c_L_toIntS (entry cs) (Fin (Valid PP) [(.give, 2, none)] [none] rcs os) (fun _ _ => False) (Fin (Valid PP) [(.give, 2, none)] [none] rcs os)) : Valid PP F_L_toIntS cs r os :=
  fn_valid_n 1 1 [0, 2, 3, 4, 11] c_L_toIntS [(.give, 2, none)] [none] rcs Try.func27 rfl rfl (by kernel_rfl) k_L_toIntS rfl rfl hN hret hW


/-
loop.example/g00705/laws.toStringS  params 1+0 results [2]
  seq  mid=[0]
    c_L_toStringS_0
    seq  mid=[0, 3]
      c_L_toStringS_1
      seq  mid=[3]
        seq  mid=[0, 3, 4]
          c_L_toStringS_2
          block 0
            loop live=[0, 3, 4]
              seq  mid=[0, 3, 4]
                seq  mid=[0, 3, 4, 11]
                  c_L_toStringS_3
                  cond (.var 11)
                    skip
                    exit 0
                seq  mid=[0, 3, 4]
                  block 1
                    c_L_toStringS_4
                  c_L_toStringS_5
        seq  mid=[2]
          c_L_toStringS_7
          ret
-/
def c_L_toStringS_0 : ACode := .reg [⟨.var 2, .mv (.const (.nil 0 1)), none, []⟩] false
def c_L_toStringS_1 : ACode := .reg [⟨.loc 5, .mv (.var 0), none, []⟩,
  ⟨.loc 6, .len false (.loc 5), none, []⟩,
  ⟨.loc 7, .mkslice 0 1 16 [.str []] (.loc 6) (.loc 6), none, []⟩,
  ⟨.var 3, .mv (.loc 7), none, []⟩] false
def c_L_toStringS_2 : ACode := .reg [⟨.var 4, .mv (.const (.d (.int .i64 0))), none, []⟩] false
def c_L_toStringS_3 : ACode := .reg [⟨.loc 8, .mv (.var 4), none, []⟩,
  ⟨.loc 9, .mv (.var 0), none, []⟩,
  ⟨.loc 10, .len false (.loc 9), none, []⟩,
  ⟨.var 11, .bin .int .lss (.loc 8) (.loc 10), none, []⟩] false
def c_L_toStringS_4 : ACode := .reg [⟨.loc 14, .mv (.var 3), none, []⟩,
  ⟨.loc 15, .mv (.var 4), none, []⟩,
  ⟨.loc 16, .mv (.var 0), none, []⟩,
  ⟨.loc 17, .mv (.var 4), none, []⟩,
  ⟨.loc 18, .idxA 1 (.loc 16) (.loc 17), none, []⟩,
  ⟨.loc 19, .load false 1 (.loc 18), none, []⟩,
  ⟨.loc 20, .idxA 1 (.loc 14) (.loc 15), none, []⟩,
  ⟨.none, .store 1 (.loc 20) (.loc 19), none, []⟩] false
def c_L_toStringS_5 : ACode := .reg [⟨.loc 12, .mv (.var 4), none, []⟩,
  ⟨.loc 13, .bin .int .add (.loc 12) (.const (.d (.int .i64 1))), none, []⟩,
  ⟨.var 4, .mv (.loc 13), none, []⟩] false
def c_L_toStringS_6 : ACode := (.seq (.seq c_L_toStringS_3 (.cond (.var 11) .skip (.exit 0))) (.seq (.block 1 c_L_toStringS_4) c_L_toStringS_5))
def c_L_toStringS_7 : ACode := .reg [⟨.loc 21, .mv (.var 3), none, []⟩,
  ⟨.var 2, .mv (.loc 21), none, []⟩] false
def c_L_toStringS : ACode := (.seq c_L_toStringS_0 (.seq c_L_toStringS_1 (.seq (.seq c_L_toStringS_2 (.block 0 (.loop [0, 3, 4] c_L_toStringS_6))) (.seq c_L_toStringS_7 .ret))))

abbrev F_L_toStringS : FuncId := 28

theorem k_L_toStringS : comp PP (Try.f28.ntmps, pinOf 0 [none]) [0, 2, 3, 4, 11] (Try.f28.body.getD .skip) = some c_L_toStringS.erase := by kernel_rfl

theorem v_L_toStringS (rcs : List C) {cs : List C} {r : C} {os : List (Option C)} (hN : (cs.length == 1 && rcs.length == 1) = true) (hret : retOf rcs = r)
    (hW : W PP [0, 2, 3, 4, 11] (Try.f28.ntmps, pinOf 0 [none]) (Valid PP) c_L_toStringS (entry cs) (Fin (Valid PP) [(.give, 2, none)] [none] rcs os) (fun _ _ => False) (Fin (Valid PP) [(.give, 2, none)] [none] rcs os)) : Valid PP F_L_toStringS cs r os :=
  fn_valid_n 1 1 [0, 2, 3, 4, 11] c_L_toStringS [(.give, 2, none)] [none] rcs Try.func28 rfl rfl (by kernel_rfl) k_L_toStringS rfl rfl hN hret hW


/-
loop.example/g00705/impl.isRecord  params 1+0 results [2]
  seq  mid=[1]
    c_I_isRecord_0
    seq  mid=[2]
      c_I_isRecord_1
      ret
-/
def c_I_isRecord_0 : ACode := .reg [⟨.var 1, .box (.var 0), none, []⟩,
  ⟨.var 2, .mv (.const (.d (.bool false))), none, []⟩] false
def c_I_isRecord_1 : ACode := .reg [⟨.loc 3, .fld 0 (.var 1), none, []⟩,
  ⟨.loc 4, .load false 1 (.loc 3), none, []⟩,
  ⟨.loc 5, .call (.fn 35) [(.loc 4), (.const (.d (.int .i64 0))), (.const (.d (.int .i64 99)))] [.borrow, .borrow, .borrow], none, []⟩,
  ⟨.loc 6, .split (.loc 5), none, []⟩,
  ⟨.loc 7, .fld 1 (.var 1), some ((.loc 6), true), []⟩,
  ⟨.loc 8, .load false 1 (.loc 7), some ((.loc 6), true), []⟩,
  ⟨.loc 9, .len false (.loc 8), some ((.loc 6), true), []⟩,
  ⟨.loc 10, .bin .int .leq (.loc 9) (.const (.d (.int .i64 40))), some ((.loc 6), true), []⟩,
  ⟨.loc 11, .pick (.loc 6) (.loc 10) (.const (.d (.bool false))), none, []⟩,
  ⟨.loc 12, .split (.loc 11), none, []⟩,
  ⟨.loc 13, .fld 2 (.var 1), some ((.loc 12), true), []⟩,
  ⟨.loc 14, .load false 1 (.loc 13), some ((.loc 12), true), []⟩,
  ⟨.loc 15, .len false (.loc 14), some ((.loc 12), true), []⟩,
  ⟨.loc 16, .bin .int .leq (.loc 15) (.const (.d (.int .i64 40))), some ((.loc 12), true), []⟩,
  ⟨.loc 17, .pick (.loc 12) (.loc 16) (.const (.d (.bool false))), none, []⟩,
  ⟨.loc 18, .split (.loc 17), none, []⟩,
  ⟨.loc 19, .fld 1 (.var 1), some ((.loc 18), true), []⟩,
  ⟨.loc 20, .load false 1 (.loc 19), some ((.loc 18), true), []⟩,
  ⟨.loc 21, .call (.fn 40) [(.loc 20), (.fn 41)] [.borrow, .borrow], some ((.loc 18), true), []⟩,
  ⟨.loc 22, .un .not (.loc 21), some ((.loc 18), true), []⟩,
  ⟨.loc 23, .pick (.loc 18) (.loc 22) (.const (.d (.bool false))), none, []⟩,
  ⟨.loc 24, .split (.loc 23), none, []⟩,
  ⟨.loc 25, .fld 2 (.var 1), some ((.loc 24), true), []⟩,
  ⟨.loc 26, .load false 1 (.loc 25), some ((.loc 24), true), []⟩,
  ⟨.loc 27, .call (.fn 42) [(.loc 26), (.fn 43)] [.borrow, .borrow], some ((.loc 24), true), []⟩,
  ⟨.loc 28, .un .not (.loc 27), some ((.loc 24), true), []⟩,
  ⟨.loc 29, .pick (.loc 24) (.loc 28) (.const (.d (.bool false))), none, []⟩,
  ⟨.var 2, .mv (.loc 29), none, []⟩] false
def c_I_isRecord : ACode := (.seq c_I_isRecord_0 (.seq c_I_isRecord_1 .ret))

abbrev F_I_isRecord : FuncId := 29

theorem k_I_isRecord : comp PP (Try.f29.ntmps, pinOf 0 [none]) [0, 1, 2] (Try.f29.body.getD .skip) = some c_I_isRecord.erase := by kernel_rfl

theorem v_I_isRecord (rcs : List C) {cs : List C} {r : C} {os : List (Option C)} (hN : (cs.length == 1 && rcs.length == 1) = true) (hret : retOf rcs = r)
    (hW : W PP [0, 1, 2] (Try.f29.ntmps, pinOf 0 [none]) (Valid PP) c_I_isRecord (entry cs) (Fin (Valid PP) [(.give, 2, none)] [none] rcs os) (fun _ _ => False) (Fin (Valid PP) [(.give, 2, none)] [none] rcs os)) : Valid PP F_I_isRecord cs r os :=
  fn_valid_n 1 1 [0, 1, 2] c_I_isRecord [(.give, 2, none)] [none] rcs Try.func29 rfl rfl (by kernel_rfl) k_I_isRecord rfl rfl hN hret hW


/-
loop.example/g00705/impl.isReqRecord  params 1+0 results [2]
  seq  mid=[1]
    c_I_isReqRecord_0
    seq  mid=[2]
      c_I_isReqRecord_1
      ret
-/
def c_I_isReqRecord_0 : ACode := .reg [⟨.var 1, .box (.var 0), none, []⟩,
  ⟨.var 2, .mv (.const (.d (.bool false))), none, []⟩] false
def c_I_isReqRecord_1 : ACode := .reg [⟨.loc 3, .fld 0 (.var 1), none, []⟩,
  ⟨.loc 4, .load false 1 (.loc 3), none, []⟩,
  ⟨.loc 5, .call (.fn 35) [(.loc 4), (.const (.d (.int .i64 0))), (.const (.d (.int .i64 13)))] [.borrow, .borrow, .borrow], none, []⟩,
  ⟨.loc 6, .split (.loc 5), none, []⟩,
  ⟨.loc 7, .fld 1 (.var 1), some ((.loc 6), true), []⟩,
  ⟨.loc 8, .load false 1 (.loc 7), some ((.loc 6), true), []⟩,
  ⟨.loc 9, .len false (.loc 8), some ((.loc 6), true), []⟩,
  ⟨.loc 10, .bin .int .eql (.loc 9) (.const (.d (.int .i64 2))), some ((.loc 6), true), []⟩,
  ⟨.loc 11, .pick (.loc 6) (.loc 10) (.const (.d (.bool false))), none, []⟩,
  ⟨.loc 12, .split (.loc 11), none, []⟩,
  ⟨.loc 13, .fld 2 (.var 1), some ((.loc 12), true), []⟩,
  ⟨.loc 14, .load false 1 (.loc 13), some ((.loc 12), true), []⟩,
  ⟨.loc 15, .len false (.loc 14), some ((.loc 12), true), []⟩,
  ⟨.loc 16, .bin .int .eql (.loc 15) (.const (.d (.int .i64 3))), some ((.loc 12), true), []⟩,
  ⟨.loc 17, .pick (.loc 12) (.loc 16) (.const (.d (.bool false))), none, []⟩,
  ⟨.var 2, .mv (.loc 17), none, []⟩] false
def c_I_isReqRecord : ACode := (.seq c_I_isReqRecord_0 (.seq c_I_isReqRecord_1 .ret))

abbrev F_I_isReqRecord : FuncId := 30

theorem k_I_isReqRecord : comp PP (Try.f30.ntmps, pinOf 0 [none]) [0, 1, 2] (Try.f30.body.getD .skip) = some c_I_isReqRecord.erase := by kernel_rfl

theorem v_I_isReqRecord (rcs : List C) {cs : List C} {r : C} {os : List (Option C)} (hN : (cs.length == 1 && rcs.length == 1) = true) (hret : retOf rcs = r)
    (hW : W PP [0, 1, 2] (Try.f30.ntmps, pinOf 0 [none]) (Valid PP) c_I_isReqRecord (entry cs) (Fin (Valid PP) [(.give, 2, none)] [none] rcs os) (fun _ _ => False) (Fin (Valid PP) [(.give, 2, none)] [none] rcs os)) : Valid PP F_I_isReqRecord cs r os :=
  fn_valid_n 1 1 [0, 1, 2] c_I_isReqRecord [(.give, 2, none)] [none] rcs Try.func30 rfl rfl (by kernel_rfl) k_I_isReqRecord rfl rfl hN hret hW


/-
loop.example/g00705/impl.reqOf  params 1+0 results [2]
  seq  mid=[1, 2]
    c_I_reqOf_0
    seq  mid=[2]
      c_I_reqOf_1 DRAW
      ret
-/
def c_I_reqOf_0 : ACode := .reg [⟨.var 1, .box (.var 0), none, []⟩,
  ⟨.var 2, .alloc [.d (.int .i64 0), .d (.int .i64 0), .d (.str []), .d (.str []), .d (.str []), .d (.int .i64 0)], none, []⟩] false
def c_I_reqOf_1 : ACode := .reg [⟨.loc 3, .fld 0 (.var 1), none, []⟩,
  ⟨.loc 4, .load false 1 (.loc 3), none, [0]⟩,
  ⟨.loc 5, .fld 1 (.var 1), none, []⟩,
  ⟨.loc 6, .load false 1 (.loc 5), none, [2]⟩,
  ⟨.loc 7, .idxA 1 (.loc 6) (.const (.d (.int .i64 0))), none, [3, 2]⟩,
  ⟨.loc 8, .load false 1 (.loc 7), none, [4, 3, 2]⟩,
  ⟨.loc 9, .fld 2 (.var 1), none, []⟩,
  ⟨.loc 10, .load false 1 (.loc 9), none, [6]⟩,
  ⟨.loc 11, .idxA 1 (.loc 10) (.const (.d (.int .i64 0))), none, [7, 6]⟩,
  ⟨.loc 12, .load false 1 (.loc 11), none, [8, 7, 6]⟩,
  ⟨.loc 13, .fld 2 (.var 1), none, []⟩,
  ⟨.loc 14, .load false 1 (.loc 13), none, [10]⟩,
  ⟨.loc 15, .idxA 1 (.loc 14) (.const (.d (.int .i64 1))), none, [11, 10]⟩,
  ⟨.loc 16, .load false 1 (.loc 15), none, [12, 11, 10]⟩,
  ⟨.loc 17, .fld 2 (.var 1), none, []⟩,
  ⟨.loc 18, .load false 1 (.loc 17), none, [14]⟩,
  ⟨.loc 19, .idxA 1 (.loc 18) (.const (.d (.int .i64 2))), none, [15, 14]⟩,
  ⟨.loc 20, .load false 1 (.loc 19), none, [16, 15, 14]⟩,
  ⟨.loc 21, .fld 1 (.var 1), none, []⟩,
  ⟨.loc 22, .load false 1 (.loc 21), none, [18]⟩,
  ⟨.loc 23, .idxA 1 (.loc 22) (.const (.d (.int .i64 1))), none, [19, 18]⟩,
  ⟨.loc 24, .load false 1 (.loc 23), none, [20, 19, 18]⟩,
  ⟨.loc 25, .build [.d (.int .i64 0), .d (.int .i64 0), .d (.str []), .d (.str []), .d (.str []), .d (.int .i64 0)] [(0, 1, (.loc 4)), (1, 1, (.loc 8)), (2, 1, (.loc 12)), (3, 1, (.loc 16)), (4, 1, (.loc 20)), (5, 1, (.loc 24))], none, [1, 0, 5, 4, 3, 2, 9, 8, 7, 6, 13, 12, 11, 10, 17, 16, 15, 14, 21, 20, 19, 18]⟩,
  ⟨.none, .store 6 (.var 2) (.loc 25), none, [22, 1, 0, 5, 4, 3, 2, 9, 8, 7, 6, 13, 12, 11, 10, 17, 16, 15, 14, 21, 20, 19, 18]⟩] true
def c_I_reqOf : ACode := (.seq c_I_reqOf_0 (.seq c_I_reqOf_1 .ret))

abbrev F_I_reqOf : FuncId := 31

theorem k_I_reqOf : comp PP (Try.f31.ntmps, pinOf 0 [none]) [0, 1, 2] (Try.f31.body.getD .skip) = some c_I_reqOf.erase := by kernel_rfl

theorem v_I_reqOf (rcs : List C) {cs : List C} {r : C} {os : List (Option C)} (hN : (cs.length == 1 && rcs.length == 1) = true) (hret : retOf rcs = r)
    (hW : W PP [0, 1, 2] (Try.f31.ntmps, pinOf 0 [none]) (Valid PP) c_I_reqOf (entry cs) (Fin (Valid PP) [(.give, 2, some (true, 6))] [none] rcs os) (fun _ _ => False) (Fin (Valid PP) [(.give, 2, some (true, 6))] [none] rcs os)) : Valid PP F_I_reqOf cs r os :=
  fn_valid_n 1 1 [0, 1, 2] c_I_reqOf [(.give, 2, some (true, 6))] [none] rcs Try.func31 rfl rfl (by kernel_rfl) k_I_reqOf rfl rfl hN hret hW


/-
loop.example/g00705/laws.eqIntS  params 2+0 results [4]
  seq  mid=[0, 1]
    c_L_eqIntS_0
    seq  mid=[0, 1]
      seq  mid=[0, 1, 10]
        c_L_eqIntS_1
        cond (.var 10)
          seq  mid=[4]
            c_L_eqIntS_2
            ret
          skip
      seq  mid=[]
        seq  mid=[0, 1, 5]
          c_L_eqIntS_3
          block 0
            loop live=[0, 1, 5]
              seq  mid=[0, 1, 5]
                seq  mid=[0, 1, 5, 14]
                  c_L_eqIntS_4
                  cond (.var 14)
                    skip
                    exit 0
                seq  mid=[0, 1, 5]
                  block 1
                    seq  mid=[0, 1, 5, 25]
                      c_L_eqIntS_5 DRAW
                      cond (.var 25)
                        seq  mid=[4]
                          c_L_eqIntS_6
                          ret
                        skip
                  c_L_eqIntS_7
        seq  mid=[4]
          c_L_eqIntS_9
          ret
-/
def c_L_eqIntS_0 : ACode := .reg [⟨.var 4, .mv (.const (.d (.bool false))), none, []⟩] false
def c_L_eqIntS_1 : ACode := .reg [⟨.loc 6, .mv (.var 0), none, []⟩,
  ⟨.loc 7, .len false (.loc 6), none, []⟩,
  ⟨.loc 8, .mv (.var 1), none, []⟩,
  ⟨.loc 9, .len false (.loc 8), none, []⟩,
  ⟨.var 10, .bin .int .neq (.loc 7) (.loc 9), none, []⟩] false
def c_L_eqIntS_2 : ACode := .reg [⟨.var 4, .mv (.const (.d (.bool false))), none, []⟩] false
def c_L_eqIntS_3 : ACode := .reg [⟨.var 5, .mv (.const (.d (.int .i64 0))), none, []⟩] false
def c_L_eqIntS_4 : ACode := .reg [⟨.loc 11, .mv (.var 5), none, []⟩,
  ⟨.loc 12, .mv (.var 0), none, []⟩,
  ⟨.loc 13, .len false (.loc 12), none, []⟩,
  ⟨.var 14, .bin .int .lss (.loc 11) (.loc 13), none, []⟩] false
def c_L_eqIntS_5 : ACode := .reg [⟨.loc 17, .mv (.var 0), none, []⟩,
  ⟨.loc 18, .mv (.var 5), none, []⟩,
  ⟨.loc 19, .idxA 1 (.loc 17) (.loc 18), none, [0, 1]⟩,
  ⟨.loc 20, .load false 1 (.loc 19), none, [2, 0, 1]⟩,
  ⟨.loc 21, .mv (.var 1), none, []⟩,
  ⟨.loc 22, .mv (.var 5), none, []⟩,
  ⟨.loc 23, .idxA 1 (.loc 21) (.loc 22), none, [4, 5]⟩,
  ⟨.loc 24, .load false 1 (.loc 23), none, [6, 4, 5]⟩,
  ⟨.var 25, .bin .int .neq (.loc 20) (.loc 24), none, [3, 2, 0, 1, 7, 6, 4, 5]⟩] true
def c_L_eqIntS_6 : ACode := .reg [⟨.var 4, .mv (.const (.d (.bool false))), none, []⟩] false
def c_L_eqIntS_7 : ACode := .reg [⟨.loc 15, .mv (.var 5), none, []⟩,
  ⟨.loc 16, .bin .int .add (.loc 15) (.const (.d (.int .i64 1))), none, []⟩,
  ⟨.var 5, .mv (.loc 16), none, []⟩] false
def c_L_eqIntS_8 : ACode := (.seq (.seq c_L_eqIntS_4 (.cond (.var 14) .skip (.exit 0))) (.seq (.block 1 (.seq c_L_eqIntS_5 (.cond (.var 25) (.seq c_L_eqIntS_6 .ret) .skip))) c_L_eqIntS_7))
def c_L_eqIntS_9 : ACode := .reg [⟨.var 4, .mv (.const (.d (.bool true))), none, []⟩] false
def c_L_eqIntS : ACode := (.seq c_L_eqIntS_0 (.seq (.seq c_L_eqIntS_1 (.cond (.var 10) (.seq c_L_eqIntS_2 .ret) .skip)) (.seq (.seq c_L_eqIntS_3 (.block 0 (.loop [0, 1, 5] c_L_eqIntS_8))) (.seq c_L_eqIntS_9 .ret))))

abbrev F_L_eqIntS : FuncId := 32

theorem k_L_eqIntS : comp PP (Try.f32.ntmps, pinOf 0 [none, none]) [0, 1, 4, 5, 10, 14, 25] (Try.f32.body.getD .skip) = some c_L_eqIntS.erase := by kernel_rfl

theorem v_L_eqIntS (rcs : List C) {cs : List C} {r : C} {os : List (Option C)} (hN : (cs.length == 2 && rcs.length == 1) = true) (hret : retOf rcs = r)
    (hW : W PP [0, 1, 4, 5, 10, 14, 25] (Try.f32.ntmps, pinOf 0 [none, none]) (Valid PP) c_L_eqIntS (entry cs) (Fin (Valid PP) [(.give, 4, none)] [none, none] rcs os) (fun _ _ => False) (Fin (Valid PP) [(.give, 4, none)] [none, none] rcs os)) : Valid PP F_L_eqIntS cs r os :=
  fn_valid_n 2 1 [0, 1, 4, 5, 10, 14, 25] c_L_eqIntS [(.give, 4, none)] [none, none] rcs Try.func32 rfl rfl (by kernel_rfl) k_L_eqIntS rfl rfl hN hret hW


/-
loop.example/g00705/laws.eqStringS  params 2+0 results [4]
  seq  mid=[0, 1]
    c_L_eqStringS_0
    seq  mid=[0, 1]
      seq  mid=[0, 1, 10]
        c_L_eqStringS_1
        cond (.var 10)
          seq  mid=[4]
            c_L_eqStringS_2
            ret
          skip
      seq  mid=[]
        seq  mid=[0, 1, 5]
          c_L_eqStringS_3
          block 0
            loop live=[0, 1, 5]
              seq  mid=[0, 1, 5]
                seq  mid=[0, 1, 5, 14]
                  c_L_eqStringS_4
                  cond (.var 14)
                    skip
                    exit 0
                seq  mid=[0, 1, 5]
                  block 1
                    seq  mid=[0, 1, 5, 25]
                      c_L_eqStringS_5 DRAW
                      cond (.var 25)
                        seq  mid=[4]
                          c_L_eqStringS_6
                          ret
                        skip
                  c_L_eqStringS_7
        seq  mid=[4]
          c_L_eqStringS_9
          ret
-/
def c_L_eqStringS_0 : ACode := .reg [⟨.var 4, .mv (.const (.d (.bool false))), none, []⟩] false
def c_L_eqStringS_1 : ACode := .reg [⟨.loc 6, .mv (.var 0), none, []⟩,
  ⟨.loc 7, .len false (.loc 6), none, []⟩,
  ⟨.loc 8, .mv (.var 1), none, []⟩,
  ⟨.loc 9, .len false (.loc 8), none, []⟩,
  ⟨.var 10, .bin .int .neq (.loc 7) (.loc 9), none, []⟩] false
def c_L_eqStringS_2 : ACode := .reg [⟨.var 4, .mv (.const (.d (.bool false))), none, []⟩] false
def c_L_eqStringS_3 : ACode := .reg [⟨.var 5, .mv (.const (.d (.int .i64 0))), none, []⟩] false
def c_L_eqStringS_4 : ACode := .reg [⟨.loc 11, .mv (.var 5), none, []⟩,
  ⟨.loc 12, .mv (.var 0), none, []⟩,
  ⟨.loc 13, .len false (.loc 12), none, []⟩,
  ⟨.var 14, .bin .int .lss (.loc 11) (.loc 13), none, []⟩] false
def c_L_eqStringS_5 : ACode := .reg [⟨.loc 17, .mv (.var 0), none, []⟩,
  ⟨.loc 18, .mv (.var 5), none, []⟩,
  ⟨.loc 19, .idxA 1 (.loc 17) (.loc 18), none, [0, 1]⟩,
  ⟨.loc 20, .load false 1 (.loc 19), none, [2, 0, 1]⟩,
  ⟨.loc 21, .mv (.var 1), none, []⟩,
  ⟨.loc 22, .mv (.var 5), none, []⟩,
  ⟨.loc 23, .idxA 1 (.loc 21) (.loc 22), none, [4, 5]⟩,
  ⟨.loc 24, .load false 1 (.loc 23), none, [6, 4, 5]⟩,
  ⟨.var 25, .bin .str .neq (.loc 20) (.loc 24), none, [3, 2, 0, 1, 7, 6, 4, 5]⟩] true
def c_L_eqStringS_6 : ACode := .reg [⟨.var 4, .mv (.const (.d (.bool false))), none, []⟩] false
def c_L_eqStringS_7 : ACode := .reg [⟨.loc 15, .mv (.var 5), none, []⟩,
  ⟨.loc 16, .bin .int .add (.loc 15) (.const (.d (.int .i64 1))), none, []⟩,
  ⟨.var 5, .mv (.loc 16), none, []⟩] false
def c_L_eqStringS_8 : ACode := (.seq (.seq c_L_eqStringS_4 (.cond (.var 14) .skip (.exit 0))) (.seq (.block 1 (.seq c_L_eqStringS_5 (.cond (.var 25) (.seq c_L_eqStringS_6 .ret) .skip))) c_L_eqStringS_7))
def c_L_eqStringS_9 : ACode := .reg [⟨.var 4, .mv (.const (.d (.bool true))), none, []⟩] false
def c_L_eqStringS : ACode := (.seq c_L_eqStringS_0 (.seq (.seq c_L_eqStringS_1 (.cond (.var 10) (.seq c_L_eqStringS_2 .ret) .skip)) (.seq (.seq c_L_eqStringS_3 (.block 0 (.loop [0, 1, 5] c_L_eqStringS_8))) (.seq c_L_eqStringS_9 .ret))))

abbrev F_L_eqStringS : FuncId := 33

theorem k_L_eqStringS : comp PP (Try.f33.ntmps, pinOf 0 [none, none]) [0, 1, 4, 5, 10, 14, 25] (Try.f33.body.getD .skip) = some c_L_eqStringS.erase := by kernel_rfl

theorem v_L_eqStringS (rcs : List C) {cs : List C} {r : C} {os : List (Option C)} (hN : (cs.length == 2 && rcs.length == 1) = true) (hret : retOf rcs = r)
    (hW : W PP [0, 1, 4, 5, 10, 14, 25] (Try.f33.ntmps, pinOf 0 [none, none]) (Valid PP) c_L_eqStringS (entry cs) (Fin (Valid PP) [(.give, 4, none)] [none, none] rcs os) (fun _ _ => False) (Fin (Valid PP) [(.give, 4, none)] [none, none] rcs os)) : Valid PP F_L_eqStringS cs r os :=
  fn_valid_n 2 1 [0, 1, 4, 5, 10, 14, 25] c_L_eqStringS [(.give, 4, none)] [none, none] rcs Try.func33 rfl rfl (by kernel_rfl) k_L_eqStringS rfl rfl hN hret hW


/-
loop.example/g00705/impl.recordOf  params 1+0 results [2]
  seq  mid=[1, 2]
    c_I_recordOf_0
    seq  mid=[2]
      c_I_recordOf_1
      ret
-/
def c_I_recordOf_0 : ACode := .reg [⟨.var 1, .box (.var 0), none, []⟩,
  ⟨.var 2, .alloc [.d (.int .i64 0), .nil 0 1, .nil 0 1], none, []⟩] false
def c_I_recordOf_1 : ACode := .reg [⟨.loc 3, .fld 0 (.var 1), none, []⟩,
  ⟨.loc 4, .load false 1 (.loc 3), none, []⟩,
  ⟨.loc 5, .fld 1 (.var 1), none, []⟩,
  ⟨.loc 6, .load false 1 (.loc 5), none, []⟩,
  ⟨.loc 7, .fld 5 (.var 1), none, []⟩,
  ⟨.loc 8, .load false 1 (.loc 7), none, []⟩,
  ⟨.loc 9, .lit 0 1 2 [.int .i64 0] [(0, (.loc 6)), (1, (.loc 8))], none, []⟩,
  ⟨.loc 10, .fld 2 (.var 1), none, []⟩,
  ⟨.loc 11, .load false 1 (.loc 10), none, []⟩,
  ⟨.loc 12, .fld 3 (.var 1), none, []⟩,
  ⟨.loc 13, .load false 1 (.loc 12), none, []⟩,
  ⟨.loc 14, .fld 4 (.var 1), none, []⟩,
  ⟨.loc 15, .load false 1 (.loc 14), none, []⟩,
  ⟨.loc 16, .lit 0 1 3 [.str []] [(0, (.loc 11)), (1, (.loc 13)), (2, (.loc 15))], none, []⟩,
  ⟨.loc 17, .build [.d (.int .i64 0), .nil 0 1, .nil 0 1] [(0, 1, (.loc 4)), (1, 1, (.loc 9)), (2, 1, (.loc 16))], none, []⟩,
  ⟨.none, .store 3 (.var 2) (.loc 17), none, []⟩] false
def c_I_recordOf : ACode := (.seq c_I_recordOf_0 (.seq c_I_recordOf_1 .ret))

abbrev F_I_recordOf : FuncId := 34

theorem k_I_recordOf : comp PP (Try.f34.ntmps, pinOf 0 [none]) [0, 1, 2] (Try.f34.body.getD .skip) = some c_I_recordOf.erase := by kernel_rfl

theorem v_I_recordOf (rcs : List C) {cs : List C} {r : C} {os : List (Option C)} (hN : (cs.length == 1 && rcs.length == 1) = true) (hret : retOf rcs = r)
    (hW : W PP [0, 1, 2] (Try.f34.ntmps, pinOf 0 [none]) (Valid PP) c_I_recordOf (entry cs) (Fin (Valid PP) [(.give, 2, some (true, 3))] [none] rcs os) (fun _ _ => False) (Fin (Valid PP) [(.give, 2, some (true, 3))] [none] rcs os)) : Valid PP F_I_recordOf cs r os :=
  fn_valid_n 1 1 [0, 1, 2] c_I_recordOf [(.give, 2, some (true, 3))] [none] rcs Try.func34 rfl rfl (by kernel_rfl) k_I_recordOf rfl rfl hN hret hW


/-
loop.example/g00705/impl.within  params 3+0 results [6]
  seq  mid=[0, 1, 2]
    c_I_within_0
    seq  mid=[6]
      c_I_within_1
      ret
-/
def c_I_within_0 : ACode := .reg [⟨.var 6, .mv (.const (.d (.bool false))), none, []⟩] false
def c_I_within_1 : ACode := .reg [⟨.loc 7, .mv (.var 0), none, []⟩,
  ⟨.loc 8, .mv (.var 1), none, []⟩,
  ⟨.loc 9, .bin .int .geq (.loc 7) (.loc 8), none, []⟩,
  ⟨.loc 10, .split (.loc 9), none, []⟩,
  ⟨.loc 11, .mv (.var 0), some ((.loc 10), true), []⟩,
  ⟨.loc 12, .mv (.var 2), some ((.loc 10), true), []⟩,
  ⟨.loc 13, .bin .int .leq (.loc 11) (.loc 12), some ((.loc 10), true), []⟩,
  ⟨.loc 14, .pick (.loc 10) (.loc 13) (.const (.d (.bool false))), none, []⟩,
  ⟨.var 6, .mv (.loc 14), none, []⟩] false
def c_I_within : ACode := (.seq c_I_within_0 (.seq c_I_within_1 .ret))

abbrev F_I_within : FuncId := 35

theorem k_I_within : comp PP (Try.f35.ntmps, pinOf 0 [none, none, none]) [0, 1, 2, 6] (Try.f35.body.getD .skip) = some c_I_within.erase := by kernel_rfl

theorem v_I_within (rcs : List C) {cs : List C} {r : C} {os : List (Option C)} (hN : (cs.length == 3 && rcs.length == 1) = true) (hret : retOf rcs = r)
    (hW : W PP [0, 1, 2, 6] (Try.f35.ntmps, pinOf 0 [none, none, none]) (Valid PP) c_I_within (entry cs) (Fin (Valid PP) [(.give, 6, none)] [none, none, none] rcs os) (fun _ _ => False) (Fin (Valid PP) [(.give, 6, none)] [none, none, none] rcs os)) : Valid PP F_I_within cs r os :=
  fn_valid_n 3 1 [0, 1, 2, 6] c_I_within [(.give, 6, none)] [none, none, none] rcs Try.func35 rfl rfl (by kernel_rfl) k_I_within rfl rfl hN hret hW


/-
loop.example/g00705/laws.markIntS  params 2+0 results [4]
  seq  mid=[0, 1]
    c_L_markIntS_0
    seq  mid=[0, 1]
      seq  mid=[0, 1, 5]
        c_L_markIntS_1
        block 0
          loop live=[0, 1, 5]
            seq  mid=[0, 1, 5]
              seq  mid=[0, 1, 5, 9]
                c_L_markIntS_2
                cond (.var 9)
                  skip
                  exit 0
              seq  mid=[0, 1, 5]
                block 1
                  seq  mid=[0, 1, 5]
                    c_L_markIntS_3
                    c_L_markIntS_4
                c_L_markIntS_5
      seq  mid=[0, 4]
        c_L_markIntS_7
        ret
-/
def c_L_markIntS_0 : ACode := .reg [⟨.var 4, .mv (.const (.d (.int .i64 0))), none, []⟩] false
def c_L_markIntS_1 : ACode := .reg [⟨.var 5, .mv (.const (.d (.int .i64 0))), none, []⟩] false
def c_L_markIntS_2 : ACode := .reg [⟨.loc 6, .mv (.var 5), none, []⟩,
  ⟨.loc 7, .mv (.var 0), none, []⟩,
  ⟨.loc 8, .len false (.loc 7), none, []⟩,
  ⟨.var 9, .bin .int .lss (.loc 6) (.loc 8), none, []⟩] false
def c_L_markIntS_3 : ACode := .reg [⟨.loc 12, .mv (.var 0), none, []⟩,
  ⟨.loc 13, .mv (.var 5), none, []⟩,
  ⟨.loc 14, .mv (.var 1), none, []⟩,
  ⟨.loc 15, .idxA 1 (.loc 12) (.loc 13), none, []⟩,
  ⟨.none, .store 1 (.loc 15) (.loc 14), none, []⟩] false
def c_L_markIntS_4 : ACode := .reg [⟨.loc 16, .mv (.var 1), none, []⟩,
  ⟨.loc 17, .bin .int .add (.loc 16) (.const (.d (.int .i64 1))), none, []⟩,
  ⟨.var 1, .mv (.loc 17), none, []⟩] false
def c_L_markIntS_5 : ACode := .reg [⟨.loc 10, .mv (.var 5), none, []⟩,
  ⟨.loc 11, .bin .int .add (.loc 10) (.const (.d (.int .i64 1))), none, []⟩,
  ⟨.var 5, .mv (.loc 11), none, []⟩] false
def c_L_markIntS_6 : ACode := (.seq (.seq c_L_markIntS_2 (.cond (.var 9) .skip (.exit 0))) (.seq (.block 1 (.seq c_L_markIntS_3 c_L_markIntS_4)) c_L_markIntS_5))
def c_L_markIntS_7 : ACode := .reg [⟨.loc 18, .mv (.var 1), none, []⟩,
  ⟨.var 4, .mv (.loc 18), none, []⟩] false
def c_L_markIntS : ACode := (.seq c_L_markIntS_0 (.seq (.seq c_L_markIntS_1 (.block 0 (.loop [0, 1, 5] c_L_markIntS_6))) (.seq c_L_markIntS_7 .ret)))

abbrev F_L_markIntS : FuncId := 36

theorem k_L_markIntS : comp PP (Try.f36.ntmps, pinOf 0 [some .give, none]) [0, 1, 4, 5, 9] (Try.f36.body.getD .skip) = some c_L_markIntS.erase := by kernel_rfl

theorem v_L_markIntS (rcs : List C) {cs : List C} {r : C} {os : List (Option C)} (hN : (cs.length == 2 && rcs.length == 1) = true) (hret : retOf rcs = r)
    (hW : W PP [0, 1, 4, 5, 9] (Try.f36.ntmps, pinOf 0 [some .give, none]) (Valid PP) c_L_markIntS (entry cs) (Fin (Valid PP) [(.give, 4, none)] [some .give, none] rcs os) (fun _ _ => False) (Fin (Valid PP) [(.give, 4, none)] [some .give, none] rcs os)) : Valid PP F_L_markIntS cs r os :=
  fn_valid_n 2 1 [0, 1, 4, 5, 9] c_L_markIntS [(.give, 4, none)] [some .give, none] rcs Try.func36 rfl rfl (by kernel_rfl) k_L_markIntS rfl rfl hN hret hW


/-
loop.example/g00705/laws.markStringS  params 2+0 results [4]
  seq  mid=[0, 1]
    c_L_markStringS_0
    seq  mid=[0, 1]
      seq  mid=[0, 1, 5]
        c_L_markStringS_1
        block 0
          loop live=[0, 1, 5]
            seq  mid=[0, 1, 5]
              seq  mid=[0, 1, 5, 9]
                c_L_markStringS_2
                cond (.var 9)
                  skip
                  exit 0
              seq  mid=[0, 1, 5]
                block 1
                  seq  mid=[0, 1, 5]
                    c_L_markStringS_3
                    c_L_markStringS_4
                c_L_markStringS_5
      seq  mid=[0, 4]
        c_L_markStringS_7
        ret
-/
def c_L_markStringS_0 : ACode := .reg [⟨.var 4, .mv (.const (.d (.int .i64 0))), none, []⟩] false
def c_L_markStringS_1 : ACode := .reg [⟨.var 5, .mv (.const (.d (.int .i64 0))), none, []⟩] false
def c_L_markStringS_2 : ACode := .reg [⟨.loc 6, .mv (.var 5), none, []⟩,
  ⟨.loc 7, .mv (.var 0), none, []⟩,
  ⟨.loc 8, .len false (.loc 7), none, []⟩,
  ⟨.var 9, .bin .int .lss (.loc 6) (.loc 8), none, []⟩] false
def c_L_markStringS_3 : ACode := .reg [⟨.loc 12, .mv (.var 0), none, []⟩,
  ⟨.loc 13, .mv (.var 5), none, []⟩,
  ⟨.loc 14, .mv (.var 1), none, []⟩,
  ⟨.loc 15, .call (.fn 44) [(.loc 14)] [.borrow], none, []⟩,
  ⟨.loc 16, .idxA 1 (.loc 12) (.loc 13), none, []⟩,
  ⟨.none, .store 1 (.loc 16) (.loc 15), none, []⟩] false
def c_L_markStringS_4 : ACode := .reg [⟨.loc 17, .mv (.var 1), none, []⟩,
  ⟨.loc 18, .bin .int .add (.loc 17) (.const (.d (.int .i64 1))), none, []⟩,
  ⟨.var 1, .mv (.loc 18), none, []⟩] false
def c_L_markStringS_5 : ACode := .reg [⟨.loc 10, .mv (.var 5), none, []⟩,
  ⟨.loc 11, .bin .int .add (.loc 10) (.const (.d (.int .i64 1))), none, []⟩,
  ⟨.var 5, .mv (.loc 11), none, []⟩] false
def c_L_markStringS_6 : ACode := (.seq (.seq c_L_markStringS_2 (.cond (.var 9) .skip (.exit 0))) (.seq (.block 1 (.seq c_L_markStringS_3 c_L_markStringS_4)) c_L_markStringS_5))
def c_L_markStringS_7 : ACode := .reg [⟨.loc 19, .mv (.var 1), none, []⟩,
  ⟨.var 4, .mv (.loc 19), none, []⟩] false
def c_L_markStringS : ACode := (.seq c_L_markStringS_0 (.seq (.seq c_L_markStringS_1 (.block 0 (.loop [0, 1, 5] c_L_markStringS_6))) (.seq c_L_markStringS_7 .ret)))

abbrev F_L_markStringS : FuncId := 37

theorem k_L_markStringS : comp PP (Try.f37.ntmps, pinOf 0 [some .give, none]) [0, 1, 4, 5, 9] (Try.f37.body.getD .skip) = some c_L_markStringS.erase := by kernel_rfl

theorem v_L_markStringS (rcs : List C) {cs : List C} {r : C} {os : List (Option C)} (hN : (cs.length == 2 && rcs.length == 1) = true) (hret : retOf rcs = r)
    (hW : W PP [0, 1, 4, 5, 9] (Try.f37.ntmps, pinOf 0 [some .give, none]) (Valid PP) c_L_markStringS (entry cs) (Fin (Valid PP) [(.give, 4, none)] [some .give, none] rcs os) (fun _ _ => False) (Fin (Valid PP) [(.give, 4, none)] [some .give, none] rcs os)) : Valid PP F_L_markStringS cs r os :=
  fn_valid_n 2 1 [0, 1, 4, 5, 9] c_L_markStringS [(.give, 4, none)] [some .give, none] rcs Try.func37 rfl rfl (by kernel_rfl) k_L_markStringS rfl rfl hN hret hW


/-
loop.example/g00705/laws.heldIntS  params 2+0 results [4]
  seq  mid=[0, 1]
    c_L_heldIntS_0
    seq  mid=[1]
      seq  mid=[0, 1, 5]
        c_L_heldIntS_1
        block 0
          loop live=[0, 1, 5]
            seq  mid=[0, 1, 5]
              seq  mid=[0, 1, 5, 9]
                c_L_heldIntS_2
                cond (.var 9)
                  skip
                  exit 0
              seq  mid=[0, 1, 5]
                block 1
                  seq  mid=[0, 1, 5]
                    seq  mid=[0, 1, 5, 17]
                      c_L_heldIntS_3
                      cond (.var 17)
                        seq  mid=[4]
                          c_L_heldIntS_4
                          ret
                        skip
                    c_L_heldIntS_5
                c_L_heldIntS_6
      seq  mid=[4]
        c_L_heldIntS_8
        ret
-/
def c_L_heldIntS_0 : ACode := .reg [⟨.var 4, .mv (.const (.d (.int .i64 0))), none, []⟩] false
def c_L_heldIntS_1 : ACode := .reg [⟨.var 5, .mv (.const (.d (.int .i64 0))), none, []⟩] false
def c_L_heldIntS_2 : ACode := .reg [⟨.loc 6, .mv (.var 5), none, []⟩,
  ⟨.loc 7, .mv (.var 0), none, []⟩,
  ⟨.loc 8, .len false (.loc 7), none, []⟩,
  ⟨.var 9, .bin .int .lss (.loc 6) (.loc 8), none, []⟩] false
def c_L_heldIntS_3 : ACode := .reg [⟨.loc 12, .mv (.var 0), none, []⟩,
  ⟨.loc 13, .mv (.var 5), none, []⟩,
  ⟨.loc 14, .idxA 1 (.loc 12) (.loc 13), none, []⟩,
  ⟨.loc 15, .load false 1 (.loc 14), none, []⟩,
  ⟨.loc 16, .mv (.var 1), none, []⟩,
  ⟨.var 17, .bin .int .neq (.loc 15) (.loc 16), none, []⟩] false
def c_L_heldIntS_4 : ACode := .reg [⟨.var 4, .mv (.const (.d (.int .i64 (-1)))), none, []⟩] false
def c_L_heldIntS_5 : ACode := .reg [⟨.loc 18, .mv (.var 1), none, []⟩,
  ⟨.loc 19, .bin .int .add (.loc 18) (.const (.d (.int .i64 1))), none, []⟩,
  ⟨.var 1, .mv (.loc 19), none, []⟩] false
def c_L_heldIntS_6 : ACode := .reg [⟨.loc 10, .mv (.var 5), none, []⟩,
  ⟨.loc 11, .bin .int .add (.loc 10) (.const (.d (.int .i64 1))), none, []⟩,
  ⟨.var 5, .mv (.loc 11), none, []⟩] false
def c_L_heldIntS_7 : ACode := (.seq (.seq c_L_heldIntS_2 (.cond (.var 9) .skip (.exit 0))) (.seq (.block 1 (.seq (.seq c_L_heldIntS_3 (.cond (.var 17) (.seq c_L_heldIntS_4 .ret) .skip)) c_L_heldIntS_5)) c_L_heldIntS_6))
def c_L_heldIntS_8 : ACode := .reg [⟨.loc 20, .mv (.var 1), none, []⟩,
  ⟨.var 4, .mv (.loc 20), none, []⟩] false
def c_L_heldIntS : ACode := (.seq c_L_heldIntS_0 (.seq (.seq c_L_heldIntS_1 (.block 0 (.loop [0, 1, 5] c_L_heldIntS_7))) (.seq c_L_heldIntS_8 .ret)))

abbrev F_L_heldIntS : FuncId := 38

theorem k_L_heldIntS : comp PP (Try.f38.ntmps, pinOf 0 [none, none]) [0, 1, 4, 5, 9, 17] (Try.f38.body.getD .skip) = some c_L_heldIntS.erase := by kernel_rfl

theorem v_L_heldIntS (rcs : List C) {cs : List C} {r : C} {os : List (Option C)} (hN : (cs.length == 2 && rcs.length == 1) = true) (hret : retOf rcs = r)
    (hW : W PP [0, 1, 4, 5, 9, 17] (Try.f38.ntmps, pinOf 0 [none, none]) (Valid PP) c_L_heldIntS (entry cs) (Fin (Valid PP) [(.give, 4, none)] [none, none] rcs os) (fun _ _ => False) (Fin (Valid PP) [(.give, 4, none)] [none, none] rcs os)) : Valid PP F_L_heldIntS cs r os :=
  fn_valid_n 2 1 [0, 1, 4, 5, 9, 17] c_L_heldIntS [(.give, 4, none)] [none, none] rcs Try.func38 rfl rfl (by kernel_rfl) k_L_heldIntS rfl rfl hN hret hW


/-
loop.example/g00705/laws.heldStringS  params 2+0 results [4]
  seq  mid=[0, 1]
    c_L_heldStringS_0
    seq  mid=[1]
      seq  mid=[0, 1, 5]
        c_L_heldStringS_1
        block 0
          loop live=[0, 1, 5]
            seq  mid=[0, 1, 5]
              seq  mid=[0, 1, 5, 9]
                c_L_heldStringS_2
                cond (.var 9)
                  skip
                  exit 0
              seq  mid=[0, 1, 5]
                block 1
                  seq  mid=[0, 1, 5]
                    seq  mid=[0, 1, 5, 18]
                      c_L_heldStringS_3 DRAW
                      cond (.var 18)
                        seq  mid=[4]
                          c_L_heldStringS_4
                          ret
                        skip
                    c_L_heldStringS_5
                c_L_heldStringS_6
      seq  mid=[4]
        c_L_heldStringS_8
        ret
-/
def c_L_heldStringS_0 : ACode := .reg [⟨.var 4, .mv (.const (.d (.int .i64 0))), none, []⟩] false
def c_L_heldStringS_1 : ACode := .reg [⟨.var 5, .mv (.const (.d (.int .i64 0))), none, []⟩] false
def c_L_heldStringS_2 : ACode := .reg [⟨.loc 6, .mv (.var 5), none, []⟩,
  ⟨.loc 7, .mv (.var 0), none, []⟩,
  ⟨.loc 8, .len false (.loc 7), none, []⟩,
  ⟨.var 9, .bin .int .lss (.loc 6) (.loc 8), none, []⟩] false
def c_L_heldStringS_3 : ACode := .reg [⟨.loc 12, .mv (.var 0), none, []⟩,
  ⟨.loc 13, .mv (.var 5), none, []⟩,
  ⟨.loc 14, .idxA 1 (.loc 12) (.loc 13), none, [0, 1]⟩,
  ⟨.loc 15, .load false 1 (.loc 14), none, [2, 0, 1]⟩,
  ⟨.loc 16, .mv (.var 1), none, []⟩,
  ⟨.loc 17, .call (.fn 44) [(.loc 16)] [.borrow], none, [4]⟩,
  ⟨.var 18, .bin .str .neq (.loc 15) (.loc 17), none, [3, 2, 0, 1, 5, 4]⟩] true
def c_L_heldStringS_4 : ACode := .reg [⟨.var 4, .mv (.const (.d (.int .i64 (-1)))), none, []⟩] false
def c_L_heldStringS_5 : ACode := .reg [⟨.loc 19, .mv (.var 1), none, []⟩,
  ⟨.loc 20, .bin .int .add (.loc 19) (.const (.d (.int .i64 1))), none, []⟩,
  ⟨.var 1, .mv (.loc 20), none, []⟩] false
def c_L_heldStringS_6 : ACode := .reg [⟨.loc 10, .mv (.var 5), none, []⟩,
  ⟨.loc 11, .bin .int .add (.loc 10) (.const (.d (.int .i64 1))), none, []⟩,
  ⟨.var 5, .mv (.loc 11), none, []⟩] false
def c_L_heldStringS_7 : ACode := (.seq (.seq c_L_heldStringS_2 (.cond (.var 9) .skip (.exit 0))) (.seq (.block 1 (.seq (.seq c_L_heldStringS_3 (.cond (.var 18) (.seq c_L_heldStringS_4 .ret) .skip)) c_L_heldStringS_5)) c_L_heldStringS_6))
def c_L_heldStringS_8 : ACode := .reg [⟨.loc 21, .mv (.var 1), none, []⟩,
  ⟨.var 4, .mv (.loc 21), none, []⟩] false
def c_L_heldStringS : ACode := (.seq c_L_heldStringS_0 (.seq (.seq c_L_heldStringS_1 (.block 0 (.loop [0, 1, 5] c_L_heldStringS_7))) (.seq c_L_heldStringS_8 .ret)))

abbrev F_L_heldStringS : FuncId := 39

theorem k_L_heldStringS : comp PP (Try.f39.ntmps, pinOf 0 [none, none]) [0, 1, 4, 5, 9, 18] (Try.f39.body.getD .skip) = some c_L_heldStringS.erase := by kernel_rfl

theorem v_L_heldStringS (rcs : List C) {cs : List C} {r : C} {os : List (Option C)} (hN : (cs.length == 2 && rcs.length == 1) = true) (hret : retOf rcs = r)
    (hW : W PP [0, 1, 4, 5, 9, 18] (Try.f39.ntmps, pinOf 0 [none, none]) (Valid PP) c_L_heldStringS (entry cs) (Fin (Valid PP) [(.give, 4, none)] [none, none] rcs os) (fun _ _ => False) (Fin (Valid PP) [(.give, 4, none)] [none, none] rcs os)) : Valid PP F_L_heldStringS cs r os :=
  fn_valid_n 2 1 [0, 1, 4, 5, 9, 18] c_L_heldStringS [(.give, 4, none)] [none, none] rcs Try.func39 rfl rfl (by kernel_rfl) k_L_heldStringS rfl rfl hN hret hW


/-
slices.ContainsFunc[[]int,int]  params 2+0 results [4]
  seq  mid=[0, 1]
    c_slices_ContainsFunc___int_int__0
    seq  mid=[4]
      c_slices_ContainsFunc___int_int__1
      ret
-/
def c_slices_ContainsFunc___int_int__0 : ACode := .reg [⟨.var 4, .mv (.const (.d (.bool false))), none, []⟩] false
def c_slices_ContainsFunc___int_int__1 : ACode := .reg [⟨.loc 5, .mv (.var 0), none, []⟩,
  ⟨.loc 6, .mv (.var 1), none, []⟩,
  ⟨.loc 7, .call (.fn 45) [(.loc 5), (.loc 6)] [.borrow, .borrow], none, []⟩,
  ⟨.loc 8, .bin .int .geq (.loc 7) (.const (.d (.int .i64 0))), none, []⟩,
  ⟨.var 4, .mv (.loc 8), none, []⟩] false
def c_slices_ContainsFunc___int_int_ : ACode := (.seq c_slices_ContainsFunc___int_int__0 (.seq c_slices_ContainsFunc___int_int__1 .ret))

abbrev F_slices_ContainsFunc___int_int_ : FuncId := 40

theorem k_slices_ContainsFunc___int_int_ : comp PP (Try.f40.ntmps, pinOf 0 [none, none]) [0, 1, 4] (Try.f40.body.getD .skip) = some c_slices_ContainsFunc___int_int_.erase := by kernel_rfl

theorem v_slices_ContainsFunc___int_int_ (rcs : List C) {cs : List C} {r : C} {os : List (Option C)} (hN : (cs.length == 2 && rcs.length == 1) = true) (hret : retOf rcs = r)
    (hW : W PP [0, 1, 4] (Try.f40.ntmps, pinOf 0 [none, none]) (Valid PP) c_slices_ContainsFunc___int_int_ (entry cs) (Fin (Valid PP) [(.give, 4, none)] [none, none] rcs os) (fun _ _ => False) (Fin (Valid PP) [(.give, 4, none)] [none, none] rcs os)) : Valid PP F_slices_ContainsFunc___int_int_ cs r os :=
  fn_valid_n 2 1 [0, 1, 4] c_slices_ContainsFunc___int_int_ [(.give, 4, none)] [none, none] rcs Try.func40 rfl rfl (by kernel_rfl) k_slices_ContainsFunc___int_int_ rfl rfl hN hret hW


/-
loop.example/g00705/impl.isRecord$1  params 1+0 results [2]
  seq  mid=[0]
    c_I_isRecord_c1_0
    seq  mid=[2]
      c_I_isRecord_c1_1
      ret
-/
def c_I_isRecord_c1_0 : ACode := .reg [⟨.var 2, .mv (.const (.d (.bool false))), none, []⟩] false
def c_I_isRecord_c1_1 : ACode := .reg [⟨.loc 3, .mv (.var 0), none, []⟩,
  ⟨.loc 4, .call (.fn 35) [(.loc 3), (.const (.d (.int .i64 (-1099511627776)))), (.const (.d (.int .i64 1099511627776)))] [.borrow, .borrow, .borrow], none, []⟩,
  ⟨.loc 5, .un .not (.loc 4), none, []⟩,
  ⟨.var 2, .mv (.loc 5), none, []⟩] false
def c_I_isRecord_c1 : ACode := (.seq c_I_isRecord_c1_0 (.seq c_I_isRecord_c1_1 .ret))

abbrev F_I_isRecord_c1 : FuncId := 41

theorem k_I_isRecord_c1 : comp PP (Try.f41.ntmps, pinOf 0 [none]) [0, 2] (Try.f41.body.getD .skip) = some c_I_isRecord_c1.erase := by kernel_rfl

theorem v_I_isRecord_c1 (rcs : List C) {cs : List C} {r : C} {os : List (Option C)} (hN : (cs.length == 1 && rcs.length == 1) = true) (hret : retOf rcs = r)
    (hW : W PP [0, 2] (Try.f41.ntmps, pinOf 0 [none]) (Valid PP) c_I_isRecord_c1 (entry cs) (Fin (Valid PP) [(.give, 2, none)] [none] rcs os) (fun _ _ => False) (Fin (Valid PP) [(.give, 2, none)] [none] rcs os)) : Valid PP F_I_isRecord_c1 cs r os :=
  fn_valid_n 1 1 [0, 2] c_I_isRecord_c1 [(.give, 2, none)] [none] rcs Try.func41 rfl rfl (by kernel_rfl) k_I_isRecord_c1 rfl rfl hN hret hW


/-
slices.ContainsFunc[[]string,string]  params 2+0 results [4]
  seq  mid=[0, 1]
    c_slices_ContainsFunc___string_string__0
    seq  mid=[4]
      c_slices_ContainsFunc___string_string__1
      ret
-/
def c_slices_ContainsFunc___string_string__0 : ACode := .reg [⟨.var 4, .mv (.const (.d (.bool false))), none, []⟩] false
def c_slices_ContainsFunc___string_string__1 : ACode := .reg [⟨.loc 5, .mv (.var 0), none, []⟩,
  ⟨.loc 6, .mv (.var 1), none, []⟩,
  ⟨.loc 7, .call (.fn 46) [(.loc 5), (.loc 6)] [.borrow, .borrow], none, []⟩,
  ⟨.loc 8, .bin .int .geq (.loc 7) (.const (.d (.int .i64 0))), none, []⟩,
  ⟨.var 4, .mv (.loc 8), none, []⟩] false
def c_slices_ContainsFunc___string_string_ : ACode := (.seq c_slices_ContainsFunc___string_string__0 (.seq c_slices_ContainsFunc___string_string__1 .ret))

abbrev F_slices_ContainsFunc___string_string_ : FuncId := 42

theorem k_slices_ContainsFunc___string_string_ : comp PP (Try.f42.ntmps, pinOf 0 [none, none]) [0, 1, 4] (Try.f42.body.getD .skip) = some c_slices_ContainsFunc___string_string_.erase := by kernel_rfl

theorem v_slices_ContainsFunc___string_string_ (rcs : List C) {cs : List C} {r : C} {os : List (Option C)} (hN : (cs.length == 2 && rcs.length == 1) = true) (hret : retOf rcs = r)
    (hW : W PP [0, 1, 4] (Try.f42.ntmps, pinOf 0 [none, none]) (Valid PP) c_slices_ContainsFunc___string_string_ (entry cs) (Fin (Valid PP) [(.give, 4, none)] [none, none] rcs os) (fun _ _ => False) (Fin (Valid PP) [(.give, 4, none)] [none, none] rcs os)) : Valid PP F_slices_ContainsFunc___string_string_ cs r os :=
  fn_valid_n 2 1 [0, 1, 4] c_slices_ContainsFunc___string_string_ [(.give, 4, none)] [none, none] rcs Try.func42 rfl rfl (by kernel_rfl) k_slices_ContainsFunc___string_string_ rfl rfl hN hret hW


/-
loop.example/g00705/impl.isRecord$2  params 1+0 results [2]
  seq  mid=[0]
    c_I_isRecord_c2_0
    seq  mid=[2]
      c_I_isRecord_c2_1
      ret
-/
def c_I_isRecord_c2_0 : ACode := .reg [⟨.var 2, .mv (.const (.d (.bool false))), none, []⟩] false
def c_I_isRecord_c2_1 : ACode := .reg [⟨.loc 3, .mv (.var 0), none, []⟩,
  ⟨.loc 4, .len true (.loc 3), none, []⟩,
  ⟨.loc 5, .bin .int .gtr (.loc 4) (.const (.d (.int .i64 300))), none, []⟩,
  ⟨.var 2, .mv (.loc 5), none, []⟩] false
def c_I_isRecord_c2 : ACode := (.seq c_I_isRecord_c2_0 (.seq c_I_isRecord_c2_1 .ret))

abbrev F_I_isRecord_c2 : FuncId := 43

theorem k_I_isRecord_c2 : comp PP (Try.f43.ntmps, pinOf 0 [none]) [0, 2] (Try.f43.body.getD .skip) = some c_I_isRecord_c2.erase := by kernel_rfl

theorem v_I_isRecord_c2 (rcs : List C) {cs : List C} {r : C} {os : List (Option C)} (hN : (cs.length == 1 && rcs.length == 1) = true) (hret : retOf rcs = r)
    (hW : W PP [0, 2] (Try.f43.ntmps, pinOf 0 [none]) (Valid PP) c_I_isRecord_c2 (entry cs) (Fin (Valid PP) [(.give, 2, none)] [none] rcs os) (fun _ _ => False) (Fin (Valid PP) [(.give, 2, none)] [none] rcs os)) : Valid PP F_I_isRecord_c2 cs r os :=
  fn_valid_n 1 1 [0, 2] c_I_isRecord_c2 [(.give, 2, none)] [none] rcs Try.func43 rfl rfl (by kernel_rfl) k_I_isRecord_c2 rfl rfl hN hret hW


/-
loop.example/g00705/laws.markText  params 1+0 results [2]
  seq  mid=[0]
    c_L_markText_0
    seq  mid=[0]
      seq  mid=[0, 5]
        c_L_markText_1
        cond (.var 5)
          seq  mid=[2]
            c_L_markText_2
            ret
          skip
      seq  mid=[0, 3]
        c_L_markText_3
        seq  mid=[3]
          block 0
            loop live=[0, 3]
              seq  mid=[0, 3]
                seq  mid=[0, 3, 7]
                  c_L_markText_4
                  cond (.var 7)
                    skip
                    exit 0
                block 1
                  seq  mid=[0, 3]
                    c_L_markText_5
                    c_L_markText_6
          seq  mid=[2]
            c_L_markText_8
            ret
-/
def c_L_markText_0 : ACode := .reg [⟨.var 2, .mv (.const (.d (.str []))), none, []⟩] false
def c_L_markText_1 : ACode := .reg [⟨.loc 4, .mv (.var 0), none, []⟩,
  ⟨.var 5, .bin .int .leq (.loc 4) (.const (.d (.int .i64 0))), none, []⟩] false
def c_L_markText_2 : ACode := .reg [⟨.var 2, .mv (.const (.d (.str [109, 48]))), none, []⟩] false
def c_L_markText_3 : ACode := .reg [⟨.var 3, .mv (.const (.d (.str []))), none, []⟩] false
def c_L_markText_4 : ACode := .reg [⟨.loc 6, .mv (.var 0), none, []⟩,
  ⟨.var 7, .bin .int .gtr (.loc 6) (.const (.d (.int .i64 0))), none, []⟩] false
def c_L_markText_5 : ACode := .reg [⟨.loc 8, .mv (.var 0), none, []⟩,
  ⟨.loc 9, .bin .int .rem (.loc 8) (.const (.d (.int .i64 10))), none, []⟩,
  ⟨.loc 10, .bin .int .add (.const (.d (.int .i64 48))) (.loc 9), none, []⟩,
  ⟨.loc 11, .conv .u8 (.loc 10), none, []⟩,
  ⟨.loc 12, .lit 0 1 1 [.int .u8 0] [(0, (.loc 11))], none, []⟩,
  ⟨.loc 13, .b2s (.loc 12), none, []⟩,
  ⟨.loc 14, .mv (.var 3), none, []⟩,
  ⟨.loc 15, .bin .str .add (.loc 13) (.loc 14), none, []⟩,
  ⟨.var 3, .mv (.loc 15), none, []⟩] false
def c_L_markText_6 : ACode := .reg [⟨.loc 16, .mv (.var 0), none, []⟩,
  ⟨.loc 17, .bin .int .quo (.loc 16) (.const (.d (.int .i64 10))), none, []⟩,
  ⟨.var 0, .mv (.loc 17), none, []⟩] false
def c_L_markText_7 : ACode := (.seq (.seq c_L_markText_4 (.cond (.var 7) .skip (.exit 0))) (.block 1 (.seq c_L_markText_5 c_L_markText_6)))
def c_L_markText_8 : ACode := .reg [⟨.loc 18, .mv (.var 3), none, []⟩,
  ⟨.loc 19, .bin .str .add (.const (.d (.str [109]))) (.loc 18), none, []⟩,
  ⟨.var 2, .mv (.loc 19), none, []⟩] false
def c_L_markText : ACode := (.seq c_L_markText_0 (.seq (.seq c_L_markText_1 (.cond (.var 5) (.seq c_L_markText_2 .ret) .skip)) (.seq c_L_markText_3 (.seq (.block 0 (.loop [0, 3] c_L_markText_7)) (.seq c_L_markText_8 .ret)))))

abbrev F_L_markText : FuncId := 44

theorem k_L_markText : comp PP (Try.f44.ntmps, pinOf 0 [none]) [0, 2, 3, 5, 7] (Try.f44.body.getD .skip) = some c_L_markText.erase := by kernel_rfl

theorem v_L_markText (rcs : List C) {cs : List C} {r : C} {os : List (Option C)} (hN : (cs.length == 1 && rcs.length == 1) = true) (hret : retOf rcs = r)
    (hW : W PP [0, 2, 3, 5, 7] (Try.f44.ntmps, pinOf 0 [none]) (Valid PP) c_L_markText (entry cs) (Fin (Valid PP) [(.give, 2, none)] [none] rcs os) (fun _ _ => False) (Fin (Valid PP) [(.give, 2, none)] [none] rcs os)) : Valid PP F_L_markText cs r os :=
  fn_valid_n 1 1 [0, 2, 3, 5, 7] c_L_markText [(.give, 2, none)] [none] rcs Try.func44 rfl rfl (by kernel_rfl) k_L_markText rfl rfl hN hret hW


/-
slices.IndexFunc[[]int,int]  params 2+0 results [4]
  seq  mid=[0, 1]
    c_slices_IndexFunc___int_int__0
    seq  mid=[]
      seq  mid=[0, 1, 7, 8]
        c_slices_IndexFunc___int_int__1
        block 0
          loop live=[0, 1, 7, 8]
            seq  mid=[0, 1, 7, 8, 9]
              c_slices_IndexFunc___int_int__2
              seq  mid=[0, 1, 7, 8]
                cond (.var 9)
                  skip
                  exit 0
                seq  mid=[0, 1, 7, 8]
                  block 1
                    seq  mid=[0, 1, 5, 7, 8]
                      c_slices_IndexFunc___int_int__3
                      seq  mid=[0, 1, 5, 7, 8, 16]
                        c_slices_IndexFunc___int_int__4
                        cond (.var 16)
                          seq  mid=[4]
                            c_slices_IndexFunc___int_int__5
                            ret
                          skip
                  c_slices_IndexFunc___int_int__6
      seq  mid=[4]
        c_slices_IndexFunc___int_int__8
        ret
-/
def c_slices_IndexFunc___int_int__0 : ACode := .reg [⟨.var 4, .mv (.const (.d (.int .i64 0))), none, []⟩] false
def c_slices_IndexFunc___int_int__1 : ACode := .reg [⟨.loc 6, .mv (.var 0), none, []⟩,
  ⟨.var 7, .len false (.loc 6), none, []⟩,
  ⟨.var 8, .mv (.const (.d (.int .i64 0))), none, []⟩] false
def c_slices_IndexFunc___int_int__2 : ACode := .reg [⟨.var 9, .bin .int .lss (.var 8) (.var 7), none, []⟩] false
def c_slices_IndexFunc___int_int__3 : ACode := .reg [⟨.loc 10, .mv (.var 8), none, []⟩,
  ⟨.var 5, .mv (.loc 10), none, []⟩] false
def c_slices_IndexFunc___int_int__4 : ACode := .reg [⟨.loc 11, .mv (.var 1), none, []⟩,
  ⟨.loc 12, .mv (.var 0), none, []⟩,
  ⟨.loc 13, .mv (.var 5), none, []⟩,
  ⟨.loc 14, .idxA 1 (.loc 12) (.loc 13), none, []⟩,
  ⟨.loc 15, .load false 1 (.loc 14), none, []⟩,
  ⟨.var 16, .call (.loc 11) [(.loc 15)] [.borrow], none, []⟩] false
def c_slices_IndexFunc___int_int__5 : ACode := .reg [⟨.loc 17, .mv (.var 5), none, []⟩,
  ⟨.var 4, .mv (.loc 17), none, []⟩] false
def c_slices_IndexFunc___int_int__6 : ACode := .reg [⟨.loc 18, .bin .int .add (.var 8) (.const (.d (.int .i64 1))), none, []⟩,
  ⟨.var 8, .mv (.loc 18), none, []⟩] false
def c_slices_IndexFunc___int_int__7 : ACode := (.seq c_slices_IndexFunc___int_int__2 (.seq (.cond (.var 9) .skip (.exit 0)) (.seq (.block 1 (.seq c_slices_IndexFunc___int_int__3 (.seq c_slices_IndexFunc___int_int__4 (.cond (.var 16) (.seq c_slices_IndexFunc___int_int__5 .ret) .skip)))) c_slices_IndexFunc___int_int__6)))
def c_slices_IndexFunc___int_int__8 : ACode := .reg [⟨.var 4, .mv (.const (.d (.int .i64 (-1)))), none, []⟩] false
def c_slices_IndexFunc___int_int_ : ACode := (.seq c_slices_IndexFunc___int_int__0 (.seq (.seq c_slices_IndexFunc___int_int__1 (.block 0 (.loop [0, 1, 7, 8] c_slices_IndexFunc___int_int__7))) (.seq c_slices_IndexFunc___int_int__8 .ret)))

abbrev F_slices_IndexFunc___int_int_ : FuncId := 45

theorem k_slices_IndexFunc___int_int_ : comp PP (Try.f45.ntmps, pinOf 0 [none, none]) [0, 1, 4, 5, 7, 8, 9, 16] (Try.f45.body.getD .skip) = some c_slices_IndexFunc___int_int_.erase := by kernel_rfl

theorem v_slices_IndexFunc___int_int_ (rcs : List C) {cs : List C} {r : C} {os : List (Option C)} (hN : (cs.length == 2 && rcs.length == 1) = true) (hret : retOf rcs = r)
    (hW : W PP [0, 1, 4, 5, 7, 8, 9, 16] (Try.f45.ntmps, pinOf 0 [none, none]) (Valid PP) c_slices_IndexFunc___int_int_ (entry cs) (Fin (Valid PP) [(.give, 4, none)] [none, none] rcs os) (fun _ _ => False) (Fin (Valid PP) [(.give, 4, none)] [none, none] rcs os)) : Valid PP F_slices_IndexFunc___int_int_ cs r os :=
  fn_valid_n 2 1 [0, 1, 4, 5, 7, 8, 9, 16] c_slices_IndexFunc___int_int_ [(.give, 4, none)] [none, none] rcs Try.func45 rfl rfl (by kernel_rfl) k_slices_IndexFunc___int_int_ rfl rfl hN hret hW


/-
slices.IndexFunc[[]string,string]  params 2+0 results [4]
  seq  mid=[0, 1]
    c_slices_IndexFunc___string_string__0
    seq  mid=[]
      seq  mid=[0, 1, 7, 8]
        c_slices_IndexFunc___string_string__1
        block 0
          loop live=[0, 1, 7, 8]
            seq  mid=[0, 1, 7, 8, 9]
              c_slices_IndexFunc___string_string__2
              seq  mid=[0, 1, 7, 8]
                cond (.var 9)
                  skip
                  exit 0
                seq  mid=[0, 1, 7, 8]
                  block 1
                    seq  mid=[0, 1, 5, 7, 8]
                      c_slices_IndexFunc___string_string__3
                      seq  mid=[0, 1, 5, 7, 8, 16]
                        c_slices_IndexFunc___string_string__4
                        cond (.var 16)
                          seq  mid=[4]
                            c_slices_IndexFunc___string_string__5
                            ret
                          skip
                  c_slices_IndexFunc___string_string__6
      seq  mid=[4]
        c_slices_IndexFunc___string_string__8
        ret
-/
def c_slices_IndexFunc___string_string__0 : ACode := .reg [⟨.var 4, .mv (.const (.d (.int .i64 0))), none, []⟩] false
def c_slices_IndexFunc___string_string__1 : ACode := .reg [⟨.loc 6, .mv (.var 0), none, []⟩,
  ⟨.var 7, .len false (.loc 6), none, []⟩,
  ⟨.var 8, .mv (.const (.d (.int .i64 0))), none, []⟩] false
def c_slices_IndexFunc___string_string__2 : ACode := .reg [⟨.var 9, .bin .int .lss (.var 8) (.var 7), none, []⟩] false
def c_slices_IndexFunc___string_string__3 : ACode := .reg [⟨.loc 10, .mv (.var 8), none, []⟩,
  ⟨.var 5, .mv (.loc 10), none, []⟩] false
def c_slices_IndexFunc___string_string__4 : ACode := .reg [⟨.loc 11, .mv (.var 1), none, []⟩,
  ⟨.loc 12, .mv (.var 0), none, []⟩,
  ⟨.loc 13, .mv (.var 5), none, []⟩,
  ⟨.loc 14, .idxA 1 (.loc 12) (.loc 13), none, []⟩,
  ⟨.loc 15, .load false 1 (.loc 14), none, []⟩,
  ⟨.var 16, .call (.loc 11) [(.loc 15)] [.borrow], none, []⟩] false
def c_slices_IndexFunc___string_string__5 : ACode := .reg [⟨.loc 17, .mv (.var 5), none, []⟩,
  ⟨.var 4, .mv (.loc 17), none, []⟩] false
def c_slices_IndexFunc___string_string__6 : ACode := .reg [⟨.loc 18, .bin .int .add (.var 8) (.const (.d (.int .i64 1))), none, []⟩,
  ⟨.var 8, .mv (.loc 18), none, []⟩] false
def c_slices_IndexFunc___string_string__7 : ACode := (.seq c_slices_IndexFunc___string_string__2 (.seq (.cond (.var 9) .skip (.exit 0)) (.seq (.block 1 (.seq c_slices_IndexFunc___string_string__3 (.seq c_slices_IndexFunc___string_string__4 (.cond (.var 16) (.seq c_slices_IndexFunc___string_string__5 .ret) .skip)))) c_slices_IndexFunc___string_string__6)))
def c_slices_IndexFunc___string_string__8 : ACode := .reg [⟨.var 4, .mv (.const (.d (.int .i64 (-1)))), none, []⟩] false
def c_slices_IndexFunc___string_string_ : ACode := (.seq c_slices_IndexFunc___string_string__0 (.seq (.seq c_slices_IndexFunc___string_string__1 (.block 0 (.loop [0, 1, 7, 8] c_slices_IndexFunc___string_string__7))) (.seq c_slices_IndexFunc___string_string__8 .ret)))

abbrev F_slices_IndexFunc___string_string_ : FuncId := 46

theorem k_slices_IndexFunc___string_string_ : comp PP (Try.f46.ntmps, pinOf 0 [none, none]) [0, 1, 4, 5, 7, 8, 9, 16] (Try.f46.body.getD .skip) = some c_slices_IndexFunc___string_string_.erase := by kernel_rfl

theorem v_slices_IndexFunc___string_string_ (rcs : List C) {cs : List C} {r : C} {os : List (Option C)} (hN : (cs.length == 2 && rcs.length == 1) = true) (hret : retOf rcs = r)
    (hW : W PP [0, 1, 4, 5, 7, 8, 9, 16] (Try.f46.ntmps, pinOf 0 [none, none]) (Valid PP) c_slices_IndexFunc___string_string_ (entry cs) (Fin (Valid PP) [(.give, 4, none)] [none, none] rcs os) (fun _ _ => False) (Fin (Valid PP) [(.give, 4, none)] [none, none] rcs os)) : Valid PP F_slices_IndexFunc___string_string_ cs r os :=
  fn_valid_n 2 1 [0, 1, 4, 5, 7, 8, 9, 16] c_slices_IndexFunc___string_string_ [(.give, 4, none)] [none, none] rcs Try.func46 rfl rfl (by kernel_rfl) k_slices_IndexFunc___string_string_ rfl rfl hN hret hW


end Go.Proofs.Ytjdepagpjkoglaa.Ab
