/-
  A part of a proof about the given program; what is proved is said where each theorem stands.
-/
import Derived.Test.YtpbofdbleajagaaDoorFrameA
import Derived.Test.YtpbofdbleajagaaDoorFrameB
import Derived.Test.YtpbofdbleajagaaDoorFrameC
import Derived.Test.YtpbofdbleajagaaDoorFrameD
import Derived.Test.YtpbofdbleajagaaDoorFrameE
import Derived.Test.YtpbofdbleajagaaDoorShelf
import Derived.Test.YtpbofdbleajagaaDoorCodesA
namespace Go.Proofs.YtpbofdbleajagaaDoor.Ab
open Go.Proofs

/-
loop.example/g00705/laws.szNoteS  params 2+0 results [4]
  seq  mid=[0, 1]
    c_L_szNoteS_0
    seq  mid=[0, 1]
      c_L_szNoteS_1
      seq  mid=[0, 1]
        seq  mid=[0, 1, 11]
          c_L_szNoteS_2
          cond (.var 11)
            seq  mid=[4]
              c_L_szNoteS_3
              ret
            skip
        seq  mid=[1]
          seq  mid=[0, 1, 5]
            c_L_szNoteS_4
            block 0
              loop live=[0, 1, 5]
                seq  mid=[0, 1, 5]
                  seq  mid=[0, 1, 5, 15]
                    c_L_szNoteS_5
                    cond (.var 15)
                      skip
                      exit 0
                  seq  mid=[0, 1, 5]
                    block 1
                      seq  mid=[0, 1, 5]
                        c_L_szNoteS_6
                        seq  mid=[0, 1, 5, 25]
                          c_L_szNoteS_7
                          cond (.var 25)
                            seq  mid=[4]
                              c_L_szNoteS_8
                              ret
                            skip
                    c_L_szNoteS_9
          seq  mid=[4]
            c_L_szNoteS_11
            ret
-/
def c_L_szNoteS_0 : ACode := .reg [⟨.var 4, .mv (.const (.d (.int .i64 0))), none, []⟩] false
def c_L_szNoteS_1 : ACode := .reg [⟨.loc 6, .mv (.var 1), none, []⟩,
  ⟨.loc 7, .mv (.var 0), none, []⟩,
  ⟨.loc 8, .len false (.loc 7), none, []⟩,
  ⟨.loc 9, .bin .int .sub (.loc 6) (.loc 8), none, []⟩,
  ⟨.var 1, .mv (.loc 9), none, []⟩] false
def c_L_szNoteS_2 : ACode := .reg [⟨.loc 10, .mv (.var 1), none, []⟩,
  ⟨.var 11, .bin .int .lss (.loc 10) (.const (.d (.int .i64 0))), none, []⟩] false
def c_L_szNoteS_3 : ACode := .reg [⟨.var 4, .mv (.const (.d (.int .i64 (-1)))), none, []⟩] false
def c_L_szNoteS_4 : ACode := .reg [⟨.var 5, .mv (.const (.d (.int .i64 0))), none, []⟩] false
def c_L_szNoteS_5 : ACode := .reg [⟨.loc 12, .mv (.var 5), none, []⟩,
  ⟨.loc 13, .mv (.var 0), none, []⟩,
  ⟨.loc 14, .len false (.loc 13), none, []⟩,
  ⟨.var 15, .bin .int .lss (.loc 12) (.loc 14), none, []⟩] false
def c_L_szNoteS_6 : ACode := .reg [⟨.loc 18, .mv (.var 0), none, []⟩,
  ⟨.loc 19, .mv (.var 5), none, []⟩,
  ⟨.loc 20, .idxA 7 (.loc 18) (.loc 19), none, []⟩,
  ⟨.loc 21, .load true 7 (.loc 20), none, []⟩,
  ⟨.loc 22, .mv (.var 1), none, []⟩,
  ⟨.loc 23, .call (.fn 87) [(.loc 21), (.loc 22)] [.borrow, .borrow], none, []⟩,
  ⟨.var 1, .mv (.loc 23), none, []⟩] false
def c_L_szNoteS_7 : ACode := .reg [⟨.loc 24, .mv (.var 1), none, []⟩,
  ⟨.var 25, .bin .int .lss (.loc 24) (.const (.d (.int .i64 0))), none, []⟩] false
def c_L_szNoteS_8 : ACode := .reg [⟨.var 4, .mv (.const (.d (.int .i64 (-1)))), none, []⟩] false
def c_L_szNoteS_9 : ACode := .reg [⟨.loc 16, .mv (.var 5), none, []⟩,
  ⟨.loc 17, .bin .int .add (.loc 16) (.const (.d (.int .i64 1))), none, []⟩,
  ⟨.var 5, .mv (.loc 17), none, []⟩] false
def c_L_szNoteS_10 : ACode := (.seq (.seq c_L_szNoteS_5 (.cond (.var 15) .skip (.exit 0))) (.seq (.block 1 (.seq c_L_szNoteS_6 (.seq c_L_szNoteS_7 (.cond (.var 25) (.seq c_L_szNoteS_8 .ret) .skip)))) c_L_szNoteS_9))
def c_L_szNoteS_11 : ACode := .reg [⟨.loc 26, .mv (.var 1), none, []⟩,
  ⟨.var 4, .mv (.loc 26), none, []⟩] false
def c_L_szNoteS : ACode := (.seq c_L_szNoteS_0 (.seq c_L_szNoteS_1 (.seq (.seq c_L_szNoteS_2 (.cond (.var 11) (.seq c_L_szNoteS_3 .ret) .skip)) (.seq (.seq c_L_szNoteS_4 (.block 0 (.loop [0, 1, 5] c_L_szNoteS_10))) (.seq c_L_szNoteS_11 .ret)))))

abbrev F_L_szNoteS : FuncId := 49

theorem k_L_szNoteS : comp PP (Tryd.f49.ntmps, pinOf 0 [none, none]) [0, 1, 4, 5, 11, 15, 25] (Tryd.f49.body.getD .skip) = some c_L_szNoteS.erase := by kernel_rfl

theorem v_L_szNoteS {GG : GV} (rcs : List C) {cs : List C} {r : C} {os : List (Option C)} (hN : (cs.length == 2 && rcs.length == 1) = true) (hret : retOf rcs = r)
    (hW : W PP [0, 1, 4, 5, 11, 15, 25] (Tryd.f49.ntmps, pinOf 0 [none, none]) (Valid PP GG) c_L_szNoteS (entry cs) (Fin (Valid PP GG) [(.give, 4, none)] [none, none] rcs os) (fun _ _ => False) (Fin (Valid PP GG) [(.give, 4, none)] [none, none] rcs os)) : Valid PP GG F_L_szNoteS cs r os :=
  fn_valid_n 2 1 [0, 1, 4, 5, 11, 15, 25] c_L_szNoteS [(.give, 4, none)] [none, none] rcs Tryd.func49 rfl rfl (by kernel_rfl) k_L_szNoteS rfl rfl hN hret hW


/-
loop.example/g00705/laws.szNote  params 2+0 results [4]
  seq  mid=[1, 2]
    c_L_szNote_0
    seq  mid=[1, 2]
      c_L_szNote_1
      seq  mid=[1, 2]
        seq  mid=[1, 2, 11]
          c_L_szNote_2
          cond (.var 11)
            seq  mid=[4]
              c_L_szNote_3
              ret
            skip
        seq  mid=[1]
          c_L_szNote_4
          seq  mid=[1]
            seq  mid=[1, 18]
              c_L_szNote_5
              cond (.var 18)
                seq  mid=[4]
                  c_L_szNote_6
                  ret
                skip
            seq  mid=[4]
              c_L_szNote_7
              ret
-/
def c_L_szNote_0 : ACode := .reg [⟨.var 2, .box (.var 0), none, []⟩,
  ⟨.var 4, .mv (.const (.d (.int .i64 0))), none, []⟩] false
def c_L_szNote_1 : ACode := .reg [⟨.loc 5, .mv (.var 1), none, []⟩,
  ⟨.loc 6, .fld 3 (.var 2), none, []⟩,
  ⟨.loc 7, .load false 1 (.loc 6), none, []⟩,
  ⟨.loc 8, .len true (.loc 7), none, []⟩,
  ⟨.loc 9, .bin .int .sub (.loc 5) (.loc 8), none, []⟩,
  ⟨.var 1, .mv (.loc 9), none, []⟩] false
def c_L_szNote_2 : ACode := .reg [⟨.loc 10, .mv (.var 1), none, []⟩,
  ⟨.var 11, .bin .int .lss (.loc 10) (.const (.d (.int .i64 0))), none, []⟩] false
def c_L_szNote_3 : ACode := .reg [⟨.var 4, .mv (.const (.d (.int .i64 (-1)))), none, []⟩] false
def c_L_szNote_4 : ACode := .reg [⟨.loc 12, .mv (.var 1), none, []⟩,
  ⟨.loc 13, .fld 4 (.var 2), none, []⟩,
  ⟨.loc 14, .load false 1 (.loc 13), none, []⟩,
  ⟨.loc 15, .len true (.loc 14), none, []⟩,
  ⟨.loc 16, .bin .int .sub (.loc 12) (.loc 15), none, []⟩,
  ⟨.var 1, .mv (.loc 16), none, []⟩] false
def c_L_szNote_5 : ACode := .reg [⟨.loc 17, .mv (.var 1), none, []⟩,
  ⟨.var 18, .bin .int .lss (.loc 17) (.const (.d (.int .i64 0))), none, []⟩] false
def c_L_szNote_6 : ACode := .reg [⟨.var 4, .mv (.const (.d (.int .i64 (-1)))), none, []⟩] false
def c_L_szNote_7 : ACode := .reg [⟨.loc 19, .mv (.var 1), none, []⟩,
  ⟨.var 4, .mv (.loc 19), none, []⟩] false
def c_L_szNote : ACode := (.seq c_L_szNote_0 (.seq c_L_szNote_1 (.seq (.seq c_L_szNote_2 (.cond (.var 11) (.seq c_L_szNote_3 .ret) .skip)) (.seq c_L_szNote_4 (.seq (.seq c_L_szNote_5 (.cond (.var 18) (.seq c_L_szNote_6 .ret) .skip)) (.seq c_L_szNote_7 .ret))))))

abbrev F_L_szNote : FuncId := 87

theorem k_L_szNote : comp PP (Tryd.f87.ntmps, pinOf 0 [none, none]) [0, 1, 2, 4, 11, 18] (Tryd.f87.body.getD .skip) = some c_L_szNote.erase := by kernel_rfl

theorem v_L_szNote {GG : GV} (rcs : List C) {cs : List C} {r : C} {os : List (Option C)} (hN : (cs.length == 2 && rcs.length == 1) = true) (hret : retOf rcs = r)
    (hW : W PP [0, 1, 2, 4, 11, 18] (Tryd.f87.ntmps, pinOf 0 [none, none]) (Valid PP GG) c_L_szNote (entry cs) (Fin (Valid PP GG) [(.give, 4, none)] [none, none] rcs os) (fun _ _ => False) (Fin (Valid PP GG) [(.give, 4, none)] [none, none] rcs os)) : Valid PP GG F_L_szNote cs r os :=
  fn_valid_n 2 1 [0, 1, 2, 4, 11, 18] c_L_szNote [(.give, 4, none)] [none, none] rcs Tryd.func87 rfl rfl (by kernel_rfl) k_L_szNote rfl rfl hN hret hW


/-
loop.example/g00705/laws.szChain  params 2+0 results [4]
  seq  mid=[1, 2]
    c_L_szChain_0
    seq  mid=[1]
      c_L_szChain_1
      seq  mid=[1]
        seq  mid=[1, 10]
          c_L_szChain_2
          cond (.var 10)
            seq  mid=[4]
              c_L_szChain_3
              ret
            skip
        seq  mid=[4]
          c_L_szChain_4
          ret
-/
def c_L_szChain_0 : ACode := .reg [⟨.var 2, .box (.var 0), none, []⟩,
  ⟨.var 4, .mv (.const (.d (.int .i64 0))), none, []⟩] false
def c_L_szChain_1 : ACode := .reg [⟨.loc 5, .fld 2 (.var 2), none, []⟩,
  ⟨.loc 6, .load false 1 (.loc 5), none, []⟩,
  ⟨.loc 7, .mv (.var 1), none, []⟩,
  ⟨.loc 8, .call (.fn 49) [(.loc 6), (.loc 7)] [.borrow, .borrow], none, []⟩,
  ⟨.var 1, .mv (.loc 8), none, []⟩] false
def c_L_szChain_2 : ACode := .reg [⟨.loc 9, .mv (.var 1), none, []⟩,
  ⟨.var 10, .bin .int .lss (.loc 9) (.const (.d (.int .i64 0))), none, []⟩] false
def c_L_szChain_3 : ACode := .reg [⟨.var 4, .mv (.const (.d (.int .i64 (-1)))), none, []⟩] false
def c_L_szChain_4 : ACode := .reg [⟨.loc 11, .mv (.var 1), none, []⟩,
  ⟨.var 4, .mv (.loc 11), none, []⟩] false
def c_L_szChain : ACode := (.seq c_L_szChain_0 (.seq c_L_szChain_1 (.seq (.seq c_L_szChain_2 (.cond (.var 10) (.seq c_L_szChain_3 .ret) .skip)) (.seq c_L_szChain_4 .ret))))

abbrev F_L_szChain : FuncId := 17

theorem k_L_szChain : comp PP (Tryd.f17.ntmps, pinOf 0 [none, none]) [0, 1, 2, 4, 10] (Tryd.f17.body.getD .skip) = some c_L_szChain.erase := by kernel_rfl

theorem v_L_szChain {GG : GV} (rcs : List C) {cs : List C} {r : C} {os : List (Option C)} (hN : (cs.length == 2 && rcs.length == 1) = true) (hret : retOf rcs = r)
    (hW : W PP [0, 1, 2, 4, 10] (Tryd.f17.ntmps, pinOf 0 [none, none]) (Valid PP GG) c_L_szChain (entry cs) (Fin (Valid PP GG) [(.give, 4, none)] [none, none] rcs os) (fun _ _ => False) (Fin (Valid PP GG) [(.give, 4, none)] [none, none] rcs os)) : Valid PP GG F_L_szChain cs r os :=
  fn_valid_n 2 1 [0, 1, 2, 4, 10] c_L_szChain [(.give, 4, none)] [none, none] rcs Tryd.func17 rfl rfl (by kernel_rfl) k_L_szChain rfl rfl hN hret hW


/-
loop.example/g00705/laws.toChain  params 1+0 results [2]
  seq  mid=[1, 2]
    c_L_toChain_0
    seq  mid=[1, 2, 3]
      c_L_toChain_1
      seq  mid=[1, 2, 3]
        c_L_toChain_2
        seq  mid=[1, 2, 3]
          c_L_toChain_3
          seq  mid=[2, 3]
            c_L_toChain_4
            seq  mid=[2]
              c_L_toChain_5
              ret
-/
def c_L_toChain_0 : ACode := .reg [⟨.var 1, .box (.var 0), none, []⟩,
  ⟨.var 2, .alloc [.d (.int .i64 0), .d (.int .i64 0), .nil 0 7], none, []⟩] false
def c_L_toChain_1 : ACode := .reg [⟨.var 3, .alloc [.d (.int .i64 0), .d (.int .i64 0), .nil 0 7], none, []⟩] false
def c_L_toChain_2 : ACode := .reg [⟨.loc 4, .fld 0 (.var 1), none, []⟩,
  ⟨.loc 5, .load false 1 (.loc 4), none, []⟩,
  ⟨.loc 6, .fld 0 (.var 3), none, []⟩,
  ⟨.none, .store 1 (.loc 6) (.loc 5), none, []⟩] false
def c_L_toChain_3 : ACode := .reg [⟨.loc 7, .fld 1 (.var 1), none, []⟩,
  ⟨.loc 8, .load false 1 (.loc 7), none, []⟩,
  ⟨.loc 9, .fld 1 (.var 3), none, []⟩,
  ⟨.none, .store 1 (.loc 9) (.loc 8), none, []⟩] false
def c_L_toChain_4 : ACode := .reg [⟨.loc 10, .fld 2 (.var 1), none, []⟩,
  ⟨.loc 11, .load false 1 (.loc 10), none, []⟩,
  ⟨.loc 12, .call (.fn 54) [(.loc 11)] [.borrow], none, []⟩,
  ⟨.loc 13, .fld 2 (.var 3), none, []⟩,
  ⟨.none, .store 1 (.loc 13) (.loc 12), none, []⟩] false
def c_L_toChain_5 : ACode := .reg [⟨.loc 14, .load true 3 (.var 3), none, []⟩,
  ⟨.none, .store 3 (.var 2) (.loc 14), none, []⟩] false
def c_L_toChain : ACode := (.seq c_L_toChain_0 (.seq c_L_toChain_1 (.seq c_L_toChain_2 (.seq c_L_toChain_3 (.seq c_L_toChain_4 (.seq c_L_toChain_5 .ret))))))

abbrev F_L_toChain : FuncId := 19

theorem k_L_toChain : comp PP (Tryd.f19.ntmps, pinOf 0 [none]) [0, 1, 2, 3] (Tryd.f19.body.getD .skip) = some c_L_toChain.erase := by kernel_rfl

theorem v_L_toChain {GG : GV} (rcs : List C) {cs : List C} {r : C} {os : List (Option C)} (hN : (cs.length == 1 && rcs.length == 1) = true) (hret : retOf rcs = r)
    (hW : W PP [0, 1, 2, 3] (Tryd.f19.ntmps, pinOf 0 [none]) (Valid PP GG) c_L_toChain (entry cs) (Fin (Valid PP GG) [(.give, 2, some (true, 3))] [none] rcs os) (fun _ _ => False) (Fin (Valid PP GG) [(.give, 2, some (true, 3))] [none] rcs os)) : Valid PP GG F_L_toChain cs r os :=
  fn_valid_n 1 1 [0, 1, 2, 3] c_L_toChain [(.give, 2, some (true, 3))] [none] rcs Tryd.func19 rfl rfl (by kernel_rfl) k_L_toChain rfl rfl hN hret hW


/-
loop.example/g00705/laws.toNoteS  params 1+0 results [2]
  seq  mid=[0]
    c_L_toNoteS_0
    seq  mid=[0, 3]
      c_L_toNoteS_1
      seq  mid=[3]
        seq  mid=[0, 3, 4]
          c_L_toNoteS_2
          block 0
            loop live=[0, 3, 4]
              seq  mid=[0, 3, 4]
                seq  mid=[0, 3, 4, 11]
                  c_L_toNoteS_3
                  cond (.var 11)
                    skip
                    exit 0
                seq  mid=[0, 3, 4]
                  block 1
                    c_L_toNoteS_4
                  c_L_toNoteS_5
        seq  mid=[2]
          c_L_toNoteS_7
          ret
-/
def c_L_toNoteS_0 : ACode := .reg [⟨.var 2, .mv (.const (.nil 0 7)), none, []⟩] false
def c_L_toNoteS_1 : ACode := .reg [⟨.loc 5, .mv (.var 0), none, []⟩,
  ⟨.loc 6, .len false (.loc 5), none, []⟩,
  ⟨.loc 7, .mkslice 0 7 72 [.int .i64 0, .int .i64 0, .int .i64 0, .str [], .str [], .int .i64 0, .int .i64 0] (.loc 6) (.loc 6), none, []⟩,
  ⟨.var 3, .mv (.loc 7), none, []⟩] false
def c_L_toNoteS_2 : ACode := .reg [⟨.var 4, .mv (.const (.d (.int .i64 0))), none, []⟩] false
def c_L_toNoteS_3 : ACode := .reg [⟨.loc 8, .mv (.var 4), none, []⟩,
  ⟨.loc 9, .mv (.var 0), none, []⟩,
  ⟨.loc 10, .len false (.loc 9), none, []⟩,
  ⟨.var 11, .bin .int .lss (.loc 8) (.loc 10), none, []⟩] false
def c_L_toNoteS_4 : ACode := .reg [⟨.loc 14, .mv (.var 3), none, []⟩,
  ⟨.loc 15, .mv (.var 4), none, []⟩,
  ⟨.loc 16, .mv (.var 0), none, []⟩,
  ⟨.loc 17, .mv (.var 4), none, []⟩,
  ⟨.loc 18, .idxA 7 (.loc 16) (.loc 17), none, []⟩,
  ⟨.loc 19, .load true 7 (.loc 18), none, []⟩,
  ⟨.loc 20, .call (.fn 89) [(.loc 19)] [.borrow], none, []⟩,
  ⟨.loc 21, .idxA 7 (.loc 14) (.loc 15), none, []⟩,
  ⟨.none, .store 7 (.loc 21) (.loc 20), none, []⟩] false
def c_L_toNoteS_5 : ACode := .reg [⟨.loc 12, .mv (.var 4), none, []⟩,
  ⟨.loc 13, .bin .int .add (.loc 12) (.const (.d (.int .i64 1))), none, []⟩,
  ⟨.var 4, .mv (.loc 13), none, []⟩] false
def c_L_toNoteS_6 : ACode := (.seq (.seq c_L_toNoteS_3 (.cond (.var 11) .skip (.exit 0))) (.seq (.block 1 c_L_toNoteS_4) c_L_toNoteS_5))
def c_L_toNoteS_7 : ACode := .reg [⟨.loc 22, .mv (.var 3), none, []⟩,
  ⟨.var 2, .mv (.loc 22), none, []⟩] false
def c_L_toNoteS : ACode := (.seq c_L_toNoteS_0 (.seq c_L_toNoteS_1 (.seq (.seq c_L_toNoteS_2 (.block 0 (.loop [0, 3, 4] c_L_toNoteS_6))) (.seq c_L_toNoteS_7 .ret))))

abbrev F_L_toNoteS : FuncId := 54

theorem k_L_toNoteS : comp PP (Tryd.f54.ntmps, pinOf 0 [none]) [0, 2, 3, 4, 11] (Tryd.f54.body.getD .skip) = some c_L_toNoteS.erase := by kernel_rfl

theorem v_L_toNoteS {GG : GV} (rcs : List C) {cs : List C} {r : C} {os : List (Option C)} (hN : (cs.length == 1 && rcs.length == 1) = true) (hret : retOf rcs = r)
    (hW : W PP [0, 2, 3, 4, 11] (Tryd.f54.ntmps, pinOf 0 [none]) (Valid PP GG) c_L_toNoteS (entry cs) (Fin (Valid PP GG) [(.give, 2, none)] [none] rcs os) (fun _ _ => False) (Fin (Valid PP GG) [(.give, 2, none)] [none] rcs os)) : Valid PP GG F_L_toNoteS cs r os :=
  fn_valid_n 1 1 [0, 2, 3, 4, 11] c_L_toNoteS [(.give, 2, none)] [none] rcs Tryd.func54 rfl rfl (by kernel_rfl) k_L_toNoteS rfl rfl hN hret hW


/-
loop.example/g00705/laws.toNote  params 1+0 results [2]
  seq  mid=[1, 2]
    c_L_toNote_0
    seq  mid=[1, 2, 3]
      c_L_toNote_1
      seq  mid=[1, 2, 3]
        c_L_toNote_2
        seq  mid=[1, 2, 3]
          c_L_toNote_3
          seq  mid=[1, 2, 3]
            c_L_toNote_4
            seq  mid=[1, 2, 3]
              c_L_toNote_5
              seq  mid=[1, 2, 3]
                c_L_toNote_6
                seq  mid=[1, 2, 3]
                  c_L_toNote_7
                  seq  mid=[2, 3]
                    c_L_toNote_8
                    seq  mid=[2]
                      c_L_toNote_9
                      ret
-/
def c_L_toNote_0 : ACode := .reg [⟨.var 1, .box (.var 0), none, []⟩,
  ⟨.var 2, .alloc [.d (.int .i64 0), .d (.int .i64 0), .d (.int .i64 0), .d (.str []), .d (.str []), .d (.int .i64 0), .d (.int .i64 0)], none, []⟩] false
def c_L_toNote_1 : ACode := .reg [⟨.var 3, .alloc [.d (.int .i64 0), .d (.int .i64 0), .d (.int .i64 0), .d (.str []), .d (.str []), .d (.int .i64 0), .d (.int .i64 0)], none, []⟩] false
def c_L_toNote_2 : ACode := .reg [⟨.loc 4, .fld 0 (.var 1), none, []⟩,
  ⟨.loc 5, .load false 1 (.loc 4), none, []⟩,
  ⟨.loc 6, .fld 0 (.var 3), none, []⟩,
  ⟨.none, .store 1 (.loc 6) (.loc 5), none, []⟩] false
def c_L_toNote_3 : ACode := .reg [⟨.loc 7, .fld 1 (.var 1), none, []⟩,
  ⟨.loc 8, .load false 1 (.loc 7), none, []⟩,
  ⟨.loc 9, .fld 1 (.var 3), none, []⟩,
  ⟨.none, .store 1 (.loc 9) (.loc 8), none, []⟩] false
def c_L_toNote_4 : ACode := .reg [⟨.loc 10, .fld 2 (.var 1), none, []⟩,
  ⟨.loc 11, .load false 1 (.loc 10), none, []⟩,
  ⟨.loc 12, .fld 2 (.var 3), none, []⟩,
  ⟨.none, .store 1 (.loc 12) (.loc 11), none, []⟩] false
def c_L_toNote_5 : ACode := .reg [⟨.loc 13, .fld 3 (.var 1), none, []⟩,
  ⟨.loc 14, .load false 1 (.loc 13), none, []⟩,
  ⟨.loc 15, .fld 3 (.var 3), none, []⟩,
  ⟨.none, .store 1 (.loc 15) (.loc 14), none, []⟩] false
def c_L_toNote_6 : ACode := .reg [⟨.loc 16, .fld 4 (.var 1), none, []⟩,
  ⟨.loc 17, .load false 1 (.loc 16), none, []⟩,
  ⟨.loc 18, .fld 4 (.var 3), none, []⟩,
  ⟨.none, .store 1 (.loc 18) (.loc 17), none, []⟩] false
def c_L_toNote_7 : ACode := .reg [⟨.loc 19, .fld 5 (.var 1), none, []⟩,
  ⟨.loc 20, .load false 1 (.loc 19), none, []⟩,
  ⟨.loc 21, .fld 5 (.var 3), none, []⟩,
  ⟨.none, .store 1 (.loc 21) (.loc 20), none, []⟩] false
def c_L_toNote_8 : ACode := .reg [⟨.loc 22, .fld 6 (.var 1), none, []⟩,
  ⟨.loc 23, .load false 1 (.loc 22), none, []⟩,
  ⟨.loc 24, .fld 6 (.var 3), none, []⟩,
  ⟨.none, .store 1 (.loc 24) (.loc 23), none, []⟩] false
def c_L_toNote_9 : ACode := .reg [⟨.loc 25, .load true 7 (.var 3), none, []⟩,
  ⟨.none, .store 7 (.var 2) (.loc 25), none, []⟩] false
def c_L_toNote : ACode := (.seq c_L_toNote_0 (.seq c_L_toNote_1 (.seq c_L_toNote_2 (.seq c_L_toNote_3 (.seq c_L_toNote_4 (.seq c_L_toNote_5 (.seq c_L_toNote_6 (.seq c_L_toNote_7 (.seq c_L_toNote_8 (.seq c_L_toNote_9 .ret))))))))))

abbrev F_L_toNote : FuncId := 89

theorem k_L_toNote : comp PP (Tryd.f89.ntmps, pinOf 0 [none]) [0, 1, 2, 3] (Tryd.f89.body.getD .skip) = some c_L_toNote.erase := by kernel_rfl

theorem v_L_toNote {GG : GV} (rcs : List C) {cs : List C} {r : C} {os : List (Option C)} (hN : (cs.length == 1 && rcs.length == 1) = true) (hret : retOf rcs = r)
    (hW : W PP [0, 1, 2, 3] (Tryd.f89.ntmps, pinOf 0 [none]) (Valid PP GG) c_L_toNote (entry cs) (Fin (Valid PP GG) [(.give, 2, some (true, 7))] [none] rcs os) (fun _ _ => False) (Fin (Valid PP GG) [(.give, 2, some (true, 7))] [none] rcs os)) : Valid PP GG F_L_toNote cs r os :=
  fn_valid_n 1 1 [0, 1, 2, 3] c_L_toNote [(.give, 2, some (true, 7))] [none] rcs Tryd.func89 rfl rfl (by kernel_rfl) k_L_toNote rfl rfl hN hret hW


/-
loop.example/g00705/laws.eqChain  params 2+0 results [4]
  seq  mid=[2, 3]
    c_L_eqChain_0
    seq  mid=[2, 3]
      seq  mid=[2, 3, 9]
        c_L_eqChain_1
        cond (.var 9)
          seq  mid=[4]
            c_L_eqChain_2
            ret
          skip
      seq  mid=[2, 3]
        seq  mid=[2, 3, 14]
          c_L_eqChain_3
          cond (.var 14)
            seq  mid=[4]
              c_L_eqChain_4
              ret
            skip
        seq  mid=[]
          seq  mid=[20]
            c_L_eqChain_5
            cond (.var 20)
              seq  mid=[4]
                c_L_eqChain_6
                ret
              skip
          seq  mid=[4]
            c_L_eqChain_7
            ret
-/
def c_L_eqChain_0 : ACode := .reg [⟨.var 2, .box (.var 0), none, []⟩,
  ⟨.var 3, .box (.var 1), none, []⟩,
  ⟨.var 4, .mv (.const (.d (.bool false))), none, []⟩] false
def c_L_eqChain_1 : ACode := .reg [⟨.loc 5, .fld 0 (.var 2), none, []⟩,
  ⟨.loc 6, .load false 1 (.loc 5), none, []⟩,
  ⟨.loc 7, .fld 0 (.var 3), none, []⟩,
  ⟨.loc 8, .load false 1 (.loc 7), none, []⟩,
  ⟨.var 9, .bin .int .neq (.loc 6) (.loc 8), none, []⟩] false
def c_L_eqChain_2 : ACode := .reg [⟨.var 4, .mv (.const (.d (.bool false))), none, []⟩] false
def c_L_eqChain_3 : ACode := .reg [⟨.loc 10, .fld 1 (.var 2), none, []⟩,
  ⟨.loc 11, .load false 1 (.loc 10), none, []⟩,
  ⟨.loc 12, .fld 1 (.var 3), none, []⟩,
  ⟨.loc 13, .load false 1 (.loc 12), none, []⟩,
  ⟨.var 14, .bin .int .neq (.loc 11) (.loc 13), none, []⟩] false
def c_L_eqChain_4 : ACode := .reg [⟨.var 4, .mv (.const (.d (.bool false))), none, []⟩] false
def c_L_eqChain_5 : ACode := .reg [⟨.loc 15, .fld 2 (.var 2), none, []⟩,
  ⟨.loc 16, .load false 1 (.loc 15), none, []⟩,
  ⟨.loc 17, .fld 2 (.var 3), none, []⟩,
  ⟨.loc 18, .load false 1 (.loc 17), none, []⟩,
  ⟨.loc 19, .call (.fn 56) [(.loc 16), (.loc 18)] [.borrow, .borrow], none, []⟩,
  ⟨.var 20, .un .not (.loc 19), none, []⟩] false
def c_L_eqChain_6 : ACode := .reg [⟨.var 4, .mv (.const (.d (.bool false))), none, []⟩] false
def c_L_eqChain_7 : ACode := .reg [⟨.var 4, .mv (.const (.d (.bool true))), none, []⟩] false
def c_L_eqChain : ACode := (.seq c_L_eqChain_0 (.seq (.seq c_L_eqChain_1 (.cond (.var 9) (.seq c_L_eqChain_2 .ret) .skip)) (.seq (.seq c_L_eqChain_3 (.cond (.var 14) (.seq c_L_eqChain_4 .ret) .skip)) (.seq (.seq c_L_eqChain_5 (.cond (.var 20) (.seq c_L_eqChain_6 .ret) .skip)) (.seq c_L_eqChain_7 .ret)))))

abbrev F_L_eqChain : FuncId := 21

theorem k_L_eqChain : comp PP (Tryd.f21.ntmps, pinOf 0 [none, none]) [0, 1, 2, 3, 4, 9, 14, 20] (Tryd.f21.body.getD .skip) = some c_L_eqChain.erase := by kernel_rfl

theorem v_L_eqChain {GG : GV} (rcs : List C) {cs : List C} {r : C} {os : List (Option C)} (hN : (cs.length == 2 && rcs.length == 1) = true) (hret : retOf rcs = r)
    (hW : W PP [0, 1, 2, 3, 4, 9, 14, 20] (Tryd.f21.ntmps, pinOf 0 [none, none]) (Valid PP GG) c_L_eqChain (entry cs) (Fin (Valid PP GG) [(.give, 4, none)] [none, none] rcs os) (fun _ _ => False) (Fin (Valid PP GG) [(.give, 4, none)] [none, none] rcs os)) : Valid PP GG F_L_eqChain cs r os :=
  fn_valid_n 2 1 [0, 1, 2, 3, 4, 9, 14, 20] c_L_eqChain [(.give, 4, none)] [none, none] rcs Tryd.func21 rfl rfl (by kernel_rfl) k_L_eqChain rfl rfl hN hret hW


/-
loop.example/g00705/laws.eqNoteS  params 2+0 results [4]
  seq  mid=[0, 1]
    c_L_eqNoteS_0
    seq  mid=[0, 1]
      seq  mid=[0, 1, 10]
        c_L_eqNoteS_1
        cond (.var 10)
          seq  mid=[4]
            c_L_eqNoteS_2
            ret
          skip
      seq  mid=[]
        seq  mid=[0, 1, 5]
          c_L_eqNoteS_3
          block 0
            loop live=[0, 1, 5]
              seq  mid=[0, 1, 5]
                seq  mid=[0, 1, 5, 14]
                  c_L_eqNoteS_4
                  cond (.var 14)
                    skip
                    exit 0
                seq  mid=[0, 1, 5]
                  block 1
                    seq  mid=[0, 1, 5, 26]
                      c_L_eqNoteS_5 DRAW
                      cond (.var 26)
                        seq  mid=[4]
                          c_L_eqNoteS_6
                          ret
                        skip
                  c_L_eqNoteS_7
        seq  mid=[4]
          c_L_eqNoteS_9
          ret
-/
def c_L_eqNoteS_0 : ACode := .reg [⟨.var 4, .mv (.const (.d (.bool false))), none, []⟩] false
def c_L_eqNoteS_1 : ACode := .reg [⟨.loc 6, .mv (.var 0), none, []⟩,
  ⟨.loc 7, .len false (.loc 6), none, []⟩,
  ⟨.loc 8, .mv (.var 1), none, []⟩,
  ⟨.loc 9, .len false (.loc 8), none, []⟩,
  ⟨.var 10, .bin .int .neq (.loc 7) (.loc 9), none, []⟩] false
def c_L_eqNoteS_2 : ACode := .reg [⟨.var 4, .mv (.const (.d (.bool false))), none, []⟩] false
def c_L_eqNoteS_3 : ACode := .reg [⟨.var 5, .mv (.const (.d (.int .i64 0))), none, []⟩] false
def c_L_eqNoteS_4 : ACode := .reg [⟨.loc 11, .mv (.var 5), none, []⟩,
  ⟨.loc 12, .mv (.var 0), none, []⟩,
  ⟨.loc 13, .len false (.loc 12), none, []⟩,
  ⟨.var 14, .bin .int .lss (.loc 11) (.loc 13), none, []⟩] false
def c_L_eqNoteS_5 : ACode := .reg [⟨.loc 17, .mv (.var 0), none, []⟩,
  ⟨.loc 18, .mv (.var 5), none, []⟩,
  ⟨.loc 19, .idxA 7 (.loc 17) (.loc 18), none, [0, 1]⟩,
  ⟨.loc 20, .load true 7 (.loc 19), none, [2, 0, 1]⟩,
  ⟨.loc 21, .mv (.var 1), none, []⟩,
  ⟨.loc 22, .mv (.var 5), none, []⟩,
  ⟨.loc 23, .idxA 7 (.loc 21) (.loc 22), none, [4, 5]⟩,
  ⟨.loc 24, .load true 7 (.loc 23), none, [6, 4, 5]⟩,
  ⟨.loc 25, .call (.fn 91) [(.loc 20), (.loc 24)] [.borrow, .borrow], none, [3, 2, 0, 1, 7, 6, 4, 5]⟩,
  ⟨.var 26, .un .not (.loc 25), none, [8, 3, 2, 0, 1, 7, 6, 4, 5]⟩] true
def c_L_eqNoteS_6 : ACode := .reg [⟨.var 4, .mv (.const (.d (.bool false))), none, []⟩] false
def c_L_eqNoteS_7 : ACode := .reg [⟨.loc 15, .mv (.var 5), none, []⟩,
  ⟨.loc 16, .bin .int .add (.loc 15) (.const (.d (.int .i64 1))), none, []⟩,
  ⟨.var 5, .mv (.loc 16), none, []⟩] false
def c_L_eqNoteS_8 : ACode := (.seq (.seq c_L_eqNoteS_4 (.cond (.var 14) .skip (.exit 0))) (.seq (.block 1 (.seq c_L_eqNoteS_5 (.cond (.var 26) (.seq c_L_eqNoteS_6 .ret) .skip))) c_L_eqNoteS_7))
def c_L_eqNoteS_9 : ACode := .reg [⟨.var 4, .mv (.const (.d (.bool true))), none, []⟩] false
def c_L_eqNoteS : ACode := (.seq c_L_eqNoteS_0 (.seq (.seq c_L_eqNoteS_1 (.cond (.var 10) (.seq c_L_eqNoteS_2 .ret) .skip)) (.seq (.seq c_L_eqNoteS_3 (.block 0 (.loop [0, 1, 5] c_L_eqNoteS_8))) (.seq c_L_eqNoteS_9 .ret))))

abbrev F_L_eqNoteS : FuncId := 56

theorem k_L_eqNoteS : comp PP (Tryd.f56.ntmps, pinOf 0 [none, none]) [0, 1, 4, 5, 10, 14, 26] (Tryd.f56.body.getD .skip) = some c_L_eqNoteS.erase := by kernel_rfl

theorem v_L_eqNoteS {GG : GV} (rcs : List C) {cs : List C} {r : C} {os : List (Option C)} (hN : (cs.length == 2 && rcs.length == 1) = true) (hret : retOf rcs = r)
    (hW : W PP [0, 1, 4, 5, 10, 14, 26] (Tryd.f56.ntmps, pinOf 0 [none, none]) (Valid PP GG) c_L_eqNoteS (entry cs) (Fin (Valid PP GG) [(.give, 4, none)] [none, none] rcs os) (fun _ _ => False) (Fin (Valid PP GG) [(.give, 4, none)] [none, none] rcs os)) : Valid PP GG F_L_eqNoteS cs r os :=
  fn_valid_n 2 1 [0, 1, 4, 5, 10, 14, 26] c_L_eqNoteS [(.give, 4, none)] [none, none] rcs Tryd.func56 rfl rfl (by kernel_rfl) k_L_eqNoteS rfl rfl hN hret hW


/-
loop.example/g00705/laws.eqNote  params 2+0 results [4]
  seq  mid=[2, 3]
    c_L_eqNote_0
    seq  mid=[2, 3]
      seq  mid=[2, 3, 9]
        c_L_eqNote_1
        cond (.var 9)
          seq  mid=[4]
            c_L_eqNote_2
            ret
          skip
      seq  mid=[2, 3]
        seq  mid=[2, 3, 14]
          c_L_eqNote_3
          cond (.var 14)
            seq  mid=[4]
              c_L_eqNote_4
              ret
            skip
        seq  mid=[2, 3]
          seq  mid=[2, 3, 19]
            c_L_eqNote_5
            cond (.var 19)
              seq  mid=[4]
                c_L_eqNote_6
                ret
              skip
          seq  mid=[2, 3]
            seq  mid=[2, 3, 24]
              c_L_eqNote_7
              cond (.var 24)
                seq  mid=[4]
                  c_L_eqNote_8
                  ret
                skip
            seq  mid=[2, 3]
              seq  mid=[2, 3, 29]
                c_L_eqNote_9
                cond (.var 29)
                  seq  mid=[4]
                    c_L_eqNote_10
                    ret
                  skip
              seq  mid=[2, 3]
                seq  mid=[2, 3, 34]
                  c_L_eqNote_11
                  cond (.var 34)
                    seq  mid=[4]
                      c_L_eqNote_12
                      ret
                    skip
                seq  mid=[]
                  seq  mid=[39]
                    c_L_eqNote_13
                    cond (.var 39)
                      seq  mid=[4]
                        c_L_eqNote_14
                        ret
                      skip
                  seq  mid=[4]
                    c_L_eqNote_15
                    ret
-/
def c_L_eqNote_0 : ACode := .reg [⟨.var 2, .box (.var 0), none, []⟩,
  ⟨.var 3, .box (.var 1), none, []⟩,
  ⟨.var 4, .mv (.const (.d (.bool false))), none, []⟩] false
def c_L_eqNote_1 : ACode := .reg [⟨.loc 5, .fld 0 (.var 2), none, []⟩,
  ⟨.loc 6, .load false 1 (.loc 5), none, []⟩,
  ⟨.loc 7, .fld 0 (.var 3), none, []⟩,
  ⟨.loc 8, .load false 1 (.loc 7), none, []⟩,
  ⟨.var 9, .bin .int .neq (.loc 6) (.loc 8), none, []⟩] false
def c_L_eqNote_2 : ACode := .reg [⟨.var 4, .mv (.const (.d (.bool false))), none, []⟩] false
def c_L_eqNote_3 : ACode := .reg [⟨.loc 10, .fld 1 (.var 2), none, []⟩,
  ⟨.loc 11, .load false 1 (.loc 10), none, []⟩,
  ⟨.loc 12, .fld 1 (.var 3), none, []⟩,
  ⟨.loc 13, .load false 1 (.loc 12), none, []⟩,
  ⟨.var 14, .bin .int .neq (.loc 11) (.loc 13), none, []⟩] false
def c_L_eqNote_4 : ACode := .reg [⟨.var 4, .mv (.const (.d (.bool false))), none, []⟩] false
def c_L_eqNote_5 : ACode := .reg [⟨.loc 15, .fld 2 (.var 2), none, []⟩,
  ⟨.loc 16, .load false 1 (.loc 15), none, []⟩,
  ⟨.loc 17, .fld 2 (.var 3), none, []⟩,
  ⟨.loc 18, .load false 1 (.loc 17), none, []⟩,
  ⟨.var 19, .bin .int .neq (.loc 16) (.loc 18), none, []⟩] false
def c_L_eqNote_6 : ACode := .reg [⟨.var 4, .mv (.const (.d (.bool false))), none, []⟩] false
def c_L_eqNote_7 : ACode := .reg [⟨.loc 20, .fld 3 (.var 2), none, []⟩,
  ⟨.loc 21, .load false 1 (.loc 20), none, []⟩,
  ⟨.loc 22, .fld 3 (.var 3), none, []⟩,
  ⟨.loc 23, .load false 1 (.loc 22), none, []⟩,
  ⟨.var 24, .bin .str .neq (.loc 21) (.loc 23), none, []⟩] false
def c_L_eqNote_8 : ACode := .reg [⟨.var 4, .mv (.const (.d (.bool false))), none, []⟩] false
def c_L_eqNote_9 : ACode := .reg [⟨.loc 25, .fld 4 (.var 2), none, []⟩,
  ⟨.loc 26, .load false 1 (.loc 25), none, []⟩,
  ⟨.loc 27, .fld 4 (.var 3), none, []⟩,
  ⟨.loc 28, .load false 1 (.loc 27), none, []⟩,
  ⟨.var 29, .bin .str .neq (.loc 26) (.loc 28), none, []⟩] false
def c_L_eqNote_10 : ACode := .reg [⟨.var 4, .mv (.const (.d (.bool false))), none, []⟩] false
def c_L_eqNote_11 : ACode := .reg [⟨.loc 30, .fld 5 (.var 2), none, []⟩,
  ⟨.loc 31, .load false 1 (.loc 30), none, []⟩,
  ⟨.loc 32, .fld 5 (.var 3), none, []⟩,
  ⟨.loc 33, .load false 1 (.loc 32), none, []⟩,
  ⟨.var 34, .bin .int .neq (.loc 31) (.loc 33), none, []⟩] false
def c_L_eqNote_12 : ACode := .reg [⟨.var 4, .mv (.const (.d (.bool false))), none, []⟩] false
def c_L_eqNote_13 : ACode := .reg [⟨.loc 35, .fld 6 (.var 2), none, []⟩,
  ⟨.loc 36, .load false 1 (.loc 35), none, []⟩,
  ⟨.loc 37, .fld 6 (.var 3), none, []⟩,
  ⟨.loc 38, .load false 1 (.loc 37), none, []⟩,
  ⟨.var 39, .bin .int .neq (.loc 36) (.loc 38), none, []⟩] false
def c_L_eqNote_14 : ACode := .reg [⟨.var 4, .mv (.const (.d (.bool false))), none, []⟩] false
def c_L_eqNote_15 : ACode := .reg [⟨.var 4, .mv (.const (.d (.bool true))), none, []⟩] false
def c_L_eqNote : ACode := (.seq c_L_eqNote_0 (.seq (.seq c_L_eqNote_1 (.cond (.var 9) (.seq c_L_eqNote_2 .ret) .skip)) (.seq (.seq c_L_eqNote_3 (.cond (.var 14) (.seq c_L_eqNote_4 .ret) .skip)) (.seq (.seq c_L_eqNote_5 (.cond (.var 19) (.seq c_L_eqNote_6 .ret) .skip)) (.seq (.seq c_L_eqNote_7 (.cond (.var 24) (.seq c_L_eqNote_8 .ret) .skip)) (.seq (.seq c_L_eqNote_9 (.cond (.var 29) (.seq c_L_eqNote_10 .ret) .skip)) (.seq (.seq c_L_eqNote_11 (.cond (.var 34) (.seq c_L_eqNote_12 .ret) .skip)) (.seq (.seq c_L_eqNote_13 (.cond (.var 39) (.seq c_L_eqNote_14 .ret) .skip)) (.seq c_L_eqNote_15 .ret)))))))))

abbrev F_L_eqNote : FuncId := 91

theorem k_L_eqNote : comp PP (Tryd.f91.ntmps, pinOf 0 [none, none]) [0, 1, 2, 3, 4, 9, 14, 19, 24, 29, 34, 39] (Tryd.f91.body.getD .skip) = some c_L_eqNote.erase := by kernel_rfl

theorem v_L_eqNote {GG : GV} (rcs : List C) {cs : List C} {r : C} {os : List (Option C)} (hN : (cs.length == 2 && rcs.length == 1) = true) (hret : retOf rcs = r)
    (hW : W PP [0, 1, 2, 3, 4, 9, 14, 19, 24, 29, 34, 39] (Tryd.f91.ntmps, pinOf 0 [none, none]) (Valid PP GG) c_L_eqNote (entry cs) (Fin (Valid PP GG) [(.give, 4, none)] [none, none] rcs os) (fun _ _ => False) (Fin (Valid PP GG) [(.give, 4, none)] [none, none] rcs os)) : Valid PP GG F_L_eqNote cs r os :=
  fn_valid_n 2 1 [0, 1, 2, 3, 4, 9, 14, 19, 24, 29, 34, 39] c_L_eqNote [(.give, 4, none)] [none, none] rcs Tryd.func91 rfl rfl (by kernel_rfl) k_L_eqNote rfl rfl hN hret hW


/-
loop.example/g00705/laws.szRack  params 2+0 results [4]
  seq  mid=[1, 2]
    c_L_szRack_0
    seq  mid=[1]
      c_L_szRack_1
      seq  mid=[1]
        seq  mid=[1, 10]
          c_L_szRack_2
          cond (.var 10)
            seq  mid=[4]
              c_L_szRack_3
              ret
            skip
        seq  mid=[4]
          c_L_szRack_4
          ret
-/
def c_L_szRack_0 : ACode := .reg [⟨.var 2, .box (.var 0), none, []⟩,
  ⟨.var 4, .mv (.const (.d (.int .i64 0))), none, []⟩] false
def c_L_szRack_1 : ACode := .reg [⟨.loc 5, .fld 2 (.var 2), none, []⟩,
  ⟨.loc 6, .load false 1 (.loc 5), none, []⟩,
  ⟨.loc 7, .mv (.var 1), none, []⟩,
  ⟨.loc 8, .call (.fn 58) [(.loc 6), (.loc 7)] [.borrow, .borrow], none, []⟩,
  ⟨.var 1, .mv (.loc 8), none, []⟩] false
def c_L_szRack_2 : ACode := .reg [⟨.loc 9, .mv (.var 1), none, []⟩,
  ⟨.var 10, .bin .int .lss (.loc 9) (.const (.d (.int .i64 0))), none, []⟩] false
def c_L_szRack_3 : ACode := .reg [⟨.var 4, .mv (.const (.d (.int .i64 (-1)))), none, []⟩] false
def c_L_szRack_4 : ACode := .reg [⟨.loc 11, .mv (.var 1), none, []⟩,
  ⟨.var 4, .mv (.loc 11), none, []⟩] false
def c_L_szRack : ACode := (.seq c_L_szRack_0 (.seq c_L_szRack_1 (.seq (.seq c_L_szRack_2 (.cond (.var 10) (.seq c_L_szRack_3 .ret) .skip)) (.seq c_L_szRack_4 .ret))))

abbrev F_L_szRack : FuncId := 24

theorem k_L_szRack : comp PP (Tryd.f24.ntmps, pinOf 0 [none, none]) [0, 1, 2, 4, 10] (Tryd.f24.body.getD .skip) = some c_L_szRack.erase := by kernel_rfl

theorem v_L_szRack {GG : GV} (rcs : List C) {cs : List C} {r : C} {os : List (Option C)} (hN : (cs.length == 2 && rcs.length == 1) = true) (hret : retOf rcs = r)
    (hW : W PP [0, 1, 2, 4, 10] (Tryd.f24.ntmps, pinOf 0 [none, none]) (Valid PP GG) c_L_szRack (entry cs) (Fin (Valid PP GG) [(.give, 4, none)] [none, none] rcs os) (fun _ _ => False) (Fin (Valid PP GG) [(.give, 4, none)] [none, none] rcs os)) : Valid PP GG F_L_szRack cs r os :=
  fn_valid_n 2 1 [0, 1, 2, 4, 10] c_L_szRack [(.give, 4, none)] [none, none] rcs Tryd.func24 rfl rfl (by kernel_rfl) k_L_szRack rfl rfl hN hret hW


/-
loop.example/g00705/laws.szWrapS  params 2+0 results [4]
  seq  mid=[0, 1]
    c_L_szWrapS_0
    seq  mid=[0, 1]
      c_L_szWrapS_1
      seq  mid=[0, 1]
        seq  mid=[0, 1, 11]
          c_L_szWrapS_2
          cond (.var 11)
            seq  mid=[4]
              c_L_szWrapS_3
              ret
            skip
        seq  mid=[1]
          seq  mid=[0, 1, 5]
            c_L_szWrapS_4
            block 0
              loop live=[0, 1, 5]
                seq  mid=[0, 1, 5]
                  seq  mid=[0, 1, 5, 15]
                    c_L_szWrapS_5
                    cond (.var 15)
                      skip
                      exit 0
                  seq  mid=[0, 1, 5]
                    block 1
                      seq  mid=[0, 1, 5]
                        c_L_szWrapS_6
                        seq  mid=[0, 1, 5, 25]
                          c_L_szWrapS_7
                          cond (.var 25)
                            seq  mid=[4]
                              c_L_szWrapS_8
                              ret
                            skip
                    c_L_szWrapS_9
          seq  mid=[4]
            c_L_szWrapS_11
            ret
-/
def c_L_szWrapS_0 : ACode := .reg [⟨.var 4, .mv (.const (.d (.int .i64 0))), none, []⟩] false
def c_L_szWrapS_1 : ACode := .reg [⟨.loc 6, .mv (.var 1), none, []⟩,
  ⟨.loc 7, .mv (.var 0), none, []⟩,
  ⟨.loc 8, .len false (.loc 7), none, []⟩,
  ⟨.loc 9, .bin .int .sub (.loc 6) (.loc 8), none, []⟩,
  ⟨.var 1, .mv (.loc 9), none, []⟩] false
def c_L_szWrapS_2 : ACode := .reg [⟨.loc 10, .mv (.var 1), none, []⟩,
  ⟨.var 11, .bin .int .lss (.loc 10) (.const (.d (.int .i64 0))), none, []⟩] false
def c_L_szWrapS_3 : ACode := .reg [⟨.var 4, .mv (.const (.d (.int .i64 (-1)))), none, []⟩] false
def c_L_szWrapS_4 : ACode := .reg [⟨.var 5, .mv (.const (.d (.int .i64 0))), none, []⟩] false
def c_L_szWrapS_5 : ACode := .reg [⟨.loc 12, .mv (.var 5), none, []⟩,
  ⟨.loc 13, .mv (.var 0), none, []⟩,
  ⟨.loc 14, .len false (.loc 13), none, []⟩,
  ⟨.var 15, .bin .int .lss (.loc 12) (.loc 14), none, []⟩] false
def c_L_szWrapS_6 : ACode := .reg [⟨.loc 18, .mv (.var 0), none, []⟩,
  ⟨.loc 19, .mv (.var 5), none, []⟩,
  ⟨.loc 20, .idxA 6 (.loc 18) (.loc 19), none, []⟩,
  ⟨.loc 21, .load true 6 (.loc 20), none, []⟩,
  ⟨.loc 22, .mv (.var 1), none, []⟩,
  ⟨.loc 23, .call (.fn 92) [(.loc 21), (.loc 22)] [.borrow, .borrow], none, []⟩,
  ⟨.var 1, .mv (.loc 23), none, []⟩] false
def c_L_szWrapS_7 : ACode := .reg [⟨.loc 24, .mv (.var 1), none, []⟩,
  ⟨.var 25, .bin .int .lss (.loc 24) (.const (.d (.int .i64 0))), none, []⟩] false
def c_L_szWrapS_8 : ACode := .reg [⟨.var 4, .mv (.const (.d (.int .i64 (-1)))), none, []⟩] false
def c_L_szWrapS_9 : ACode := .reg [⟨.loc 16, .mv (.var 5), none, []⟩,
  ⟨.loc 17, .bin .int .add (.loc 16) (.const (.d (.int .i64 1))), none, []⟩,
  ⟨.var 5, .mv (.loc 17), none, []⟩] false
def c_L_szWrapS_10 : ACode := (.seq (.seq c_L_szWrapS_5 (.cond (.var 15) .skip (.exit 0))) (.seq (.block 1 (.seq c_L_szWrapS_6 (.seq c_L_szWrapS_7 (.cond (.var 25) (.seq c_L_szWrapS_8 .ret) .skip)))) c_L_szWrapS_9))
def c_L_szWrapS_11 : ACode := .reg [⟨.loc 26, .mv (.var 1), none, []⟩,
  ⟨.var 4, .mv (.loc 26), none, []⟩] false
def c_L_szWrapS : ACode := (.seq c_L_szWrapS_0 (.seq c_L_szWrapS_1 (.seq (.seq c_L_szWrapS_2 (.cond (.var 11) (.seq c_L_szWrapS_3 .ret) .skip)) (.seq (.seq c_L_szWrapS_4 (.block 0 (.loop [0, 1, 5] c_L_szWrapS_10))) (.seq c_L_szWrapS_11 .ret)))))

abbrev F_L_szWrapS : FuncId := 58

theorem k_L_szWrapS : comp PP (Tryd.f58.ntmps, pinOf 0 [none, none]) [0, 1, 4, 5, 11, 15, 25] (Tryd.f58.body.getD .skip) = some c_L_szWrapS.erase := by kernel_rfl

theorem v_L_szWrapS {GG : GV} (rcs : List C) {cs : List C} {r : C} {os : List (Option C)} (hN : (cs.length == 2 && rcs.length == 1) = true) (hret : retOf rcs = r)
    (hW : W PP [0, 1, 4, 5, 11, 15, 25] (Tryd.f58.ntmps, pinOf 0 [none, none]) (Valid PP GG) c_L_szWrapS (entry cs) (Fin (Valid PP GG) [(.give, 4, none)] [none, none] rcs os) (fun _ _ => False) (Fin (Valid PP GG) [(.give, 4, none)] [none, none] rcs os)) : Valid PP GG F_L_szWrapS cs r os :=
  fn_valid_n 2 1 [0, 1, 4, 5, 11, 15, 25] c_L_szWrapS [(.give, 4, none)] [none, none] rcs Tryd.func58 rfl rfl (by kernel_rfl) k_L_szWrapS rfl rfl hN hret hW


/-
loop.example/g00705/laws.szWrap  params 2+0 results [4]
  seq  mid=[1, 2]
    c_L_szWrap_0
    seq  mid=[1, 2]
      c_L_szWrap_1
      seq  mid=[1, 2]
        seq  mid=[1, 2, 11]
          c_L_szWrap_2
          cond (.var 11)
            seq  mid=[4]
              c_L_szWrap_3
              ret
            skip
        seq  mid=[1]
          c_L_szWrap_4
          seq  mid=[1]
            seq  mid=[1, 17]
              c_L_szWrap_5
              cond (.var 17)
                seq  mid=[4]
                  c_L_szWrap_6
                  ret
                skip
            seq  mid=[4]
              c_L_szWrap_7
              ret
-/
def c_L_szWrap_0 : ACode := .reg [⟨.var 2, .box (.var 0), none, []⟩,
  ⟨.var 4, .mv (.const (.d (.int .i64 0))), none, []⟩] false
def c_L_szWrap_1 : ACode := .reg [⟨.loc 5, .mv (.var 1), none, []⟩,
  ⟨.loc 6, .fld 2 (.var 2), none, []⟩,
  ⟨.loc 7, .load false 1 (.loc 6), none, []⟩,
  ⟨.loc 8, .len true (.loc 7), none, []⟩,
  ⟨.loc 9, .bin .int .sub (.loc 5) (.loc 8), none, []⟩,
  ⟨.var 1, .mv (.loc 9), none, []⟩] false
def c_L_szWrap_2 : ACode := .reg [⟨.loc 10, .mv (.var 1), none, []⟩,
  ⟨.var 11, .bin .int .lss (.loc 10) (.const (.d (.int .i64 0))), none, []⟩] false
def c_L_szWrap_3 : ACode := .reg [⟨.var 4, .mv (.const (.d (.int .i64 (-1)))), none, []⟩] false
def c_L_szWrap_4 : ACode := .reg [⟨.loc 12, .fld 3 (.var 2), none, []⟩,
  ⟨.loc 13, .load true 3 (.loc 12), none, []⟩,
  ⟨.loc 14, .mv (.var 1), none, []⟩,
  ⟨.loc 15, .call (.fn 118) [(.loc 13), (.loc 14)] [.borrow, .borrow], none, []⟩,
  ⟨.var 1, .mv (.loc 15), none, []⟩] false
def c_L_szWrap_5 : ACode := .reg [⟨.loc 16, .mv (.var 1), none, []⟩,
  ⟨.var 17, .bin .int .lss (.loc 16) (.const (.d (.int .i64 0))), none, []⟩] false
def c_L_szWrap_6 : ACode := .reg [⟨.var 4, .mv (.const (.d (.int .i64 (-1)))), none, []⟩] false
def c_L_szWrap_7 : ACode := .reg [⟨.loc 18, .mv (.var 1), none, []⟩,
  ⟨.var 4, .mv (.loc 18), none, []⟩] false
def c_L_szWrap : ACode := (.seq c_L_szWrap_0 (.seq c_L_szWrap_1 (.seq (.seq c_L_szWrap_2 (.cond (.var 11) (.seq c_L_szWrap_3 .ret) .skip)) (.seq c_L_szWrap_4 (.seq (.seq c_L_szWrap_5 (.cond (.var 17) (.seq c_L_szWrap_6 .ret) .skip)) (.seq c_L_szWrap_7 .ret))))))

abbrev F_L_szWrap : FuncId := 92

theorem k_L_szWrap : comp PP (Tryd.f92.ntmps, pinOf 0 [none, none]) [0, 1, 2, 4, 11, 17] (Tryd.f92.body.getD .skip) = some c_L_szWrap.erase := by kernel_rfl

theorem v_L_szWrap {GG : GV} (rcs : List C) {cs : List C} {r : C} {os : List (Option C)} (hN : (cs.length == 2 && rcs.length == 1) = true) (hret : retOf rcs = r)
    (hW : W PP [0, 1, 2, 4, 11, 17] (Tryd.f92.ntmps, pinOf 0 [none, none]) (Valid PP GG) c_L_szWrap (entry cs) (Fin (Valid PP GG) [(.give, 4, none)] [none, none] rcs os) (fun _ _ => False) (Fin (Valid PP GG) [(.give, 4, none)] [none, none] rcs os)) : Valid PP GG F_L_szWrap cs r os :=
  fn_valid_n 2 1 [0, 1, 2, 4, 11, 17] c_L_szWrap [(.give, 4, none)] [none, none] rcs Tryd.func92 rfl rfl (by kernel_rfl) k_L_szWrap rfl rfl hN hret hW


/-
loop.example/g00705/laws.szBox  params 2+0 results [4]
  seq  mid=[1, 2]
    c_L_szBox_0
    seq  mid=[1]
      c_L_szBox_1
      seq  mid=[1]
        seq  mid=[1, 10]
          c_L_szBox_2
          cond (.var 10)
            seq  mid=[4]
              c_L_szBox_3
              ret
            skip
        seq  mid=[4]
          c_L_szBox_4
          ret
-/
def c_L_szBox_0 : ACode := .reg [⟨.var 2, .box (.var 0), none, []⟩,
  ⟨.var 4, .mv (.const (.d (.int .i64 0))), none, []⟩] false
def c_L_szBox_1 : ACode := .reg [⟨.loc 5, .fld 1 (.var 2), none, []⟩,
  ⟨.loc 6, .load false 1 (.loc 5), none, []⟩,
  ⟨.loc 7, .mv (.var 1), none, []⟩,
  ⟨.loc 8, .call (.fn 130) [(.loc 6), (.loc 7)] [.borrow, .borrow], none, []⟩,
  ⟨.var 1, .mv (.loc 8), none, []⟩] false
def c_L_szBox_2 : ACode := .reg [⟨.loc 9, .mv (.var 1), none, []⟩,
  ⟨.var 10, .bin .int .lss (.loc 9) (.const (.d (.int .i64 0))), none, []⟩] false
def c_L_szBox_3 : ACode := .reg [⟨.var 4, .mv (.const (.d (.int .i64 (-1)))), none, []⟩] false
def c_L_szBox_4 : ACode := .reg [⟨.loc 11, .mv (.var 1), none, []⟩,
  ⟨.var 4, .mv (.loc 11), none, []⟩] false
def c_L_szBox : ACode := (.seq c_L_szBox_0 (.seq c_L_szBox_1 (.seq (.seq c_L_szBox_2 (.cond (.var 10) (.seq c_L_szBox_3 .ret) .skip)) (.seq c_L_szBox_4 .ret))))

abbrev F_L_szBox : FuncId := 118

theorem k_L_szBox : comp PP (Tryd.f118.ntmps, pinOf 0 [none, none]) [0, 1, 2, 4, 10] (Tryd.f118.body.getD .skip) = some c_L_szBox.erase := by kernel_rfl

theorem v_L_szBox {GG : GV} (rcs : List C) {cs : List C} {r : C} {os : List (Option C)} (hN : (cs.length == 2 && rcs.length == 1) = true) (hret : retOf rcs = r)
    (hW : W PP [0, 1, 2, 4, 10] (Tryd.f118.ntmps, pinOf 0 [none, none]) (Valid PP GG) c_L_szBox (entry cs) (Fin (Valid PP GG) [(.give, 4, none)] [none, none] rcs os) (fun _ _ => False) (Fin (Valid PP GG) [(.give, 4, none)] [none, none] rcs os)) : Valid PP GG F_L_szBox cs r os :=
  fn_valid_n 2 1 [0, 1, 2, 4, 10] c_L_szBox [(.give, 4, none)] [none, none] rcs Tryd.func118 rfl rfl (by kernel_rfl) k_L_szBox rfl rfl hN hret hW


/-
loop.example/g00705/laws.szByteS  params 2+0 results [4]
  seq  mid=[0, 1]
    c_L_szByteS_0
    seq  mid=[1]
      c_L_szByteS_1
      seq  mid=[1]
        seq  mid=[1, 10]
          c_L_szByteS_2
          cond (.var 10)
            seq  mid=[4]
              c_L_szByteS_3
              ret
            skip
        seq  mid=[4]
          c_L_szByteS_4
          ret
-/
def c_L_szByteS_0 : ACode := .reg [⟨.var 4, .mv (.const (.d (.int .i64 0))), none, []⟩] false
def c_L_szByteS_1 : ACode := .reg [⟨.loc 5, .mv (.var 1), none, []⟩,
  ⟨.loc 6, .mv (.var 0), none, []⟩,
  ⟨.loc 7, .len false (.loc 6), none, []⟩,
  ⟨.loc 8, .bin .int .sub (.loc 5) (.loc 7), none, []⟩,
  ⟨.var 1, .mv (.loc 8), none, []⟩] false
def c_L_szByteS_2 : ACode := .reg [⟨.loc 9, .mv (.var 1), none, []⟩,
  ⟨.var 10, .bin .int .lss (.loc 9) (.const (.d (.int .i64 0))), none, []⟩] false
def c_L_szByteS_3 : ACode := .reg [⟨.var 4, .mv (.const (.d (.int .i64 (-1)))), none, []⟩] false
def c_L_szByteS_4 : ACode := .reg [⟨.loc 11, .mv (.var 1), none, []⟩,
  ⟨.var 4, .mv (.loc 11), none, []⟩] false
def c_L_szByteS : ACode := (.seq c_L_szByteS_0 (.seq c_L_szByteS_1 (.seq (.seq c_L_szByteS_2 (.cond (.var 10) (.seq c_L_szByteS_3 .ret) .skip)) (.seq c_L_szByteS_4 .ret))))

abbrev F_L_szByteS : FuncId := 130

theorem k_L_szByteS : comp PP (Tryd.f130.ntmps, pinOf 0 [none, none]) [0, 1, 4, 10] (Tryd.f130.body.getD .skip) = some c_L_szByteS.erase := by kernel_rfl

theorem v_L_szByteS {GG : GV} (rcs : List C) {cs : List C} {r : C} {os : List (Option C)} (hN : (cs.length == 2 && rcs.length == 1) = true) (hret : retOf rcs = r)
    (hW : W PP [0, 1, 4, 10] (Tryd.f130.ntmps, pinOf 0 [none, none]) (Valid PP GG) c_L_szByteS (entry cs) (Fin (Valid PP GG) [(.give, 4, none)] [none, none] rcs os) (fun _ _ => False) (Fin (Valid PP GG) [(.give, 4, none)] [none, none] rcs os)) : Valid PP GG F_L_szByteS cs r os :=
  fn_valid_n 2 1 [0, 1, 4, 10] c_L_szByteS [(.give, 4, none)] [none, none] rcs Tryd.func130 rfl rfl (by kernel_rfl) k_L_szByteS rfl rfl hN hret hW


/-
loop.example/g00705/laws.toRack  params 1+0 results [2]
  seq  mid=[1, 2]
    c_L_toRack_0
    seq  mid=[1, 2, 3]
      c_L_toRack_1
      seq  mid=[1, 2, 3]
        c_L_toRack_2
        seq  mid=[1, 2, 3]
          c_L_toRack_3
          seq  mid=[2, 3]
            c_L_toRack_4
            seq  mid=[2]
              c_L_toRack_5
              ret
-/
def c_L_toRack_0 : ACode := .reg [⟨.var 1, .box (.var 0), none, []⟩,
  ⟨.var 2, .alloc [.d (.int .i64 0), .d (.int .i64 0), .nil 1 6], none, []⟩] false
def c_L_toRack_1 : ACode := .reg [⟨.var 3, .alloc [.d (.int .i64 0), .d (.int .i64 0), .nil 1 6], none, []⟩] false
def c_L_toRack_2 : ACode := .reg [⟨.loc 4, .fld 0 (.var 1), none, []⟩,
  ⟨.loc 5, .load false 1 (.loc 4), none, []⟩,
  ⟨.loc 6, .fld 0 (.var 3), none, []⟩,
  ⟨.none, .store 1 (.loc 6) (.loc 5), none, []⟩] false
def c_L_toRack_3 : ACode := .reg [⟨.loc 7, .fld 1 (.var 1), none, []⟩,
  ⟨.loc 8, .load false 1 (.loc 7), none, []⟩,
  ⟨.loc 9, .fld 1 (.var 3), none, []⟩,
  ⟨.none, .store 1 (.loc 9) (.loc 8), none, []⟩] false
def c_L_toRack_4 : ACode := .reg [⟨.loc 10, .fld 2 (.var 1), none, []⟩,
  ⟨.loc 11, .load false 1 (.loc 10), none, []⟩,
  ⟨.loc 12, .call (.fn 61) [(.loc 11)] [.borrow], none, []⟩,
  ⟨.loc 13, .fld 2 (.var 3), none, []⟩,
  ⟨.none, .store 1 (.loc 13) (.loc 12), none, []⟩] false
def c_L_toRack_5 : ACode := .reg [⟨.loc 14, .load true 3 (.var 3), none, []⟩,
  ⟨.none, .store 3 (.var 2) (.loc 14), none, []⟩] false
def c_L_toRack : ACode := (.seq c_L_toRack_0 (.seq c_L_toRack_1 (.seq c_L_toRack_2 (.seq c_L_toRack_3 (.seq c_L_toRack_4 (.seq c_L_toRack_5 .ret))))))

abbrev F_L_toRack : FuncId := 26

theorem k_L_toRack : comp PP (Tryd.f26.ntmps, pinOf 0 [none]) [0, 1, 2, 3] (Tryd.f26.body.getD .skip) = some c_L_toRack.erase := by kernel_rfl

theorem v_L_toRack {GG : GV} (rcs : List C) {cs : List C} {r : C} {os : List (Option C)} (hN : (cs.length == 1 && rcs.length == 1) = true) (hret : retOf rcs = r)
    (hW : W PP [0, 1, 2, 3] (Tryd.f26.ntmps, pinOf 0 [none]) (Valid PP GG) c_L_toRack (entry cs) (Fin (Valid PP GG) [(.give, 2, some (true, 3))] [none] rcs os) (fun _ _ => False) (Fin (Valid PP GG) [(.give, 2, some (true, 3))] [none] rcs os)) : Valid PP GG F_L_toRack cs r os :=
  fn_valid_n 1 1 [0, 1, 2, 3] c_L_toRack [(.give, 2, some (true, 3))] [none] rcs Tryd.func26 rfl rfl (by kernel_rfl) k_L_toRack rfl rfl hN hret hW


/-
loop.example/g00705/laws.toWrapS  params 1+0 results [2]
  seq  mid=[0]
    c_L_toWrapS_0
    seq  mid=[0, 3]
      c_L_toWrapS_1
      seq  mid=[3]
        seq  mid=[0, 3, 4]
          c_L_toWrapS_2
          block 0
            loop live=[0, 3, 4]
              seq  mid=[0, 3, 4]
                seq  mid=[0, 3, 4, 11]
                  c_L_toWrapS_3
                  cond (.var 11)
                    skip
                    exit 0
                seq  mid=[0, 3, 4]
                  block 1
                    c_L_toWrapS_4
                  c_L_toWrapS_5
        seq  mid=[2]
          c_L_toWrapS_7
          ret
-/
def c_L_toWrapS_0 : ACode := .reg [⟨.var 2, .mv (.const (.nil 1 6)), none, []⟩] false
def c_L_toWrapS_1 : ACode := .reg [⟨.loc 5, .mv (.var 0), none, []⟩,
  ⟨.loc 6, .len false (.loc 5), none, []⟩,
  ⟨.loc 7, .mkslice 1 6 72 [.int .i64 0, .int .i64 0, .str [], .int .i64 0, .slc 1 [], .int .i64 0] (.loc 6) (.loc 6), none, []⟩,
  ⟨.var 3, .mv (.loc 7), none, []⟩] false
def c_L_toWrapS_2 : ACode := .reg [⟨.var 4, .mv (.const (.d (.int .i64 0))), none, []⟩] false
def c_L_toWrapS_3 : ACode := .reg [⟨.loc 8, .mv (.var 4), none, []⟩,
  ⟨.loc 9, .mv (.var 0), none, []⟩,
  ⟨.loc 10, .len false (.loc 9), none, []⟩,
  ⟨.var 11, .bin .int .lss (.loc 8) (.loc 10), none, []⟩] false
def c_L_toWrapS_4 : ACode := .reg [⟨.loc 14, .mv (.var 3), none, []⟩,
  ⟨.loc 15, .mv (.var 4), none, []⟩,
  ⟨.loc 16, .mv (.var 0), none, []⟩,
  ⟨.loc 17, .mv (.var 4), none, []⟩,
  ⟨.loc 18, .idxA 6 (.loc 16) (.loc 17), none, []⟩,
  ⟨.loc 19, .load true 6 (.loc 18), none, []⟩,
  ⟨.loc 20, .call (.fn 93) [(.loc 19)] [.borrow], none, []⟩,
  ⟨.loc 21, .idxA 6 (.loc 14) (.loc 15), none, []⟩,
  ⟨.none, .store 6 (.loc 21) (.loc 20), none, []⟩] false
def c_L_toWrapS_5 : ACode := .reg [⟨.loc 12, .mv (.var 4), none, []⟩,
  ⟨.loc 13, .bin .int .add (.loc 12) (.const (.d (.int .i64 1))), none, []⟩,
  ⟨.var 4, .mv (.loc 13), none, []⟩] false
def c_L_toWrapS_6 : ACode := (.seq (.seq c_L_toWrapS_3 (.cond (.var 11) .skip (.exit 0))) (.seq (.block 1 c_L_toWrapS_4) c_L_toWrapS_5))
def c_L_toWrapS_7 : ACode := .reg [⟨.loc 22, .mv (.var 3), none, []⟩,
  ⟨.var 2, .mv (.loc 22), none, []⟩] false
def c_L_toWrapS : ACode := (.seq c_L_toWrapS_0 (.seq c_L_toWrapS_1 (.seq (.seq c_L_toWrapS_2 (.block 0 (.loop [0, 3, 4] c_L_toWrapS_6))) (.seq c_L_toWrapS_7 .ret))))

abbrev F_L_toWrapS : FuncId := 61

theorem k_L_toWrapS : comp PP (Tryd.f61.ntmps, pinOf 0 [none]) [0, 2, 3, 4, 11] (Tryd.f61.body.getD .skip) = some c_L_toWrapS.erase := by kernel_rfl

theorem v_L_toWrapS {GG : GV} (rcs : List C) {cs : List C} {r : C} {os : List (Option C)} (hN : (cs.length == 1 && rcs.length == 1) = true) (hret : retOf rcs = r)
    (hW : W PP [0, 2, 3, 4, 11] (Tryd.f61.ntmps, pinOf 0 [none]) (Valid PP GG) c_L_toWrapS (entry cs) (Fin (Valid PP GG) [(.give, 2, none)] [none] rcs os) (fun _ _ => False) (Fin (Valid PP GG) [(.give, 2, none)] [none] rcs os)) : Valid PP GG F_L_toWrapS cs r os :=
  fn_valid_n 1 1 [0, 2, 3, 4, 11] c_L_toWrapS [(.give, 2, none)] [none] rcs Tryd.func61 rfl rfl (by kernel_rfl) k_L_toWrapS rfl rfl hN hret hW


/-
loop.example/g00705/laws.toWrap  params 1+0 results [2]
  seq  mid=[1, 2]
    c_L_toWrap_0
    seq  mid=[1, 2, 3]
      c_L_toWrap_1
      seq  mid=[1, 2, 3]
        c_L_toWrap_2
        seq  mid=[1, 2, 3]
          c_L_toWrap_3
          seq  mid=[1, 2, 3]
            c_L_toWrap_4
            seq  mid=[2, 3]
              c_L_toWrap_5
              seq  mid=[2]
                c_L_toWrap_6
                ret
-/
def c_L_toWrap_0 : ACode := .reg [⟨.var 1, .box (.var 0), none, []⟩,
  ⟨.var 2, .alloc [.d (.int .i64 0), .d (.int .i64 0), .d (.str []), .d (.int .i64 0), .nil 0 1, .d (.int .i64 0)], none, []⟩] false
def c_L_toWrap_1 : ACode := .reg [⟨.var 3, .alloc [.d (.int .i64 0), .d (.int .i64 0), .d (.str []), .d (.int .i64 0), .nil 0 1, .d (.int .i64 0)], none, []⟩] false
def c_L_toWrap_2 : ACode := .reg [⟨.loc 4, .fld 0 (.var 1), none, []⟩,
  ⟨.loc 5, .load false 1 (.loc 4), none, []⟩,
  ⟨.loc 6, .fld 0 (.var 3), none, []⟩,
  ⟨.none, .store 1 (.loc 6) (.loc 5), none, []⟩] false
def c_L_toWrap_3 : ACode := .reg [⟨.loc 7, .fld 1 (.var 1), none, []⟩,
  ⟨.loc 8, .load false 1 (.loc 7), none, []⟩,
  ⟨.loc 9, .fld 1 (.var 3), none, []⟩,
  ⟨.none, .store 1 (.loc 9) (.loc 8), none, []⟩] false
def c_L_toWrap_4 : ACode := .reg [⟨.loc 10, .fld 2 (.var 1), none, []⟩,
  ⟨.loc 11, .load false 1 (.loc 10), none, []⟩,
  ⟨.loc 12, .fld 2 (.var 3), none, []⟩,
  ⟨.none, .store 1 (.loc 12) (.loc 11), none, []⟩] false
def c_L_toWrap_5 : ACode := .reg [⟨.loc 13, .fld 3 (.var 1), none, []⟩,
  ⟨.loc 14, .load true 3 (.loc 13), none, []⟩,
  ⟨.loc 15, .call (.fn 119) [(.loc 14)] [.borrow], none, []⟩,
  ⟨.loc 16, .fld 3 (.var 3), none, []⟩,
  ⟨.none, .store 3 (.loc 16) (.loc 15), none, []⟩] false
def c_L_toWrap_6 : ACode := .reg [⟨.loc 17, .load true 6 (.var 3), none, []⟩,
  ⟨.none, .store 6 (.var 2) (.loc 17), none, []⟩] false
def c_L_toWrap : ACode := (.seq c_L_toWrap_0 (.seq c_L_toWrap_1 (.seq c_L_toWrap_2 (.seq c_L_toWrap_3 (.seq c_L_toWrap_4 (.seq c_L_toWrap_5 (.seq c_L_toWrap_6 .ret)))))))

abbrev F_L_toWrap : FuncId := 93

theorem k_L_toWrap : comp PP (Tryd.f93.ntmps, pinOf 0 [none]) [0, 1, 2, 3] (Tryd.f93.body.getD .skip) = some c_L_toWrap.erase := by kernel_rfl

theorem v_L_toWrap {GG : GV} (rcs : List C) {cs : List C} {r : C} {os : List (Option C)} (hN : (cs.length == 1 && rcs.length == 1) = true) (hret : retOf rcs = r)
    (hW : W PP [0, 1, 2, 3] (Tryd.f93.ntmps, pinOf 0 [none]) (Valid PP GG) c_L_toWrap (entry cs) (Fin (Valid PP GG) [(.give, 2, some (true, 6))] [none] rcs os) (fun _ _ => False) (Fin (Valid PP GG) [(.give, 2, some (true, 6))] [none] rcs os)) : Valid PP GG F_L_toWrap cs r os :=
  fn_valid_n 1 1 [0, 1, 2, 3] c_L_toWrap [(.give, 2, some (true, 6))] [none] rcs Tryd.func93 rfl rfl (by kernel_rfl) k_L_toWrap rfl rfl hN hret hW


/-
loop.example/g00705/laws.toBox  params 1+0 results [2]
  seq  mid=[1, 2]
    c_L_toBox_0
    seq  mid=[1, 2, 3]
      c_L_toBox_1
      seq  mid=[1, 2, 3]
        c_L_toBox_2
        seq  mid=[1, 2, 3]
          c_L_toBox_3
          seq  mid=[2, 3]
            c_L_toBox_4
            seq  mid=[2]
              c_L_toBox_5
              ret
-/
def c_L_toBox_0 : ACode := .reg [⟨.var 1, .box (.var 0), none, []⟩,
  ⟨.var 2, .alloc [.d (.int .i64 0), .nil 0 1, .d (.int .i64 0)], none, []⟩] false
def c_L_toBox_1 : ACode := .reg [⟨.var 3, .alloc [.d (.int .i64 0), .nil 0 1, .d (.int .i64 0)], none, []⟩] false
def c_L_toBox_2 : ACode := .reg [⟨.loc 4, .fld 0 (.var 1), none, []⟩,
  ⟨.loc 5, .load false 1 (.loc 4), none, []⟩,
  ⟨.loc 6, .fld 0 (.var 3), none, []⟩,
  ⟨.none, .store 1 (.loc 6) (.loc 5), none, []⟩] false
def c_L_toBox_3 : ACode := .reg [⟨.loc 7, .fld 1 (.var 1), none, []⟩,
  ⟨.loc 8, .load false 1 (.loc 7), none, []⟩,
  ⟨.loc 9, .call (.fn 42) [(.loc 8)] [.borrow], none, []⟩,
  ⟨.loc 10, .fld 1 (.var 3), none, []⟩,
  ⟨.none, .store 1 (.loc 10) (.loc 9), none, []⟩] false
def c_L_toBox_4 : ACode := .reg [⟨.loc 11, .fld 2 (.var 1), none, []⟩,
  ⟨.loc 12, .load false 1 (.loc 11), none, []⟩,
  ⟨.loc 13, .fld 2 (.var 3), none, []⟩,
  ⟨.none, .store 1 (.loc 13) (.loc 12), none, []⟩] false
def c_L_toBox_5 : ACode := .reg [⟨.loc 14, .load true 3 (.var 3), none, []⟩,
  ⟨.none, .store 3 (.var 2) (.loc 14), none, []⟩] false
def c_L_toBox : ACode := (.seq c_L_toBox_0 (.seq c_L_toBox_1 (.seq c_L_toBox_2 (.seq c_L_toBox_3 (.seq c_L_toBox_4 (.seq c_L_toBox_5 .ret))))))

abbrev F_L_toBox : FuncId := 119

theorem k_L_toBox : comp PP (Tryd.f119.ntmps, pinOf 0 [none]) [0, 1, 2, 3] (Tryd.f119.body.getD .skip) = some c_L_toBox.erase := by kernel_rfl

theorem v_L_toBox {GG : GV} (rcs : List C) {cs : List C} {r : C} {os : List (Option C)} (hN : (cs.length == 1 && rcs.length == 1) = true) (hret : retOf rcs = r)
    (hW : W PP [0, 1, 2, 3] (Tryd.f119.ntmps, pinOf 0 [none]) (Valid PP GG) c_L_toBox (entry cs) (Fin (Valid PP GG) [(.give, 2, some (true, 3))] [none] rcs os) (fun _ _ => False) (Fin (Valid PP GG) [(.give, 2, some (true, 3))] [none] rcs os)) : Valid PP GG F_L_toBox cs r os :=
  fn_valid_n 1 1 [0, 1, 2, 3] c_L_toBox [(.give, 2, some (true, 3))] [none] rcs Tryd.func119 rfl rfl (by kernel_rfl) k_L_toBox rfl rfl hN hret hW


/-
loop.example/g00705/laws.toByteS  params 1+0 results [2]
  seq  mid=[0]
    c_L_toByteS_0
    seq  mid=[0, 3]
      c_L_toByteS_1
      seq  mid=[3]
        seq  mid=[0, 3, 4]
          c_L_toByteS_2
          block 0
            loop live=[0, 3, 4]
              seq  mid=[0, 3, 4]
                seq  mid=[0, 3, 4, 11]
                  c_L_toByteS_3
                  cond (.var 11)
                    skip
                    exit 0
                seq  mid=[0, 3, 4]
                  block 1
                    c_L_toByteS_4
                  c_L_toByteS_5
        seq  mid=[2]
          c_L_toByteS_7
          ret
-/
def c_L_toByteS_0 : ACode := .reg [⟨.var 2, .mv (.const (.nil 0 1)), none, []⟩] false
def c_L_toByteS_1 : ACode := .reg [⟨.loc 5, .mv (.var 0), none, []⟩,
  ⟨.loc 6, .len false (.loc 5), none, []⟩,
  ⟨.loc 7, .mkslice 0 1 1 [.int .u8 0] (.loc 6) (.loc 6), none, []⟩,
  ⟨.var 3, .mv (.loc 7), none, []⟩] false
def c_L_toByteS_2 : ACode := .reg [⟨.var 4, .mv (.const (.d (.int .i64 0))), none, []⟩] false
def c_L_toByteS_3 : ACode := .reg [⟨.loc 8, .mv (.var 4), none, []⟩,
  ⟨.loc 9, .mv (.var 0), none, []⟩,
  ⟨.loc 10, .len false (.loc 9), none, []⟩,
  ⟨.var 11, .bin .int .lss (.loc 8) (.loc 10), none, []⟩] false
def c_L_toByteS_4 : ACode := .reg [⟨.loc 14, .mv (.var 3), none, []⟩,
  ⟨.loc 15, .mv (.var 4), none, []⟩,
  ⟨.loc 16, .mv (.var 0), none, []⟩,
  ⟨.loc 17, .mv (.var 4), none, []⟩,
  ⟨.loc 18, .idxA 1 (.loc 16) (.loc 17), none, []⟩,
  ⟨.loc 19, .load false 1 (.loc 18), none, []⟩,
  ⟨.loc 20, .idxA 1 (.loc 14) (.loc 15), none, []⟩,
  ⟨.none, .store 1 (.loc 20) (.loc 19), none, []⟩] false
def c_L_toByteS_5 : ACode := .reg [⟨.loc 12, .mv (.var 4), none, []⟩,
  ⟨.loc 13, .bin .int .add (.loc 12) (.const (.d (.int .i64 1))), none, []⟩,
  ⟨.var 4, .mv (.loc 13), none, []⟩] false
def c_L_toByteS_6 : ACode := (.seq (.seq c_L_toByteS_3 (.cond (.var 11) .skip (.exit 0))) (.seq (.block 1 c_L_toByteS_4) c_L_toByteS_5))
def c_L_toByteS_7 : ACode := .reg [⟨.loc 21, .mv (.var 3), none, []⟩,
  ⟨.var 2, .mv (.loc 21), none, []⟩] false
def c_L_toByteS : ACode := (.seq c_L_toByteS_0 (.seq c_L_toByteS_1 (.seq (.seq c_L_toByteS_2 (.block 0 (.loop [0, 3, 4] c_L_toByteS_6))) (.seq c_L_toByteS_7 .ret))))

abbrev F_L_toByteS : FuncId := 42

theorem k_L_toByteS : comp PP (Tryd.f42.ntmps, pinOf 0 [none]) [0, 2, 3, 4, 11] (Tryd.f42.body.getD .skip) = some c_L_toByteS.erase := by kernel_rfl

theorem v_L_toByteS {GG : GV} (rcs : List C) {cs : List C} {r : C} {os : List (Option C)} (hN : (cs.length == 1 && rcs.length == 1) = true) (hret : retOf rcs = r)
    (hW : W PP [0, 2, 3, 4, 11] (Tryd.f42.ntmps, pinOf 0 [none]) (Valid PP GG) c_L_toByteS (entry cs) (Fin (Valid PP GG) [(.give, 2, none)] [none] rcs os) (fun _ _ => False) (Fin (Valid PP GG) [(.give, 2, none)] [none] rcs os)) : Valid PP GG F_L_toByteS cs r os :=
  fn_valid_n 1 1 [0, 2, 3, 4, 11] c_L_toByteS [(.give, 2, none)] [none] rcs Tryd.func42 rfl rfl (by kernel_rfl) k_L_toByteS rfl rfl hN hret hW


/-
loop.example/g00705/laws.eqRack  params 2+0 results [4]
  seq  mid=[2, 3]
    c_L_eqRack_0
    seq  mid=[2, 3]
      seq  mid=[2, 3, 9]
        c_L_eqRack_1
        cond (.var 9)
          seq  mid=[4]
            c_L_eqRack_2
            ret
          skip
      seq  mid=[2, 3]
        seq  mid=[2, 3, 14]
          c_L_eqRack_3
          cond (.var 14)
            seq  mid=[4]
              c_L_eqRack_4
              ret
            skip
        seq  mid=[]
          seq  mid=[20]
            c_L_eqRack_5
            cond (.var 20)
              seq  mid=[4]
                c_L_eqRack_6
                ret
              skip
          seq  mid=[4]
            c_L_eqRack_7
            ret
-/
def c_L_eqRack_0 : ACode := .reg [⟨.var 2, .box (.var 0), none, []⟩,
  ⟨.var 3, .box (.var 1), none, []⟩,
  ⟨.var 4, .mv (.const (.d (.bool false))), none, []⟩] false
def c_L_eqRack_1 : ACode := .reg [⟨.loc 5, .fld 0 (.var 2), none, []⟩,
  ⟨.loc 6, .load false 1 (.loc 5), none, []⟩,
  ⟨.loc 7, .fld 0 (.var 3), none, []⟩,
  ⟨.loc 8, .load false 1 (.loc 7), none, []⟩,
  ⟨.var 9, .bin .int .neq (.loc 6) (.loc 8), none, []⟩] false
def c_L_eqRack_2 : ACode := .reg [⟨.var 4, .mv (.const (.d (.bool false))), none, []⟩] false
def c_L_eqRack_3 : ACode := .reg [⟨.loc 10, .fld 1 (.var 2), none, []⟩,
  ⟨.loc 11, .load false 1 (.loc 10), none, []⟩,
  ⟨.loc 12, .fld 1 (.var 3), none, []⟩,
  ⟨.loc 13, .load false 1 (.loc 12), none, []⟩,
  ⟨.var 14, .bin .int .neq (.loc 11) (.loc 13), none, []⟩] false
def c_L_eqRack_4 : ACode := .reg [⟨.var 4, .mv (.const (.d (.bool false))), none, []⟩] false
def c_L_eqRack_5 : ACode := .reg [⟨.loc 15, .fld 2 (.var 2), none, []⟩,
  ⟨.loc 16, .load false 1 (.loc 15), none, []⟩,
  ⟨.loc 17, .fld 2 (.var 3), none, []⟩,
  ⟨.loc 18, .load false 1 (.loc 17), none, []⟩,
  ⟨.loc 19, .call (.fn 64) [(.loc 16), (.loc 18)] [.borrow, .borrow], none, []⟩,
  ⟨.var 20, .un .not (.loc 19), none, []⟩] false
def c_L_eqRack_6 : ACode := .reg [⟨.var 4, .mv (.const (.d (.bool false))), none, []⟩] false
def c_L_eqRack_7 : ACode := .reg [⟨.var 4, .mv (.const (.d (.bool true))), none, []⟩] false
def c_L_eqRack : ACode := (.seq c_L_eqRack_0 (.seq (.seq c_L_eqRack_1 (.cond (.var 9) (.seq c_L_eqRack_2 .ret) .skip)) (.seq (.seq c_L_eqRack_3 (.cond (.var 14) (.seq c_L_eqRack_4 .ret) .skip)) (.seq (.seq c_L_eqRack_5 (.cond (.var 20) (.seq c_L_eqRack_6 .ret) .skip)) (.seq c_L_eqRack_7 .ret)))))

abbrev F_L_eqRack : FuncId := 28

theorem k_L_eqRack : comp PP (Tryd.f28.ntmps, pinOf 0 [none, none]) [0, 1, 2, 3, 4, 9, 14, 20] (Tryd.f28.body.getD .skip) = some c_L_eqRack.erase := by kernel_rfl

theorem v_L_eqRack {GG : GV} (rcs : List C) {cs : List C} {r : C} {os : List (Option C)} (hN : (cs.length == 2 && rcs.length == 1) = true) (hret : retOf rcs = r)
    (hW : W PP [0, 1, 2, 3, 4, 9, 14, 20] (Tryd.f28.ntmps, pinOf 0 [none, none]) (Valid PP GG) c_L_eqRack (entry cs) (Fin (Valid PP GG) [(.give, 4, none)] [none, none] rcs os) (fun _ _ => False) (Fin (Valid PP GG) [(.give, 4, none)] [none, none] rcs os)) : Valid PP GG F_L_eqRack cs r os :=
  fn_valid_n 2 1 [0, 1, 2, 3, 4, 9, 14, 20] c_L_eqRack [(.give, 4, none)] [none, none] rcs Tryd.func28 rfl rfl (by kernel_rfl) k_L_eqRack rfl rfl hN hret hW


/-
loop.example/g00705/laws.eqWrapS  params 2+0 results [4]
  seq  mid=[0, 1]
    c_L_eqWrapS_0
    seq  mid=[0, 1]
      seq  mid=[0, 1, 10]
        c_L_eqWrapS_1
        cond (.var 10)
          seq  mid=[4]
            c_L_eqWrapS_2
            ret
          skip
      seq  mid=[]
        seq  mid=[0, 1, 5]
          c_L_eqWrapS_3
          block 0
            loop live=[0, 1, 5]
              seq  mid=[0, 1, 5]
                seq  mid=[0, 1, 5, 14]
                  c_L_eqWrapS_4
                  cond (.var 14)
                    skip
                    exit 0
                seq  mid=[0, 1, 5]
                  block 1
                    seq  mid=[0, 1, 5, 26]
                      c_L_eqWrapS_5 DRAW
                      cond (.var 26)
                        seq  mid=[4]
                          c_L_eqWrapS_6
                          ret
                        skip
                  c_L_eqWrapS_7
        seq  mid=[4]
          c_L_eqWrapS_9
          ret
-/
def c_L_eqWrapS_0 : ACode := .reg [⟨.var 4, .mv (.const (.d (.bool false))), none, []⟩] false
def c_L_eqWrapS_1 : ACode := .reg [⟨.loc 6, .mv (.var 0), none, []⟩,
  ⟨.loc 7, .len false (.loc 6), none, []⟩,
  ⟨.loc 8, .mv (.var 1), none, []⟩,
  ⟨.loc 9, .len false (.loc 8), none, []⟩,
  ⟨.var 10, .bin .int .neq (.loc 7) (.loc 9), none, []⟩] false
def c_L_eqWrapS_2 : ACode := .reg [⟨.var 4, .mv (.const (.d (.bool false))), none, []⟩] false
def c_L_eqWrapS_3 : ACode := .reg [⟨.var 5, .mv (.const (.d (.int .i64 0))), none, []⟩] false
def c_L_eqWrapS_4 : ACode := .reg [⟨.loc 11, .mv (.var 5), none, []⟩,
  ⟨.loc 12, .mv (.var 0), none, []⟩,
  ⟨.loc 13, .len false (.loc 12), none, []⟩,
  ⟨.var 14, .bin .int .lss (.loc 11) (.loc 13), none, []⟩] false
def c_L_eqWrapS_5 : ACode := .reg [⟨.loc 17, .mv (.var 0), none, []⟩,
  ⟨.loc 18, .mv (.var 5), none, []⟩,
  ⟨.loc 19, .idxA 6 (.loc 17) (.loc 18), none, [0, 1]⟩,
  ⟨.loc 20, .load true 6 (.loc 19), none, [2, 0, 1]⟩,
  ⟨.loc 21, .mv (.var 1), none, []⟩,
  ⟨.loc 22, .mv (.var 5), none, []⟩,
  ⟨.loc 23, .idxA 6 (.loc 21) (.loc 22), none, [4, 5]⟩,
  ⟨.loc 24, .load true 6 (.loc 23), none, [6, 4, 5]⟩,
  ⟨.loc 25, .call (.fn 98) [(.loc 20), (.loc 24)] [.borrow, .borrow], none, [3, 2, 0, 1, 7, 6, 4, 5]⟩,
  ⟨.var 26, .un .not (.loc 25), none, [8, 3, 2, 0, 1, 7, 6, 4, 5]⟩] true
def c_L_eqWrapS_6 : ACode := .reg [⟨.var 4, .mv (.const (.d (.bool false))), none, []⟩] false
def c_L_eqWrapS_7 : ACode := .reg [⟨.loc 15, .mv (.var 5), none, []⟩,
  ⟨.loc 16, .bin .int .add (.loc 15) (.const (.d (.int .i64 1))), none, []⟩,
  ⟨.var 5, .mv (.loc 16), none, []⟩] false
def c_L_eqWrapS_8 : ACode := (.seq (.seq c_L_eqWrapS_4 (.cond (.var 14) .skip (.exit 0))) (.seq (.block 1 (.seq c_L_eqWrapS_5 (.cond (.var 26) (.seq c_L_eqWrapS_6 .ret) .skip))) c_L_eqWrapS_7))
def c_L_eqWrapS_9 : ACode := .reg [⟨.var 4, .mv (.const (.d (.bool true))), none, []⟩] false
def c_L_eqWrapS : ACode := (.seq c_L_eqWrapS_0 (.seq (.seq c_L_eqWrapS_1 (.cond (.var 10) (.seq c_L_eqWrapS_2 .ret) .skip)) (.seq (.seq c_L_eqWrapS_3 (.block 0 (.loop [0, 1, 5] c_L_eqWrapS_8))) (.seq c_L_eqWrapS_9 .ret))))

abbrev F_L_eqWrapS : FuncId := 64

theorem k_L_eqWrapS : comp PP (Tryd.f64.ntmps, pinOf 0 [none, none]) [0, 1, 4, 5, 10, 14, 26] (Tryd.f64.body.getD .skip) = some c_L_eqWrapS.erase := by kernel_rfl

theorem v_L_eqWrapS {GG : GV} (rcs : List C) {cs : List C} {r : C} {os : List (Option C)} (hN : (cs.length == 2 && rcs.length == 1) = true) (hret : retOf rcs = r)
    (hW : W PP [0, 1, 4, 5, 10, 14, 26] (Tryd.f64.ntmps, pinOf 0 [none, none]) (Valid PP GG) c_L_eqWrapS (entry cs) (Fin (Valid PP GG) [(.give, 4, none)] [none, none] rcs os) (fun _ _ => False) (Fin (Valid PP GG) [(.give, 4, none)] [none, none] rcs os)) : Valid PP GG F_L_eqWrapS cs r os :=
  fn_valid_n 2 1 [0, 1, 4, 5, 10, 14, 26] c_L_eqWrapS [(.give, 4, none)] [none, none] rcs Tryd.func64 rfl rfl (by kernel_rfl) k_L_eqWrapS rfl rfl hN hret hW


/-
loop.example/g00705/laws.eqWrap  params 2+0 results [4]
  seq  mid=[2, 3]
    c_L_eqWrap_0
    seq  mid=[2, 3]
      seq  mid=[2, 3, 9]
        c_L_eqWrap_1
        cond (.var 9)
          seq  mid=[4]
            c_L_eqWrap_2
            ret
          skip
      seq  mid=[2, 3]
        seq  mid=[2, 3, 14]
          c_L_eqWrap_3
          cond (.var 14)
            seq  mid=[4]
              c_L_eqWrap_4
              ret
            skip
        seq  mid=[2, 3]
          seq  mid=[2, 3, 19]
            c_L_eqWrap_5
            cond (.var 19)
              seq  mid=[4]
                c_L_eqWrap_6
                ret
              skip
          seq  mid=[]
            seq  mid=[25]
              c_L_eqWrap_7
              cond (.var 25)
                seq  mid=[4]
                  c_L_eqWrap_8
                  ret
                skip
            seq  mid=[4]
              c_L_eqWrap_9
              ret
-/
def c_L_eqWrap_0 : ACode := .reg [⟨.var 2, .box (.var 0), none, []⟩,
  ⟨.var 3, .box (.var 1), none, []⟩,
  ⟨.var 4, .mv (.const (.d (.bool false))), none, []⟩] false
def c_L_eqWrap_1 : ACode := .reg [⟨.loc 5, .fld 0 (.var 2), none, []⟩,
  ⟨.loc 6, .load false 1 (.loc 5), none, []⟩,
  ⟨.loc 7, .fld 0 (.var 3), none, []⟩,
  ⟨.loc 8, .load false 1 (.loc 7), none, []⟩,
  ⟨.var 9, .bin .int .neq (.loc 6) (.loc 8), none, []⟩] false
def c_L_eqWrap_2 : ACode := .reg [⟨.var 4, .mv (.const (.d (.bool false))), none, []⟩] false
def c_L_eqWrap_3 : ACode := .reg [⟨.loc 10, .fld 1 (.var 2), none, []⟩,
  ⟨.loc 11, .load false 1 (.loc 10), none, []⟩,
  ⟨.loc 12, .fld 1 (.var 3), none, []⟩,
  ⟨.loc 13, .load false 1 (.loc 12), none, []⟩,
  ⟨.var 14, .bin .int .neq (.loc 11) (.loc 13), none, []⟩] false
def c_L_eqWrap_4 : ACode := .reg [⟨.var 4, .mv (.const (.d (.bool false))), none, []⟩] false
def c_L_eqWrap_5 : ACode := .reg [⟨.loc 15, .fld 2 (.var 2), none, []⟩,
  ⟨.loc 16, .load false 1 (.loc 15), none, []⟩,
  ⟨.loc 17, .fld 2 (.var 3), none, []⟩,
  ⟨.loc 18, .load false 1 (.loc 17), none, []⟩,
  ⟨.var 19, .bin .str .neq (.loc 16) (.loc 18), none, []⟩] false
def c_L_eqWrap_6 : ACode := .reg [⟨.var 4, .mv (.const (.d (.bool false))), none, []⟩] false
def c_L_eqWrap_7 : ACode := .reg [⟨.loc 20, .fld 3 (.var 2), none, []⟩,
  ⟨.loc 21, .load true 3 (.loc 20), none, []⟩,
  ⟨.loc 22, .fld 3 (.var 3), none, []⟩,
  ⟨.loc 23, .load true 3 (.loc 22), none, []⟩,
  ⟨.loc 24, .call (.fn 122) [(.loc 21), (.loc 23)] [.borrow, .borrow], none, []⟩,
  ⟨.var 25, .un .not (.loc 24), none, []⟩] false
def c_L_eqWrap_8 : ACode := .reg [⟨.var 4, .mv (.const (.d (.bool false))), none, []⟩] false
def c_L_eqWrap_9 : ACode := .reg [⟨.var 4, .mv (.const (.d (.bool true))), none, []⟩] false
def c_L_eqWrap : ACode := (.seq c_L_eqWrap_0 (.seq (.seq c_L_eqWrap_1 (.cond (.var 9) (.seq c_L_eqWrap_2 .ret) .skip)) (.seq (.seq c_L_eqWrap_3 (.cond (.var 14) (.seq c_L_eqWrap_4 .ret) .skip)) (.seq (.seq c_L_eqWrap_5 (.cond (.var 19) (.seq c_L_eqWrap_6 .ret) .skip)) (.seq (.seq c_L_eqWrap_7 (.cond (.var 25) (.seq c_L_eqWrap_8 .ret) .skip)) (.seq c_L_eqWrap_9 .ret))))))

abbrev F_L_eqWrap : FuncId := 98

theorem k_L_eqWrap : comp PP (Tryd.f98.ntmps, pinOf 0 [none, none]) [0, 1, 2, 3, 4, 9, 14, 19, 25] (Tryd.f98.body.getD .skip) = some c_L_eqWrap.erase := by kernel_rfl

theorem v_L_eqWrap {GG : GV} (rcs : List C) {cs : List C} {r : C} {os : List (Option C)} (hN : (cs.length == 2 && rcs.length == 1) = true) (hret : retOf rcs = r)
    (hW : W PP [0, 1, 2, 3, 4, 9, 14, 19, 25] (Tryd.f98.ntmps, pinOf 0 [none, none]) (Valid PP GG) c_L_eqWrap (entry cs) (Fin (Valid PP GG) [(.give, 4, none)] [none, none] rcs os) (fun _ _ => False) (Fin (Valid PP GG) [(.give, 4, none)] [none, none] rcs os)) : Valid PP GG F_L_eqWrap cs r os :=
  fn_valid_n 2 1 [0, 1, 2, 3, 4, 9, 14, 19, 25] c_L_eqWrap [(.give, 4, none)] [none, none] rcs Tryd.func98 rfl rfl (by kernel_rfl) k_L_eqWrap rfl rfl hN hret hW


/-
loop.example/g00705/laws.eqBox  params 2+0 results [4]
  seq  mid=[2, 3]
    c_L_eqBox_0
    seq  mid=[2, 3]
      seq  mid=[2, 3, 9]
        c_L_eqBox_1
        cond (.var 9)
          seq  mid=[4]
            c_L_eqBox_2
            ret
          skip
      seq  mid=[2, 3]
        seq  mid=[2, 3, 15]
          c_L_eqBox_3
          cond (.var 15)
            seq  mid=[4]
              c_L_eqBox_4
              ret
            skip
        seq  mid=[]
          seq  mid=[20]
            c_L_eqBox_5
            cond (.var 20)
              seq  mid=[4]
                c_L_eqBox_6
                ret
              skip
          seq  mid=[4]
            c_L_eqBox_7
            ret
-/
def c_L_eqBox_0 : ACode := .reg [⟨.var 2, .box (.var 0), none, []⟩,
  ⟨.var 3, .box (.var 1), none, []⟩,
  ⟨.var 4, .mv (.const (.d (.bool false))), none, []⟩] false
def c_L_eqBox_1 : ACode := .reg [⟨.loc 5, .fld 0 (.var 2), none, []⟩,
  ⟨.loc 6, .load false 1 (.loc 5), none, []⟩,
  ⟨.loc 7, .fld 0 (.var 3), none, []⟩,
  ⟨.loc 8, .load false 1 (.loc 7), none, []⟩,
  ⟨.var 9, .bin .int .neq (.loc 6) (.loc 8), none, []⟩] false
def c_L_eqBox_2 : ACode := .reg [⟨.var 4, .mv (.const (.d (.bool false))), none, []⟩] false
def c_L_eqBox_3 : ACode := .reg [⟨.loc 10, .fld 1 (.var 2), none, []⟩,
  ⟨.loc 11, .load false 1 (.loc 10), none, []⟩,
  ⟨.loc 12, .fld 1 (.var 3), none, []⟩,
  ⟨.loc 13, .load false 1 (.loc 12), none, []⟩,
  ⟨.loc 14, .call (.fn 14) [(.loc 11), (.loc 13)] [.borrow, .borrow], none, []⟩,
  ⟨.var 15, .un .not (.loc 14), none, []⟩] false
def c_L_eqBox_4 : ACode := .reg [⟨.var 4, .mv (.const (.d (.bool false))), none, []⟩] false
def c_L_eqBox_5 : ACode := .reg [⟨.loc 16, .fld 2 (.var 2), none, []⟩,
  ⟨.loc 17, .load false 1 (.loc 16), none, []⟩,
  ⟨.loc 18, .fld 2 (.var 3), none, []⟩,
  ⟨.loc 19, .load false 1 (.loc 18), none, []⟩,
  ⟨.var 20, .bin .int .neq (.loc 17) (.loc 19), none, []⟩] false
def c_L_eqBox_6 : ACode := .reg [⟨.var 4, .mv (.const (.d (.bool false))), none, []⟩] false
def c_L_eqBox_7 : ACode := .reg [⟨.var 4, .mv (.const (.d (.bool true))), none, []⟩] false
def c_L_eqBox : ACode := (.seq c_L_eqBox_0 (.seq (.seq c_L_eqBox_1 (.cond (.var 9) (.seq c_L_eqBox_2 .ret) .skip)) (.seq (.seq c_L_eqBox_3 (.cond (.var 15) (.seq c_L_eqBox_4 .ret) .skip)) (.seq (.seq c_L_eqBox_5 (.cond (.var 20) (.seq c_L_eqBox_6 .ret) .skip)) (.seq c_L_eqBox_7 .ret)))))

abbrev F_L_eqBox : FuncId := 122

theorem k_L_eqBox : comp PP (Tryd.f122.ntmps, pinOf 0 [none, none]) [0, 1, 2, 3, 4, 9, 15, 20] (Tryd.f122.body.getD .skip) = some c_L_eqBox.erase := by kernel_rfl

theorem v_L_eqBox {GG : GV} (rcs : List C) {cs : List C} {r : C} {os : List (Option C)} (hN : (cs.length == 2 && rcs.length == 1) = true) (hret : retOf rcs = r)
    (hW : W PP [0, 1, 2, 3, 4, 9, 15, 20] (Tryd.f122.ntmps, pinOf 0 [none, none]) (Valid PP GG) c_L_eqBox (entry cs) (Fin (Valid PP GG) [(.give, 4, none)] [none, none] rcs os) (fun _ _ => False) (Fin (Valid PP GG) [(.give, 4, none)] [none, none] rcs os)) : Valid PP GG F_L_eqBox cs r os :=
  fn_valid_n 2 1 [0, 1, 2, 3, 4, 9, 15, 20] c_L_eqBox [(.give, 4, none)] [none, none] rcs Tryd.func122 rfl rfl (by kernel_rfl) k_L_eqBox rfl rfl hN hret hW


/-
loop.example/g00705/laws.markChain  params 2+0 results [4]
  seq  mid=[0, 1, 2]
    c_L_markChain_0
    seq  mid=[0, 1]
      c_L_markChain_1
      seq  mid=[0, 4]
        c_L_markChain_2
        ret
-/
def c_L_markChain_0 : ACode := .reg [⟨.var 2, .box (.var 0), none, []⟩,
  ⟨.var 4, .mv (.const (.d (.int .i64 0))), none, []⟩] false
def c_L_markChain_1 : ACode := .reg [⟨.loc 5, .fld 2 (.var 2), none, []⟩,
  ⟨.loc 6, .load false 1 (.loc 5), none, []⟩,
  ⟨.loc 7, .mv (.var 1), none, []⟩,
  ⟨.loc 8, .call (.fn 65) [(.loc 6), (.loc 7)] [.lend, .borrow], none, []⟩,
  ⟨.var 1, .mv (.loc 8), none, []⟩] false
def c_L_markChain_2 : ACode := .reg [⟨.loc 9, .mv (.var 1), none, []⟩,
  ⟨.var 4, .mv (.loc 9), none, []⟩] false
def c_L_markChain : ACode := (.seq c_L_markChain_0 (.seq c_L_markChain_1 (.seq c_L_markChain_2 .ret)))

abbrev F_L_markChain : FuncId := 32

theorem k_L_markChain : comp PP (Tryd.f32.ntmps, pinOf 0 [some .give, none]) [0, 1, 2, 4] (Tryd.f32.body.getD .skip) = some c_L_markChain.erase := by kernel_rfl

theorem v_L_markChain {GG : GV} (rcs : List C) {cs : List C} {r : C} {os : List (Option C)} (hN : (cs.length == 2 && rcs.length == 1) = true) (hret : retOf rcs = r)
    (hW : W PP [0, 1, 2, 4] (Tryd.f32.ntmps, pinOf 0 [some .give, none]) (Valid PP GG) c_L_markChain (entry cs) (Fin (Valid PP GG) [(.give, 4, none)] [some .give, none] rcs os) (fun _ _ => False) (Fin (Valid PP GG) [(.give, 4, none)] [some .give, none] rcs os)) : Valid PP GG F_L_markChain cs r os :=
  fn_valid_n 2 1 [0, 1, 2, 4] c_L_markChain [(.give, 4, none)] [some .give, none] rcs Tryd.func32 rfl rfl (by kernel_rfl) k_L_markChain rfl rfl hN hret hW


/-
loop.example/g00705/laws.markNoteS  params 2+0 results [4]
  seq  mid=[0, 1]
    c_L_markNoteS_0
    seq  mid=[0, 1]
      seq  mid=[0, 1, 5]
        c_L_markNoteS_1
        block 0
          loop live=[0, 1, 5]
            seq  mid=[0, 1, 5]
              seq  mid=[0, 1, 5, 9]
                c_L_markNoteS_2
                cond (.var 9)
                  skip
                  exit 0
              seq  mid=[0, 1, 5]
                block 1
                  seq  mid=[0, 1, 5]
                    c_L_markNoteS_3
                    seq  mid=[0, 1, 5]
                      c_L_markNoteS_4
                      seq  mid=[0, 1, 5]
                        c_L_markNoteS_5
                        seq  mid=[0, 1, 5]
                          c_L_markNoteS_6
                          seq  mid=[0, 1, 5]
                            c_L_markNoteS_7
                            seq  mid=[0, 1, 5]
                              c_L_markNoteS_8
                              seq  mid=[0, 1, 5]
                                c_L_markNoteS_9
                                seq  mid=[0, 1, 5]
                                  c_L_markNoteS_10
                                  seq  mid=[0, 1, 5]
                                    c_L_markNoteS_11
                                    seq  mid=[0, 1, 5]
                                      c_L_markNoteS_12
                                      seq  mid=[0, 1, 5]
                                        c_L_markNoteS_13
                                        seq  mid=[0, 1, 5]
                                          c_L_markNoteS_14
                                          seq  mid=[0, 1, 5]
                                            c_L_markNoteS_15
                                            c_L_markNoteS_16
                c_L_markNoteS_17
      seq  mid=[0, 4]
        c_L_markNoteS_19
        ret
-/
def c_L_markNoteS_0 : ACode := .reg [⟨.var 4, .mv (.const (.d (.int .i64 0))), none, []⟩] false
def c_L_markNoteS_1 : ACode := .reg [⟨.var 5, .mv (.const (.d (.int .i64 0))), none, []⟩] false
def c_L_markNoteS_2 : ACode := .reg [⟨.loc 6, .mv (.var 5), none, []⟩,
  ⟨.loc 7, .mv (.var 0), none, []⟩,
  ⟨.loc 8, .len false (.loc 7), none, []⟩,
  ⟨.var 9, .bin .int .lss (.loc 6) (.loc 8), none, []⟩] false
def c_L_markNoteS_3 : ACode := .reg [⟨.loc 12, .mv (.var 0), none, []⟩,
  ⟨.loc 13, .mv (.var 5), none, []⟩,
  ⟨.loc 14, .mv (.var 1), none, []⟩,
  ⟨.loc 15, .idxA 7 (.loc 12) (.loc 13), none, []⟩,
  ⟨.loc 16, .fld 0 (.loc 15), none, []⟩,
  ⟨.none, .store 1 (.loc 16) (.loc 14), none, []⟩] false
def c_L_markNoteS_4 : ACode := .reg [⟨.loc 17, .mv (.var 1), none, []⟩,
  ⟨.loc 18, .bin .int .add (.loc 17) (.const (.d (.int .i64 1))), none, []⟩,
  ⟨.var 1, .mv (.loc 18), none, []⟩] false
def c_L_markNoteS_5 : ACode := .reg [⟨.loc 19, .mv (.var 0), none, []⟩,
  ⟨.loc 20, .mv (.var 5), none, []⟩,
  ⟨.loc 21, .mv (.var 1), none, []⟩,
  ⟨.loc 22, .idxA 7 (.loc 19) (.loc 20), none, []⟩,
  ⟨.loc 23, .fld 1 (.loc 22), none, []⟩,
  ⟨.none, .store 1 (.loc 23) (.loc 21), none, []⟩] false
def c_L_markNoteS_6 : ACode := .reg [⟨.loc 24, .mv (.var 1), none, []⟩,
  ⟨.loc 25, .bin .int .add (.loc 24) (.const (.d (.int .i64 1))), none, []⟩,
  ⟨.var 1, .mv (.loc 25), none, []⟩] false
def c_L_markNoteS_7 : ACode := .reg [⟨.loc 26, .mv (.var 0), none, []⟩,
  ⟨.loc 27, .mv (.var 5), none, []⟩,
  ⟨.loc 28, .mv (.var 1), none, []⟩,
  ⟨.loc 29, .idxA 7 (.loc 26) (.loc 27), none, []⟩,
  ⟨.loc 30, .fld 2 (.loc 29), none, []⟩,
  ⟨.none, .store 1 (.loc 30) (.loc 28), none, []⟩] false
def c_L_markNoteS_8 : ACode := .reg [⟨.loc 31, .mv (.var 1), none, []⟩,
  ⟨.loc 32, .bin .int .add (.loc 31) (.const (.d (.int .i64 1))), none, []⟩,
  ⟨.var 1, .mv (.loc 32), none, []⟩] false
def c_L_markNoteS_9 : ACode := .reg [⟨.loc 33, .mv (.var 0), none, []⟩,
  ⟨.loc 34, .mv (.var 5), none, []⟩,
  ⟨.loc 35, .mv (.var 1), none, []⟩,
  ⟨.loc 36, .call (.fn 99) [(.loc 35)] [.borrow], none, []⟩,
  ⟨.loc 37, .idxA 7 (.loc 33) (.loc 34), none, []⟩,
  ⟨.loc 38, .fld 3 (.loc 37), none, []⟩,
  ⟨.none, .store 1 (.loc 38) (.loc 36), none, []⟩] false
def c_L_markNoteS_10 : ACode := .reg [⟨.loc 39, .mv (.var 1), none, []⟩,
  ⟨.loc 40, .bin .int .add (.loc 39) (.const (.d (.int .i64 1))), none, []⟩,
  ⟨.var 1, .mv (.loc 40), none, []⟩] false
def c_L_markNoteS_11 : ACode := .reg [⟨.loc 41, .mv (.var 0), none, []⟩,
  ⟨.loc 42, .mv (.var 5), none, []⟩,
  ⟨.loc 43, .mv (.var 1), none, []⟩,
  ⟨.loc 44, .call (.fn 99) [(.loc 43)] [.borrow], none, []⟩,
  ⟨.loc 45, .idxA 7 (.loc 41) (.loc 42), none, []⟩,
  ⟨.loc 46, .fld 4 (.loc 45), none, []⟩,
  ⟨.none, .store 1 (.loc 46) (.loc 44), none, []⟩] false
def c_L_markNoteS_12 : ACode := .reg [⟨.loc 47, .mv (.var 1), none, []⟩,
  ⟨.loc 48, .bin .int .add (.loc 47) (.const (.d (.int .i64 1))), none, []⟩,
  ⟨.var 1, .mv (.loc 48), none, []⟩] false
def c_L_markNoteS_13 : ACode := .reg [⟨.loc 49, .mv (.var 0), none, []⟩,
  ⟨.loc 50, .mv (.var 5), none, []⟩,
  ⟨.loc 51, .mv (.var 1), none, []⟩,
  ⟨.loc 52, .idxA 7 (.loc 49) (.loc 50), none, []⟩,
  ⟨.loc 53, .fld 5 (.loc 52), none, []⟩,
  ⟨.none, .store 1 (.loc 53) (.loc 51), none, []⟩] false
def c_L_markNoteS_14 : ACode := .reg [⟨.loc 54, .mv (.var 1), none, []⟩,
  ⟨.loc 55, .bin .int .add (.loc 54) (.const (.d (.int .i64 1))), none, []⟩,
  ⟨.var 1, .mv (.loc 55), none, []⟩] false
def c_L_markNoteS_15 : ACode := .reg [⟨.loc 56, .mv (.var 0), none, []⟩,
  ⟨.loc 57, .mv (.var 5), none, []⟩,
  ⟨.loc 58, .mv (.var 1), none, []⟩,
  ⟨.loc 59, .idxA 7 (.loc 56) (.loc 57), none, []⟩,
  ⟨.loc 60, .fld 6 (.loc 59), none, []⟩,
  ⟨.none, .store 1 (.loc 60) (.loc 58), none, []⟩] false
def c_L_markNoteS_16 : ACode := .reg [⟨.loc 61, .mv (.var 1), none, []⟩,
  ⟨.loc 62, .bin .int .add (.loc 61) (.const (.d (.int .i64 1))), none, []⟩,
  ⟨.var 1, .mv (.loc 62), none, []⟩] false
def c_L_markNoteS_17 : ACode := .reg [⟨.loc 10, .mv (.var 5), none, []⟩,
  ⟨.loc 11, .bin .int .add (.loc 10) (.const (.d (.int .i64 1))), none, []⟩,
  ⟨.var 5, .mv (.loc 11), none, []⟩] false
def c_L_markNoteS_18 : ACode := (.seq (.seq c_L_markNoteS_2 (.cond (.var 9) .skip (.exit 0))) (.seq (.block 1 (.seq c_L_markNoteS_3 (.seq c_L_markNoteS_4 (.seq c_L_markNoteS_5 (.seq c_L_markNoteS_6 (.seq c_L_markNoteS_7 (.seq c_L_markNoteS_8 (.seq c_L_markNoteS_9 (.seq c_L_markNoteS_10 (.seq c_L_markNoteS_11 (.seq c_L_markNoteS_12 (.seq c_L_markNoteS_13 (.seq c_L_markNoteS_14 (.seq c_L_markNoteS_15 c_L_markNoteS_16)))))))))))))) c_L_markNoteS_17))
def c_L_markNoteS_19 : ACode := .reg [⟨.loc 63, .mv (.var 1), none, []⟩,
  ⟨.var 4, .mv (.loc 63), none, []⟩] false
def c_L_markNoteS : ACode := (.seq c_L_markNoteS_0 (.seq (.seq c_L_markNoteS_1 (.block 0 (.loop [0, 1, 5] c_L_markNoteS_18))) (.seq c_L_markNoteS_19 .ret)))

abbrev F_L_markNoteS : FuncId := 65

theorem k_L_markNoteS : comp PP (Tryd.f65.ntmps, pinOf 0 [some .give, none]) [0, 1, 4, 5, 9] (Tryd.f65.body.getD .skip) = some c_L_markNoteS.erase := by kernel_rfl

theorem v_L_markNoteS {GG : GV} (rcs : List C) {cs : List C} {r : C} {os : List (Option C)} (hN : (cs.length == 2 && rcs.length == 1) = true) (hret : retOf rcs = r)
    (hW : W PP [0, 1, 4, 5, 9] (Tryd.f65.ntmps, pinOf 0 [some .give, none]) (Valid PP GG) c_L_markNoteS (entry cs) (Fin (Valid PP GG) [(.give, 4, none)] [some .give, none] rcs os) (fun _ _ => False) (Fin (Valid PP GG) [(.give, 4, none)] [some .give, none] rcs os)) : Valid PP GG F_L_markNoteS cs r os :=
  fn_valid_n 2 1 [0, 1, 4, 5, 9] c_L_markNoteS [(.give, 4, none)] [some .give, none] rcs Tryd.func65 rfl rfl (by kernel_rfl) k_L_markNoteS rfl rfl hN hret hW


/-
loop.example/g00705/laws.markRack  params 2+0 results [4]
  seq  mid=[0, 1, 2]
    c_L_markRack_0
    seq  mid=[0, 1]
      c_L_markRack_1
      seq  mid=[0, 4]
        c_L_markRack_2
        ret
-/
def c_L_markRack_0 : ACode := .reg [⟨.var 2, .box (.var 0), none, []⟩,
  ⟨.var 4, .mv (.const (.d (.int .i64 0))), none, []⟩] false
def c_L_markRack_1 : ACode := .reg [⟨.loc 5, .fld 2 (.var 2), none, []⟩,
  ⟨.loc 6, .load false 1 (.loc 5), none, []⟩,
  ⟨.loc 7, .mv (.var 1), none, []⟩,
  ⟨.loc 8, .call (.fn 70) [(.loc 6), (.loc 7)] [.lend, .borrow], none, []⟩,
  ⟨.var 1, .mv (.loc 8), none, []⟩] false
def c_L_markRack_2 : ACode := .reg [⟨.loc 9, .mv (.var 1), none, []⟩,
  ⟨.var 4, .mv (.loc 9), none, []⟩] false
def c_L_markRack : ACode := (.seq c_L_markRack_0 (.seq c_L_markRack_1 (.seq c_L_markRack_2 .ret)))

abbrev F_L_markRack : FuncId := 37

theorem k_L_markRack : comp PP (Tryd.f37.ntmps, pinOf 0 [some .give, none]) [0, 1, 2, 4] (Tryd.f37.body.getD .skip) = some c_L_markRack.erase := by kernel_rfl

theorem v_L_markRack {GG : GV} (rcs : List C) {cs : List C} {r : C} {os : List (Option C)} (hN : (cs.length == 2 && rcs.length == 1) = true) (hret : retOf rcs = r)
    (hW : W PP [0, 1, 2, 4] (Tryd.f37.ntmps, pinOf 0 [some .give, none]) (Valid PP GG) c_L_markRack (entry cs) (Fin (Valid PP GG) [(.give, 4, none)] [some .give, none] rcs os) (fun _ _ => False) (Fin (Valid PP GG) [(.give, 4, none)] [some .give, none] rcs os)) : Valid PP GG F_L_markRack cs r os :=
  fn_valid_n 2 1 [0, 1, 2, 4] c_L_markRack [(.give, 4, none)] [some .give, none] rcs Tryd.func37 rfl rfl (by kernel_rfl) k_L_markRack rfl rfl hN hret hW


/-
loop.example/g00705/laws.markWrapS  params 2+0 results [4]
  seq  mid=[0, 1]
    c_L_markWrapS_0
    seq  mid=[0, 1]
      seq  mid=[0, 1, 5]
        c_L_markWrapS_1
        block 0
          loop live=[0, 1, 5]
            seq  mid=[0, 1, 5]
              seq  mid=[0, 1, 5, 9]
                c_L_markWrapS_2
                cond (.var 9)
                  skip
                  exit 0
              seq  mid=[0, 1, 5]
                block 1
                  seq  mid=[0, 1, 5]
                    c_L_markWrapS_3
                    seq  mid=[0, 1, 5]
                      c_L_markWrapS_4
                      seq  mid=[0, 1, 5]
                        c_L_markWrapS_5
                        seq  mid=[0, 1, 5]
                          c_L_markWrapS_6
                          seq  mid=[0, 1, 5]
                            c_L_markWrapS_7
                            seq  mid=[0, 1, 5]
                              c_L_markWrapS_8
                              seq  mid=[0, 1, 5]
                                c_L_markWrapS_9
                                seq  mid=[0, 1, 5]
                                  c_L_markWrapS_10
                                  seq  mid=[0, 1, 5]
                                    c_L_markWrapS_11
                                    seq  mid=[0, 1, 5]
                                      c_L_markWrapS_12
                                      c_L_markWrapS_13
                c_L_markWrapS_14
      seq  mid=[0, 4]
        c_L_markWrapS_16
        ret
-/
def c_L_markWrapS_0 : ACode := .reg [⟨.var 4, .mv (.const (.d (.int .i64 0))), none, []⟩] false
def c_L_markWrapS_1 : ACode := .reg [⟨.var 5, .mv (.const (.d (.int .i64 0))), none, []⟩] false
def c_L_markWrapS_2 : ACode := .reg [⟨.loc 6, .mv (.var 5), none, []⟩,
  ⟨.loc 7, .mv (.var 0), none, []⟩,
  ⟨.loc 8, .len false (.loc 7), none, []⟩,
  ⟨.var 9, .bin .int .lss (.loc 6) (.loc 8), none, []⟩] false
def c_L_markWrapS_3 : ACode := .reg [⟨.loc 12, .mv (.var 0), none, []⟩,
  ⟨.loc 13, .mv (.var 5), none, []⟩,
  ⟨.loc 14, .mv (.var 1), none, []⟩,
  ⟨.loc 15, .idxA 6 (.loc 12) (.loc 13), none, []⟩,
  ⟨.loc 16, .fld 0 (.loc 15), none, []⟩,
  ⟨.none, .store 1 (.loc 16) (.loc 14), none, []⟩] false
def c_L_markWrapS_4 : ACode := .reg [⟨.loc 17, .mv (.var 1), none, []⟩,
  ⟨.loc 18, .bin .int .add (.loc 17) (.const (.d (.int .i64 1))), none, []⟩,
  ⟨.var 1, .mv (.loc 18), none, []⟩] false
def c_L_markWrapS_5 : ACode := .reg [⟨.loc 19, .mv (.var 0), none, []⟩,
  ⟨.loc 20, .mv (.var 5), none, []⟩,
  ⟨.loc 21, .mv (.var 1), none, []⟩,
  ⟨.loc 22, .idxA 6 (.loc 19) (.loc 20), none, []⟩,
  ⟨.loc 23, .fld 1 (.loc 22), none, []⟩,
  ⟨.none, .store 1 (.loc 23) (.loc 21), none, []⟩] false
def c_L_markWrapS_6 : ACode := .reg [⟨.loc 24, .mv (.var 1), none, []⟩,
  ⟨.loc 25, .bin .int .add (.loc 24) (.const (.d (.int .i64 1))), none, []⟩,
  ⟨.var 1, .mv (.loc 25), none, []⟩] false
def c_L_markWrapS_7 : ACode := .reg [⟨.loc 26, .mv (.var 0), none, []⟩,
  ⟨.loc 27, .mv (.var 5), none, []⟩,
  ⟨.loc 28, .mv (.var 1), none, []⟩,
  ⟨.loc 29, .call (.fn 99) [(.loc 28)] [.borrow], none, []⟩,
  ⟨.loc 30, .idxA 6 (.loc 26) (.loc 27), none, []⟩,
  ⟨.loc 31, .fld 2 (.loc 30), none, []⟩,
  ⟨.none, .store 1 (.loc 31) (.loc 29), none, []⟩] false
def c_L_markWrapS_8 : ACode := .reg [⟨.loc 32, .mv (.var 1), none, []⟩,
  ⟨.loc 33, .bin .int .add (.loc 32) (.const (.d (.int .i64 1))), none, []⟩,
  ⟨.var 1, .mv (.loc 33), none, []⟩] false
def c_L_markWrapS_9 : ACode := .reg [⟨.loc 34, .mv (.var 0), none, []⟩,
  ⟨.loc 35, .mv (.var 5), none, []⟩,
  ⟨.loc 36, .mv (.var 1), none, []⟩,
  ⟨.loc 37, .idxA 6 (.loc 34) (.loc 35), none, []⟩,
  ⟨.loc 38, .fld 3 (.loc 37), none, []⟩,
  ⟨.loc 39, .fld 0 (.loc 38), none, []⟩,
  ⟨.none, .store 1 (.loc 39) (.loc 36), none, []⟩] false
def c_L_markWrapS_10 : ACode := .reg [⟨.loc 40, .mv (.var 1), none, []⟩,
  ⟨.loc 41, .bin .int .add (.loc 40) (.const (.d (.int .i64 1))), none, []⟩,
  ⟨.var 1, .mv (.loc 41), none, []⟩] false
def c_L_markWrapS_11 : ACode := .reg [⟨.loc 42, .mv (.var 0), none, []⟩,
  ⟨.loc 43, .mv (.var 5), none, []⟩,
  ⟨.loc 44, .idxA 6 (.loc 42) (.loc 43), none, []⟩,
  ⟨.loc 45, .fld 3 (.loc 44), none, []⟩,
  ⟨.loc 46, .fld 1 (.loc 45), none, []⟩,
  ⟨.loc 47, .load false 1 (.loc 46), none, []⟩,
  ⟨.loc 48, .mv (.var 1), none, []⟩,
  ⟨.loc 49, .call (.fn 15) [(.loc 47), (.loc 48)] [.lend, .borrow], none, []⟩,
  ⟨.var 1, .mv (.loc 49), none, []⟩] false
def c_L_markWrapS_12 : ACode := .reg [⟨.loc 50, .mv (.var 0), none, []⟩,
  ⟨.loc 51, .mv (.var 5), none, []⟩,
  ⟨.loc 52, .mv (.var 1), none, []⟩,
  ⟨.loc 53, .idxA 6 (.loc 50) (.loc 51), none, []⟩,
  ⟨.loc 54, .fld 3 (.loc 53), none, []⟩,
  ⟨.loc 55, .fld 2 (.loc 54), none, []⟩,
  ⟨.none, .store 1 (.loc 55) (.loc 52), none, []⟩] false
def c_L_markWrapS_13 : ACode := .reg [⟨.loc 56, .mv (.var 1), none, []⟩,
  ⟨.loc 57, .bin .int .add (.loc 56) (.const (.d (.int .i64 1))), none, []⟩,
  ⟨.var 1, .mv (.loc 57), none, []⟩] false
def c_L_markWrapS_14 : ACode := .reg [⟨.loc 10, .mv (.var 5), none, []⟩,
  ⟨.loc 11, .bin .int .add (.loc 10) (.const (.d (.int .i64 1))), none, []⟩,
  ⟨.var 5, .mv (.loc 11), none, []⟩] false
def c_L_markWrapS_15 : ACode := (.seq (.seq c_L_markWrapS_2 (.cond (.var 9) .skip (.exit 0))) (.seq (.block 1 (.seq c_L_markWrapS_3 (.seq c_L_markWrapS_4 (.seq c_L_markWrapS_5 (.seq c_L_markWrapS_6 (.seq c_L_markWrapS_7 (.seq c_L_markWrapS_8 (.seq c_L_markWrapS_9 (.seq c_L_markWrapS_10 (.seq c_L_markWrapS_11 (.seq c_L_markWrapS_12 c_L_markWrapS_13))))))))))) c_L_markWrapS_14))
def c_L_markWrapS_16 : ACode := .reg [⟨.loc 58, .mv (.var 1), none, []⟩,
  ⟨.var 4, .mv (.loc 58), none, []⟩] false
def c_L_markWrapS : ACode := (.seq c_L_markWrapS_0 (.seq (.seq c_L_markWrapS_1 (.block 0 (.loop [0, 1, 5] c_L_markWrapS_15))) (.seq c_L_markWrapS_16 .ret)))

abbrev F_L_markWrapS : FuncId := 70

theorem k_L_markWrapS : comp PP (Tryd.f70.ntmps, pinOf 0 [some .give, none]) [0, 1, 4, 5, 9] (Tryd.f70.body.getD .skip) = some c_L_markWrapS.erase := by kernel_rfl

theorem v_L_markWrapS {GG : GV} (rcs : List C) {cs : List C} {r : C} {os : List (Option C)} (hN : (cs.length == 2 && rcs.length == 1) = true) (hret : retOf rcs = r)
    (hW : W PP [0, 1, 4, 5, 9] (Tryd.f70.ntmps, pinOf 0 [some .give, none]) (Valid PP GG) c_L_markWrapS (entry cs) (Fin (Valid PP GG) [(.give, 4, none)] [some .give, none] rcs os) (fun _ _ => False) (Fin (Valid PP GG) [(.give, 4, none)] [some .give, none] rcs os)) : Valid PP GG F_L_markWrapS cs r os :=
  fn_valid_n 2 1 [0, 1, 4, 5, 9] c_L_markWrapS [(.give, 4, none)] [some .give, none] rcs Tryd.func70 rfl rfl (by kernel_rfl) k_L_markWrapS rfl rfl hN hret hW


/-
loop.example/g00705/laws.heldRack  params 2+0 results [4]
  seq  mid=[1, 2]
    c_L_heldRack_0
    seq  mid=[1]
      c_L_heldRack_1
      seq  mid=[1]
        seq  mid=[1, 10]
          c_L_heldRack_2
          cond (.var 10)
            seq  mid=[4]
              c_L_heldRack_3
              ret
            skip
        seq  mid=[4]
          c_L_heldRack_4
          ret
-/
def c_L_heldRack_0 : ACode := .reg [⟨.var 2, .box (.var 0), none, []⟩,
  ⟨.var 4, .mv (.const (.d (.int .i64 0))), none, []⟩] false
def c_L_heldRack_1 : ACode := .reg [⟨.loc 5, .fld 2 (.var 2), none, []⟩,
  ⟨.loc 6, .load false 1 (.loc 5), none, []⟩,
  ⟨.loc 7, .mv (.var 1), none, []⟩,
  ⟨.loc 8, .call (.fn 71) [(.loc 6), (.loc 7)] [.borrow, .borrow], none, []⟩,
  ⟨.var 1, .mv (.loc 8), none, []⟩] false
def c_L_heldRack_2 : ACode := .reg [⟨.loc 9, .mv (.var 1), none, []⟩,
  ⟨.var 10, .bin .int .lss (.loc 9) (.const (.d (.int .i64 0))), none, []⟩] false
def c_L_heldRack_3 : ACode := .reg [⟨.var 4, .mv (.const (.d (.int .i64 (-1)))), none, []⟩] false
def c_L_heldRack_4 : ACode := .reg [⟨.loc 11, .mv (.var 1), none, []⟩,
  ⟨.var 4, .mv (.loc 11), none, []⟩] false
def c_L_heldRack : ACode := (.seq c_L_heldRack_0 (.seq c_L_heldRack_1 (.seq (.seq c_L_heldRack_2 (.cond (.var 10) (.seq c_L_heldRack_3 .ret) .skip)) (.seq c_L_heldRack_4 .ret))))

abbrev F_L_heldRack : FuncId := 38

theorem k_L_heldRack : comp PP (Tryd.f38.ntmps, pinOf 0 [none, none]) [0, 1, 2, 4, 10] (Tryd.f38.body.getD .skip) = some c_L_heldRack.erase := by kernel_rfl

theorem v_L_heldRack {GG : GV} (rcs : List C) {cs : List C} {r : C} {os : List (Option C)} (hN : (cs.length == 2 && rcs.length == 1) = true) (hret : retOf rcs = r)
    (hW : W PP [0, 1, 2, 4, 10] (Tryd.f38.ntmps, pinOf 0 [none, none]) (Valid PP GG) c_L_heldRack (entry cs) (Fin (Valid PP GG) [(.give, 4, none)] [none, none] rcs os) (fun _ _ => False) (Fin (Valid PP GG) [(.give, 4, none)] [none, none] rcs os)) : Valid PP GG F_L_heldRack cs r os :=
  fn_valid_n 2 1 [0, 1, 2, 4, 10] c_L_heldRack [(.give, 4, none)] [none, none] rcs Tryd.func38 rfl rfl (by kernel_rfl) k_L_heldRack rfl rfl hN hret hW


/-
loop.example/g00705/laws.heldWrapS  params 2+0 results [4]
  seq  mid=[0, 1]
    c_L_heldWrapS_0
    seq  mid=[1]
      seq  mid=[0, 1, 5]
        c_L_heldWrapS_1
        block 0
          loop live=[0, 1, 5]
            seq  mid=[0, 1, 5]
              seq  mid=[0, 1, 5, 9]
                c_L_heldWrapS_2
                cond (.var 9)
                  skip
                  exit 0
              seq  mid=[0, 1, 5]
                block 1
                  seq  mid=[0, 1, 5]
                    seq  mid=[0, 1, 5, 18]
                      c_L_heldWrapS_3
                      cond (.var 18)
                        seq  mid=[4]
                          c_L_heldWrapS_4
                          ret
                        skip
                    seq  mid=[0, 1, 5]
                      c_L_heldWrapS_5
                      seq  mid=[0, 1, 5]
                        seq  mid=[0, 1, 5, 27]
                          c_L_heldWrapS_6
                          cond (.var 27)
                            seq  mid=[4]
                              c_L_heldWrapS_7
                              ret
                            skip
                        seq  mid=[0, 1, 5]
                          c_L_heldWrapS_8
                          seq  mid=[0, 1, 5]
                            seq  mid=[0, 1, 5, 37]
                              c_L_heldWrapS_9 DRAW
                              cond (.var 37)
                                seq  mid=[4]
                                  c_L_heldWrapS_10
                                  ret
                                skip
                            seq  mid=[0, 1, 5]
                              c_L_heldWrapS_11
                              seq  mid=[0, 1, 5]
                                seq  mid=[0, 1, 5, 47]
                                  c_L_heldWrapS_12
                                  cond (.var 47)
                                    seq  mid=[4]
                                      c_L_heldWrapS_13
                                      ret
                                    skip
                                seq  mid=[0, 1, 5]
                                  c_L_heldWrapS_14
                                  seq  mid=[0, 1, 5]
                                    c_L_heldWrapS_15
                                    seq  mid=[0, 1, 5]
                                      seq  mid=[0, 1, 5, 59]
                                        c_L_heldWrapS_16
                                        cond (.var 59)
                                          seq  mid=[4]
                                            c_L_heldWrapS_17
                                            ret
                                          skip
                                      seq  mid=[0, 1, 5]
                                        seq  mid=[0, 1, 5, 67]
                                          c_L_heldWrapS_18
                                          cond (.var 67)
                                            seq  mid=[4]
                                              c_L_heldWrapS_19
                                              ret
                                            skip
                                        c_L_heldWrapS_20
                c_L_heldWrapS_21
      seq  mid=[4]
        c_L_heldWrapS_23
        ret
-/
def c_L_heldWrapS_0 : ACode := .reg [⟨.var 4, .mv (.const (.d (.int .i64 0))), none, []⟩] false
def c_L_heldWrapS_1 : ACode := .reg [⟨.var 5, .mv (.const (.d (.int .i64 0))), none, []⟩] false
def c_L_heldWrapS_2 : ACode := .reg [⟨.loc 6, .mv (.var 5), none, []⟩,
  ⟨.loc 7, .mv (.var 0), none, []⟩,
  ⟨.loc 8, .len false (.loc 7), none, []⟩,
  ⟨.var 9, .bin .int .lss (.loc 6) (.loc 8), none, []⟩] false
def c_L_heldWrapS_3 : ACode := .reg [⟨.loc 12, .mv (.var 0), none, []⟩,
  ⟨.loc 13, .mv (.var 5), none, []⟩,
  ⟨.loc 14, .idxA 6 (.loc 12) (.loc 13), none, []⟩,
  ⟨.loc 15, .fld 0 (.loc 14), none, []⟩,
  ⟨.loc 16, .load false 1 (.loc 15), none, []⟩,
  ⟨.loc 17, .mv (.var 1), none, []⟩,
  ⟨.var 18, .bin .int .neq (.loc 16) (.loc 17), none, []⟩] false
def c_L_heldWrapS_4 : ACode := .reg [⟨.var 4, .mv (.const (.d (.int .i64 (-1)))), none, []⟩] false
def c_L_heldWrapS_5 : ACode := .reg [⟨.loc 19, .mv (.var 1), none, []⟩,
  ⟨.loc 20, .bin .int .add (.loc 19) (.const (.d (.int .i64 1))), none, []⟩,
  ⟨.var 1, .mv (.loc 20), none, []⟩] false
def c_L_heldWrapS_6 : ACode := .reg [⟨.loc 21, .mv (.var 0), none, []⟩,
  ⟨.loc 22, .mv (.var 5), none, []⟩,
  ⟨.loc 23, .idxA 6 (.loc 21) (.loc 22), none, []⟩,
  ⟨.loc 24, .fld 1 (.loc 23), none, []⟩,
  ⟨.loc 25, .load false 1 (.loc 24), none, []⟩,
  ⟨.loc 26, .mv (.var 1), none, []⟩,
  ⟨.var 27, .bin .int .neq (.loc 25) (.loc 26), none, []⟩] false
def c_L_heldWrapS_7 : ACode := .reg [⟨.var 4, .mv (.const (.d (.int .i64 (-1)))), none, []⟩] false
def c_L_heldWrapS_8 : ACode := .reg [⟨.loc 28, .mv (.var 1), none, []⟩,
  ⟨.loc 29, .bin .int .add (.loc 28) (.const (.d (.int .i64 1))), none, []⟩,
  ⟨.var 1, .mv (.loc 29), none, []⟩] false
def c_L_heldWrapS_9 : ACode := .reg [⟨.loc 30, .mv (.var 0), none, []⟩,
  ⟨.loc 31, .mv (.var 5), none, []⟩,
  ⟨.loc 32, .idxA 6 (.loc 30) (.loc 31), none, [0, 1]⟩,
  ⟨.loc 33, .fld 2 (.loc 32), none, [2, 0, 1]⟩,
  ⟨.loc 34, .load false 1 (.loc 33), none, [3, 2, 0, 1]⟩,
  ⟨.loc 35, .mv (.var 1), none, []⟩,
  ⟨.loc 36, .call (.fn 99) [(.loc 35)] [.borrow], none, [5]⟩,
  ⟨.var 37, .bin .str .neq (.loc 34) (.loc 36), none, [4, 3, 2, 0, 1, 6, 5]⟩] true
def c_L_heldWrapS_10 : ACode := .reg [⟨.var 4, .mv (.const (.d (.int .i64 (-1)))), none, []⟩] false
def c_L_heldWrapS_11 : ACode := .reg [⟨.loc 38, .mv (.var 1), none, []⟩,
  ⟨.loc 39, .bin .int .add (.loc 38) (.const (.d (.int .i64 1))), none, []⟩,
  ⟨.var 1, .mv (.loc 39), none, []⟩] false
def c_L_heldWrapS_12 : ACode := .reg [⟨.loc 40, .mv (.var 0), none, []⟩,
  ⟨.loc 41, .mv (.var 5), none, []⟩,
  ⟨.loc 42, .idxA 6 (.loc 40) (.loc 41), none, []⟩,
  ⟨.loc 43, .fld 3 (.loc 42), none, []⟩,
  ⟨.loc 44, .fld 0 (.loc 43), none, []⟩,
  ⟨.loc 45, .load false 1 (.loc 44), none, []⟩,
  ⟨.loc 46, .mv (.var 1), none, []⟩,
  ⟨.var 47, .bin .int .neq (.loc 45) (.loc 46), none, []⟩] false
def c_L_heldWrapS_13 : ACode := .reg [⟨.var 4, .mv (.const (.d (.int .i64 (-1)))), none, []⟩] false
def c_L_heldWrapS_14 : ACode := .reg [⟨.loc 48, .mv (.var 1), none, []⟩,
  ⟨.loc 49, .bin .int .add (.loc 48) (.const (.d (.int .i64 1))), none, []⟩,
  ⟨.var 1, .mv (.loc 49), none, []⟩] false
def c_L_heldWrapS_15 : ACode := .reg [⟨.loc 50, .mv (.var 0), none, []⟩,
  ⟨.loc 51, .mv (.var 5), none, []⟩,
  ⟨.loc 52, .idxA 6 (.loc 50) (.loc 51), none, []⟩,
  ⟨.loc 53, .fld 3 (.loc 52), none, []⟩,
  ⟨.loc 54, .fld 1 (.loc 53), none, []⟩,
  ⟨.loc 55, .load false 1 (.loc 54), none, []⟩,
  ⟨.loc 56, .mv (.var 1), none, []⟩,
  ⟨.loc 57, .call (.fn 16) [(.loc 55), (.loc 56)] [.borrow, .borrow], none, []⟩,
  ⟨.var 1, .mv (.loc 57), none, []⟩] false
def c_L_heldWrapS_16 : ACode := .reg [⟨.loc 58, .mv (.var 1), none, []⟩,
  ⟨.var 59, .bin .int .lss (.loc 58) (.const (.d (.int .i64 0))), none, []⟩] false
def c_L_heldWrapS_17 : ACode := .reg [⟨.var 4, .mv (.const (.d (.int .i64 (-1)))), none, []⟩] false
def c_L_heldWrapS_18 : ACode := .reg [⟨.loc 60, .mv (.var 0), none, []⟩,
  ⟨.loc 61, .mv (.var 5), none, []⟩,
  ⟨.loc 62, .idxA 6 (.loc 60) (.loc 61), none, []⟩,
  ⟨.loc 63, .fld 3 (.loc 62), none, []⟩,
  ⟨.loc 64, .fld 2 (.loc 63), none, []⟩,
  ⟨.loc 65, .load false 1 (.loc 64), none, []⟩,
  ⟨.loc 66, .mv (.var 1), none, []⟩,
  ⟨.var 67, .bin .int .neq (.loc 65) (.loc 66), none, []⟩] false
def c_L_heldWrapS_19 : ACode := .reg [⟨.var 4, .mv (.const (.d (.int .i64 (-1)))), none, []⟩] false
def c_L_heldWrapS_20 : ACode := .reg [⟨.loc 68, .mv (.var 1), none, []⟩,
  ⟨.loc 69, .bin .int .add (.loc 68) (.const (.d (.int .i64 1))), none, []⟩,
  ⟨.var 1, .mv (.loc 69), none, []⟩] false
def c_L_heldWrapS_21 : ACode := .reg [⟨.loc 10, .mv (.var 5), none, []⟩,
  ⟨.loc 11, .bin .int .add (.loc 10) (.const (.d (.int .i64 1))), none, []⟩,
  ⟨.var 5, .mv (.loc 11), none, []⟩] false
def c_L_heldWrapS_22 : ACode := (.seq (.seq c_L_heldWrapS_2 (.cond (.var 9) .skip (.exit 0))) (.seq (.block 1 (.seq (.seq c_L_heldWrapS_3 (.cond (.var 18) (.seq c_L_heldWrapS_4 .ret) .skip)) (.seq c_L_heldWrapS_5 (.seq (.seq c_L_heldWrapS_6 (.cond (.var 27) (.seq c_L_heldWrapS_7 .ret) .skip)) (.seq c_L_heldWrapS_8 (.seq (.seq c_L_heldWrapS_9 (.cond (.var 37) (.seq c_L_heldWrapS_10 .ret) .skip)) (.seq c_L_heldWrapS_11 (.seq (.seq c_L_heldWrapS_12 (.cond (.var 47) (.seq c_L_heldWrapS_13 .ret) .skip)) (.seq c_L_heldWrapS_14 (.seq c_L_heldWrapS_15 (.seq (.seq c_L_heldWrapS_16 (.cond (.var 59) (.seq c_L_heldWrapS_17 .ret) .skip)) (.seq (.seq c_L_heldWrapS_18 (.cond (.var 67) (.seq c_L_heldWrapS_19 .ret) .skip)) c_L_heldWrapS_20)))))))))))) c_L_heldWrapS_21))
def c_L_heldWrapS_23 : ACode := .reg [⟨.loc 70, .mv (.var 1), none, []⟩,
  ⟨.var 4, .mv (.loc 70), none, []⟩] false
def c_L_heldWrapS : ACode := (.seq c_L_heldWrapS_0 (.seq (.seq c_L_heldWrapS_1 (.block 0 (.loop [0, 1, 5] c_L_heldWrapS_22))) (.seq c_L_heldWrapS_23 .ret)))

abbrev F_L_heldWrapS : FuncId := 71

theorem k_L_heldWrapS : comp PP (Tryd.f71.ntmps, pinOf 0 [none, none]) [0, 1, 4, 5, 9, 18, 27, 37, 47, 59, 67] (Tryd.f71.body.getD .skip) = some c_L_heldWrapS.erase := by kernel_rfl

theorem v_L_heldWrapS {GG : GV} (rcs : List C) {cs : List C} {r : C} {os : List (Option C)} (hN : (cs.length == 2 && rcs.length == 1) = true) (hret : retOf rcs = r)
    (hW : W PP [0, 1, 4, 5, 9, 18, 27, 37, 47, 59, 67] (Tryd.f71.ntmps, pinOf 0 [none, none]) (Valid PP GG) c_L_heldWrapS (entry cs) (Fin (Valid PP GG) [(.give, 4, none)] [none, none] rcs os) (fun _ _ => False) (Fin (Valid PP GG) [(.give, 4, none)] [none, none] rcs os)) : Valid PP GG F_L_heldWrapS cs r os :=
  fn_valid_n 2 1 [0, 1, 4, 5, 9, 18, 27, 37, 47, 59, 67] c_L_heldWrapS [(.give, 4, none)] [none, none] rcs Tryd.func71 rfl rfl (by kernel_rfl) k_L_heldWrapS rfl rfl hN hret hW


/-
loop.example/g00705/laws.markIntS  params 2+0 results [4]
  seq  mid=[0, 1]
    c_L_markIntS_0
    seq  mid=[0, 1]
      seq  mid=[0, 1, 5]
        c_L_markIntS_1
        block 0
          loop live=[0, 1, 5]
            seq  mid=[0, 1, 5]
              seq  mid=[0, 1, 5, 9]
                c_L_markIntS_2
                cond (.var 9)
                  skip
                  exit 0
              seq  mid=[0, 1, 5]
                block 1
                  seq  mid=[0, 1, 5]
                    c_L_markIntS_3
                    c_L_markIntS_4
                c_L_markIntS_5
      seq  mid=[0, 4]
        c_L_markIntS_7
        ret
-/
def c_L_markIntS_0 : ACode := .reg [⟨.var 4, .mv (.const (.d (.int .i64 0))), none, []⟩] false
def c_L_markIntS_1 : ACode := .reg [⟨.var 5, .mv (.const (.d (.int .i64 0))), none, []⟩] false
def c_L_markIntS_2 : ACode := .reg [⟨.loc 6, .mv (.var 5), none, []⟩,
  ⟨.loc 7, .mv (.var 0), none, []⟩,
  ⟨.loc 8, .len false (.loc 7), none, []⟩,
  ⟨.var 9, .bin .int .lss (.loc 6) (.loc 8), none, []⟩] false
def c_L_markIntS_3 : ACode := .reg [⟨.loc 12, .mv (.var 0), none, []⟩,
  ⟨.loc 13, .mv (.var 5), none, []⟩,
  ⟨.loc 14, .mv (.var 1), none, []⟩,
  ⟨.loc 15, .idxA 1 (.loc 12) (.loc 13), none, []⟩,
  ⟨.none, .store 1 (.loc 15) (.loc 14), none, []⟩] false
def c_L_markIntS_4 : ACode := .reg [⟨.loc 16, .mv (.var 1), none, []⟩,
  ⟨.loc 17, .bin .int .add (.loc 16) (.const (.d (.int .i64 1))), none, []⟩,
  ⟨.var 1, .mv (.loc 17), none, []⟩] false
def c_L_markIntS_5 : ACode := .reg [⟨.loc 10, .mv (.var 5), none, []⟩,
  ⟨.loc 11, .bin .int .add (.loc 10) (.const (.d (.int .i64 1))), none, []⟩,
  ⟨.var 5, .mv (.loc 11), none, []⟩] false
def c_L_markIntS_6 : ACode := (.seq (.seq c_L_markIntS_2 (.cond (.var 9) .skip (.exit 0))) (.seq (.block 1 (.seq c_L_markIntS_3 c_L_markIntS_4)) c_L_markIntS_5))
def c_L_markIntS_7 : ACode := .reg [⟨.loc 18, .mv (.var 1), none, []⟩,
  ⟨.var 4, .mv (.loc 18), none, []⟩] false
def c_L_markIntS : ACode := (.seq c_L_markIntS_0 (.seq (.seq c_L_markIntS_1 (.block 0 (.loop [0, 1, 5] c_L_markIntS_6))) (.seq c_L_markIntS_7 .ret)))

abbrev F_L_markIntS : FuncId := 33

theorem k_L_markIntS : comp PP (Tryd.f33.ntmps, pinOf 0 [some .give, none]) [0, 1, 4, 5, 9] (Tryd.f33.body.getD .skip) = some c_L_markIntS.erase := by kernel_rfl

theorem v_L_markIntS {GG : GV} (rcs : List C) {cs : List C} {r : C} {os : List (Option C)} (hN : (cs.length == 2 && rcs.length == 1) = true) (hret : retOf rcs = r)
    (hW : W PP [0, 1, 4, 5, 9] (Tryd.f33.ntmps, pinOf 0 [some .give, none]) (Valid PP GG) c_L_markIntS (entry cs) (Fin (Valid PP GG) [(.give, 4, none)] [some .give, none] rcs os) (fun _ _ => False) (Fin (Valid PP GG) [(.give, 4, none)] [some .give, none] rcs os)) : Valid PP GG F_L_markIntS cs r os :=
  fn_valid_n 2 1 [0, 1, 4, 5, 9] c_L_markIntS [(.give, 4, none)] [some .give, none] rcs Tryd.func33 rfl rfl (by kernel_rfl) k_L_markIntS rfl rfl hN hret hW


/-
loop.example/g00705/laws.heldIntS  params 2+0 results [4]
  seq  mid=[0, 1]
    c_L_heldIntS_0
    seq  mid=[1]
      seq  mid=[0, 1, 5]
        c_L_heldIntS_1
        block 0
          loop live=[0, 1, 5]
            seq  mid=[0, 1, 5]
              seq  mid=[0, 1, 5, 9]
                c_L_heldIntS_2
                cond (.var 9)
                  skip
                  exit 0
              seq  mid=[0, 1, 5]
                block 1
                  seq  mid=[0, 1, 5]
                    seq  mid=[0, 1, 5, 17]
                      c_L_heldIntS_3
                      cond (.var 17)
                        seq  mid=[4]
                          c_L_heldIntS_4
                          ret
                        skip
                    c_L_heldIntS_5
                c_L_heldIntS_6
      seq  mid=[4]
        c_L_heldIntS_8
        ret
-/
def c_L_heldIntS_0 : ACode := .reg [⟨.var 4, .mv (.const (.d (.int .i64 0))), none, []⟩] false
def c_L_heldIntS_1 : ACode := .reg [⟨.var 5, .mv (.const (.d (.int .i64 0))), none, []⟩] false
def c_L_heldIntS_2 : ACode := .reg [⟨.loc 6, .mv (.var 5), none, []⟩,
  ⟨.loc 7, .mv (.var 0), none, []⟩,
  ⟨.loc 8, .len false (.loc 7), none, []⟩,
  ⟨.var 9, .bin .int .lss (.loc 6) (.loc 8), none, []⟩] false
def c_L_heldIntS_3 : ACode := .reg [⟨.loc 12, .mv (.var 0), none, []⟩,
  ⟨.loc 13, .mv (.var 5), none, []⟩,
  ⟨.loc 14, .idxA 1 (.loc 12) (.loc 13), none, []⟩,
  ⟨.loc 15, .load false 1 (.loc 14), none, []⟩,
  ⟨.loc 16, .mv (.var 1), none, []⟩,
  ⟨.var 17, .bin .int .neq (.loc 15) (.loc 16), none, []⟩] false
def c_L_heldIntS_4 : ACode := .reg [⟨.var 4, .mv (.const (.d (.int .i64 (-1)))), none, []⟩] false
def c_L_heldIntS_5 : ACode := .reg [⟨.loc 18, .mv (.var 1), none, []⟩,
  ⟨.loc 19, .bin .int .add (.loc 18) (.const (.d (.int .i64 1))), none, []⟩,
  ⟨.var 1, .mv (.loc 19), none, []⟩] false
def c_L_heldIntS_6 : ACode := .reg [⟨.loc 10, .mv (.var 5), none, []⟩,
  ⟨.loc 11, .bin .int .add (.loc 10) (.const (.d (.int .i64 1))), none, []⟩,
  ⟨.var 5, .mv (.loc 11), none, []⟩] false
def c_L_heldIntS_7 : ACode := (.seq (.seq c_L_heldIntS_2 (.cond (.var 9) .skip (.exit 0))) (.seq (.block 1 (.seq (.seq c_L_heldIntS_3 (.cond (.var 17) (.seq c_L_heldIntS_4 .ret) .skip)) c_L_heldIntS_5)) c_L_heldIntS_6))
def c_L_heldIntS_8 : ACode := .reg [⟨.loc 20, .mv (.var 1), none, []⟩,
  ⟨.var 4, .mv (.loc 20), none, []⟩] false
def c_L_heldIntS : ACode := (.seq c_L_heldIntS_0 (.seq (.seq c_L_heldIntS_1 (.block 0 (.loop [0, 1, 5] c_L_heldIntS_7))) (.seq c_L_heldIntS_8 .ret)))

abbrev F_L_heldIntS : FuncId := 34

theorem k_L_heldIntS : comp PP (Tryd.f34.ntmps, pinOf 0 [none, none]) [0, 1, 4, 5, 9, 17] (Tryd.f34.body.getD .skip) = some c_L_heldIntS.erase := by kernel_rfl

theorem v_L_heldIntS {GG : GV} (rcs : List C) {cs : List C} {r : C} {os : List (Option C)} (hN : (cs.length == 2 && rcs.length == 1) = true) (hret : retOf rcs = r)
    (hW : W PP [0, 1, 4, 5, 9, 17] (Tryd.f34.ntmps, pinOf 0 [none, none]) (Valid PP GG) c_L_heldIntS (entry cs) (Fin (Valid PP GG) [(.give, 4, none)] [none, none] rcs os) (fun _ _ => False) (Fin (Valid PP GG) [(.give, 4, none)] [none, none] rcs os)) : Valid PP GG F_L_heldIntS cs r os :=
  fn_valid_n 2 1 [0, 1, 4, 5, 9, 17] c_L_heldIntS [(.give, 4, none)] [none, none] rcs Tryd.func34 rfl rfl (by kernel_rfl) k_L_heldIntS rfl rfl hN hret hW


/-
loop.example/g00705/laws.eqIntS  params 2+0 results [4]
  seq  mid=[0, 1]
    c_L_eqIntS_0
    seq  mid=[0, 1]
      seq  mid=[0, 1, 10]
        c_L_eqIntS_1
        cond (.var 10)
          seq  mid=[4]
            c_L_eqIntS_2
            ret
          skip
      seq  mid=[]
        seq  mid=[0, 1, 5]
          c_L_eqIntS_3
          block 0
            loop live=[0, 1, 5]
              seq  mid=[0, 1, 5]
                seq  mid=[0, 1, 5, 14]
                  c_L_eqIntS_4
                  cond (.var 14)
                    skip
                    exit 0
                seq  mid=[0, 1, 5]
                  block 1
                    seq  mid=[0, 1, 5, 25]
                      c_L_eqIntS_5 DRAW
                      cond (.var 25)
                        seq  mid=[4]
                          c_L_eqIntS_6
                          ret
                        skip
                  c_L_eqIntS_7
        seq  mid=[4]
          c_L_eqIntS_9
          ret
-/
def c_L_eqIntS_0 : ACode := .reg [⟨.var 4, .mv (.const (.d (.bool false))), none, []⟩] false
def c_L_eqIntS_1 : ACode := .reg [⟨.loc 6, .mv (.var 0), none, []⟩,
  ⟨.loc 7, .len false (.loc 6), none, []⟩,
  ⟨.loc 8, .mv (.var 1), none, []⟩,
  ⟨.loc 9, .len false (.loc 8), none, []⟩,
  ⟨.var 10, .bin .int .neq (.loc 7) (.loc 9), none, []⟩] false
def c_L_eqIntS_2 : ACode := .reg [⟨.var 4, .mv (.const (.d (.bool false))), none, []⟩] false
def c_L_eqIntS_3 : ACode := .reg [⟨.var 5, .mv (.const (.d (.int .i64 0))), none, []⟩] false
def c_L_eqIntS_4 : ACode := .reg [⟨.loc 11, .mv (.var 5), none, []⟩,
  ⟨.loc 12, .mv (.var 0), none, []⟩,
  ⟨.loc 13, .len false (.loc 12), none, []⟩,
  ⟨.var 14, .bin .int .lss (.loc 11) (.loc 13), none, []⟩] false
def c_L_eqIntS_5 : ACode := .reg [⟨.loc 17, .mv (.var 0), none, []⟩,
  ⟨.loc 18, .mv (.var 5), none, []⟩,
  ⟨.loc 19, .idxA 1 (.loc 17) (.loc 18), none, [0, 1]⟩,
  ⟨.loc 20, .load false 1 (.loc 19), none, [2, 0, 1]⟩,
  ⟨.loc 21, .mv (.var 1), none, []⟩,
  ⟨.loc 22, .mv (.var 5), none, []⟩,
  ⟨.loc 23, .idxA 1 (.loc 21) (.loc 22), none, [4, 5]⟩,
  ⟨.loc 24, .load false 1 (.loc 23), none, [6, 4, 5]⟩,
  ⟨.var 25, .bin .int .neq (.loc 20) (.loc 24), none, [3, 2, 0, 1, 7, 6, 4, 5]⟩] true
def c_L_eqIntS_6 : ACode := .reg [⟨.var 4, .mv (.const (.d (.bool false))), none, []⟩] false
def c_L_eqIntS_7 : ACode := .reg [⟨.loc 15, .mv (.var 5), none, []⟩,
  ⟨.loc 16, .bin .int .add (.loc 15) (.const (.d (.int .i64 1))), none, []⟩,
  ⟨.var 5, .mv (.loc 16), none, []⟩] false
def c_L_eqIntS_8 : ACode := (.seq (.seq c_L_eqIntS_4 (.cond (.var 14) .skip (.exit 0))) (.seq (.block 1 (.seq c_L_eqIntS_5 (.cond (.var 25) (.seq c_L_eqIntS_6 .ret) .skip))) c_L_eqIntS_7))
def c_L_eqIntS_9 : ACode := .reg [⟨.var 4, .mv (.const (.d (.bool true))), none, []⟩] false
def c_L_eqIntS : ACode := (.seq c_L_eqIntS_0 (.seq (.seq c_L_eqIntS_1 (.cond (.var 10) (.seq c_L_eqIntS_2 .ret) .skip)) (.seq (.seq c_L_eqIntS_3 (.block 0 (.loop [0, 1, 5] c_L_eqIntS_8))) (.seq c_L_eqIntS_9 .ret))))

abbrev F_L_eqIntS : FuncId := 31

theorem k_L_eqIntS : comp PP (Tryd.f31.ntmps, pinOf 0 [none, none]) [0, 1, 4, 5, 10, 14, 25] (Tryd.f31.body.getD .skip) = some c_L_eqIntS.erase := by kernel_rfl

theorem v_L_eqIntS {GG : GV} (rcs : List C) {cs : List C} {r : C} {os : List (Option C)} (hN : (cs.length == 2 && rcs.length == 1) = true) (hret : retOf rcs = r)
    (hW : W PP [0, 1, 4, 5, 10, 14, 25] (Tryd.f31.ntmps, pinOf 0 [none, none]) (Valid PP GG) c_L_eqIntS (entry cs) (Fin (Valid PP GG) [(.give, 4, none)] [none, none] rcs os) (fun _ _ => False) (Fin (Valid PP GG) [(.give, 4, none)] [none, none] rcs os)) : Valid PP GG F_L_eqIntS cs r os :=
  fn_valid_n 2 1 [0, 1, 4, 5, 10, 14, 25] c_L_eqIntS [(.give, 4, none)] [none, none] rcs Tryd.func31 rfl rfl (by kernel_rfl) k_L_eqIntS rfl rfl hN hret hW


/-
loop.example/g00705/laws.markText  params 1+0 results [2]
  seq  mid=[0]
    c_L_markText_0
    seq  mid=[0]
      seq  mid=[0, 5]
        c_L_markText_1
        cond (.var 5)
          seq  mid=[2]
            c_L_markText_2
            ret
          skip
      seq  mid=[0, 3]
        c_L_markText_3
        seq  mid=[3]
          block 0
            loop live=[0, 3]
              seq  mid=[0, 3]
                seq  mid=[0, 3, 7]
                  c_L_markText_4
                  cond (.var 7)
                    skip
                    exit 0
                block 1
                  seq  mid=[0, 3]
                    c_L_markText_5
                    c_L_markText_6
          seq  mid=[2]
            c_L_markText_8
            ret
-/
def c_L_markText_0 : ACode := .reg [⟨.var 2, .mv (.const (.d (.str []))), none, []⟩] false
def c_L_markText_1 : ACode := .reg [⟨.loc 4, .mv (.var 0), none, []⟩,
  ⟨.var 5, .bin .int .leq (.loc 4) (.const (.d (.int .i64 0))), none, []⟩] false
def c_L_markText_2 : ACode := .reg [⟨.var 2, .mv (.const (.d (.str [109, 48]))), none, []⟩] false
def c_L_markText_3 : ACode := .reg [⟨.var 3, .mv (.const (.d (.str []))), none, []⟩] false
def c_L_markText_4 : ACode := .reg [⟨.loc 6, .mv (.var 0), none, []⟩,
  ⟨.var 7, .bin .int .gtr (.loc 6) (.const (.d (.int .i64 0))), none, []⟩] false
def c_L_markText_5 : ACode := .reg [⟨.loc 8, .mv (.var 0), none, []⟩,
  ⟨.loc 9, .bin .int .rem (.loc 8) (.const (.d (.int .i64 10))), none, []⟩,
  ⟨.loc 10, .bin .int .add (.const (.d (.int .i64 48))) (.loc 9), none, []⟩,
  ⟨.loc 11, .conv .u8 (.loc 10), none, []⟩,
  ⟨.loc 12, .lit 0 1 1 [.int .u8 0] [(0, (.loc 11))], none, []⟩,
  ⟨.loc 13, .b2s (.loc 12), none, []⟩,
  ⟨.loc 14, .mv (.var 3), none, []⟩,
  ⟨.loc 15, .bin .str .add (.loc 13) (.loc 14), none, []⟩,
  ⟨.var 3, .mv (.loc 15), none, []⟩] false
def c_L_markText_6 : ACode := .reg [⟨.loc 16, .mv (.var 0), none, []⟩,
  ⟨.loc 17, .bin .int .quo (.loc 16) (.const (.d (.int .i64 10))), none, []⟩,
  ⟨.var 0, .mv (.loc 17), none, []⟩] false
def c_L_markText_7 : ACode := (.seq (.seq c_L_markText_4 (.cond (.var 7) .skip (.exit 0))) (.block 1 (.seq c_L_markText_5 c_L_markText_6)))
def c_L_markText_8 : ACode := .reg [⟨.loc 18, .mv (.var 3), none, []⟩,
  ⟨.loc 19, .bin .str .add (.const (.d (.str [109]))) (.loc 18), none, []⟩,
  ⟨.var 2, .mv (.loc 19), none, []⟩] false
def c_L_markText : ACode := (.seq c_L_markText_0 (.seq (.seq c_L_markText_1 (.cond (.var 5) (.seq c_L_markText_2 .ret) .skip)) (.seq c_L_markText_3 (.seq (.block 0 (.loop [0, 3] c_L_markText_7)) (.seq c_L_markText_8 .ret)))))

abbrev F_L_markText : FuncId := 99

theorem k_L_markText : comp PP (Tryd.f99.ntmps, pinOf 0 [none]) [0, 2, 3, 5, 7] (Tryd.f99.body.getD .skip) = some c_L_markText.erase := by kernel_rfl

theorem v_L_markText {GG : GV} (rcs : List C) {cs : List C} {r : C} {os : List (Option C)} (hN : (cs.length == 1 && rcs.length == 1) = true) (hret : retOf rcs = r)
    (hW : W PP [0, 2, 3, 5, 7] (Tryd.f99.ntmps, pinOf 0 [none]) (Valid PP GG) c_L_markText (entry cs) (Fin (Valid PP GG) [(.give, 2, none)] [none] rcs os) (fun _ _ => False) (Fin (Valid PP GG) [(.give, 2, none)] [none] rcs os)) : Valid PP GG F_L_markText cs r os :=
  fn_valid_n 1 1 [0, 2, 3, 5, 7] c_L_markText [(.give, 2, none)] [none] rcs Tryd.func99 rfl rfl (by kernel_rfl) k_L_markText rfl rfl hN hret hW


end Go.Proofs.YtpbofdbleajagaaDoor.Ab
