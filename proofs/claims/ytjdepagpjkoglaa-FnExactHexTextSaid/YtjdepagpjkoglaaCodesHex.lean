/-
  A part of a proof about the given program; what is proved is said where each theorem stands.
-/
import Derived.KernelRfl
import Derived.Test.YtjdepagpjkoglaaProg
import Derived.Test.YtjdepagpjkoglaaFrameA
import Derived.Test.YtjdepagpjkoglaaFrameB
import Derived.Test.YtjdepagpjkoglaaFrameC
import Derived.Test.YtjdepagpjkoglaaFrameD
import Derived.Test.YtjdepagpjkoglaaFrameE
namespace Go.Proofs.Ytjdepagpjkoglaa.Ab
open Go.Proofs
noncomputable abbrev PP : Program := Try.prog

/-
loop.example/g00705/laws.FnExactHexText  params 1+0 results [2]
  seq  mid=[0]
    c_L_FnExactHexText_0
    seq  mid=[0]
      seq  mid=[0, 8]
        c_L_FnExactHexText_1
        cond (.var 8)
          seq  mid=[2]
            c_L_FnExactHexText_2
            ret
          skip
      seq  mid=[0, 3]
        c_L_FnExactHexText_3
        seq  mid=[0, 3, 4]
          c_L_FnExactHexText_4
          seq  mid=[0, 3, 4, 5]
            c_L_FnExactHexText_5
            seq  mid=[0, 4]
              seq  mid=[0, 4, 18]
                c_L_FnExactHexText_6
                cond (.var 18)
                  seq  mid=[2]
                    c_L_FnExactHexText_7
                    ret
                  skip
              seq  mid=[]
                seq  mid=[23]
                  c_L_FnExactHexText_8
                  cond (.var 23)
                    seq  mid=[2]
                      c_L_FnExactHexText_9
                      ret
                    skip
                seq  mid=[2]
                  c_L_FnExactHexText_10
                  ret
-/
def c_L_FnExactHexText_0 : ACode := .reg [⟨.var 2, .mv (.const (.d (.bool false))), none, []⟩] false
def c_L_FnExactHexText_1 : ACode := .reg [⟨.loc 6, .mv (.var 0), none, []⟩,
  ⟨.loc 7, .len false (.loc 6), none, []⟩,
  ⟨.var 8, .bin .int .gtr (.loc 7) (.const (.d (.int .i64 1048576))), none, []⟩] false
def c_L_FnExactHexText_2 : ACode := .reg [⟨.var 2, .mv (.const (.d (.bool true))), none, []⟩] false
def c_L_FnExactHexText_3 : ACode := .reg [⟨.loc 9, .mv (.var 0), none, []⟩,
  ⟨.loc 10, .call (.fn 7) [(.loc 9)] [.borrow], none, []⟩,
  ⟨.loc 11, .call (.fn 6) [(.loc 10)] [.borrow], none, []⟩,
  ⟨.var 3, .mv (.loc 11), none, []⟩] false
def c_L_FnExactHexText_4 : ACode := .reg [⟨.loc 12, .mv (.var 0), none, []⟩,
  ⟨.loc 13, .call (.fn 7) [(.loc 12)] [.borrow], none, []⟩,
  ⟨.var 4, .mv (.loc 13), none, []⟩] false
def c_L_FnExactHexText_5 : ACode := .reg [⟨.loc 14, .mv (.var 4), none, []⟩,
  ⟨.loc 15, .call (.fn 8) [(.loc 14)] [.borrow], none, []⟩,
  ⟨.var 5, .mv (.loc 15), none, []⟩] false
def c_L_FnExactHexText_6 : ACode := .reg [⟨.loc 16, .mv (.var 5), none, []⟩,
  ⟨.loc 17, .mv (.var 3), none, []⟩,
  ⟨.var 18, .bin .str .neq (.loc 16) (.loc 17), none, []⟩] false
def c_L_FnExactHexText_7 : ACode := .reg [⟨.var 2, .mv (.const (.d (.bool false))), none, []⟩] false
def c_L_FnExactHexText_8 : ACode := .reg [⟨.loc 19, .mv (.var 4), none, []⟩,
  ⟨.loc 20, .mv (.var 0), none, []⟩,
  ⟨.loc 21, .call (.fn 7) [(.loc 20)] [.borrow], none, []⟩,
  ⟨.loc 22, .call (.fn 9) [(.loc 19), (.loc 21)] [.borrow, .borrow], none, []⟩,
  ⟨.var 23, .un .not (.loc 22), none, []⟩] false
def c_L_FnExactHexText_9 : ACode := .reg [⟨.var 2, .mv (.const (.d (.bool false))), none, []⟩] false
def c_L_FnExactHexText_10 : ACode := .reg [⟨.var 2, .mv (.const (.d (.bool true))), none, []⟩] false
def c_L_FnExactHexText : ACode := (.seq c_L_FnExactHexText_0 (.seq (.seq c_L_FnExactHexText_1 (.cond (.var 8) (.seq c_L_FnExactHexText_2 .ret) .skip)) (.seq c_L_FnExactHexText_3 (.seq c_L_FnExactHexText_4 (.seq c_L_FnExactHexText_5 (.seq (.seq c_L_FnExactHexText_6 (.cond (.var 18) (.seq c_L_FnExactHexText_7 .ret) .skip)) (.seq (.seq c_L_FnExactHexText_8 (.cond (.var 23) (.seq c_L_FnExactHexText_9 .ret) .skip)) (.seq c_L_FnExactHexText_10 .ret))))))))

abbrev F_L_FnExactHexText : FuncId := 3

theorem k_L_FnExactHexText : comp PP (Try.f3.ntmps, pinOf 0 [none]) [0, 2, 3, 4, 5, 8, 18, 23] (Try.f3.body.getD .skip) = some c_L_FnExactHexText.erase := by kernel_rfl

theorem v_L_FnExactHexText (rcs : List C) {cs : List C} {r : C} {os : List (Option C)} (hN : (cs.length == 1 && rcs.length == 1) = true) (hret : retOf rcs = r)
    (hW : W PP [0, 2, 3, 4, 5, 8, 18, 23] (Try.f3.ntmps, pinOf 0 [none]) (Valid PP) c_L_FnExactHexText (entry cs) (Fin (Valid PP) [(.give, 2)] [none] rcs os) (fun _ _ => False) (Fin (Valid PP) [(.give, 2)] [none] rcs os)) : Valid PP F_L_FnExactHexText cs r os :=
  fn_valid_n 1 1 [0, 2, 3, 4, 5, 8, 18, 23] c_L_FnExactHexText [(.give, 2)] [none] rcs Try.func3 rfl rfl rfl k_L_FnExactHexText rfl rfl hN hret hW


/-
loop.example/g00705/spec.HexText  params 1+0 results [2]
  seq  mid=[0]
    c_S_HexText_0
    seq  mid=[0]
      seq  mid=[0, 8]
        c_S_HexText_1
        cond (.var 8)
          seq  mid=[2]
            c_S_HexText_2
            ret
          skip
      seq  mid=[0, 3]
        c_S_HexText_3
        seq  mid=[0, 3, 4]
          c_S_HexText_4
          seq  mid=[4]
            seq  mid=[0, 3, 4, 5]
              c_S_HexText_5
              block 0
                loop live=[0, 3, 4, 5]
                  seq  mid=[0, 3, 4, 5]
                    seq  mid=[0, 3, 4, 5, 13]
                      c_S_HexText_6
                      cond (.var 13)
                        skip
                        exit 0
                    seq  mid=[0, 3, 4, 5]
                      block 1
                        c_S_HexText_7 DRAW
                      c_S_HexText_8
            seq  mid=[2]
              c_S_HexText_10
              ret
-/
def c_S_HexText_0 : ACode := .reg [⟨.var 2, .mv (.const (.d (.str []))), none, []⟩] false
def c_S_HexText_1 : ACode := .reg [⟨.loc 6, .mv (.var 0), none, []⟩,
  ⟨.loc 7, .len false (.loc 6), none, []⟩,
  ⟨.var 8, .bin .int .gtr (.loc 7) (.const (.d (.int .i64 2000))), none, []⟩] false
def c_S_HexText_2 : ACode := .reg [⟨.var 2, .mv (.const (.d (.str []))), none, []⟩] false
def c_S_HexText_3 : ACode := .reg [⟨.var 3, .mv (.const (.d (.str [48, 49, 50, 51, 52, 53, 54, 55, 56, 57, 97, 98, 99, 100, 101, 102]))), none, []⟩] false
def c_S_HexText_4 : ACode := .reg [⟨.loc 9, .lit 0 1 0 [.int .u8 0] [], none, []⟩,
  ⟨.var 4, .mv (.loc 9), none, []⟩] false
def c_S_HexText_5 : ACode := .reg [⟨.var 5, .mv (.const (.d (.int .i64 0))), none, []⟩] false
def c_S_HexText_6 : ACode := .reg [⟨.loc 10, .mv (.var 5), none, []⟩,
  ⟨.loc 11, .mv (.var 0), none, []⟩,
  ⟨.loc 12, .len false (.loc 11), none, []⟩,
  ⟨.var 13, .bin .int .lss (.loc 10) (.loc 12), none, []⟩] false
def c_S_HexText_7 : ACode := .reg [⟨.loc 16, .mv (.var 4), none, []⟩,
  ⟨.loc 17, .mv (.var 3), none, []⟩,
  ⟨.loc 18, .mv (.var 0), none, []⟩,
  ⟨.loc 19, .mv (.var 5), none, []⟩,
  ⟨.loc 20, .idxA 1 (.loc 18) (.loc 19), none, [2, 3]⟩,
  ⟨.loc 21, .load false 1 (.loc 20), none, [4, 2, 3]⟩,
  ⟨.loc 22, .bin .int .quo (.loc 21) (.const (.d (.int .u8 16))), none, [5, 4, 2, 3]⟩,
  ⟨.loc 23, .idxS (.loc 17) (.loc 22), none, [1, 6, 5, 4, 2, 3]⟩,
  ⟨.loc 24, .mv (.var 3), none, []⟩,
  ⟨.loc 25, .mv (.var 0), none, []⟩,
  ⟨.loc 26, .mv (.var 5), none, []⟩,
  ⟨.loc 27, .idxA 1 (.loc 25) (.loc 26), none, [9, 10]⟩,
  ⟨.loc 28, .load false 1 (.loc 27), none, [11, 9, 10]⟩,
  ⟨.loc 29, .bin .int .rem (.loc 28) (.const (.d (.int .u8 16))), none, [12, 11, 9, 10]⟩,
  ⟨.loc 30, .idxS (.loc 24) (.loc 29), none, [8, 13, 12, 11, 9, 10]⟩,
  ⟨.loc 31, .lit 0 1 2 [.int .u8 0] [(0, (.loc 23)), (1, (.loc 30))], none, [7, 1, 6, 5, 4, 2, 3, 14, 8, 13, 12, 11, 9, 10]⟩,
  ⟨.loc 32, .app 1 1 (.loc 16) (.loc 31), none, [0, 15, 7, 1, 6, 5, 4, 2, 3, 14, 8, 13, 12, 11, 9, 10]⟩,
  ⟨.var 4, .mv (.loc 32), none, [16, 0, 15, 7, 1, 6, 5, 4, 2, 3, 14, 8, 13, 12, 11, 9, 10]⟩] true
def c_S_HexText_8 : ACode := .reg [⟨.loc 14, .mv (.var 5), none, []⟩,
  ⟨.loc 15, .bin .int .add (.loc 14) (.const (.d (.int .i64 1))), none, []⟩,
  ⟨.var 5, .mv (.loc 15), none, []⟩] false
def c_S_HexText_9 : ACode := (.seq (.seq c_S_HexText_6 (.cond (.var 13) .skip (.exit 0))) (.seq (.block 1 c_S_HexText_7) c_S_HexText_8))
def c_S_HexText_10 : ACode := .reg [⟨.loc 33, .mv (.var 4), none, []⟩,
  ⟨.loc 34, .b2s (.loc 33), none, []⟩,
  ⟨.var 2, .mv (.loc 34), none, []⟩] false
def c_S_HexText : ACode := (.seq c_S_HexText_0 (.seq (.seq c_S_HexText_1 (.cond (.var 8) (.seq c_S_HexText_2 .ret) .skip)) (.seq c_S_HexText_3 (.seq c_S_HexText_4 (.seq (.seq c_S_HexText_5 (.block 0 (.loop [0, 3, 4, 5] c_S_HexText_9))) (.seq c_S_HexText_10 .ret))))))

abbrev F_S_HexText : FuncId := 6

theorem k_S_HexText : comp PP (Try.f6.ntmps, pinOf 0 [none]) [0, 2, 3, 4, 5, 8, 13] (Try.f6.body.getD .skip) = some c_S_HexText.erase := by kernel_rfl

theorem v_S_HexText (rcs : List C) {cs : List C} {r : C} {os : List (Option C)} (hN : (cs.length == 1 && rcs.length == 1) = true) (hret : retOf rcs = r)
    (hW : W PP [0, 2, 3, 4, 5, 8, 13] (Try.f6.ntmps, pinOf 0 [none]) (Valid PP) c_S_HexText (entry cs) (Fin (Valid PP) [(.give, 2)] [none] rcs os) (fun _ _ => False) (Fin (Valid PP) [(.give, 2)] [none] rcs os)) : Valid PP F_S_HexText cs r os :=
  fn_valid_n 1 1 [0, 2, 3, 4, 5, 8, 13] c_S_HexText [(.give, 2)] [none] rcs Try.func6 rfl rfl rfl k_S_HexText rfl rfl hN hret hW


/-
loop.example/g00705/laws.toByteS  params 1+0 results [2]
  seq  mid=[0]
    c_L_toByteS_0
    seq  mid=[0, 3]
      c_L_toByteS_1
      seq  mid=[3]
        seq  mid=[0, 3, 4]
          c_L_toByteS_2
          block 0
            loop live=[0, 3, 4]
              seq  mid=[0, 3, 4]
                seq  mid=[0, 3, 4, 11]
                  c_L_toByteS_3
                  cond (.var 11)
                    skip
                    exit 0
                seq  mid=[0, 3, 4]
                  block 1
                    c_L_toByteS_4
                  c_L_toByteS_5
        seq  mid=[2]
          c_L_toByteS_7
          ret
-/
def c_L_toByteS_0 : ACode := .reg [⟨.var 2, .mv (.const (.nil 0 1)), none, []⟩] false
def c_L_toByteS_1 : ACode := .reg [⟨.loc 5, .mv (.var 0), none, []⟩,
  ⟨.loc 6, .len false (.loc 5), none, []⟩,
  ⟨.loc 7, .mkslice 0 1 1 [.int .u8 0] (.loc 6) (.loc 6), none, []⟩,
  ⟨.var 3, .mv (.loc 7), none, []⟩] false
def c_L_toByteS_2 : ACode := .reg [⟨.var 4, .mv (.const (.d (.int .i64 0))), none, []⟩] false
def c_L_toByteS_3 : ACode := .reg [⟨.loc 8, .mv (.var 4), none, []⟩,
  ⟨.loc 9, .mv (.var 0), none, []⟩,
  ⟨.loc 10, .len false (.loc 9), none, []⟩,
  ⟨.var 11, .bin .int .lss (.loc 8) (.loc 10), none, []⟩] false
def c_L_toByteS_4 : ACode := .reg [⟨.loc 14, .mv (.var 3), none, []⟩,
  ⟨.loc 15, .mv (.var 4), none, []⟩,
  ⟨.loc 16, .mv (.var 0), none, []⟩,
  ⟨.loc 17, .mv (.var 4), none, []⟩,
  ⟨.loc 18, .idxA 1 (.loc 16) (.loc 17), none, []⟩,
  ⟨.loc 19, .load false 1 (.loc 18), none, []⟩,
  ⟨.loc 20, .idxA 1 (.loc 14) (.loc 15), none, []⟩,
  ⟨.none, .store 1 (.loc 20) (.loc 19), none, []⟩] false
def c_L_toByteS_5 : ACode := .reg [⟨.loc 12, .mv (.var 4), none, []⟩,
  ⟨.loc 13, .bin .int .add (.loc 12) (.const (.d (.int .i64 1))), none, []⟩,
  ⟨.var 4, .mv (.loc 13), none, []⟩] false
def c_L_toByteS_6 : ACode := (.seq (.seq c_L_toByteS_3 (.cond (.var 11) .skip (.exit 0))) (.seq (.block 1 c_L_toByteS_4) c_L_toByteS_5))
def c_L_toByteS_7 : ACode := .reg [⟨.loc 21, .mv (.var 3), none, []⟩,
  ⟨.var 2, .mv (.loc 21), none, []⟩] false
def c_L_toByteS : ACode := (.seq c_L_toByteS_0 (.seq c_L_toByteS_1 (.seq (.seq c_L_toByteS_2 (.block 0 (.loop [0, 3, 4] c_L_toByteS_6))) (.seq c_L_toByteS_7 .ret))))

abbrev F_L_toByteS : FuncId := 7

theorem k_L_toByteS : comp PP (Try.f7.ntmps, pinOf 0 [none]) [0, 2, 3, 4, 11] (Try.f7.body.getD .skip) = some c_L_toByteS.erase := by kernel_rfl

theorem v_L_toByteS (rcs : List C) {cs : List C} {r : C} {os : List (Option C)} (hN : (cs.length == 1 && rcs.length == 1) = true) (hret : retOf rcs = r)
    (hW : W PP [0, 2, 3, 4, 11] (Try.f7.ntmps, pinOf 0 [none]) (Valid PP) c_L_toByteS (entry cs) (Fin (Valid PP) [(.give, 2)] [none] rcs os) (fun _ _ => False) (Fin (Valid PP) [(.give, 2)] [none] rcs os)) : Valid PP F_L_toByteS cs r os :=
  fn_valid_n 1 1 [0, 2, 3, 4, 11] c_L_toByteS [(.give, 2)] [none] rcs Try.func7 rfl rfl rfl k_L_toByteS rfl rfl hN hret hW


/-
loop.example/g00705/impl.HexText  params 1+0 results [2]
  seq  mid=[0]
    c_I_HexText_0
    seq  mid=[0]
      seq  mid=[0, 5]
        c_I_HexText_1
        cond (.var 5)
          seq  mid=[2]
            c_I_HexText_2
            ret
          skip
      seq  mid=[2]
        c_I_HexText_3
        ret
-/
def c_I_HexText_0 : ACode := .reg [⟨.var 2, .mv (.const (.d (.str []))), none, []⟩] false
def c_I_HexText_1 : ACode := .reg [⟨.loc 3, .mv (.var 0), none, []⟩,
  ⟨.loc 4, .len false (.loc 3), none, []⟩,
  ⟨.var 5, .bin .int .gtr (.loc 4) (.const (.d (.int .i64 2000))), none, []⟩] false
def c_I_HexText_2 : ACode := .reg [⟨.var 2, .mv (.const (.d (.str []))), none, []⟩] false
def c_I_HexText_3 : ACode := .reg [⟨.loc 6, .mv (.var 0), none, []⟩,
  ⟨.loc 7, .call (.fn 22) [(.loc 6)] [.borrow], none, []⟩,
  ⟨.var 2, .mv (.loc 7), none, []⟩] false
def c_I_HexText : ACode := (.seq c_I_HexText_0 (.seq (.seq c_I_HexText_1 (.cond (.var 5) (.seq c_I_HexText_2 .ret) .skip)) (.seq c_I_HexText_3 .ret)))

abbrev F_I_HexText : FuncId := 8

theorem k_I_HexText : comp PP (Try.f8.ntmps, pinOf 0 [none]) [0, 2, 5] (Try.f8.body.getD .skip) = some c_I_HexText.erase := by kernel_rfl

theorem v_I_HexText (rcs : List C) {cs : List C} {r : C} {os : List (Option C)} (hN : (cs.length == 1 && rcs.length == 1) = true) (hret : retOf rcs = r)
    (hW : W PP [0, 2, 5] (Try.f8.ntmps, pinOf 0 [none]) (Valid PP) c_I_HexText (entry cs) (Fin (Valid PP) [(.give, 2)] [none] rcs os) (fun _ _ => False) (Fin (Valid PP) [(.give, 2)] [none] rcs os)) : Valid PP F_I_HexText cs r os :=
  fn_valid_n 1 1 [0, 2, 5] c_I_HexText [(.give, 2)] [none] rcs Try.func8 rfl rfl rfl k_I_HexText rfl rfl hN hret hW


/-
loop.example/g00705/laws.eqByteS  params 2+0 results [4]
  seq  mid=[0, 1]
    c_L_eqByteS_0
    seq  mid=[0, 1]
      seq  mid=[0, 1, 10]
        c_L_eqByteS_1
        cond (.var 10)
          seq  mid=[4]
            c_L_eqByteS_2
            ret
          skip
      seq  mid=[]
        seq  mid=[0, 1, 5]
          c_L_eqByteS_3
          block 0
            loop live=[0, 1, 5]
              seq  mid=[0, 1, 5]
                seq  mid=[0, 1, 5, 14]
                  c_L_eqByteS_4
                  cond (.var 14)
                    skip
                    exit 0
                seq  mid=[0, 1, 5]
                  block 1
                    seq  mid=[0, 1, 5, 25]
                      c_L_eqByteS_5 DRAW
                      cond (.var 25)
                        seq  mid=[4]
                          c_L_eqByteS_6
                          ret
                        skip
                  c_L_eqByteS_7
        seq  mid=[4]
          c_L_eqByteS_9
          ret
-/
def c_L_eqByteS_0 : ACode := .reg [⟨.var 4, .mv (.const (.d (.bool false))), none, []⟩] false
def c_L_eqByteS_1 : ACode := .reg [⟨.loc 6, .mv (.var 0), none, []⟩,
  ⟨.loc 7, .len false (.loc 6), none, []⟩,
  ⟨.loc 8, .mv (.var 1), none, []⟩,
  ⟨.loc 9, .len false (.loc 8), none, []⟩,
  ⟨.var 10, .bin .int .neq (.loc 7) (.loc 9), none, []⟩] false
def c_L_eqByteS_2 : ACode := .reg [⟨.var 4, .mv (.const (.d (.bool false))), none, []⟩] false
def c_L_eqByteS_3 : ACode := .reg [⟨.var 5, .mv (.const (.d (.int .i64 0))), none, []⟩] false
def c_L_eqByteS_4 : ACode := .reg [⟨.loc 11, .mv (.var 5), none, []⟩,
  ⟨.loc 12, .mv (.var 0), none, []⟩,
  ⟨.loc 13, .len false (.loc 12), none, []⟩,
  ⟨.var 14, .bin .int .lss (.loc 11) (.loc 13), none, []⟩] false
def c_L_eqByteS_5 : ACode := .reg [⟨.loc 17, .mv (.var 0), none, []⟩,
  ⟨.loc 18, .mv (.var 5), none, []⟩,
  ⟨.loc 19, .idxA 1 (.loc 17) (.loc 18), none, [0, 1]⟩,
  ⟨.loc 20, .load false 1 (.loc 19), none, [2, 0, 1]⟩,
  ⟨.loc 21, .mv (.var 1), none, []⟩,
  ⟨.loc 22, .mv (.var 5), none, []⟩,
  ⟨.loc 23, .idxA 1 (.loc 21) (.loc 22), none, [4, 5]⟩,
  ⟨.loc 24, .load false 1 (.loc 23), none, [6, 4, 5]⟩,
  ⟨.var 25, .bin .int .neq (.loc 20) (.loc 24), none, [3, 2, 0, 1, 7, 6, 4, 5]⟩] true
def c_L_eqByteS_6 : ACode := .reg [⟨.var 4, .mv (.const (.d (.bool false))), none, []⟩] false
def c_L_eqByteS_7 : ACode := .reg [⟨.loc 15, .mv (.var 5), none, []⟩,
  ⟨.loc 16, .bin .int .add (.loc 15) (.const (.d (.int .i64 1))), none, []⟩,
  ⟨.var 5, .mv (.loc 16), none, []⟩] false
def c_L_eqByteS_8 : ACode := (.seq (.seq c_L_eqByteS_4 (.cond (.var 14) .skip (.exit 0))) (.seq (.block 1 (.seq c_L_eqByteS_5 (.cond (.var 25) (.seq c_L_eqByteS_6 .ret) .skip))) c_L_eqByteS_7))
def c_L_eqByteS_9 : ACode := .reg [⟨.var 4, .mv (.const (.d (.bool true))), none, []⟩] false
def c_L_eqByteS : ACode := (.seq c_L_eqByteS_0 (.seq (.seq c_L_eqByteS_1 (.cond (.var 10) (.seq c_L_eqByteS_2 .ret) .skip)) (.seq (.seq c_L_eqByteS_3 (.block 0 (.loop [0, 1, 5] c_L_eqByteS_8))) (.seq c_L_eqByteS_9 .ret))))

abbrev F_L_eqByteS : FuncId := 9

theorem k_L_eqByteS : comp PP (Try.f9.ntmps, pinOf 0 [none, none]) [0, 1, 4, 5, 10, 14, 25] (Try.f9.body.getD .skip) = some c_L_eqByteS.erase := by kernel_rfl

theorem v_L_eqByteS (rcs : List C) {cs : List C} {r : C} {os : List (Option C)} (hN : (cs.length == 2 && rcs.length == 1) = true) (hret : retOf rcs = r)
    (hW : W PP [0, 1, 4, 5, 10, 14, 25] (Try.f9.ntmps, pinOf 0 [none, none]) (Valid PP) c_L_eqByteS (entry cs) (Fin (Valid PP) [(.give, 4)] [none, none] rcs os) (fun _ _ => False) (Fin (Valid PP) [(.give, 4)] [none, none] rcs os)) : Valid PP F_L_eqByteS cs r os :=
  fn_valid_n 2 1 [0, 1, 4, 5, 10, 14, 25] c_L_eqByteS [(.give, 4)] [none, none] rcs Try.func9 rfl rfl rfl k_L_eqByteS rfl rfl hN hret hW


/-
loop.example/g00705/impl.hexText  params 1+0 results [2]
  seq  mid=[0]
    c_I_hexText_0
    seq  mid=[0, 3]
      c_I_hexText_1
      seq  mid=[3]
        seq  mid=[3, 10, 11, 12]
          c_I_hexText_2
          block 0
            loop live=[3, 10, 11, 12]
              seq  mid=[3, 10, 11, 12, 13]
                c_I_hexText_3
                seq  mid=[3, 10, 11, 12]
                  cond (.var 13)
                    skip
                    exit 0
                  seq  mid=[3, 10, 11, 12]
                    block 1
                      seq  mid=[3, 5, 10, 11, 12]
                        c_I_hexText_4
                        c_I_hexText_5 DRAW
                    c_I_hexText_6
        seq  mid=[2]
          c_I_hexText_8
          ret
-/
def c_I_hexText_0 : ACode := .reg [⟨.var 2, .mv (.const (.d (.str []))), none, []⟩] false
def c_I_hexText_1 : ACode := .reg [⟨.loc 6, .mv (.var 0), none, []⟩,
  ⟨.loc 7, .len false (.loc 6), none, []⟩,
  ⟨.loc 8, .bin .int .mul (.const (.d (.int .i64 2))) (.loc 7), none, []⟩,
  ⟨.loc 9, .mkslice 0 1 1 [.int .u8 0] (.const (.d (.int .i64 0))) (.loc 8), none, []⟩,
  ⟨.var 3, .mv (.loc 9), none, []⟩] false
def c_I_hexText_2 : ACode := .reg [⟨.var 10, .mv (.var 0), none, []⟩,
  ⟨.var 11, .len false (.var 10), none, []⟩,
  ⟨.var 12, .mv (.const (.d (.int .i64 0))), none, []⟩] false
def c_I_hexText_3 : ACode := .reg [⟨.var 13, .bin .int .lss (.var 12) (.var 11), none, []⟩] false
def c_I_hexText_4 : ACode := .reg [⟨.loc 14, .idxA 1 (.var 10) (.var 12), none, []⟩,
  ⟨.loc 15, .load false 1 (.loc 14), none, []⟩,
  ⟨.var 5, .mv (.loc 15), none, []⟩] false
def c_I_hexText_5 : ACode := .reg [⟨.loc 16, .mv (.var 3), none, []⟩,
  ⟨.loc 17, .mv (.var 5), none, []⟩,
  ⟨.loc 18, .bin .int .shr (.loc 17) (.const (.d (.int .u64 4))), none, [1]⟩,
  ⟨.loc 19, .idxS (.const (.d (.str [48, 49, 50, 51, 52, 53, 54, 55, 56, 57, 97, 98, 99, 100, 101, 102]))) (.loc 18), none, [2, 1]⟩,
  ⟨.loc 20, .mv (.var 5), none, []⟩,
  ⟨.loc 21, .bin .int .and (.loc 20) (.const (.d (.int .u8 15))), none, [4]⟩,
  ⟨.loc 22, .idxS (.const (.d (.str [48, 49, 50, 51, 52, 53, 54, 55, 56, 57, 97, 98, 99, 100, 101, 102]))) (.loc 21), none, [5, 4]⟩,
  ⟨.loc 23, .lit 0 1 2 [.int .u8 0] [(0, (.loc 19)), (1, (.loc 22))], none, [3, 2, 1, 6, 5, 4]⟩,
  ⟨.loc 24, .app 1 1 (.loc 16) (.loc 23), none, [0, 7, 3, 2, 1, 6, 5, 4]⟩,
  ⟨.var 3, .mv (.loc 24), none, [8, 0, 7, 3, 2, 1, 6, 5, 4]⟩] true
def c_I_hexText_6 : ACode := .reg [⟨.loc 25, .bin .int .add (.var 12) (.const (.d (.int .i64 1))), none, []⟩,
  ⟨.var 12, .mv (.loc 25), none, []⟩] false
def c_I_hexText_7 : ACode := (.seq c_I_hexText_3 (.seq (.cond (.var 13) .skip (.exit 0)) (.seq (.block 1 (.seq c_I_hexText_4 c_I_hexText_5)) c_I_hexText_6)))
def c_I_hexText_8 : ACode := .reg [⟨.loc 26, .mv (.var 3), none, []⟩,
  ⟨.loc 27, .b2s (.loc 26), none, []⟩,
  ⟨.var 2, .mv (.loc 27), none, []⟩] false
def c_I_hexText : ACode := (.seq c_I_hexText_0 (.seq c_I_hexText_1 (.seq (.seq c_I_hexText_2 (.block 0 (.loop [3, 10, 11, 12] c_I_hexText_7))) (.seq c_I_hexText_8 .ret))))

abbrev F_I_hexText : FuncId := 22

theorem k_I_hexText : comp PP (Try.f22.ntmps, pinOf 0 [none]) [0, 2, 3, 5, 10, 11, 12, 13] (Try.f22.body.getD .skip) = some c_I_hexText.erase := by kernel_rfl

theorem v_I_hexText (rcs : List C) {cs : List C} {r : C} {os : List (Option C)} (hN : (cs.length == 1 && rcs.length == 1) = true) (hret : retOf rcs = r)
    (hW : W PP [0, 2, 3, 5, 10, 11, 12, 13] (Try.f22.ntmps, pinOf 0 [none]) (Valid PP) c_I_hexText (entry cs) (Fin (Valid PP) [(.give, 2)] [none] rcs os) (fun _ _ => False) (Fin (Valid PP) [(.give, 2)] [none] rcs os)) : Valid PP F_I_hexText cs r os :=
  fn_valid_n 1 1 [0, 2, 3, 5, 10, 11, 12, 13] c_I_hexText [(.give, 2)] [none] rcs Try.func22 rfl rfl rfl k_I_hexText rfl rfl hN hret hW


end Go.Proofs.Ytjdepagpjkoglaa.Ab
