/-
  A part of a proof about the given program; what is proved is said where each theorem stands.
-/
import Derived.Lib.LaidTab
import Derived.Lib.ItoaLen
import Derived.Shelf.Strconv.Itoa3
import Derived.KernelRfl
import Derived.Test.YtpbofdbleajagaaDoorProg
import Derived.Test.YtpbofdbleajagaaDoorFrameA
import Derived.Test.YtpbofdbleajagaaDoorFrameB
import Derived.Test.YtpbofdbleajagaaDoorFrameC
import Derived.Test.YtpbofdbleajagaaDoorFrameD
import Derived.Test.YtpbofdbleajagaaDoorFrameE
import Derived.Test.YtpbofdbleajagaaDoorShelf
namespace Go.Proofs.YtpbofdbleajagaaDoor.Ab
open Go.Proofs
noncomputable abbrev PP : Program := Tryd.prog
/-- The table of powers of ten that the library's number texts lean on. -/
def pow10Cells : Obj → Prop
  | .cells cs _ _ => cs = (Lib.pow10Tab.map fun z => Value.int .u64 z).toArray
  | _ => False
class P10 (GG : GV) : Prop where
  h : GG 2 = some pow10Cells
/-- An error variable: nil or an error. -/
def errCell : Obj → Prop
  | .cells cs _ _ => ∃ ev, cs[0]? = some ev ∧ (ev = .nilIface ∨ ∃ te pe, ev = .iface te pe)
  | _ => False
/-- A number variable. -/
def intCell : Obj → Prop
  | .cells cs _ _ => ∃ m : Int, cs[0]? = some (.int .i64 m)
  | _ => False
class ESyn (GG : GV) : Prop where
  h : GG 0 = some errCell
class MaxL (GG : GV) : Prop where
  h : GG 3 = some intCell

/-
loop.example/g00705/laws.FnExactParseHex  params 1+0 results [2]
  seq  mid=[0]
    c_L_FnExactParseHex_0
    seq  mid=[0]
      seq  mid=[0, 13]
        c_L_FnExactParseHex_1
        cond (.var 13)
          seq  mid=[2]
            c_L_FnExactParseHex_2
            ret
          skip
      seq  mid=[0, 3, 4]
        c_L_FnExactParseHex_3
        seq  mid=[0, 3, 4, 5, 6]
          c_L_FnExactParseHex_4
          seq  mid=[0, 3, 4, 5]
            seq  mid=[0, 3, 4, 5, 32]
              c_L_FnExactParseHex_5
              cond (.var 32)
                seq  mid=[2]
                  c_L_FnExactParseHex_6
                  ret
                skip
            seq  mid=[0, 3, 4, 5, 7]
              c_L_FnExactParseHex_7
              seq  mid=[0, 3, 4, 5, 7]
                c_L_FnExactParseHex_8
                seq  mid=[0, 3, 4, 5, 7, 8]
                  c_L_FnExactParseHex_9
                  seq  mid=[0, 3, 4, 5, 7, 8]
                    c_L_FnExactParseHex_10
                    seq  mid=[0, 3, 4, 5, 7, 8]
                      seq  mid=[0, 3, 4, 5, 7, 8, 40]
                        c_L_FnExactParseHex_11
                        cond (.var 40)
                          seq  mid=[2]
                            c_L_FnExactParseHex_12
                            ret
                          skip
                      seq  mid=[0, 3, 4, 5, 7]
                        seq  mid=[0, 3, 4, 5, 7, 43]
                          c_L_FnExactParseHex_13
                          cond (.var 43)
                            seq  mid=[2]
                              c_L_FnExactParseHex_14
                              ret
                            skip
                        seq  mid=[3, 4, 5, 7, 9, 10]
                          c_L_FnExactParseHex_15
                          seq  mid=[5, 7]
                            seq  mid=[5, 7, 57]
                              c_L_FnExactParseHex_16
                              cond (.var 57)
                                seq  mid=[2]
                                  c_L_FnExactParseHex_17
                                  ret
                                skip
                            seq  mid=[5, 7, 8]
                              c_L_FnExactParseHex_18
                              seq  mid=[7, 8]
                                c_L_FnExactParseHex_19
                                seq  mid=[7, 8]
                                  seq  mid=[7, 8, 62]
                                    c_L_FnExactParseHex_20
                                    cond (.var 62)
                                      seq  mid=[2]
                                        c_L_FnExactParseHex_21
                                        ret
                                      skip
                                  seq  mid=[]
                                    seq  mid=[65]
                                      c_L_FnExactParseHex_22
                                      cond (.var 65)
                                        seq  mid=[2]
                                          c_L_FnExactParseHex_23
                                          ret
                                        skip
                                    seq  mid=[2]
                                      c_L_FnExactParseHex_24
                                      ret
-/
def c_L_FnExactParseHex_0 : ACode := .reg [⟨.var 2, .mv (.const (.d (.bool false))), none, []⟩] false
def c_L_FnExactParseHex_1 : ACode := .reg [⟨.loc 11, .mv (.var 0), none, []⟩,
  ⟨.loc 12, .len true (.loc 11), none, []⟩,
  ⟨.var 13, .bin .int .gtr (.loc 12) (.const (.d (.int .i64 1048576))), none, []⟩] false
def c_L_FnExactParseHex_2 : ACode := .reg [⟨.var 2, .mv (.const (.d (.bool true))), none, []⟩] false
def c_L_FnExactParseHex_3 : ACode := .reg [⟨.loc 15, .mv (.var 0), none, []⟩,
  ⟨.loc 16, .call (.fn 12) [(.loc 15)] [.borrow], none, []⟩,
  ⟨.loc 14, .mv (.loc 16), none, []⟩,
  ⟨.loc 17, .ext (.loc 14) 0, none, []⟩,
  ⟨.loc 18, .ext (.loc 14) 1, none, []⟩,
  ⟨.var 3, .mv (.loc 17), none, []⟩,
  ⟨.var 4, .mv (.loc 18), none, []⟩] false
def c_L_FnExactParseHex_4 : ACode := .reg [⟨.loc 20, .mv (.var 0), none, []⟩,
  ⟨.loc 21, .call (.fn 13) [(.loc 20)] [.borrow], none, []⟩,
  ⟨.loc 19, .mv (.loc 21), none, []⟩,
  ⟨.loc 22, .ext (.loc 19) 0, none, []⟩,
  ⟨.loc 23, .ext (.loc 19) 1, none, []⟩,
  ⟨.var 5, .mv (.loc 22), none, []⟩,
  ⟨.var 6, .mv (.loc 23), none, []⟩] false
def c_L_FnExactParseHex_5 : ACode := .reg [⟨.loc 24, .mv (.var 5), none, []⟩,
  ⟨.loc 25, .mv (.var 3), none, []⟩,
  ⟨.loc 26, .call (.fn 14) [(.loc 24), (.loc 25)] [.borrow, .borrow], none, []⟩,
  ⟨.loc 27, .un .not (.loc 26), none, []⟩,
  ⟨.loc 28, .split (.loc 27), none, []⟩,
  ⟨.loc 29, .mv (.var 6), some ((.loc 28), false), []⟩,
  ⟨.loc 30, .mv (.var 4), some ((.loc 28), false), []⟩,
  ⟨.loc 31, .bin .bool .neq (.loc 29) (.loc 30), some ((.loc 28), false), []⟩,
  ⟨.var 32, .pick (.loc 28) (.const (.d (.bool true))) (.loc 31), none, []⟩] false
def c_L_FnExactParseHex_6 : ACode := .reg [⟨.var 2, .mv (.const (.d (.bool false))), none, []⟩] false
def c_L_FnExactParseHex_7 : ACode := .reg [⟨.var 7, .mv (.const (.d (.int .i64 1))), none, []⟩] false
def c_L_FnExactParseHex_8 : ACode := .reg [⟨.loc 33, .mv (.var 5), none, []⟩,
  ⟨.loc 34, .mv (.var 7), none, []⟩,
  ⟨.loc 35, .call (.fn 15) [(.loc 33), (.loc 34)] [.lend, .borrow], none, []⟩,
  ⟨.var 7, .mv (.loc 35), none, []⟩] false
def c_L_FnExactParseHex_9 : ACode := .reg [⟨.var 8, .mv (.const (.d (.int .i64 1))), none, []⟩] false
def c_L_FnExactParseHex_10 : ACode := .reg [⟨.loc 36, .mv (.var 5), none, []⟩,
  ⟨.loc 37, .mv (.var 8), none, []⟩,
  ⟨.loc 38, .call (.fn 16) [(.loc 36), (.loc 37)] [.borrow, .borrow], none, []⟩,
  ⟨.var 8, .mv (.loc 38), none, []⟩] false
def c_L_FnExactParseHex_11 : ACode := .reg [⟨.loc 39, .mv (.var 8), none, []⟩,
  ⟨.var 40, .bin .int .lss (.loc 39) (.const (.d (.int .i64 0))), none, []⟩] false
def c_L_FnExactParseHex_12 : ACode := .reg [⟨.var 2, .mv (.const (.d (.bool false))), none, []⟩] false
def c_L_FnExactParseHex_13 : ACode := .reg [⟨.loc 41, .mv (.var 8), none, []⟩,
  ⟨.loc 42, .mv (.var 7), none, []⟩,
  ⟨.var 43, .bin .int .neq (.loc 41) (.loc 42), none, []⟩] false
def c_L_FnExactParseHex_14 : ACode := .reg [⟨.var 2, .mv (.const (.d (.bool false))), none, []⟩] false
def c_L_FnExactParseHex_15 : ACode := .reg [⟨.loc 45, .mv (.var 0), none, []⟩,
  ⟨.loc 46, .call (.fn 13) [(.loc 45)] [.borrow], none, []⟩,
  ⟨.loc 44, .mv (.loc 46), none, []⟩,
  ⟨.loc 47, .ext (.loc 44) 0, none, []⟩,
  ⟨.loc 48, .ext (.loc 44) 1, none, []⟩,
  ⟨.var 9, .mv (.loc 47), none, []⟩,
  ⟨.var 10, .mv (.loc 48), none, []⟩] false
def c_L_FnExactParseHex_16 : ACode := .reg [⟨.loc 49, .mv (.var 9), none, []⟩,
  ⟨.loc 50, .mv (.var 3), none, []⟩,
  ⟨.loc 51, .call (.fn 14) [(.loc 49), (.loc 50)] [.borrow, .borrow], none, []⟩,
  ⟨.loc 52, .un .not (.loc 51), none, []⟩,
  ⟨.loc 53, .split (.loc 52), none, []⟩,
  ⟨.loc 54, .mv (.var 10), some ((.loc 53), false), []⟩,
  ⟨.loc 55, .mv (.var 4), some ((.loc 53), false), []⟩,
  ⟨.loc 56, .bin .bool .neq (.loc 54) (.loc 55), some ((.loc 53), false), []⟩,
  ⟨.var 57, .pick (.loc 53) (.const (.d (.bool true))) (.loc 56), none, []⟩] false
def c_L_FnExactParseHex_17 : ACode := .reg [⟨.var 2, .mv (.const (.d (.bool false))), none, []⟩] false
def c_L_FnExactParseHex_18 : ACode := .reg [⟨.var 8, .mv (.const (.d (.int .i64 1))), none, []⟩] false
def c_L_FnExactParseHex_19 : ACode := .reg [⟨.loc 58, .mv (.var 5), none, []⟩,
  ⟨.loc 59, .mv (.var 8), none, []⟩,
  ⟨.loc 60, .call (.fn 16) [(.loc 58), (.loc 59)] [.borrow, .borrow], none, []⟩,
  ⟨.var 8, .mv (.loc 60), none, []⟩] false
def c_L_FnExactParseHex_20 : ACode := .reg [⟨.loc 61, .mv (.var 8), none, []⟩,
  ⟨.var 62, .bin .int .lss (.loc 61) (.const (.d (.int .i64 0))), none, []⟩] false
def c_L_FnExactParseHex_21 : ACode := .reg [⟨.var 2, .mv (.const (.d (.bool false))), none, []⟩] false
def c_L_FnExactParseHex_22 : ACode := .reg [⟨.loc 63, .mv (.var 8), none, []⟩,
  ⟨.loc 64, .mv (.var 7), none, []⟩,
  ⟨.var 65, .bin .int .neq (.loc 63) (.loc 64), none, []⟩] false
def c_L_FnExactParseHex_23 : ACode := .reg [⟨.var 2, .mv (.const (.d (.bool false))), none, []⟩] false
def c_L_FnExactParseHex_24 : ACode := .reg [⟨.var 2, .mv (.const (.d (.bool true))), none, []⟩] false
def c_L_FnExactParseHex : ACode := (.seq c_L_FnExactParseHex_0 (.seq (.seq c_L_FnExactParseHex_1 (.cond (.var 13) (.seq c_L_FnExactParseHex_2 .ret) .skip)) (.seq c_L_FnExactParseHex_3 (.seq c_L_FnExactParseHex_4 (.seq (.seq c_L_FnExactParseHex_5 (.cond (.var 32) (.seq c_L_FnExactParseHex_6 .ret) .skip)) (.seq c_L_FnExactParseHex_7 (.seq c_L_FnExactParseHex_8 (.seq c_L_FnExactParseHex_9 (.seq c_L_FnExactParseHex_10 (.seq (.seq c_L_FnExactParseHex_11 (.cond (.var 40) (.seq c_L_FnExactParseHex_12 .ret) .skip)) (.seq (.seq c_L_FnExactParseHex_13 (.cond (.var 43) (.seq c_L_FnExactParseHex_14 .ret) .skip)) (.seq c_L_FnExactParseHex_15 (.seq (.seq c_L_FnExactParseHex_16 (.cond (.var 57) (.seq c_L_FnExactParseHex_17 .ret) .skip)) (.seq c_L_FnExactParseHex_18 (.seq c_L_FnExactParseHex_19 (.seq (.seq c_L_FnExactParseHex_20 (.cond (.var 62) (.seq c_L_FnExactParseHex_21 .ret) .skip)) (.seq (.seq c_L_FnExactParseHex_22 (.cond (.var 65) (.seq c_L_FnExactParseHex_23 .ret) .skip)) (.seq c_L_FnExactParseHex_24 .ret))))))))))))))))))

abbrev F_L_FnExactParseHex : FuncId := 3

theorem k_L_FnExactParseHex : comp PP (Tryd.f3.ntmps, pinOf 0 [none]) [0, 2, 3, 4, 5, 6, 7, 8, 9, 10, 13, 32, 40, 43, 57, 62, 65] (Tryd.f3.body.getD .skip) = some c_L_FnExactParseHex.erase := by kernel_rfl

theorem v_L_FnExactParseHex {GG : GV} (rcs : List C) {cs : List C} {r : C} {os : List (Option C)} (hN : (cs.length == 1 && rcs.length == 1) = true) (hret : retOf rcs = r)
    (hW : W PP [0, 2, 3, 4, 5, 6, 7, 8, 9, 10, 13, 32, 40, 43, 57, 62, 65] (Tryd.f3.ntmps, pinOf 0 [none]) (Valid PP GG) c_L_FnExactParseHex (entry cs) (Fin (Valid PP GG) [(.give, 2, none)] [none] rcs os) (fun _ _ => False) (Fin (Valid PP GG) [(.give, 2, none)] [none] rcs os)) : Valid PP GG F_L_FnExactParseHex cs r os :=
  fn_valid_n 1 1 [0, 2, 3, 4, 5, 6, 7, 8, 9, 10, 13, 32, 40, 43, 57, 62, 65] c_L_FnExactParseHex [(.give, 2, none)] [none] rcs Tryd.func3 rfl rfl (by kernel_rfl) k_L_FnExactParseHex rfl rfl hN hret hW


/-
loop.example/g00705/spec.ParseHex  params 1+0 results [2, 3]
  seq  mid=[0]
    c_S_ParseHex_0
    seq  mid=[0, 4]
      c_S_ParseHex_1
      seq  mid=[0, 4]
        seq  mid=[0, 4, 17]
          c_S_ParseHex_2
          cond (.var 17)
            seq  mid=[2, 3]
              c_S_ParseHex_3
              ret
            skip
        seq  mid=[4]
          seq  mid=[0, 4, 5]
            c_S_ParseHex_4
            block 0
              loop live=[0, 4, 5]
                seq  mid=[0, 4, 5]
                  seq  mid=[0, 4, 5, 21]
                    c_S_ParseHex_5
                    cond (.var 21)
                      skip
                      exit 0
                  seq  mid=[0, 4, 5]
                    block 1
                      seq  mid=[0, 4, 5, 6]
                        c_S_ParseHex_6
                        seq  mid=[0, 4, 5, 6, 7]
                          c_S_ParseHex_7
                          seq  mid=[0, 4, 5, 6, 7]
                            seq  mid=[0, 4, 5, 6, 7, 38]
                              c_S_ParseHex_8
                              cond (.var 38)
                                seq  mid=[2, 3]
                                  c_S_ParseHex_9
                                  ret
                                skip
                            c_S_ParseHex_10
                    c_S_ParseHex_11
          seq  mid=[2, 3]
            c_S_ParseHex_13
            ret
-/
def c_S_ParseHex_0 : ACode := .reg [⟨.var 2, .mv (.const (.nil 0 1)), none, []⟩,
  ⟨.var 3, .mv (.const (.d (.bool false))), none, []⟩] false
def c_S_ParseHex_1 : ACode := .reg [⟨.loc 8, .lit 0 1 0 [.int .u8 0] [], none, []⟩,
  ⟨.var 4, .mv (.loc 8), none, []⟩] false
def c_S_ParseHex_2 : ACode := .reg [⟨.loc 9, .mv (.var 0), none, []⟩,
  ⟨.loc 10, .len true (.loc 9), none, []⟩,
  ⟨.loc 11, .bin .int .rem (.loc 10) (.const (.d (.int .i64 2))), none, []⟩,
  ⟨.loc 12, .bin .int .eql (.loc 11) (.const (.d (.int .i64 1))), none, []⟩,
  ⟨.loc 13, .split (.loc 12), none, []⟩,
  ⟨.loc 14, .mv (.var 0), some ((.loc 13), false), []⟩,
  ⟨.loc 15, .len true (.loc 14), some ((.loc 13), false), []⟩,
  ⟨.loc 16, .bin .int .gtr (.loc 15) (.const (.d (.int .i64 4000))), some ((.loc 13), false), []⟩,
  ⟨.var 17, .pick (.loc 13) (.const (.d (.bool true))) (.loc 16), none, []⟩] false
def c_S_ParseHex_3 : ACode := .reg [⟨.var 2, .mv (.const (.nil 0 1)), none, []⟩,
  ⟨.var 3, .mv (.const (.d (.bool false))), none, []⟩] false
def c_S_ParseHex_4 : ACode := .reg [⟨.var 5, .mv (.const (.d (.int .i64 0))), none, []⟩] false
def c_S_ParseHex_5 : ACode := .reg [⟨.loc 18, .mv (.var 5), none, []⟩,
  ⟨.loc 19, .mv (.var 0), none, []⟩,
  ⟨.loc 20, .len true (.loc 19), none, []⟩,
  ⟨.var 21, .bin .int .lss (.loc 18) (.loc 20), none, []⟩] false
def c_S_ParseHex_6 : ACode := .reg [⟨.loc 24, .mv (.var 0), none, []⟩,
  ⟨.loc 25, .mv (.var 5), none, []⟩,
  ⟨.loc 26, .idxS (.loc 24) (.loc 25), none, []⟩,
  ⟨.loc 27, .call (.fn 46) [(.loc 26)] [.borrow], none, []⟩,
  ⟨.var 6, .mv (.loc 27), none, []⟩] false
def c_S_ParseHex_7 : ACode := .reg [⟨.loc 28, .mv (.var 0), none, []⟩,
  ⟨.loc 29, .mv (.var 5), none, []⟩,
  ⟨.loc 30, .bin .int .add (.loc 29) (.const (.d (.int .i64 1))), none, []⟩,
  ⟨.loc 31, .idxS (.loc 28) (.loc 30), none, []⟩,
  ⟨.loc 32, .call (.fn 46) [(.loc 31)] [.borrow], none, []⟩,
  ⟨.var 7, .mv (.loc 32), none, []⟩] false
def c_S_ParseHex_8 : ACode := .reg [⟨.loc 33, .mv (.var 6), none, []⟩,
  ⟨.loc 34, .bin .int .lss (.loc 33) (.const (.d (.int .i64 0))), none, []⟩,
  ⟨.loc 35, .split (.loc 34), none, []⟩,
  ⟨.loc 36, .mv (.var 7), some ((.loc 35), false), []⟩,
  ⟨.loc 37, .bin .int .lss (.loc 36) (.const (.d (.int .i64 0))), some ((.loc 35), false), []⟩,
  ⟨.var 38, .pick (.loc 35) (.const (.d (.bool true))) (.loc 37), none, []⟩] false
def c_S_ParseHex_9 : ACode := .reg [⟨.var 2, .mv (.const (.nil 0 1)), none, []⟩,
  ⟨.var 3, .mv (.const (.d (.bool false))), none, []⟩] false
def c_S_ParseHex_10 : ACode := .reg [⟨.loc 39, .mv (.var 4), none, []⟩,
  ⟨.loc 40, .mv (.var 6), none, []⟩,
  ⟨.loc 41, .bin .int .mul (.const (.d (.int .i64 16))) (.loc 40), none, []⟩,
  ⟨.loc 42, .mv (.var 7), none, []⟩,
  ⟨.loc 43, .bin .int .add (.loc 41) (.loc 42), none, []⟩,
  ⟨.loc 44, .conv .u8 (.loc 43), none, []⟩,
  ⟨.loc 45, .lit 0 1 1 [.int .u8 0] [(0, (.loc 44))], none, []⟩,
  ⟨.loc 46, .app 1 1 (.loc 39) (.loc 45), none, []⟩,
  ⟨.var 4, .mv (.loc 46), none, []⟩] false
def c_S_ParseHex_11 : ACode := .reg [⟨.loc 22, .mv (.var 5), none, []⟩,
  ⟨.loc 23, .bin .int .add (.loc 22) (.const (.d (.int .i64 2))), none, []⟩,
  ⟨.var 5, .mv (.loc 23), none, []⟩] false
def c_S_ParseHex_12 : ACode := (.seq (.seq c_S_ParseHex_5 (.cond (.var 21) .skip (.exit 0))) (.seq (.block 1 (.seq c_S_ParseHex_6 (.seq c_S_ParseHex_7 (.seq (.seq c_S_ParseHex_8 (.cond (.var 38) (.seq c_S_ParseHex_9 .ret) .skip)) c_S_ParseHex_10)))) c_S_ParseHex_11))
def c_S_ParseHex_13 : ACode := .reg [⟨.loc 47, .mv (.var 4), none, []⟩,
  ⟨.var 2, .mv (.loc 47), none, []⟩,
  ⟨.var 3, .mv (.const (.d (.bool true))), none, []⟩] false
def c_S_ParseHex : ACode := (.seq c_S_ParseHex_0 (.seq c_S_ParseHex_1 (.seq (.seq c_S_ParseHex_2 (.cond (.var 17) (.seq c_S_ParseHex_3 .ret) .skip)) (.seq (.seq c_S_ParseHex_4 (.block 0 (.loop [0, 4, 5] c_S_ParseHex_12))) (.seq c_S_ParseHex_13 .ret)))))

abbrev F_S_ParseHex : FuncId := 12

theorem k_S_ParseHex : comp PP (Tryd.f12.ntmps, pinOf 0 [none]) [0, 2, 3, 4, 5, 6, 7, 17, 21, 38] (Tryd.f12.body.getD .skip) = some c_S_ParseHex.erase := by kernel_rfl

theorem v_S_ParseHex {GG : GV} (rcs : List C) {cs : List C} {r : C} {os : List (Option C)} (hN : (cs.length == 1 && rcs.length == 2) = true) (hret : retOf rcs = r)
    (hW : W PP [0, 2, 3, 4, 5, 6, 7, 17, 21, 38] (Tryd.f12.ntmps, pinOf 0 [none]) (Valid PP GG) c_S_ParseHex (entry cs) (Fin (Valid PP GG) [(.give, 2, none), (.give, 3, none)] [none] rcs os) (fun _ _ => False) (Fin (Valid PP GG) [(.give, 2, none), (.give, 3, none)] [none] rcs os)) : Valid PP GG F_S_ParseHex cs r os :=
  fn_valid_n 1 2 [0, 2, 3, 4, 5, 6, 7, 17, 21, 38] c_S_ParseHex [(.give, 2, none), (.give, 3, none)] [none] rcs Tryd.func12 rfl rfl (by kernel_rfl) k_S_ParseHex rfl rfl hN hret hW


/-
loop.example/g00705/impl.ParseHex  params 1+0 results [2, 3]
  seq  mid=[0]
    c_I_ParseHex_0
    seq  mid=[0]
      seq  mid=[0, 16]
        c_I_ParseHex_1
        cond (.var 16)
          seq  mid=[2, 3]
            c_I_ParseHex_2
            ret
          skip
      seq  mid=[0, 4]
        c_I_ParseHex_3
        seq  mid=[0, 4]
          seq  mid=[0, 4, 22, 23]
            c_I_ParseHex_4
            block 0
              loop live=[0, 4, 22, 23]
                seq  mid=[0, 4, 22, 23, 24]
                  c_I_ParseHex_5
                  seq  mid=[0, 4, 22, 23]
                    cond (.var 24)
                      skip
                      exit 0
                    seq  mid=[0, 4, 22, 23]
                      block 1
                        seq  mid=[0, 4, 5, 22, 23]
                          c_I_ParseHex_6
                          seq  mid=[0, 4, 5, 6, 7, 22, 23]
                            c_I_ParseHex_7
                            seq  mid=[0, 4, 5, 6, 22, 23]
                              seq  mid=[0, 4, 5, 6, 22, 23, 38]
                                c_I_ParseHex_8
                                cond (.var 38)
                                  seq  mid=[2, 3]
                                    c_I_ParseHex_9
                                    ret
                                  skip
                              c_I_ParseHex_10
                      c_I_ParseHex_11
          seq  mid=[4]
            seq  mid=[4, 48]
              c_I_ParseHex_13
              cond (.var 48)
                seq  mid=[2, 3]
                  c_I_ParseHex_14
                  ret
                skip
            seq  mid=[2, 3]
              c_I_ParseHex_15
              ret
-/
def c_I_ParseHex_0 : ACode := .reg [⟨.var 2, .mv (.const (.nil 0 1)), none, []⟩,
  ⟨.var 3, .mv (.const (.d (.bool false))), none, []⟩] false
def c_I_ParseHex_1 : ACode := .reg [⟨.loc 8, .mv (.var 0), none, []⟩,
  ⟨.loc 9, .len true (.loc 8), none, []⟩,
  ⟨.loc 10, .bin .int .gtr (.loc 9) (.const (.d (.int .i64 4000))), none, []⟩,
  ⟨.loc 11, .split (.loc 10), none, []⟩,
  ⟨.loc 12, .mv (.var 0), some ((.loc 11), false), []⟩,
  ⟨.loc 13, .len true (.loc 12), some ((.loc 11), false), []⟩,
  ⟨.loc 14, .bin .int .rem (.loc 13) (.const (.d (.int .i64 2))), some ((.loc 11), false), []⟩,
  ⟨.loc 15, .bin .int .eql (.loc 14) (.const (.d (.int .i64 1))), some ((.loc 11), false), []⟩,
  ⟨.var 16, .pick (.loc 11) (.const (.d (.bool true))) (.loc 15), none, []⟩] false
def c_I_ParseHex_2 : ACode := .reg [⟨.var 2, .mv (.const (.nil 0 1)), none, []⟩,
  ⟨.var 3, .mv (.const (.d (.bool false))), none, []⟩] false
def c_I_ParseHex_3 : ACode := .reg [⟨.loc 17, .mv (.var 0), none, []⟩,
  ⟨.loc 18, .len true (.loc 17), none, []⟩,
  ⟨.loc 19, .bin .int .quo (.loc 18) (.const (.d (.int .i64 2))), none, []⟩,
  ⟨.loc 20, .mkslice 0 1 1 [.int .u8 0] (.loc 19) (.loc 19), none, []⟩,
  ⟨.var 4, .mv (.loc 20), none, []⟩] false
def c_I_ParseHex_4 : ACode := .reg [⟨.loc 21, .mv (.var 4), none, []⟩,
  ⟨.var 22, .len false (.loc 21), none, []⟩,
  ⟨.var 23, .mv (.const (.d (.int .i64 0))), none, []⟩] false
def c_I_ParseHex_5 : ACode := .reg [⟨.var 24, .bin .int .lss (.var 23) (.var 22), none, []⟩] false
def c_I_ParseHex_6 : ACode := .reg [⟨.loc 25, .mv (.var 23), none, []⟩,
  ⟨.var 5, .mv (.loc 25), none, []⟩] false
def c_I_ParseHex_7 : ACode := .reg [⟨.loc 27, .mv (.var 0), none, []⟩,
  ⟨.loc 28, .mv (.var 5), none, []⟩,
  ⟨.loc 29, .bin .int .mul (.const (.d (.int .i64 2))) (.loc 28), none, []⟩,
  ⟨.loc 30, .mv (.var 5), none, []⟩,
  ⟨.loc 31, .bin .int .mul (.const (.d (.int .i64 2))) (.loc 30), none, []⟩,
  ⟨.loc 32, .bin .int .add (.loc 31) (.const (.d (.int .i64 2))), none, []⟩,
  ⟨.loc 33, .sliceS (.loc 27) (some (.loc 29)) (some (.loc 32)), none, []⟩,
  ⟨.loc 34, .call (.fn 47) [(.loc 33), (.const (.d (.int .i64 16))), (.const (.d (.int .i64 8)))] [.borrow, .borrow, .borrow], none, []⟩,
  ⟨.loc 26, .mv (.loc 34), none, []⟩,
  ⟨.loc 35, .ext (.loc 26) 0, none, []⟩,
  ⟨.loc 36, .ext (.loc 26) 1, none, []⟩,
  ⟨.var 6, .mv (.loc 35), none, []⟩,
  ⟨.var 7, .mv (.loc 36), none, []⟩] false
def c_I_ParseHex_8 : ACode := .reg [⟨.loc 37, .mv (.var 7), none, []⟩,
  ⟨.var 38, .bin .err .neq (.loc 37) (.const (.d (.err true))), none, []⟩] false
def c_I_ParseHex_9 : ACode := .reg [⟨.var 2, .mv (.const (.nil 0 1)), none, []⟩,
  ⟨.var 3, .mv (.const (.d (.bool false))), none, []⟩] false
def c_I_ParseHex_10 : ACode := .reg [⟨.loc 39, .mv (.var 4), none, []⟩,
  ⟨.loc 40, .mv (.var 5), none, []⟩,
  ⟨.loc 41, .mv (.var 6), none, []⟩,
  ⟨.loc 42, .conv .u8 (.loc 41), none, []⟩,
  ⟨.loc 43, .idxA 1 (.loc 39) (.loc 40), none, []⟩,
  ⟨.none, .store 1 (.loc 43) (.loc 42), none, []⟩] false
def c_I_ParseHex_11 : ACode := .reg [⟨.loc 44, .bin .int .add (.var 23) (.const (.d (.int .i64 1))), none, []⟩,
  ⟨.var 23, .mv (.loc 44), none, []⟩] false
def c_I_ParseHex_12 : ACode := (.seq c_I_ParseHex_5 (.seq (.cond (.var 24) .skip (.exit 0)) (.seq (.block 1 (.seq c_I_ParseHex_6 (.seq c_I_ParseHex_7 (.seq (.seq c_I_ParseHex_8 (.cond (.var 38) (.seq c_I_ParseHex_9 .ret) .skip)) c_I_ParseHex_10)))) c_I_ParseHex_11)))
def c_I_ParseHex_13 : ACode := .reg [⟨.loc 45, .mv (.var 4), none, []⟩,
  ⟨.loc 46, .call (.fn 48) [(.loc 45)] [.borrow], none, []⟩,
  ⟨.loc 47, .mv (.var 0), none, []⟩,
  ⟨.var 48, .bin .str .neq (.loc 46) (.loc 47), none, []⟩] false
def c_I_ParseHex_14 : ACode := .reg [⟨.var 2, .mv (.const (.nil 0 1)), none, []⟩,
  ⟨.var 3, .mv (.const (.d (.bool false))), none, []⟩] false
def c_I_ParseHex_15 : ACode := .reg [⟨.loc 49, .mv (.var 4), none, []⟩,
  ⟨.var 2, .mv (.loc 49), none, []⟩,
  ⟨.var 3, .mv (.const (.d (.bool true))), none, []⟩] false
def c_I_ParseHex : ACode := (.seq c_I_ParseHex_0 (.seq (.seq c_I_ParseHex_1 (.cond (.var 16) (.seq c_I_ParseHex_2 .ret) .skip)) (.seq c_I_ParseHex_3 (.seq (.seq c_I_ParseHex_4 (.block 0 (.loop [0, 4, 22, 23] c_I_ParseHex_12))) (.seq (.seq c_I_ParseHex_13 (.cond (.var 48) (.seq c_I_ParseHex_14 .ret) .skip)) (.seq c_I_ParseHex_15 .ret))))))

abbrev F_I_ParseHex : FuncId := 13

theorem k_I_ParseHex : comp PP (Tryd.f13.ntmps, pinOf 0 [none]) [0, 2, 3, 4, 5, 6, 7, 16, 22, 23, 24, 38, 48] (Tryd.f13.body.getD .skip) = some c_I_ParseHex.erase := by kernel_rfl

theorem v_I_ParseHex {GG : GV} (rcs : List C) {cs : List C} {r : C} {os : List (Option C)} (hN : (cs.length == 1 && rcs.length == 2) = true) (hret : retOf rcs = r)
    (hW : W PP [0, 2, 3, 4, 5, 6, 7, 16, 22, 23, 24, 38, 48] (Tryd.f13.ntmps, pinOf 0 [none]) (Valid PP GG) c_I_ParseHex (entry cs) (Fin (Valid PP GG) [(.give, 2, none), (.give, 3, none)] [none] rcs os) (fun _ _ => False) (Fin (Valid PP GG) [(.give, 2, none), (.give, 3, none)] [none] rcs os)) : Valid PP GG F_I_ParseHex cs r os :=
  fn_valid_n 1 2 [0, 2, 3, 4, 5, 6, 7, 16, 22, 23, 24, 38, 48] c_I_ParseHex [(.give, 2, none), (.give, 3, none)] [none] rcs Tryd.func13 rfl rfl (by kernel_rfl) k_I_ParseHex rfl rfl hN hret hW


/-
loop.example/g00705/laws.eqByteS  params 2+0 results [4]
  seq  mid=[0, 1]
    c_L_eqByteS_0
    seq  mid=[0, 1]
      seq  mid=[0, 1, 10]
        c_L_eqByteS_1
        cond (.var 10)
          seq  mid=[4]
            c_L_eqByteS_2
            ret
          skip
      seq  mid=[]
        seq  mid=[0, 1, 5]
          c_L_eqByteS_3
          block 0
            loop live=[0, 1, 5]
              seq  mid=[0, 1, 5]
                seq  mid=[0, 1, 5, 14]
                  c_L_eqByteS_4
                  cond (.var 14)
                    skip
                    exit 0
                seq  mid=[0, 1, 5]
                  block 1
                    seq  mid=[0, 1, 5, 25]
                      c_L_eqByteS_5 DRAW
                      cond (.var 25)
                        seq  mid=[4]
                          c_L_eqByteS_6
                          ret
                        skip
                  c_L_eqByteS_7
        seq  mid=[4]
          c_L_eqByteS_9
          ret
-/
def c_L_eqByteS_0 : ACode := .reg [⟨.var 4, .mv (.const (.d (.bool false))), none, []⟩] false
def c_L_eqByteS_1 : ACode := .reg [⟨.loc 6, .mv (.var 0), none, []⟩,
  ⟨.loc 7, .len false (.loc 6), none, []⟩,
  ⟨.loc 8, .mv (.var 1), none, []⟩,
  ⟨.loc 9, .len false (.loc 8), none, []⟩,
  ⟨.var 10, .bin .int .neq (.loc 7) (.loc 9), none, []⟩] false
def c_L_eqByteS_2 : ACode := .reg [⟨.var 4, .mv (.const (.d (.bool false))), none, []⟩] false
def c_L_eqByteS_3 : ACode := .reg [⟨.var 5, .mv (.const (.d (.int .i64 0))), none, []⟩] false
def c_L_eqByteS_4 : ACode := .reg [⟨.loc 11, .mv (.var 5), none, []⟩,
  ⟨.loc 12, .mv (.var 0), none, []⟩,
  ⟨.loc 13, .len false (.loc 12), none, []⟩,
  ⟨.var 14, .bin .int .lss (.loc 11) (.loc 13), none, []⟩] false
def c_L_eqByteS_5 : ACode := .reg [⟨.loc 17, .mv (.var 0), none, []⟩,
  ⟨.loc 18, .mv (.var 5), none, []⟩,
  ⟨.loc 19, .idxA 1 (.loc 17) (.loc 18), none, [0, 1]⟩,
  ⟨.loc 20, .load false 1 (.loc 19), none, [2, 0, 1]⟩,
  ⟨.loc 21, .mv (.var 1), none, []⟩,
  ⟨.loc 22, .mv (.var 5), none, []⟩,
  ⟨.loc 23, .idxA 1 (.loc 21) (.loc 22), none, [4, 5]⟩,
  ⟨.loc 24, .load false 1 (.loc 23), none, [6, 4, 5]⟩,
  ⟨.var 25, .bin .int .neq (.loc 20) (.loc 24), none, [3, 2, 0, 1, 7, 6, 4, 5]⟩] true
def c_L_eqByteS_6 : ACode := .reg [⟨.var 4, .mv (.const (.d (.bool false))), none, []⟩] false
def c_L_eqByteS_7 : ACode := .reg [⟨.loc 15, .mv (.var 5), none, []⟩,
  ⟨.loc 16, .bin .int .add (.loc 15) (.const (.d (.int .i64 1))), none, []⟩,
  ⟨.var 5, .mv (.loc 16), none, []⟩] false
def c_L_eqByteS_8 : ACode := (.seq (.seq c_L_eqByteS_4 (.cond (.var 14) .skip (.exit 0))) (.seq (.block 1 (.seq c_L_eqByteS_5 (.cond (.var 25) (.seq c_L_eqByteS_6 .ret) .skip))) c_L_eqByteS_7))
def c_L_eqByteS_9 : ACode := .reg [⟨.var 4, .mv (.const (.d (.bool true))), none, []⟩] false
def c_L_eqByteS : ACode := (.seq c_L_eqByteS_0 (.seq (.seq c_L_eqByteS_1 (.cond (.var 10) (.seq c_L_eqByteS_2 .ret) .skip)) (.seq (.seq c_L_eqByteS_3 (.block 0 (.loop [0, 1, 5] c_L_eqByteS_8))) (.seq c_L_eqByteS_9 .ret))))

abbrev F_L_eqByteS : FuncId := 14

theorem k_L_eqByteS : comp PP (Tryd.f14.ntmps, pinOf 0 [none, none]) [0, 1, 4, 5, 10, 14, 25] (Tryd.f14.body.getD .skip) = some c_L_eqByteS.erase := by kernel_rfl

theorem v_L_eqByteS {GG : GV} (rcs : List C) {cs : List C} {r : C} {os : List (Option C)} (hN : (cs.length == 2 && rcs.length == 1) = true) (hret : retOf rcs = r)
    (hW : W PP [0, 1, 4, 5, 10, 14, 25] (Tryd.f14.ntmps, pinOf 0 [none, none]) (Valid PP GG) c_L_eqByteS (entry cs) (Fin (Valid PP GG) [(.give, 4, none)] [none, none] rcs os) (fun _ _ => False) (Fin (Valid PP GG) [(.give, 4, none)] [none, none] rcs os)) : Valid PP GG F_L_eqByteS cs r os :=
  fn_valid_n 2 1 [0, 1, 4, 5, 10, 14, 25] c_L_eqByteS [(.give, 4, none)] [none, none] rcs Tryd.func14 rfl rfl (by kernel_rfl) k_L_eqByteS rfl rfl hN hret hW


/-
loop.example/g00705/laws.markByteS  params 2+0 results [4]
  seq  mid=[0, 1]
    c_L_markByteS_0
    seq  mid=[0, 1]
      seq  mid=[0, 1, 5]
        c_L_markByteS_1
        block 0
          loop live=[0, 1, 5]
            seq  mid=[0, 1, 5]
              seq  mid=[0, 1, 5, 9]
                c_L_markByteS_2
                cond (.var 9)
                  skip
                  exit 0
              seq  mid=[0, 1, 5]
                block 1
                  seq  mid=[0, 1, 5]
                    c_L_markByteS_3
                    c_L_markByteS_4
                c_L_markByteS_5
      seq  mid=[0, 4]
        c_L_markByteS_7
        ret
-/
def c_L_markByteS_0 : ACode := .reg [⟨.var 4, .mv (.const (.d (.int .i64 0))), none, []⟩] false
def c_L_markByteS_1 : ACode := .reg [⟨.var 5, .mv (.const (.d (.int .i64 0))), none, []⟩] false
def c_L_markByteS_2 : ACode := .reg [⟨.loc 6, .mv (.var 5), none, []⟩,
  ⟨.loc 7, .mv (.var 0), none, []⟩,
  ⟨.loc 8, .len false (.loc 7), none, []⟩,
  ⟨.var 9, .bin .int .lss (.loc 6) (.loc 8), none, []⟩] false
def c_L_markByteS_3 : ACode := .reg [⟨.loc 12, .mv (.var 0), none, []⟩,
  ⟨.loc 13, .mv (.var 5), none, []⟩,
  ⟨.loc 14, .mv (.var 1), none, []⟩,
  ⟨.loc 15, .conv .u8 (.loc 14), none, []⟩,
  ⟨.loc 16, .idxA 1 (.loc 12) (.loc 13), none, []⟩,
  ⟨.none, .store 1 (.loc 16) (.loc 15), none, []⟩] false
def c_L_markByteS_4 : ACode := .reg [⟨.loc 17, .mv (.var 1), none, []⟩,
  ⟨.loc 18, .bin .int .add (.loc 17) (.const (.d (.int .i64 1))), none, []⟩,
  ⟨.var 1, .mv (.loc 18), none, []⟩] false
def c_L_markByteS_5 : ACode := .reg [⟨.loc 10, .mv (.var 5), none, []⟩,
  ⟨.loc 11, .bin .int .add (.loc 10) (.const (.d (.int .i64 1))), none, []⟩,
  ⟨.var 5, .mv (.loc 11), none, []⟩] false
def c_L_markByteS_6 : ACode := (.seq (.seq c_L_markByteS_2 (.cond (.var 9) .skip (.exit 0))) (.seq (.block 1 (.seq c_L_markByteS_3 c_L_markByteS_4)) c_L_markByteS_5))
def c_L_markByteS_7 : ACode := .reg [⟨.loc 19, .mv (.var 1), none, []⟩,
  ⟨.var 4, .mv (.loc 19), none, []⟩] false
def c_L_markByteS : ACode := (.seq c_L_markByteS_0 (.seq (.seq c_L_markByteS_1 (.block 0 (.loop [0, 1, 5] c_L_markByteS_6))) (.seq c_L_markByteS_7 .ret)))

abbrev F_L_markByteS : FuncId := 15

theorem k_L_markByteS : comp PP (Tryd.f15.ntmps, pinOf 0 [some .give, none]) [0, 1, 4, 5, 9] (Tryd.f15.body.getD .skip) = some c_L_markByteS.erase := by kernel_rfl

theorem v_L_markByteS {GG : GV} (rcs : List C) {cs : List C} {r : C} {os : List (Option C)} (hN : (cs.length == 2 && rcs.length == 1) = true) (hret : retOf rcs = r)
    (hW : W PP [0, 1, 4, 5, 9] (Tryd.f15.ntmps, pinOf 0 [some .give, none]) (Valid PP GG) c_L_markByteS (entry cs) (Fin (Valid PP GG) [(.give, 4, none)] [some .give, none] rcs os) (fun _ _ => False) (Fin (Valid PP GG) [(.give, 4, none)] [some .give, none] rcs os)) : Valid PP GG F_L_markByteS cs r os :=
  fn_valid_n 2 1 [0, 1, 4, 5, 9] c_L_markByteS [(.give, 4, none)] [some .give, none] rcs Tryd.func15 rfl rfl (by kernel_rfl) k_L_markByteS rfl rfl hN hret hW


/-
loop.example/g00705/laws.heldByteS  params 2+0 results [4]
  seq  mid=[0, 1]
    c_L_heldByteS_0
    seq  mid=[1]
      seq  mid=[0, 1, 5]
        c_L_heldByteS_1
        block 0
          loop live=[0, 1, 5]
            seq  mid=[0, 1, 5]
              seq  mid=[0, 1, 5, 9]
                c_L_heldByteS_2
                cond (.var 9)
                  skip
                  exit 0
              seq  mid=[0, 1, 5]
                block 1
                  seq  mid=[0, 1, 5]
                    seq  mid=[0, 1, 5, 18]
                      c_L_heldByteS_3
                      cond (.var 18)
                        seq  mid=[4]
                          c_L_heldByteS_4
                          ret
                        skip
                    c_L_heldByteS_5
                c_L_heldByteS_6
      seq  mid=[4]
        c_L_heldByteS_8
        ret
-/
def c_L_heldByteS_0 : ACode := .reg [⟨.var 4, .mv (.const (.d (.int .i64 0))), none, []⟩] false
def c_L_heldByteS_1 : ACode := .reg [⟨.var 5, .mv (.const (.d (.int .i64 0))), none, []⟩] false
def c_L_heldByteS_2 : ACode := .reg [⟨.loc 6, .mv (.var 5), none, []⟩,
  ⟨.loc 7, .mv (.var 0), none, []⟩,
  ⟨.loc 8, .len false (.loc 7), none, []⟩,
  ⟨.var 9, .bin .int .lss (.loc 6) (.loc 8), none, []⟩] false
def c_L_heldByteS_3 : ACode := .reg [⟨.loc 12, .mv (.var 0), none, []⟩,
  ⟨.loc 13, .mv (.var 5), none, []⟩,
  ⟨.loc 14, .idxA 1 (.loc 12) (.loc 13), none, []⟩,
  ⟨.loc 15, .load false 1 (.loc 14), none, []⟩,
  ⟨.loc 16, .mv (.var 1), none, []⟩,
  ⟨.loc 17, .conv .u8 (.loc 16), none, []⟩,
  ⟨.var 18, .bin .int .neq (.loc 15) (.loc 17), none, []⟩] false
def c_L_heldByteS_4 : ACode := .reg [⟨.var 4, .mv (.const (.d (.int .i64 (-1)))), none, []⟩] false
def c_L_heldByteS_5 : ACode := .reg [⟨.loc 19, .mv (.var 1), none, []⟩,
  ⟨.loc 20, .bin .int .add (.loc 19) (.const (.d (.int .i64 1))), none, []⟩,
  ⟨.var 1, .mv (.loc 20), none, []⟩] false
def c_L_heldByteS_6 : ACode := .reg [⟨.loc 10, .mv (.var 5), none, []⟩,
  ⟨.loc 11, .bin .int .add (.loc 10) (.const (.d (.int .i64 1))), none, []⟩,
  ⟨.var 5, .mv (.loc 11), none, []⟩] false
def c_L_heldByteS_7 : ACode := (.seq (.seq c_L_heldByteS_2 (.cond (.var 9) .skip (.exit 0))) (.seq (.block 1 (.seq (.seq c_L_heldByteS_3 (.cond (.var 18) (.seq c_L_heldByteS_4 .ret) .skip)) c_L_heldByteS_5)) c_L_heldByteS_6))
def c_L_heldByteS_8 : ACode := .reg [⟨.loc 21, .mv (.var 1), none, []⟩,
  ⟨.var 4, .mv (.loc 21), none, []⟩] false
def c_L_heldByteS : ACode := (.seq c_L_heldByteS_0 (.seq (.seq c_L_heldByteS_1 (.block 0 (.loop [0, 1, 5] c_L_heldByteS_7))) (.seq c_L_heldByteS_8 .ret)))

abbrev F_L_heldByteS : FuncId := 16

theorem k_L_heldByteS : comp PP (Tryd.f16.ntmps, pinOf 0 [none, none]) [0, 1, 4, 5, 9, 18] (Tryd.f16.body.getD .skip) = some c_L_heldByteS.erase := by kernel_rfl

theorem v_L_heldByteS {GG : GV} (rcs : List C) {cs : List C} {r : C} {os : List (Option C)} (hN : (cs.length == 2 && rcs.length == 1) = true) (hret : retOf rcs = r)
    (hW : W PP [0, 1, 4, 5, 9, 18] (Tryd.f16.ntmps, pinOf 0 [none, none]) (Valid PP GG) c_L_heldByteS (entry cs) (Fin (Valid PP GG) [(.give, 4, none)] [none, none] rcs os) (fun _ _ => False) (Fin (Valid PP GG) [(.give, 4, none)] [none, none] rcs os)) : Valid PP GG F_L_heldByteS cs r os :=
  fn_valid_n 2 1 [0, 1, 4, 5, 9, 18] c_L_heldByteS [(.give, 4, none)] [none, none] rcs Tryd.func16 rfl rfl (by kernel_rfl) k_L_heldByteS rfl rfl hN hret hW


/-
loop.example/g00705/spec.l19Digit  params 1+0 results [2]
  seq  mid=[0]
    c_S_l19Digit_0
    seq  mid=[0]
      seq  mid=[0, 8]
        c_S_l19Digit_1
        cond (.var 8)
          seq  mid=[2]
            c_S_l19Digit_2
            ret
          skip
      seq  mid=[]
        seq  mid=[0, 17]
          c_S_l19Digit_3
          cond (.var 17)
            seq  mid=[2]
              c_S_l19Digit_4
              ret
            skip
        seq  mid=[2]
          c_S_l19Digit_5
          ret
-/
def c_S_l19Digit_0 : ACode := .reg [⟨.var 2, .mv (.const (.d (.int .i64 0))), none, []⟩] false
def c_S_l19Digit_1 : ACode := .reg [⟨.loc 3, .mv (.var 0), none, []⟩,
  ⟨.loc 4, .bin .int .geq (.loc 3) (.const (.d (.int .u8 48))), none, []⟩,
  ⟨.loc 5, .split (.loc 4), none, []⟩,
  ⟨.loc 6, .mv (.var 0), some ((.loc 5), true), []⟩,
  ⟨.loc 7, .bin .int .leq (.loc 6) (.const (.d (.int .u8 57))), some ((.loc 5), true), []⟩,
  ⟨.var 8, .pick (.loc 5) (.loc 7) (.const (.d (.bool false))), none, []⟩] false
def c_S_l19Digit_2 : ACode := .reg [⟨.loc 9, .mv (.var 0), none, []⟩,
  ⟨.loc 10, .conv .i64 (.loc 9), none, []⟩,
  ⟨.loc 11, .bin .int .sub (.loc 10) (.const (.d (.int .i64 48))), none, []⟩,
  ⟨.var 2, .mv (.loc 11), none, []⟩] false
def c_S_l19Digit_3 : ACode := .reg [⟨.loc 12, .mv (.var 0), none, []⟩,
  ⟨.loc 13, .bin .int .geq (.loc 12) (.const (.d (.int .u8 97))), none, []⟩,
  ⟨.loc 14, .split (.loc 13), none, []⟩,
  ⟨.loc 15, .mv (.var 0), some ((.loc 14), true), []⟩,
  ⟨.loc 16, .bin .int .leq (.loc 15) (.const (.d (.int .u8 102))), some ((.loc 14), true), []⟩,
  ⟨.var 17, .pick (.loc 14) (.loc 16) (.const (.d (.bool false))), none, []⟩] false
def c_S_l19Digit_4 : ACode := .reg [⟨.loc 18, .mv (.var 0), none, []⟩,
  ⟨.loc 19, .conv .i64 (.loc 18), none, []⟩,
  ⟨.loc 20, .bin .int .sub (.loc 19) (.const (.d (.int .i64 87))), none, []⟩,
  ⟨.var 2, .mv (.loc 20), none, []⟩] false
def c_S_l19Digit_5 : ACode := .reg [⟨.var 2, .mv (.const (.d (.int .i64 (-1)))), none, []⟩] false
def c_S_l19Digit : ACode := (.seq c_S_l19Digit_0 (.seq (.seq c_S_l19Digit_1 (.cond (.var 8) (.seq c_S_l19Digit_2 .ret) .skip)) (.seq (.seq c_S_l19Digit_3 (.cond (.var 17) (.seq c_S_l19Digit_4 .ret) .skip)) (.seq c_S_l19Digit_5 .ret))))

abbrev F_S_l19Digit : FuncId := 46

theorem k_S_l19Digit : comp PP (Tryd.f46.ntmps, pinOf 0 [none]) [0, 2, 8, 17] (Tryd.f46.body.getD .skip) = some c_S_l19Digit.erase := by kernel_rfl

theorem v_S_l19Digit {GG : GV} (rcs : List C) {cs : List C} {r : C} {os : List (Option C)} (hN : (cs.length == 1 && rcs.length == 1) = true) (hret : retOf rcs = r)
    (hW : W PP [0, 2, 8, 17] (Tryd.f46.ntmps, pinOf 0 [none]) (Valid PP GG) c_S_l19Digit (entry cs) (Fin (Valid PP GG) [(.give, 2, none)] [none] rcs os) (fun _ _ => False) (Fin (Valid PP GG) [(.give, 2, none)] [none] rcs os)) : Valid PP GG F_S_l19Digit cs r os :=
  fn_valid_n 1 1 [0, 2, 8, 17] c_S_l19Digit [(.give, 2, none)] [none] rcs Tryd.func46 rfl rfl (by kernel_rfl) k_S_l19Digit rfl rfl hN hret hW


/-
strconv.ParseUint  params 3+0 results [6, 7]
  seq  mid=[0, 1, 2]
    c_strconv_ParseUint_0
    seq  mid=[0, 1, 2, 8, 9]
      c_strconv_ParseUint_1
      seq  mid=[8]
        seq  mid=[0, 1, 2, 8, 9, 18]
          c_strconv_ParseUint_2
          cond (.var 18)
            seq  mid=[6, 7]
              c_strconv_ParseUint_3
              ret
            skip
        seq  mid=[6, 7]
          c_strconv_ParseUint_4
          ret
-/
def c_strconv_ParseUint_0 : ACode := .reg [⟨.var 6, .mv (.const (.d (.int .u64 0))), none, []⟩,
  ⟨.var 7, .mv (.const (.d (.err true))), none, []⟩] false
def c_strconv_ParseUint_1 : ACode := .reg [⟨.loc 11, .mv (.var 0), none, []⟩,
  ⟨.loc 12, .mv (.var 1), none, []⟩,
  ⟨.loc 13, .mv (.var 2), none, []⟩,
  ⟨.loc 14, .call (.fn 85) [(.loc 11), (.loc 12), (.loc 13)] [.borrow, .borrow, .borrow], none, []⟩,
  ⟨.loc 10, .mv (.loc 14), none, []⟩,
  ⟨.loc 15, .ext (.loc 10) 0, none, []⟩,
  ⟨.loc 16, .ext (.loc 10) 1, none, []⟩,
  ⟨.var 8, .mv (.loc 15), none, []⟩,
  ⟨.var 9, .mv (.loc 16), none, []⟩] false
def c_strconv_ParseUint_2 : ACode := .reg [⟨.loc 17, .mv (.var 9), none, []⟩,
  ⟨.var 18, .bin .err .neq (.loc 17) (.const (.d (.err true))), none, []⟩] false
def c_strconv_ParseUint_3 : ACode := .reg [⟨.loc 19, .mv (.var 8), none, []⟩,
  ⟨.loc 20, .mv (.var 0), none, []⟩,
  ⟨.loc 21, .mv (.var 1), none, []⟩,
  ⟨.loc 22, .mv (.var 2), none, []⟩,
  ⟨.loc 23, .mv (.var 9), none, []⟩,
  ⟨.loc 24, .call (.fn 86) [(.const (.d (.str [80, 97, 114, 115, 101, 85, 105, 110, 116]))), (.loc 20), (.loc 21), (.loc 22), (.loc 23)] [.borrow, .borrow, .borrow, .borrow, .borrow], none, []⟩,
  ⟨.var 6, .mv (.loc 19), none, []⟩,
  ⟨.var 7, .mv (.loc 24), none, []⟩] false
def c_strconv_ParseUint_4 : ACode := .reg [⟨.loc 25, .mv (.var 8), none, []⟩,
  ⟨.var 6, .mv (.loc 25), none, []⟩,
  ⟨.var 7, .mv (.const (.d (.err true))), none, []⟩] false
def c_strconv_ParseUint : ACode := (.seq c_strconv_ParseUint_0 (.seq c_strconv_ParseUint_1 (.seq (.seq c_strconv_ParseUint_2 (.cond (.var 18) (.seq c_strconv_ParseUint_3 .ret) .skip)) (.seq c_strconv_ParseUint_4 .ret))))

abbrev F_strconv_ParseUint : FuncId := 47

theorem k_strconv_ParseUint : comp PP (Tryd.f47.ntmps, pinOf 0 [none, none, none]) [0, 1, 2, 6, 7, 8, 9, 18] (Tryd.f47.body.getD .skip) = some c_strconv_ParseUint.erase := by kernel_rfl

theorem v_strconv_ParseUint {GG : GV} (rcs : List C) {cs : List C} {r : C} {os : List (Option C)} (hN : (cs.length == 3 && rcs.length == 2) = true) (hret : retOf rcs = r)
    (hW : W PP [0, 1, 2, 6, 7, 8, 9, 18] (Tryd.f47.ntmps, pinOf 0 [none, none, none]) (Valid PP GG) c_strconv_ParseUint (entry cs) (Fin (Valid PP GG) [(.give, 6, none), (.give, 7, none)] [none, none, none] rcs os) (fun _ _ => False) (Fin (Valid PP GG) [(.give, 6, none), (.give, 7, none)] [none, none, none] rcs os)) : Valid PP GG F_strconv_ParseUint cs r os :=
  fn_valid_n 3 2 [0, 1, 2, 6, 7, 8, 9, 18] c_strconv_ParseUint [(.give, 6, none), (.give, 7, none)] [none, none, none] rcs Tryd.func47 rfl rfl (by kernel_rfl) k_strconv_ParseUint rfl rfl hN hret hW


/-
loop.example/g00705/impl.hexText  params 1+0 results [2]
  seq  mid=[0]
    c_I_hexText_0
    seq  mid=[0, 3]
      c_I_hexText_1
      seq  mid=[3]
        seq  mid=[3, 10, 11, 12]
          c_I_hexText_2
          block 0
            loop live=[3, 10, 11, 12]
              seq  mid=[3, 10, 11, 12, 13]
                c_I_hexText_3
                seq  mid=[3, 10, 11, 12]
                  cond (.var 13)
                    skip
                    exit 0
                  seq  mid=[3, 10, 11, 12]
                    block 1
                      seq  mid=[3, 5, 10, 11, 12]
                        c_I_hexText_4
                        c_I_hexText_5 DRAW
                    c_I_hexText_6
        seq  mid=[2]
          c_I_hexText_8
          ret
-/
def c_I_hexText_0 : ACode := .reg [⟨.var 2, .mv (.const (.d (.str []))), none, []⟩] false
def c_I_hexText_1 : ACode := .reg [⟨.loc 6, .mv (.var 0), none, []⟩,
  ⟨.loc 7, .len false (.loc 6), none, []⟩,
  ⟨.loc 8, .bin .int .mul (.const (.d (.int .i64 2))) (.loc 7), none, []⟩,
  ⟨.loc 9, .mkslice 0 1 1 [.int .u8 0] (.const (.d (.int .i64 0))) (.loc 8), none, []⟩,
  ⟨.var 3, .mv (.loc 9), none, []⟩] false
def c_I_hexText_2 : ACode := .reg [⟨.var 10, .mv (.var 0), none, []⟩,
  ⟨.var 11, .len false (.var 10), none, []⟩,
  ⟨.var 12, .mv (.const (.d (.int .i64 0))), none, []⟩] false
def c_I_hexText_3 : ACode := .reg [⟨.var 13, .bin .int .lss (.var 12) (.var 11), none, []⟩] false
def c_I_hexText_4 : ACode := .reg [⟨.loc 14, .idxA 1 (.var 10) (.var 12), none, []⟩,
  ⟨.loc 15, .load false 1 (.loc 14), none, []⟩,
  ⟨.var 5, .mv (.loc 15), none, []⟩] false
def c_I_hexText_5 : ACode := .reg [⟨.loc 16, .mv (.var 3), none, []⟩,
  ⟨.loc 17, .mv (.var 5), none, []⟩,
  ⟨.loc 18, .bin .int .shr (.loc 17) (.const (.d (.int .u64 4))), none, [1]⟩,
  ⟨.loc 19, .idxS (.const (.d (.str [48, 49, 50, 51, 52, 53, 54, 55, 56, 57, 97, 98, 99, 100, 101, 102]))) (.loc 18), none, [2, 1]⟩,
  ⟨.loc 20, .mv (.var 5), none, []⟩,
  ⟨.loc 21, .bin .int .and (.loc 20) (.const (.d (.int .u8 15))), none, [4]⟩,
  ⟨.loc 22, .idxS (.const (.d (.str [48, 49, 50, 51, 52, 53, 54, 55, 56, 57, 97, 98, 99, 100, 101, 102]))) (.loc 21), none, [5, 4]⟩,
  ⟨.loc 23, .lit 0 1 2 [.int .u8 0] [(0, (.loc 19)), (1, (.loc 22))], none, [3, 2, 1, 6, 5, 4]⟩,
  ⟨.loc 24, .app 1 1 (.loc 16) (.loc 23), none, [0, 7, 3, 2, 1, 6, 5, 4]⟩,
  ⟨.var 3, .mv (.loc 24), none, [8, 0, 7, 3, 2, 1, 6, 5, 4]⟩] true
def c_I_hexText_6 : ACode := .reg [⟨.loc 25, .bin .int .add (.var 12) (.const (.d (.int .i64 1))), none, []⟩,
  ⟨.var 12, .mv (.loc 25), none, []⟩] false
def c_I_hexText_7 : ACode := (.seq c_I_hexText_3 (.seq (.cond (.var 13) .skip (.exit 0)) (.seq (.block 1 (.seq c_I_hexText_4 c_I_hexText_5)) c_I_hexText_6)))
def c_I_hexText_8 : ACode := .reg [⟨.loc 26, .mv (.var 3), none, []⟩,
  ⟨.loc 27, .b2s (.loc 26), none, []⟩,
  ⟨.var 2, .mv (.loc 27), none, []⟩] false
def c_I_hexText : ACode := (.seq c_I_hexText_0 (.seq c_I_hexText_1 (.seq (.seq c_I_hexText_2 (.block 0 (.loop [3, 10, 11, 12] c_I_hexText_7))) (.seq c_I_hexText_8 .ret))))

abbrev F_I_hexText : FuncId := 48

theorem k_I_hexText : comp PP (Tryd.f48.ntmps, pinOf 0 [none]) [0, 2, 3, 5, 10, 11, 12, 13] (Tryd.f48.body.getD .skip) = some c_I_hexText.erase := by kernel_rfl

theorem v_I_hexText {GG : GV} (rcs : List C) {cs : List C} {r : C} {os : List (Option C)} (hN : (cs.length == 1 && rcs.length == 1) = true) (hret : retOf rcs = r)
    (hW : W PP [0, 2, 3, 5, 10, 11, 12, 13] (Tryd.f48.ntmps, pinOf 0 [none]) (Valid PP GG) c_I_hexText (entry cs) (Fin (Valid PP GG) [(.give, 2, none)] [none] rcs os) (fun _ _ => False) (Fin (Valid PP GG) [(.give, 2, none)] [none] rcs os)) : Valid PP GG F_I_hexText cs r os :=
  fn_valid_n 1 1 [0, 2, 3, 5, 10, 11, 12, 13] c_I_hexText [(.give, 2, none)] [none] rcs Tryd.func48 rfl rfl (by kernel_rfl) k_I_hexText rfl rfl hN hret hW


/-
internal/strconv.ParseUint  params 3+0 results [6, 7]
  seq  mid=[0, 1, 2]
    c_internal_strconv_ParseUint_0
    seq  mid=[0, 1, 2]
      seq  mid=[0, 1, 2, 19]
        c_internal_strconv_ParseUint_1
        cond (.var 19)
          seq  mid=[6, 7]
            c_internal_strconv_ParseUint_2
            ret
          skip
      seq  mid=[0, 1, 2, 8]
        c_internal_strconv_ParseUint_3
        seq  mid=[0, 1, 2, 8, 9]
          c_internal_strconv_ParseUint_4
          seq  mid=[0, 1, 2, 8, 9]
            block 0
              seq  mid=[0, 1, 2, 8, 9, 25]
                c_internal_strconv_ParseUint_5
                cond (.var 25)
                  skip
                  seq  mid=[0, 2, 8, 9, 32]
                    c_internal_strconv_ParseUint_6
                    cond (.var 32)
                      seq  mid=[0, 1, 2, 8, 9]
                        c_internal_strconv_ParseUint_7
                        seq  mid=[0, 1, 2, 8, 9, 37]
                          c_internal_strconv_ParseUint_8
                          cond (.var 37)
                            block 1
                              seq  mid=[0, 2, 8, 9, 40]
                                c_internal_strconv_ParseUint_9
                                cond (.var 40)
                                  seq  mid=[0, 1, 2, 8, 9]
                                    c_internal_strconv_ParseUint_10
                                    c_internal_strconv_ParseUint_11
                                  seq  mid=[0, 2, 8, 9, 52]
                                    c_internal_strconv_ParseUint_12
                                    cond (.var 52)
                                      seq  mid=[0, 1, 2, 8, 9]
                                        c_internal_strconv_ParseUint_13
                                        c_internal_strconv_ParseUint_14
                                      seq  mid=[0, 2, 8, 9, 64]
                                        c_internal_strconv_ParseUint_15
                                        cond (.var 64)
                                          seq  mid=[0, 1, 2, 8, 9]
                                            c_internal_strconv_ParseUint_16
                                            c_internal_strconv_ParseUint_17
                                          seq  mid=[0, 1, 2, 8, 9]
                                            c_internal_strconv_ParseUint_18
                                            c_internal_strconv_ParseUint_19
                            skip
                      seq  mid=[6, 7]
                        c_internal_strconv_ParseUint_20
                        ret
            seq  mid=[0, 1, 2, 8, 9]
              seq  mid=[0, 1, 2, 8, 9, 77]
                c_internal_strconv_ParseUint_21
                cond (.var 77)
                  c_internal_strconv_ParseUint_22
                  seq  mid=[0, 1, 2, 8, 9, 83]
                    c_internal_strconv_ParseUint_23
                    cond (.var 83)
                      seq  mid=[6, 7]
                        c_internal_strconv_ParseUint_24
                        ret
                      skip
              seq  mid=[0, 1, 2, 8, 9]
                c_internal_strconv_ParseUint_25
                seq  mid=[0, 1, 2, 8, 9, 10]
                  seq  mid=[0, 1, 2, 8, 9, 85]
                    c_internal_strconv_ParseUint_26
                    block 2
                      seq  mid=[0, 1, 2, 8, 9, 85, 90]
                        c_internal_strconv_ParseUint_27
                        cond (.var 90)
                          c_internal_strconv_ParseUint_28
                          seq  mid=[0, 1, 2, 8, 9, 92]
                            c_internal_strconv_ParseUint_29
                            cond (.var 92)
                              c_internal_strconv_ParseUint_30
                              c_internal_strconv_ParseUint_31
                  seq  mid=[0, 1, 8, 9, 10, 11]
                    c_internal_strconv_ParseUint_32
                    seq  mid=[0, 1, 8, 9, 10, 11, 12]
                      c_internal_strconv_ParseUint_33
                      seq  mid=[0, 1, 8, 9, 10, 11, 12, 13]
                        c_internal_strconv_ParseUint_34
                        seq  mid=[9, 12, 13]
                          seq  mid=[1, 8, 9, 10, 11, 12, 13, 99, 100, 101]
                            c_internal_strconv_ParseUint_35
                            block 3
                              loop live=[1, 8, 9, 10, 11, 12, 13, 99, 100, 101]
                                seq  mid=[1, 8, 9, 10, 11, 12, 13, 99, 100, 101, 102]
                                  c_internal_strconv_ParseUint_36
                                  seq  mid=[1, 8, 9, 10, 11, 12, 13, 99, 100, 101]
                                    cond (.var 102)
                                      skip
                                      exit 3
                                    seq  mid=[1, 8, 9, 10, 11, 12, 13, 99, 100, 101]
                                      block 4
                                        seq  mid=[1, 8, 9, 10, 11, 12, 13, 15, 99, 100, 101]
                                          c_internal_strconv_ParseUint_37
                                          seq  mid=[1, 8, 9, 10, 11, 12, 13, 15, 99, 100, 101]
                                            c_internal_strconv_ParseUint_38
                                            seq  mid=[1, 8, 9, 10, 11, 12, 13, 16, 99, 100, 101]
                                              block 5
                                                seq  mid=[1, 8, 9, 10, 11, 12, 13, 15, 99, 100, 101, 106]
                                                  c_internal_strconv_ParseUint_39
                                                  cond (.var 106)
                                                    seq  mid=[1, 8, 9, 10, 11, 12, 13, 99, 100, 101]
                                                      c_internal_strconv_ParseUint_40
                                                      exit 4
                                                    seq  mid=[1, 8, 9, 10, 11, 12, 13, 15, 99, 100, 101, 112]
                                                      c_internal_strconv_ParseUint_41
                                                      cond (.var 112)
                                                        c_internal_strconv_ParseUint_42
                                                        seq  mid=[1, 8, 9, 10, 11, 12, 13, 15, 99, 100, 101, 121]
                                                          c_internal_strconv_ParseUint_43
                                                          cond (.var 121)
                                                            c_internal_strconv_ParseUint_44
                                                            seq  mid=[6, 7]
                                                              c_internal_strconv_ParseUint_45
                                                              ret
                                              seq  mid=[1, 8, 9, 10, 11, 12, 13, 16, 99, 100, 101]
                                                seq  mid=[1, 8, 9, 10, 11, 12, 13, 16, 99, 100, 101, 137]
                                                  c_internal_strconv_ParseUint_46
                                                  cond (.var 137)
                                                    seq  mid=[6, 7]
                                                      c_internal_strconv_ParseUint_47
                                                      ret
                                                    skip
                                                seq  mid=[1, 8, 9, 10, 11, 12, 13, 16, 99, 100, 101]
                                                  seq  mid=[1, 8, 9, 10, 11, 12, 13, 16, 99, 100, 101, 141]
                                                    c_internal_strconv_ParseUint_48
                                                    cond (.var 141)
                                                      seq  mid=[6, 7]
                                                        c_internal_strconv_ParseUint_49
                                                        ret
                                                      skip
                                                  seq  mid=[1, 8, 9, 10, 11, 12, 13, 16, 99, 100, 101]
                                                    c_internal_strconv_ParseUint_50
                                                    seq  mid=[1, 8, 9, 10, 11, 12, 13, 17, 99, 100, 101]
                                                      c_internal_strconv_ParseUint_51
                                                      seq  mid=[1, 8, 9, 10, 11, 12, 17, 99, 100, 101]
                                                        seq  mid=[1, 8, 9, 10, 11, 12, 17, 99, 100, 101, 159]
                                                          c_internal_strconv_ParseUint_52
                                                          cond (.var 159)
                                                            seq  mid=[6, 7]
                                                              c_internal_strconv_ParseUint_53
                                                              ret
                                                            skip
                                                        c_internal_strconv_ParseUint_54
                                      c_internal_strconv_ParseUint_55
                          seq  mid=[13]
                            seq  mid=[13, 169]
                              c_internal_strconv_ParseUint_57
                              cond (.var 169)
                                seq  mid=[6, 7]
                                  c_internal_strconv_ParseUint_58
                                  ret
                                skip
                            seq  mid=[6, 7]
                              c_internal_strconv_ParseUint_59
                              ret
-/
def c_internal_strconv_ParseUint_0 : ACode := .reg [⟨.var 6, .mv (.const (.d (.int .u64 0))), none, []⟩,
  ⟨.var 7, .mv (.const (.d (.err true))), none, []⟩] false
def c_internal_strconv_ParseUint_1 : ACode := .reg [⟨.loc 18, .mv (.var 0), none, []⟩,
  ⟨.var 19, .bin .str .eql (.loc 18) (.const (.d (.str []))), none, []⟩] false
def c_internal_strconv_ParseUint_2 : ACode := .reg [⟨.loc 20, .mkI 121 (.const (.d (.int .i64 2))), none, []⟩,
  ⟨.var 6, .mv (.const (.d (.int .u64 0))), none, []⟩,
  ⟨.var 7, .mv (.loc 20), none, []⟩] false
def c_internal_strconv_ParseUint_3 : ACode := .reg [⟨.loc 21, .mv (.var 1), none, []⟩,
  ⟨.loc 22, .bin .int .eql (.loc 21) (.const (.d (.int .i64 0))), none, []⟩,
  ⟨.var 8, .mv (.loc 22), none, []⟩] false
def c_internal_strconv_ParseUint_4 : ACode := .reg [⟨.loc 23, .mv (.var 0), none, []⟩,
  ⟨.var 9, .mv (.loc 23), none, []⟩] false
def c_internal_strconv_ParseUint_5 : ACode := .reg [⟨.loc 26, .mv (.var 1), none, []⟩,
  ⟨.loc 27, .bin .int .leq (.const (.d (.int .i64 2))) (.loc 26), none, []⟩,
  ⟨.loc 28, .split (.loc 27), none, []⟩,
  ⟨.loc 29, .mv (.var 1), some ((.loc 28), true), []⟩,
  ⟨.loc 30, .bin .int .leq (.loc 29) (.const (.d (.int .i64 36))), some ((.loc 28), true), []⟩,
  ⟨.loc 31, .pick (.loc 28) (.loc 30) (.const (.d (.bool false))), none, []⟩,
  ⟨.var 25, .mv (.loc 31), none, []⟩] false
def c_internal_strconv_ParseUint_6 : ACode := .reg [⟨.loc 33, .mv (.var 1), none, []⟩,
  ⟨.loc 34, .bin .int .eql (.loc 33) (.const (.d (.int .i64 0))), none, []⟩,
  ⟨.var 32, .mv (.loc 34), none, []⟩] false
def c_internal_strconv_ParseUint_7 : ACode := .reg [⟨.var 1, .mv (.const (.d (.int .i64 10))), none, []⟩] false
def c_internal_strconv_ParseUint_8 : ACode := .reg [⟨.loc 35, .mv (.var 0), none, []⟩,
  ⟨.loc 36, .idxS (.loc 35) (.const (.d (.int .i64 0))), none, []⟩,
  ⟨.var 37, .bin .int .eql (.loc 36) (.const (.d (.int .u8 48))), none, []⟩] false
def c_internal_strconv_ParseUint_9 : ACode := .reg [⟨.loc 41, .mv (.var 0), none, []⟩,
  ⟨.loc 42, .len true (.loc 41), none, []⟩,
  ⟨.loc 43, .bin .int .geq (.loc 42) (.const (.d (.int .i64 3))), none, []⟩,
  ⟨.loc 44, .split (.loc 43), none, []⟩,
  ⟨.loc 45, .mv (.var 0), some ((.loc 44), true), []⟩,
  ⟨.loc 46, .idxS (.loc 45) (.const (.d (.int .i64 1))), some ((.loc 44), true), []⟩,
  ⟨.loc 47, .call (.fn 109) [(.loc 46)] [.borrow], some ((.loc 44), true), []⟩,
  ⟨.loc 48, .bin .int .eql (.loc 47) (.const (.d (.int .u8 98))), some ((.loc 44), true), []⟩,
  ⟨.loc 49, .pick (.loc 44) (.loc 48) (.const (.d (.bool false))), none, []⟩,
  ⟨.var 40, .mv (.loc 49), none, []⟩] false
def c_internal_strconv_ParseUint_10 : ACode := .reg [⟨.var 1, .mv (.const (.d (.int .i64 2))), none, []⟩] false
def c_internal_strconv_ParseUint_11 : ACode := .reg [⟨.loc 50, .mv (.var 0), none, []⟩,
  ⟨.loc 51, .sliceS (.loc 50) (some (.const (.d (.int .i64 2)))) none, none, []⟩,
  ⟨.var 0, .mv (.loc 51), none, []⟩] false
def c_internal_strconv_ParseUint_12 : ACode := .reg [⟨.loc 53, .mv (.var 0), none, []⟩,
  ⟨.loc 54, .len true (.loc 53), none, []⟩,
  ⟨.loc 55, .bin .int .geq (.loc 54) (.const (.d (.int .i64 3))), none, []⟩,
  ⟨.loc 56, .split (.loc 55), none, []⟩,
  ⟨.loc 57, .mv (.var 0), some ((.loc 56), true), []⟩,
  ⟨.loc 58, .idxS (.loc 57) (.const (.d (.int .i64 1))), some ((.loc 56), true), []⟩,
  ⟨.loc 59, .call (.fn 109) [(.loc 58)] [.borrow], some ((.loc 56), true), []⟩,
  ⟨.loc 60, .bin .int .eql (.loc 59) (.const (.d (.int .u8 111))), some ((.loc 56), true), []⟩,
  ⟨.loc 61, .pick (.loc 56) (.loc 60) (.const (.d (.bool false))), none, []⟩,
  ⟨.var 52, .mv (.loc 61), none, []⟩] false
def c_internal_strconv_ParseUint_13 : ACode := .reg [⟨.var 1, .mv (.const (.d (.int .i64 8))), none, []⟩] false
def c_internal_strconv_ParseUint_14 : ACode := .reg [⟨.loc 62, .mv (.var 0), none, []⟩,
  ⟨.loc 63, .sliceS (.loc 62) (some (.const (.d (.int .i64 2)))) none, none, []⟩,
  ⟨.var 0, .mv (.loc 63), none, []⟩] false
def c_internal_strconv_ParseUint_15 : ACode := .reg [⟨.loc 65, .mv (.var 0), none, []⟩,
  ⟨.loc 66, .len true (.loc 65), none, []⟩,
  ⟨.loc 67, .bin .int .geq (.loc 66) (.const (.d (.int .i64 3))), none, []⟩,
  ⟨.loc 68, .split (.loc 67), none, []⟩,
  ⟨.loc 69, .mv (.var 0), some ((.loc 68), true), []⟩,
  ⟨.loc 70, .idxS (.loc 69) (.const (.d (.int .i64 1))), some ((.loc 68), true), []⟩,
  ⟨.loc 71, .call (.fn 109) [(.loc 70)] [.borrow], some ((.loc 68), true), []⟩,
  ⟨.loc 72, .bin .int .eql (.loc 71) (.const (.d (.int .u8 120))), some ((.loc 68), true), []⟩,
  ⟨.loc 73, .pick (.loc 68) (.loc 72) (.const (.d (.bool false))), none, []⟩,
  ⟨.var 64, .mv (.loc 73), none, []⟩] false
def c_internal_strconv_ParseUint_16 : ACode := .reg [⟨.var 1, .mv (.const (.d (.int .i64 16))), none, []⟩] false
def c_internal_strconv_ParseUint_17 : ACode := .reg [⟨.loc 74, .mv (.var 0), none, []⟩,
  ⟨.loc 75, .sliceS (.loc 74) (some (.const (.d (.int .i64 2)))) none, none, []⟩,
  ⟨.var 0, .mv (.loc 75), none, []⟩] false
def c_internal_strconv_ParseUint_18 : ACode := .reg [⟨.var 1, .mv (.const (.d (.int .i64 8))), none, []⟩] false
def c_internal_strconv_ParseUint_19 : ACode := .reg [⟨.loc 38, .mv (.var 0), none, []⟩,
  ⟨.loc 39, .sliceS (.loc 38) (some (.const (.d (.int .i64 1)))) none, none, []⟩,
  ⟨.var 0, .mv (.loc 39), none, []⟩] false
def c_internal_strconv_ParseUint_20 : ACode := .reg [⟨.loc 24, .mkI 121 (.const (.d (.int .i64 3))), none, []⟩,
  ⟨.var 6, .mv (.const (.d (.int .u64 0))), none, []⟩,
  ⟨.var 7, .mv (.loc 24), none, []⟩] false
def c_internal_strconv_ParseUint_21 : ACode := .reg [⟨.loc 76, .mv (.var 2), none, []⟩,
  ⟨.var 77, .bin .int .eql (.loc 76) (.const (.d (.int .i64 0))), none, []⟩] false
def c_internal_strconv_ParseUint_22 : ACode := .reg [⟨.var 2, .mv (.const (.d (.int .i64 64))), none, []⟩] false
def c_internal_strconv_ParseUint_23 : ACode := .reg [⟨.loc 78, .mv (.var 2), none, []⟩,
  ⟨.loc 79, .bin .int .lss (.loc 78) (.const (.d (.int .i64 0))), none, []⟩,
  ⟨.loc 80, .split (.loc 79), none, []⟩,
  ⟨.loc 81, .mv (.var 2), some ((.loc 80), false), []⟩,
  ⟨.loc 82, .bin .int .gtr (.loc 81) (.const (.d (.int .i64 64))), some ((.loc 80), false), []⟩,
  ⟨.var 83, .pick (.loc 80) (.const (.d (.bool true))) (.loc 82), none, []⟩] false
def c_internal_strconv_ParseUint_24 : ACode := .reg [⟨.loc 84, .mkI 121 (.const (.d (.int .i64 4))), none, []⟩,
  ⟨.var 6, .mv (.const (.d (.int .u64 0))), none, []⟩,
  ⟨.var 7, .mv (.loc 84), none, []⟩] false
def c_internal_strconv_ParseUint_25 : ACode := .reg [⟨.var 10, .mv (.const (.d (.int .u64 0))), none, []⟩] false
def c_internal_strconv_ParseUint_26 : ACode := .reg [⟨.var 85, .mv (.var 1), none, []⟩] false
def c_internal_strconv_ParseUint_27 : ACode := .reg [⟨.loc 91, .bin .int .eql (.var 85) (.const (.d (.int .i64 10))), none, []⟩,
  ⟨.var 90, .mv (.loc 91), none, []⟩] false
def c_internal_strconv_ParseUint_28 : ACode := .reg [⟨.var 10, .mv (.const (.d (.int .u64 1844674407370955162))), none, []⟩] false
def c_internal_strconv_ParseUint_29 : ACode := .reg [⟨.loc 93, .bin .int .eql (.var 85) (.const (.d (.int .i64 16))), none, []⟩,
  ⟨.var 92, .mv (.loc 93), none, []⟩] false
def c_internal_strconv_ParseUint_30 : ACode := .reg [⟨.var 10, .mv (.const (.d (.int .u64 1152921504606846976))), none, []⟩] false
def c_internal_strconv_ParseUint_31 : ACode := .reg [⟨.loc 86, .mv (.var 1), none, []⟩,
  ⟨.loc 87, .conv .u64 (.loc 86), none, []⟩,
  ⟨.loc 88, .bin .int .quo (.const (.d (.int .u64 18446744073709551615))) (.loc 87), none, []⟩,
  ⟨.loc 89, .bin .int .add (.loc 88) (.const (.d (.int .u64 1))), none, []⟩,
  ⟨.var 10, .mv (.loc 89), none, []⟩] false
def c_internal_strconv_ParseUint_32 : ACode := .reg [⟨.loc 94, .mv (.var 2), none, []⟩,
  ⟨.loc 95, .conv .u64 (.loc 94), none, []⟩,
  ⟨.loc 96, .bin .int .shl (.const (.d (.int .u64 1))) (.loc 95), none, []⟩,
  ⟨.loc 97, .bin .int .sub (.loc 96) (.const (.d (.int .u64 1))), none, []⟩,
  ⟨.var 11, .mv (.loc 97), none, []⟩] false
def c_internal_strconv_ParseUint_33 : ACode := .reg [⟨.var 12, .mv (.const (.d (.bool false))), none, []⟩] false
def c_internal_strconv_ParseUint_34 : ACode := .reg [⟨.var 13, .mv (.const (.d (.int .u64 0))), none, []⟩] false
def c_internal_strconv_ParseUint_35 : ACode := .reg [⟨.loc 98, .mv (.var 0), none, []⟩,
  ⟨.var 99, .s2b (.loc 98), none, []⟩,
  ⟨.var 100, .len false (.var 99), none, []⟩,
  ⟨.var 101, .mv (.const (.d (.int .i64 0))), none, []⟩] false
def c_internal_strconv_ParseUint_36 : ACode := .reg [⟨.var 102, .bin .int .lss (.var 101) (.var 100), none, []⟩] false
def c_internal_strconv_ParseUint_37 : ACode := .reg [⟨.loc 103, .idxA 1 (.var 99) (.var 101), none, []⟩,
  ⟨.loc 104, .load false 1 (.loc 103), none, []⟩,
  ⟨.var 15, .mv (.loc 104), none, []⟩] false
def c_internal_strconv_ParseUint_38 : ACode := .reg [⟨.var 16, .mv (.const (.d (.int .u8 0))), none, []⟩] false
def c_internal_strconv_ParseUint_39 : ACode := .reg [⟨.loc 107, .mv (.var 15), none, []⟩,
  ⟨.loc 108, .bin .int .eql (.loc 107) (.const (.d (.int .u8 95))), none, []⟩,
  ⟨.loc 109, .split (.loc 108), none, []⟩,
  ⟨.loc 110, .mv (.var 8), some ((.loc 109), true), []⟩,
  ⟨.loc 111, .pick (.loc 109) (.loc 110) (.const (.d (.bool false))), none, []⟩,
  ⟨.var 106, .mv (.loc 111), none, []⟩] false
def c_internal_strconv_ParseUint_40 : ACode := .reg [⟨.var 12, .mv (.const (.d (.bool true))), none, []⟩] false
def c_internal_strconv_ParseUint_41 : ACode := .reg [⟨.loc 113, .mv (.var 15), none, []⟩,
  ⟨.loc 114, .bin .int .leq (.const (.d (.int .u8 48))) (.loc 113), none, []⟩,
  ⟨.loc 115, .split (.loc 114), none, []⟩,
  ⟨.loc 116, .mv (.var 15), some ((.loc 115), true), []⟩,
  ⟨.loc 117, .bin .int .leq (.loc 116) (.const (.d (.int .u8 57))), some ((.loc 115), true), []⟩,
  ⟨.loc 118, .pick (.loc 115) (.loc 117) (.const (.d (.bool false))), none, []⟩,
  ⟨.var 112, .mv (.loc 118), none, []⟩] false
def c_internal_strconv_ParseUint_42 : ACode := .reg [⟨.loc 119, .mv (.var 15), none, []⟩,
  ⟨.loc 120, .bin .int .sub (.loc 119) (.const (.d (.int .u8 48))), none, []⟩,
  ⟨.var 16, .mv (.loc 120), none, []⟩] false
def c_internal_strconv_ParseUint_43 : ACode := .reg [⟨.loc 122, .mv (.var 15), none, []⟩,
  ⟨.loc 123, .call (.fn 109) [(.loc 122)] [.borrow], none, []⟩,
  ⟨.loc 124, .bin .int .leq (.const (.d (.int .u8 97))) (.loc 123), none, []⟩,
  ⟨.loc 125, .split (.loc 124), none, []⟩,
  ⟨.loc 126, .mv (.var 15), some ((.loc 125), true), []⟩,
  ⟨.loc 127, .call (.fn 109) [(.loc 126)] [.borrow], some ((.loc 125), true), []⟩,
  ⟨.loc 128, .bin .int .leq (.loc 127) (.const (.d (.int .u8 122))), some ((.loc 125), true), []⟩,
  ⟨.loc 129, .pick (.loc 125) (.loc 128) (.const (.d (.bool false))), none, []⟩,
  ⟨.var 121, .mv (.loc 129), none, []⟩] false
def c_internal_strconv_ParseUint_44 : ACode := .reg [⟨.loc 130, .mv (.var 15), none, []⟩,
  ⟨.loc 131, .call (.fn 109) [(.loc 130)] [.borrow], none, []⟩,
  ⟨.loc 132, .bin .int .sub (.loc 131) (.const (.d (.int .u8 97))), none, []⟩,
  ⟨.loc 133, .bin .int .add (.loc 132) (.const (.d (.int .u8 10))), none, []⟩,
  ⟨.var 16, .mv (.loc 133), none, []⟩] false
def c_internal_strconv_ParseUint_45 : ACode := .reg [⟨.loc 105, .mkI 121 (.const (.d (.int .i64 2))), none, []⟩,
  ⟨.var 6, .mv (.const (.d (.int .u64 0))), none, []⟩,
  ⟨.var 7, .mv (.loc 105), none, []⟩] false
def c_internal_strconv_ParseUint_46 : ACode := .reg [⟨.loc 134, .mv (.var 16), none, []⟩,
  ⟨.loc 135, .mv (.var 1), none, []⟩,
  ⟨.loc 136, .conv .u8 (.loc 135), none, []⟩,
  ⟨.var 137, .bin .int .geq (.loc 134) (.loc 136), none, []⟩] false
def c_internal_strconv_ParseUint_47 : ACode := .reg [⟨.loc 138, .mkI 121 (.const (.d (.int .i64 2))), none, []⟩,
  ⟨.var 6, .mv (.const (.d (.int .u64 0))), none, []⟩,
  ⟨.var 7, .mv (.loc 138), none, []⟩] false
def c_internal_strconv_ParseUint_48 : ACode := .reg [⟨.loc 139, .mv (.var 13), none, []⟩,
  ⟨.loc 140, .mv (.var 10), none, []⟩,
  ⟨.var 141, .bin .int .geq (.loc 139) (.loc 140), none, []⟩] false
def c_internal_strconv_ParseUint_49 : ACode := .reg [⟨.loc 142, .mv (.var 11), none, []⟩,
  ⟨.loc 143, .mkI 121 (.const (.d (.int .i64 1))), none, []⟩,
  ⟨.var 6, .mv (.loc 142), none, []⟩,
  ⟨.var 7, .mv (.loc 143), none, []⟩] false
def c_internal_strconv_ParseUint_50 : ACode := .reg [⟨.loc 144, .mv (.var 13), none, []⟩,
  ⟨.loc 145, .mv (.var 1), none, []⟩,
  ⟨.loc 146, .conv .u64 (.loc 145), none, []⟩,
  ⟨.loc 147, .bin .int .mul (.loc 144) (.loc 146), none, []⟩,
  ⟨.var 13, .mv (.loc 147), none, []⟩] false
def c_internal_strconv_ParseUint_51 : ACode := .reg [⟨.loc 148, .mv (.var 13), none, []⟩,
  ⟨.loc 149, .mv (.var 16), none, []⟩,
  ⟨.loc 150, .conv .u64 (.loc 149), none, []⟩,
  ⟨.loc 151, .bin .int .add (.loc 148) (.loc 150), none, []⟩,
  ⟨.var 17, .mv (.loc 151), none, []⟩] false
def c_internal_strconv_ParseUint_52 : ACode := .reg [⟨.loc 152, .mv (.var 17), none, []⟩,
  ⟨.loc 153, .mv (.var 13), none, []⟩,
  ⟨.loc 154, .bin .int .lss (.loc 152) (.loc 153), none, []⟩,
  ⟨.loc 155, .split (.loc 154), none, []⟩,
  ⟨.loc 156, .mv (.var 17), some ((.loc 155), false), []⟩,
  ⟨.loc 157, .mv (.var 11), some ((.loc 155), false), []⟩,
  ⟨.loc 158, .bin .int .gtr (.loc 156) (.loc 157), some ((.loc 155), false), []⟩,
  ⟨.var 159, .pick (.loc 155) (.const (.d (.bool true))) (.loc 158), none, []⟩] false
def c_internal_strconv_ParseUint_53 : ACode := .reg [⟨.loc 160, .mv (.var 11), none, []⟩,
  ⟨.loc 161, .mkI 121 (.const (.d (.int .i64 1))), none, []⟩,
  ⟨.var 6, .mv (.loc 160), none, []⟩,
  ⟨.var 7, .mv (.loc 161), none, []⟩] false
def c_internal_strconv_ParseUint_54 : ACode := .reg [⟨.loc 162, .mv (.var 17), none, []⟩,
  ⟨.var 13, .mv (.loc 162), none, []⟩] false
def c_internal_strconv_ParseUint_55 : ACode := .reg [⟨.loc 163, .bin .int .add (.var 101) (.const (.d (.int .i64 1))), none, []⟩,
  ⟨.var 101, .mv (.loc 163), none, []⟩] false
def c_internal_strconv_ParseUint_56 : ACode := (.seq c_internal_strconv_ParseUint_36 (.seq (.cond (.var 102) .skip (.exit 3)) (.seq (.block 4 (.seq c_internal_strconv_ParseUint_37 (.seq c_internal_strconv_ParseUint_38 (.seq (.block 5 (.seq c_internal_strconv_ParseUint_39 (.cond (.var 106) (.seq c_internal_strconv_ParseUint_40 (.exit 4)) (.seq c_internal_strconv_ParseUint_41 (.cond (.var 112) c_internal_strconv_ParseUint_42 (.seq c_internal_strconv_ParseUint_43 (.cond (.var 121) c_internal_strconv_ParseUint_44 (.seq c_internal_strconv_ParseUint_45 .ret)))))))) (.seq (.seq c_internal_strconv_ParseUint_46 (.cond (.var 137) (.seq c_internal_strconv_ParseUint_47 .ret) .skip)) (.seq (.seq c_internal_strconv_ParseUint_48 (.cond (.var 141) (.seq c_internal_strconv_ParseUint_49 .ret) .skip)) (.seq c_internal_strconv_ParseUint_50 (.seq c_internal_strconv_ParseUint_51 (.seq (.seq c_internal_strconv_ParseUint_52 (.cond (.var 159) (.seq c_internal_strconv_ParseUint_53 .ret) .skip)) c_internal_strconv_ParseUint_54))))))))) c_internal_strconv_ParseUint_55)))
def c_internal_strconv_ParseUint_57 : ACode := .reg [⟨.loc 164, .mv (.var 12), none, []⟩,
  ⟨.loc 165, .split (.loc 164), none, []⟩,
  ⟨.loc 166, .mv (.var 9), some ((.loc 165), true), []⟩,
  ⟨.loc 167, .call (.fn 110) [(.loc 166)] [.borrow], some ((.loc 165), true), []⟩,
  ⟨.loc 168, .un .not (.loc 167), some ((.loc 165), true), []⟩,
  ⟨.var 169, .pick (.loc 165) (.loc 168) (.const (.d (.bool false))), none, []⟩] false
def c_internal_strconv_ParseUint_58 : ACode := .reg [⟨.loc 170, .mkI 121 (.const (.d (.int .i64 2))), none, []⟩,
  ⟨.var 6, .mv (.const (.d (.int .u64 0))), none, []⟩,
  ⟨.var 7, .mv (.loc 170), none, []⟩] false
def c_internal_strconv_ParseUint_59 : ACode := .reg [⟨.loc 171, .mv (.var 13), none, []⟩,
  ⟨.var 6, .mv (.loc 171), none, []⟩,
  ⟨.var 7, .mv (.const (.d (.err true))), none, []⟩] false
def c_internal_strconv_ParseUint : ACode := (.seq c_internal_strconv_ParseUint_0 (.seq (.seq c_internal_strconv_ParseUint_1 (.cond (.var 19) (.seq c_internal_strconv_ParseUint_2 .ret) .skip)) (.seq c_internal_strconv_ParseUint_3 (.seq c_internal_strconv_ParseUint_4 (.seq (.block 0 (.seq c_internal_strconv_ParseUint_5 (.cond (.var 25) .skip (.seq c_internal_strconv_ParseUint_6 (.cond (.var 32) (.seq c_internal_strconv_ParseUint_7 (.seq c_internal_strconv_ParseUint_8 (.cond (.var 37) (.block 1 (.seq c_internal_strconv_ParseUint_9 (.cond (.var 40) (.seq c_internal_strconv_ParseUint_10 c_internal_strconv_ParseUint_11) (.seq c_internal_strconv_ParseUint_12 (.cond (.var 52) (.seq c_internal_strconv_ParseUint_13 c_internal_strconv_ParseUint_14) (.seq c_internal_strconv_ParseUint_15 (.cond (.var 64) (.seq c_internal_strconv_ParseUint_16 c_internal_strconv_ParseUint_17) (.seq c_internal_strconv_ParseUint_18 c_internal_strconv_ParseUint_19)))))))) .skip))) (.seq c_internal_strconv_ParseUint_20 .ret)))))) (.seq (.seq c_internal_strconv_ParseUint_21 (.cond (.var 77) c_internal_strconv_ParseUint_22 (.seq c_internal_strconv_ParseUint_23 (.cond (.var 83) (.seq c_internal_strconv_ParseUint_24 .ret) .skip)))) (.seq c_internal_strconv_ParseUint_25 (.seq (.seq c_internal_strconv_ParseUint_26 (.block 2 (.seq c_internal_strconv_ParseUint_27 (.cond (.var 90) c_internal_strconv_ParseUint_28 (.seq c_internal_strconv_ParseUint_29 (.cond (.var 92) c_internal_strconv_ParseUint_30 c_internal_strconv_ParseUint_31)))))) (.seq c_internal_strconv_ParseUint_32 (.seq c_internal_strconv_ParseUint_33 (.seq c_internal_strconv_ParseUint_34 (.seq (.seq c_internal_strconv_ParseUint_35 (.block 3 (.loop [1, 8, 9, 10, 11, 12, 13, 99, 100, 101] c_internal_strconv_ParseUint_56))) (.seq (.seq c_internal_strconv_ParseUint_57 (.cond (.var 169) (.seq c_internal_strconv_ParseUint_58 .ret) .skip)) (.seq c_internal_strconv_ParseUint_59 .ret))))))))))))))

abbrev F_internal_strconv_ParseUint : FuncId := 85

theorem k_internal_strconv_ParseUint : comp PP (Tryd.f85.ntmps, pinOf 0 [none, none, none]) [0, 1, 2, 6, 7, 8, 9, 10, 11, 12, 13, 15, 16, 17, 19, 25, 32, 37, 40, 52, 64, 77, 83, 85, 90, 92, 99, 100, 101, 102, 106, 112, 121, 137, 141, 159, 169] (Tryd.f85.body.getD .skip) = some c_internal_strconv_ParseUint.erase := by kernel_rfl

theorem v_internal_strconv_ParseUint {GG : GV} (rcs : List C) {cs : List C} {r : C} {os : List (Option C)} (hN : (cs.length == 3 && rcs.length == 2) = true) (hret : retOf rcs = r)
    (hW : W PP [0, 1, 2, 6, 7, 8, 9, 10, 11, 12, 13, 15, 16, 17, 19, 25, 32, 37, 40, 52, 64, 77, 83, 85, 90, 92, 99, 100, 101, 102, 106, 112, 121, 137, 141, 159, 169] (Tryd.f85.ntmps, pinOf 0 [none, none, none]) (Valid PP GG) c_internal_strconv_ParseUint (entry cs) (Fin (Valid PP GG) [(.give, 6, none), (.give, 7, none)] [none, none, none] rcs os) (fun _ _ => False) (Fin (Valid PP GG) [(.give, 6, none), (.give, 7, none)] [none, none, none] rcs os)) : Valid PP GG F_internal_strconv_ParseUint cs r os :=
  fn_valid_n 3 2 [0, 1, 2, 6, 7, 8, 9, 10, 11, 12, 13, 15, 16, 17, 19, 25, 32, 37, 40, 52, 64, 77, 83, 85, 90, 92, 99, 100, 101, 102, 106, 112, 121, 137, 141, 159, 169] c_internal_strconv_ParseUint [(.give, 6, none), (.give, 7, none)] [none, none, none] rcs Tryd.func85 rfl rfl (by kernel_rfl) k_internal_strconv_ParseUint rfl rfl hN hret hW


/-
internal/strconv.lower  params 1+0 results [2]
  seq  mid=[0]
    c_internal_strconv_lower_0
    seq  mid=[2]
      c_internal_strconv_lower_1
      ret
-/
def c_internal_strconv_lower_0 : ACode := .reg [⟨.var 2, .mv (.const (.d (.int .u8 0))), none, []⟩] false
def c_internal_strconv_lower_1 : ACode := .reg [⟨.loc 3, .mv (.var 0), none, []⟩,
  ⟨.loc 4, .bin .int .or (.loc 3) (.const (.d (.int .u8 32))), none, []⟩,
  ⟨.var 2, .mv (.loc 4), none, []⟩] false
def c_internal_strconv_lower : ACode := (.seq c_internal_strconv_lower_0 (.seq c_internal_strconv_lower_1 .ret))

abbrev F_internal_strconv_lower : FuncId := 109

theorem k_internal_strconv_lower : comp PP (Tryd.f109.ntmps, pinOf 0 [none]) [0, 2] (Tryd.f109.body.getD .skip) = some c_internal_strconv_lower.erase := by kernel_rfl

theorem v_internal_strconv_lower {GG : GV} (rcs : List C) {cs : List C} {r : C} {os : List (Option C)} (hN : (cs.length == 1 && rcs.length == 1) = true) (hret : retOf rcs = r)
    (hW : W PP [0, 2] (Tryd.f109.ntmps, pinOf 0 [none]) (Valid PP GG) c_internal_strconv_lower (entry cs) (Fin (Valid PP GG) [(.give, 2, none)] [none] rcs os) (fun _ _ => False) (Fin (Valid PP GG) [(.give, 2, none)] [none] rcs os)) : Valid PP GG F_internal_strconv_lower cs r os :=
  fn_valid_n 1 1 [0, 2] c_internal_strconv_lower [(.give, 2, none)] [none] rcs Tryd.func109 rfl rfl (by kernel_rfl) k_internal_strconv_lower rfl rfl hN hret hW


end Go.Proofs.YtpbofdbleajagaaDoor.Ab
