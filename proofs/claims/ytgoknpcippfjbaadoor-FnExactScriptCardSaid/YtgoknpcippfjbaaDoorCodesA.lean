/-
  A part of a proof about the given program; what is proved is said where each theorem stands.
-/
import Derived.Lib.LaidTab
import Derived.Lib.ItoaLen
import Derived.Shelf.Strconv.Itoa3
import Derived.KernelRfl
import Derived.Test.YtgoknpcippfjbaaDoorProg
import Derived.Test.YtgoknpcippfjbaaDoorFrameA
import Derived.Test.YtgoknpcippfjbaaDoorFrameB
import Derived.Test.YtgoknpcippfjbaaDoorFrameC
import Derived.Test.YtgoknpcippfjbaaDoorFrameD
import Derived.Test.YtgoknpcippfjbaaDoorFrameE
import Derived.Test.YtgoknpcippfjbaaDoorShelf
namespace Go.Proofs.YtgoknpcippfjbaaDoor.Ab
open Go.Proofs
noncomputable abbrev PP : Program := Tryd.prog
/-- The table of powers of ten that the library's number texts lean on. -/
def pow10Cells : Obj → Prop
  | .cells cs _ _ => cs = (Lib.pow10Tab.map fun z => Value.int .u64 z).toArray
  | _ => False
class P10 (GG : GV) : Prop where
  h : GG 0 = some pow10Cells
/-- An error variable: nil or an error. -/
def errCell : Obj → Prop
  | .cells cs _ _ => ∃ ev, cs[0]? = some ev ∧ (ev = .nilIface ∨ ∃ te pe, ev = .iface te pe)
  | _ => False
/-- A number variable. -/
def intCell : Obj → Prop
  | .cells cs _ _ => ∃ m : Int, cs[0]? = some (.int .i64 m)
  | _ => False
class ESyn (GG : GV) : Prop where
  h : GG 4 = some errCell
class MaxL (GG : GV) : Prop where
  h : GG 1 = some intCell
class ERng (GG : GV) : Prop where
  h : GG 5 = some errCell
def c_L_FnExactScript_0 : ACode := .reg [⟨.var 2, .mv (.const (.d (.bool false))), none, []⟩] false
def c_L_FnExactScript_1 : ACode := .reg [⟨.var 3, .mv (.const (.d (.int .i64 1048576))), none, []⟩] false
def c_L_FnExactScript_2 : ACode := .reg [⟨.loc 9, .mv (.var 0), none, []⟩,
  ⟨.loc 10, .mv (.var 3), none, []⟩,
  ⟨.loc 11, .call (.fn 4) [(.loc 9), (.loc 10)] [.borrow, .borrow], none, []⟩,
  ⟨.var 3, .mv (.loc 11), none, []⟩] false
def c_L_FnExactScript_3 : ACode := .reg [⟨.loc 12, .mv (.var 3), none, []⟩,
  ⟨.var 13, .bin .int .lss (.loc 12) (.const (.d (.int .i64 0))), none, []⟩] false
def c_L_FnExactScript_4 : ACode := .reg [⟨.var 2, .mv (.const (.d (.bool true))), none, []⟩] false
def c_L_FnExactScript_5 : ACode := .reg [⟨.loc 15, .mv (.var 0), none, []⟩,
  ⟨.loc 16, .call (.fn 6) [(.loc 15)] [.borrow], none, []⟩,
  ⟨.loc 17, .call (.fn 5) [(.loc 16)] [.borrow], none, []⟩,
  ⟨.loc 14, .mv (.loc 17), none, []⟩,
  ⟨.loc 18, .ext (.loc 14) 0, none, []⟩,
  ⟨.loc 19, .ext (.loc 14) 1, none, []⟩,
  ⟨.var 4, .mv (.loc 18), none, []⟩,
  ⟨.var 5, .mv (.loc 19), none, []⟩] false
def c_L_FnExactScript_6 : ACode := .reg [⟨.loc 20, .mv (.var 0), none, []⟩,
  ⟨.loc 21, .call (.fn 6) [(.loc 20)] [.borrow], none, []⟩,
  ⟨.var 6, .mv (.loc 21), none, []⟩] false
def c_L_FnExactScript_7 : ACode := .reg [⟨.loc 23, .mv (.var 6), none, []⟩,
  ⟨.loc 24, .call (.fn 7) [(.loc 23)] [.borrow], none, []⟩,
  ⟨.loc 22, .mv (.loc 24), none, []⟩,
  ⟨.loc 25, .ext (.loc 22) 0, none, []⟩,
  ⟨.loc 26, .ext (.loc 22) 1, none, []⟩,
  ⟨.var 7, .mv (.loc 25), none, []⟩,
  ⟨.var 8, .mv (.loc 26), none, []⟩] false
def c_L_FnExactScript_8 : ACode := .reg [⟨.loc 27, .mv (.var 7), none, []⟩,
  ⟨.loc 28, .mv (.var 4), none, []⟩,
  ⟨.loc 29, .bin .str .neq (.loc 27) (.loc 28), none, []⟩,
  ⟨.loc 30, .split (.loc 29), none, []⟩,
  ⟨.loc 31, .mv (.var 8), some ((.loc 30), false), []⟩,
  ⟨.loc 32, .mv (.var 5), some ((.loc 30), false), []⟩,
  ⟨.loc 33, .bin .bool .neq (.loc 31) (.loc 32), some ((.loc 30), false), []⟩,
  ⟨.var 34, .pick (.loc 30) (.const (.d (.bool true))) (.loc 33), none, []⟩] false
def c_L_FnExactScript_9 : ACode := .reg [⟨.var 2, .mv (.const (.d (.bool false))), none, []⟩] false
def c_L_FnExactScript_10 : ACode := .reg [⟨.loc 35, .mv (.var 6), none, []⟩,
  ⟨.loc 36, .mv (.var 0), none, []⟩,
  ⟨.loc 37, .call (.fn 6) [(.loc 36)] [.borrow], none, []⟩,
  ⟨.loc 38, .call (.fn 8) [(.loc 35), (.loc 37)] [.borrow, .borrow], none, []⟩,
  ⟨.var 39, .un .not (.loc 38), none, []⟩] false
def c_L_FnExactScript_11 : ACode := .reg [⟨.var 2, .mv (.const (.d (.bool false))), none, []⟩] false
def c_L_FnExactScript_12 : ACode := .reg [⟨.var 2, .mv (.const (.d (.bool true))), none, []⟩] false
def c_L_FnExactScript : ACode := (.seq c_L_FnExactScript_0 (.seq c_L_FnExactScript_1 (.seq c_L_FnExactScript_2 (.seq (.seq c_L_FnExactScript_3 (.cond (.var 13) (.seq c_L_FnExactScript_4 .ret) .skip)) (.seq c_L_FnExactScript_5 (.seq c_L_FnExactScript_6 (.seq c_L_FnExactScript_7 (.seq (.seq c_L_FnExactScript_8 (.cond (.var 34) (.seq c_L_FnExactScript_9 .ret) .skip)) (.seq (.seq c_L_FnExactScript_10 (.cond (.var 39) (.seq c_L_FnExactScript_11 .ret) .skip)) (.seq c_L_FnExactScript_12 .ret))))))))))
abbrev F_L_FnExactScript : FuncId := 3
theorem k_L_FnExactScript : comp PP (Tryd.f3.ntmps, pinOf 0 [none]) [0, 2, 3, 4, 5, 6, 7, 8, 13, 34, 39] (Tryd.f3.body.getD .skip) = some c_L_FnExactScript.erase := by kernel_rfl
theorem v_L_FnExactScript {GG : GV} (rcs : List C) {cs : List C} {r : C} {os : List (Option C)} (hN : (cs.length == 1 && rcs.length == 1) = true) (hret : retOf rcs = r)
    (hW : W PP [0, 2, 3, 4, 5, 6, 7, 8, 13, 34, 39] (Tryd.f3.ntmps, pinOf 0 [none]) (Valid PP GG) c_L_FnExactScript (entry cs) (Fin (Valid PP GG) [(.give, 2, none)] [none] rcs os) (fun _ _ => False) (Fin (Valid PP GG) [(.give, 2, none)] [none] rcs os)) : Valid PP GG F_L_FnExactScript cs r os :=
  fn_valid_n 1 1 [0, 2, 3, 4, 5, 6, 7, 8, 13, 34, 39] c_L_FnExactScript [(.give, 2, none)] [none] rcs Tryd.func3 rfl rfl (by kernel_rfl) k_L_FnExactScript rfl rfl hN hret hW
def c_L_szReqS_0 : ACode := .reg [⟨.var 4, .mv (.const (.d (.int .i64 0))), none, []⟩] false
def c_L_szReqS_1 : ACode := .reg [⟨.loc 6, .mv (.var 1), none, []⟩,
  ⟨.loc 7, .mv (.var 0), none, []⟩,
  ⟨.loc 8, .len false (.loc 7), none, []⟩,
  ⟨.loc 9, .bin .int .sub (.loc 6) (.loc 8), none, []⟩,
  ⟨.var 1, .mv (.loc 9), none, []⟩] false
def c_L_szReqS_2 : ACode := .reg [⟨.loc 10, .mv (.var 1), none, []⟩,
  ⟨.var 11, .bin .int .lss (.loc 10) (.const (.d (.int .i64 0))), none, []⟩] false
def c_L_szReqS_3 : ACode := .reg [⟨.var 4, .mv (.const (.d (.int .i64 (-1)))), none, []⟩] false
def c_L_szReqS_4 : ACode := .reg [⟨.var 5, .mv (.const (.d (.int .i64 0))), none, []⟩] false
def c_L_szReqS_5 : ACode := .reg [⟨.loc 12, .mv (.var 5), none, []⟩,
  ⟨.loc 13, .mv (.var 0), none, []⟩,
  ⟨.loc 14, .len false (.loc 13), none, []⟩,
  ⟨.var 15, .bin .int .lss (.loc 12) (.loc 14), none, []⟩] false
def c_L_szReqS_6 : ACode := .reg [⟨.loc 18, .mv (.var 0), none, []⟩,
  ⟨.loc 19, .mv (.var 5), none, []⟩,
  ⟨.loc 20, .idxA 6 (.loc 18) (.loc 19), none, []⟩,
  ⟨.loc 21, .load true 6 (.loc 20), none, []⟩,
  ⟨.loc 22, .mv (.var 1), none, []⟩,
  ⟨.loc 23, .call (.fn 9) [(.loc 21), (.loc 22)] [.borrow, .borrow], none, []⟩,
  ⟨.var 1, .mv (.loc 23), none, []⟩] false
def c_L_szReqS_7 : ACode := .reg [⟨.loc 24, .mv (.var 1), none, []⟩,
  ⟨.var 25, .bin .int .lss (.loc 24) (.const (.d (.int .i64 0))), none, []⟩] false
def c_L_szReqS_8 : ACode := .reg [⟨.var 4, .mv (.const (.d (.int .i64 (-1)))), none, []⟩] false
def c_L_szReqS_9 : ACode := .reg [⟨.loc 16, .mv (.var 5), none, []⟩,
  ⟨.loc 17, .bin .int .add (.loc 16) (.const (.d (.int .i64 1))), none, []⟩,
  ⟨.var 5, .mv (.loc 17), none, []⟩] false
def c_L_szReqS_10 : ACode := (.seq (.seq c_L_szReqS_5 (.cond (.var 15) .skip (.exit 0))) (.seq (.block 1 (.seq c_L_szReqS_6 (.seq c_L_szReqS_7 (.cond (.var 25) (.seq c_L_szReqS_8 .ret) .skip)))) c_L_szReqS_9))
def c_L_szReqS_11 : ACode := .reg [⟨.loc 26, .mv (.var 1), none, []⟩,
  ⟨.var 4, .mv (.loc 26), none, []⟩] false
def c_L_szReqS : ACode := (.seq c_L_szReqS_0 (.seq c_L_szReqS_1 (.seq (.seq c_L_szReqS_2 (.cond (.var 11) (.seq c_L_szReqS_3 .ret) .skip)) (.seq (.seq c_L_szReqS_4 (.block 0 (.loop [0, 1, 5] c_L_szReqS_10))) (.seq c_L_szReqS_11 .ret)))))
abbrev F_L_szReqS : FuncId := 4
theorem k_L_szReqS : comp PP (Tryd.f4.ntmps, pinOf 0 [none, none]) [0, 1, 4, 5, 11, 15, 25] (Tryd.f4.body.getD .skip) = some c_L_szReqS.erase := by kernel_rfl
theorem v_L_szReqS {GG : GV} (rcs : List C) {cs : List C} {r : C} {os : List (Option C)} (hN : (cs.length == 2 && rcs.length == 1) = true) (hret : retOf rcs = r)
    (hW : W PP [0, 1, 4, 5, 11, 15, 25] (Tryd.f4.ntmps, pinOf 0 [none, none]) (Valid PP GG) c_L_szReqS (entry cs) (Fin (Valid PP GG) [(.give, 4, none)] [none, none] rcs os) (fun _ _ => False) (Fin (Valid PP GG) [(.give, 4, none)] [none, none] rcs os)) : Valid PP GG F_L_szReqS cs r os :=
  fn_valid_n 2 1 [0, 1, 4, 5, 11, 15, 25] c_L_szReqS [(.give, 4, none)] [none, none] rcs Tryd.func4 rfl rfl (by kernel_rfl) k_L_szReqS rfl rfl hN hret hW
def c_S_Script_0 : ACode := .reg [⟨.var 2, .mv (.const (.d (.str []))), none, []⟩,
  ⟨.var 3, .mv (.const (.d (.bool false))), none, []⟩] false
def c_S_Script_1 : ACode := .reg [⟨.var 4, .mv (.const (.d (.str []))), none, []⟩] false
def c_S_Script_2 : ACode := .reg [⟨.loc 8, .mv (.var 0), none, []⟩,
  ⟨.loc 9, .len false (.loc 8), none, []⟩,
  ⟨.var 10, .bin .int .gtr (.loc 9) (.const (.d (.int .i64 120))), none, []⟩] false
def c_S_Script_3 : ACode := .reg [⟨.var 2, .mv (.const (.d (.str []))), none, []⟩,
  ⟨.var 3, .mv (.const (.d (.bool false))), none, []⟩] false
def c_S_Script_4 : ACode := .reg [⟨.var 5, .mv (.const (.d (.int .i64 0))), none, []⟩] false
def c_S_Script_5 : ACode := .reg [⟨.loc 11, .mv (.var 5), none, []⟩,
  ⟨.loc 12, .mv (.var 0), none, []⟩,
  ⟨.loc 13, .len false (.loc 12), none, []⟩,
  ⟨.var 14, .bin .int .lss (.loc 11) (.loc 13), none, []⟩] false
def c_S_Script_6 : ACode := .reg [⟨.loc 18, .mv (.var 0), none, []⟩,
  ⟨.loc 19, .mv (.var 5), none, []⟩,
  ⟨.loc 20, .idxA 6 (.loc 18) (.loc 19), none, []⟩,
  ⟨.loc 21, .load true 6 (.loc 20), none, []⟩,
  ⟨.loc 22, .call (.fn 10) [(.loc 21)] [.borrow], none, []⟩,
  ⟨.loc 17, .mv (.loc 22), none, []⟩,
  ⟨.loc 23, .ext (.loc 17) 0, none, []⟩,
  ⟨.loc 24, .ext (.loc 17) 1, none, []⟩,
  ⟨.var 6, .mv (.loc 23), none, []⟩,
  ⟨.var 7, .mv (.loc 24), none, []⟩] false
def c_S_Script_7 : ACode := .reg [⟨.loc 25, .mv (.var 7), none, []⟩,
  ⟨.loc 26, .un .not (.loc 25), none, []⟩,
  ⟨.loc 27, .split (.loc 26), none, []⟩,
  ⟨.loc 28, .mv (.var 6), some ((.loc 27), false), []⟩,
  ⟨.loc 29, .len true (.loc 28), some ((.loc 27), false), []⟩,
  ⟨.loc 30, .bin .int .add (.loc 29) (.const (.d (.int .i64 1))), some ((.loc 27), false), []⟩,
  ⟨.loc 31, .mv (.var 4), some ((.loc 27), false), []⟩,
  ⟨.loc 32, .len true (.loc 31), some ((.loc 27), false), []⟩,
  ⟨.loc 33, .bin .int .sub (.const (.d (.int .i64 5000))) (.loc 32), some ((.loc 27), false), []⟩,
  ⟨.loc 34, .bin .int .gtr (.loc 30) (.loc 33), some ((.loc 27), false), []⟩,
  ⟨.var 35, .pick (.loc 27) (.const (.d (.bool true))) (.loc 34), none, []⟩] false
def c_S_Script_8 : ACode := .reg [⟨.var 2, .mv (.const (.d (.str []))), none, []⟩,
  ⟨.var 3, .mv (.const (.d (.bool false))), none, []⟩] false
def c_S_Script_9 : ACode := .reg [⟨.loc 36, .mv (.var 4), none, []⟩,
  ⟨.loc 37, .mv (.var 6), none, []⟩,
  ⟨.loc 38, .bin .str .add (.loc 36) (.loc 37), none, []⟩,
  ⟨.loc 39, .bin .str .add (.loc 38) (.const (.d (.str [10]))), none, []⟩,
  ⟨.var 4, .mv (.loc 39), none, []⟩] false
def c_S_Script_10 : ACode := .reg [⟨.loc 15, .mv (.var 5), none, []⟩,
  ⟨.loc 16, .bin .int .add (.loc 15) (.const (.d (.int .i64 1))), none, []⟩,
  ⟨.var 5, .mv (.loc 16), none, []⟩] false
def c_S_Script_11 : ACode := (.seq (.seq c_S_Script_5 (.cond (.var 14) .skip (.exit 0))) (.seq (.block 1 (.seq c_S_Script_6 (.seq (.seq c_S_Script_7 (.cond (.var 35) (.seq c_S_Script_8 .ret) .skip)) c_S_Script_9))) c_S_Script_10))
def c_S_Script_12 : ACode := .reg [⟨.loc 40, .mv (.var 4), none, []⟩,
  ⟨.var 2, .mv (.loc 40), none, []⟩,
  ⟨.var 3, .mv (.const (.d (.bool true))), none, []⟩] false
def c_S_Script : ACode := (.seq c_S_Script_0 (.seq c_S_Script_1 (.seq (.seq c_S_Script_2 (.cond (.var 10) (.seq c_S_Script_3 .ret) .skip)) (.seq (.seq c_S_Script_4 (.block 0 (.loop [0, 4, 5] c_S_Script_11))) (.seq c_S_Script_12 .ret)))))
abbrev F_S_Script : FuncId := 5
theorem k_S_Script : comp PP (Tryd.f5.ntmps, pinOf 0 [none]) [0, 2, 3, 4, 5, 6, 7, 10, 14, 35] (Tryd.f5.body.getD .skip) = some c_S_Script.erase := by kernel_rfl
theorem v_S_Script {GG : GV} (rcs : List C) {cs : List C} {r : C} {os : List (Option C)} (hN : (cs.length == 1 && rcs.length == 2) = true) (hret : retOf rcs = r)
    (hW : W PP [0, 2, 3, 4, 5, 6, 7, 10, 14, 35] (Tryd.f5.ntmps, pinOf 0 [none]) (Valid PP GG) c_S_Script (entry cs) (Fin (Valid PP GG) [(.give, 2, none), (.give, 3, none)] [none] rcs os) (fun _ _ => False) (Fin (Valid PP GG) [(.give, 2, none), (.give, 3, none)] [none] rcs os)) : Valid PP GG F_S_Script cs r os :=
  fn_valid_n 1 2 [0, 2, 3, 4, 5, 6, 7, 10, 14, 35] c_S_Script [(.give, 2, none), (.give, 3, none)] [none] rcs Tryd.func5 rfl rfl (by kernel_rfl) k_S_Script rfl rfl hN hret hW
def c_L_toReqS_0 : ACode := .reg [⟨.var 2, .mv (.const (.nil 0 6)), none, []⟩] false
def c_L_toReqS_1 : ACode := .reg [⟨.loc 5, .mv (.var 0), none, []⟩,
  ⟨.loc 6, .len false (.loc 5), none, []⟩,
  ⟨.loc 7, .mkslice 0 6 72 [.int .i64 0, .int .i64 0, .str [], .str [], .str [], .int .i64 0] (.loc 6) (.loc 6), none, []⟩,
  ⟨.var 3, .mv (.loc 7), none, []⟩] false
def c_L_toReqS_2 : ACode := .reg [⟨.var 4, .mv (.const (.d (.int .i64 0))), none, []⟩] false
def c_L_toReqS_3 : ACode := .reg [⟨.loc 8, .mv (.var 4), none, []⟩,
  ⟨.loc 9, .mv (.var 0), none, []⟩,
  ⟨.loc 10, .len false (.loc 9), none, []⟩,
  ⟨.var 11, .bin .int .lss (.loc 8) (.loc 10), none, []⟩] false
def c_L_toReqS_4 : ACode := .reg [⟨.loc 14, .mv (.var 3), none, []⟩,
  ⟨.loc 15, .mv (.var 4), none, []⟩,
  ⟨.loc 16, .mv (.var 0), none, []⟩,
  ⟨.loc 17, .mv (.var 4), none, []⟩,
  ⟨.loc 18, .idxA 6 (.loc 16) (.loc 17), none, []⟩,
  ⟨.loc 19, .load true 6 (.loc 18), none, []⟩,
  ⟨.loc 20, .call (.fn 11) [(.loc 19)] [.borrow], none, []⟩,
  ⟨.loc 21, .idxA 6 (.loc 14) (.loc 15), none, []⟩,
  ⟨.none, .store 6 (.loc 21) (.loc 20), none, []⟩] false
def c_L_toReqS_5 : ACode := .reg [⟨.loc 12, .mv (.var 4), none, []⟩,
  ⟨.loc 13, .bin .int .add (.loc 12) (.const (.d (.int .i64 1))), none, []⟩,
  ⟨.var 4, .mv (.loc 13), none, []⟩] false
def c_L_toReqS_6 : ACode := (.seq (.seq c_L_toReqS_3 (.cond (.var 11) .skip (.exit 0))) (.seq (.block 1 c_L_toReqS_4) c_L_toReqS_5))
def c_L_toReqS_7 : ACode := .reg [⟨.loc 22, .mv (.var 3), none, []⟩,
  ⟨.var 2, .mv (.loc 22), none, []⟩] false
def c_L_toReqS : ACode := (.seq c_L_toReqS_0 (.seq c_L_toReqS_1 (.seq (.seq c_L_toReqS_2 (.block 0 (.loop [0, 3, 4] c_L_toReqS_6))) (.seq c_L_toReqS_7 .ret))))
abbrev F_L_toReqS : FuncId := 6
theorem k_L_toReqS : comp PP (Tryd.f6.ntmps, pinOf 0 [none]) [0, 2, 3, 4, 11] (Tryd.f6.body.getD .skip) = some c_L_toReqS.erase := by kernel_rfl
theorem v_L_toReqS {GG : GV} (rcs : List C) {cs : List C} {r : C} {os : List (Option C)} (hN : (cs.length == 1 && rcs.length == 1) = true) (hret : retOf rcs = r)
    (hW : W PP [0, 2, 3, 4, 11] (Tryd.f6.ntmps, pinOf 0 [none]) (Valid PP GG) c_L_toReqS (entry cs) (Fin (Valid PP GG) [(.give, 2, none)] [none] rcs os) (fun _ _ => False) (Fin (Valid PP GG) [(.give, 2, none)] [none] rcs os)) : Valid PP GG F_L_toReqS cs r os :=
  fn_valid_n 1 1 [0, 2, 3, 4, 11] c_L_toReqS [(.give, 2, none)] [none] rcs Tryd.func6 rfl rfl (by kernel_rfl) k_L_toReqS rfl rfl hN hret hW
def c_I_Script_0 : ACode := .reg [⟨.var 2, .mv (.const (.d (.str []))), none, []⟩,
  ⟨.var 3, .mv (.const (.d (.bool false))), none, []⟩] false
def c_I_Script_1 : ACode := .reg [⟨.loc 9, .mv (.var 0), none, []⟩,
  ⟨.loc 10, .len false (.loc 9), none, []⟩,
  ⟨.var 11, .bin .int .gtr (.loc 10) (.const (.d (.int .i64 120))), none, []⟩] false
def c_I_Script_2 : ACode := .reg [⟨.var 2, .mv (.const (.d (.str []))), none, []⟩,
  ⟨.var 3, .mv (.const (.d (.bool false))), none, []⟩] false
def c_I_Script_3 : ACode := .reg [⟨.var 4, .bad, none, []⟩] false
def c_I_Script_4 : ACode := .reg [⟨.var 12, .mv (.var 0), none, []⟩,
  ⟨.var 13, .len false (.var 12), none, []⟩,
  ⟨.var 14, .mv (.const (.d (.int .i64 0))), none, []⟩] false
def c_I_Script_5 : ACode := .reg [⟨.var 15, .bin .int .lss (.var 14) (.var 13), none, []⟩] false
def c_I_Script_6 : ACode := .reg [⟨.loc 16, .idxA 6 (.var 12) (.var 14), none, []⟩,
  ⟨.loc 17, .load true 6 (.loc 16), none, []⟩,
  ⟨.var 6, .alloc [.d (.int .i64 0), .d (.int .i64 0), .d (.str []), .d (.str []), .d (.str []), .d (.int .i64 0)], none, []⟩,
  ⟨.none, .store 6 (.var 6) (.loc 17), none, []⟩] false
def c_I_Script_7 : ACode := .reg [⟨.loc 19, .load true 6 (.var 6), none, []⟩,
  ⟨.loc 20, .call (.fn 12) [(.loc 19)] [.borrow], none, []⟩,
  ⟨.loc 18, .mv (.loc 20), none, []⟩,
  ⟨.loc 21, .ext (.loc 18) 0, none, []⟩,
  ⟨.loc 22, .ext (.loc 18) 1, none, []⟩,
  ⟨.var 7, .mv (.loc 21), none, []⟩,
  ⟨.var 8, .mv (.loc 22), none, []⟩] false
def c_I_Script_8 : ACode := .reg [⟨.loc 23, .mv (.var 8), none, []⟩,
  ⟨.loc 24, .un .not (.loc 23), none, []⟩,
  ⟨.loc 25, .split (.loc 24), none, []⟩,
  ⟨.loc 26, .call (.fn 13) [(.var 4)] [.borrow], some ((.loc 25), false), []⟩,
  ⟨.loc 27, .mv (.var 7), some ((.loc 25), false), []⟩,
  ⟨.loc 28, .len true (.loc 27), some ((.loc 25), false), []⟩,
  ⟨.loc 29, .bin .int .add (.loc 26) (.loc 28), some ((.loc 25), false), []⟩,
  ⟨.loc 30, .bin .int .geq (.loc 29) (.const (.d (.int .i64 5000))), some ((.loc 25), false), []⟩,
  ⟨.var 31, .pick (.loc 25) (.const (.d (.bool true))) (.loc 30), none, []⟩] false
def c_I_Script_9 : ACode := .reg [⟨.var 2, .mv (.const (.d (.str []))), none, []⟩,
  ⟨.var 3, .mv (.const (.d (.bool false))), none, []⟩] false
def c_I_Script_10 : ACode := .reg [⟨.loc 32, .mv (.var 7), none, []⟩,
  ⟨.loc 33, .bin .str .add (.loc 32) (.const (.d (.str [10]))), none, []⟩,
  ⟨.loc 34, .call (.fn 14) [(.var 4), (.loc 33)] [.borrow, .borrow], none, []⟩] false
def c_I_Script_11 : ACode := .reg [⟨.loc 35, .bin .int .add (.var 14) (.const (.d (.int .i64 1))), none, []⟩,
  ⟨.var 14, .mv (.loc 35), none, []⟩] false
def c_I_Script_12 : ACode := (.seq c_I_Script_5 (.seq (.cond (.var 15) .skip (.exit 0)) (.seq (.block 1 (.seq c_I_Script_6 (.seq c_I_Script_7 (.seq (.seq c_I_Script_8 (.cond (.var 31) (.seq c_I_Script_9 .ret) .skip)) c_I_Script_10)))) c_I_Script_11)))
def c_I_Script_13 : ACode := .reg [⟨.loc 36, .call (.fn 15) [(.var 4)] [.borrow], none, []⟩,
  ⟨.var 2, .mv (.loc 36), none, []⟩,
  ⟨.var 3, .mv (.const (.d (.bool true))), none, []⟩] false
def c_I_Script : ACode := (.seq c_I_Script_0 (.seq (.seq c_I_Script_1 (.cond (.var 11) (.seq c_I_Script_2 .ret) .skip)) (.seq c_I_Script_3 (.seq (.seq c_I_Script_4 (.block 0 (.loop [4, 12, 13, 14] c_I_Script_12))) (.seq c_I_Script_13 .ret)))))
abbrev F_I_Script : FuncId := 7
theorem k_I_Script : comp PP (Tryd.f7.ntmps, pinOf 0 [none]) [0, 2, 3, 4, 6, 7, 8, 11, 12, 13, 14, 15, 31] (Tryd.f7.body.getD .skip) = some c_I_Script.erase := by kernel_rfl
theorem v_I_Script {GG : GV} (rcs : List C) {cs : List C} {r : C} {os : List (Option C)} (hN : (cs.length == 1 && rcs.length == 2) = true) (hret : retOf rcs = r)
    (hW : W PP [0, 2, 3, 4, 6, 7, 8, 11, 12, 13, 14, 15, 31] (Tryd.f7.ntmps, pinOf 0 [none]) (Valid PP GG) c_I_Script (entry cs) (Fin (Valid PP GG) [(.give, 2, none), (.give, 3, none)] [none] rcs os) (fun _ _ => False) (Fin (Valid PP GG) [(.give, 2, none), (.give, 3, none)] [none] rcs os)) : Valid PP GG F_I_Script cs r os :=
  fn_valid_n 1 2 [0, 2, 3, 4, 6, 7, 8, 11, 12, 13, 14, 15, 31] c_I_Script [(.give, 2, none), (.give, 3, none)] [none] rcs Tryd.func7 rfl rfl (by kernel_rfl) k_I_Script rfl rfl hN hret hW
def c_L_eqReqS_0 : ACode := .reg [⟨.var 4, .mv (.const (.d (.bool false))), none, []⟩] false
def c_L_eqReqS_1 : ACode := .reg [⟨.loc 6, .mv (.var 0), none, []⟩,
  ⟨.loc 7, .len false (.loc 6), none, []⟩,
  ⟨.loc 8, .mv (.var 1), none, []⟩,
  ⟨.loc 9, .len false (.loc 8), none, []⟩,
  ⟨.var 10, .bin .int .neq (.loc 7) (.loc 9), none, []⟩] false
def c_L_eqReqS_2 : ACode := .reg [⟨.var 4, .mv (.const (.d (.bool false))), none, []⟩] false
def c_L_eqReqS_3 : ACode := .reg [⟨.var 5, .mv (.const (.d (.int .i64 0))), none, []⟩] false
def c_L_eqReqS_4 : ACode := .reg [⟨.loc 11, .mv (.var 5), none, []⟩,
  ⟨.loc 12, .mv (.var 0), none, []⟩,
  ⟨.loc 13, .len false (.loc 12), none, []⟩,
  ⟨.var 14, .bin .int .lss (.loc 11) (.loc 13), none, []⟩] false
def c_L_eqReqS_5 : ACode := .reg [⟨.loc 17, .mv (.var 0), none, []⟩,
  ⟨.loc 18, .mv (.var 5), none, []⟩,
  ⟨.loc 19, .idxA 6 (.loc 17) (.loc 18), none, [0, 1]⟩,
  ⟨.loc 20, .load true 6 (.loc 19), none, [2, 0, 1]⟩,
  ⟨.loc 21, .mv (.var 1), none, []⟩,
  ⟨.loc 22, .mv (.var 5), none, []⟩,
  ⟨.loc 23, .idxA 6 (.loc 21) (.loc 22), none, [4, 5]⟩,
  ⟨.loc 24, .load true 6 (.loc 23), none, [6, 4, 5]⟩,
  ⟨.loc 25, .call (.fn 16) [(.loc 20), (.loc 24)] [.borrow, .borrow], none, [3, 2, 0, 1, 7, 6, 4, 5]⟩,
  ⟨.var 26, .un .not (.loc 25), none, [8, 3, 2, 0, 1, 7, 6, 4, 5]⟩] true
def c_L_eqReqS_6 : ACode := .reg [⟨.var 4, .mv (.const (.d (.bool false))), none, []⟩] false
def c_L_eqReqS_7 : ACode := .reg [⟨.loc 15, .mv (.var 5), none, []⟩,
  ⟨.loc 16, .bin .int .add (.loc 15) (.const (.d (.int .i64 1))), none, []⟩,
  ⟨.var 5, .mv (.loc 16), none, []⟩] false
def c_L_eqReqS_8 : ACode := (.seq (.seq c_L_eqReqS_4 (.cond (.var 14) .skip (.exit 0))) (.seq (.block 1 (.seq c_L_eqReqS_5 (.cond (.var 26) (.seq c_L_eqReqS_6 .ret) .skip))) c_L_eqReqS_7))
def c_L_eqReqS_9 : ACode := .reg [⟨.var 4, .mv (.const (.d (.bool true))), none, []⟩] false
def c_L_eqReqS : ACode := (.seq c_L_eqReqS_0 (.seq (.seq c_L_eqReqS_1 (.cond (.var 10) (.seq c_L_eqReqS_2 .ret) .skip)) (.seq (.seq c_L_eqReqS_3 (.block 0 (.loop [0, 1, 5] c_L_eqReqS_8))) (.seq c_L_eqReqS_9 .ret))))
abbrev F_L_eqReqS : FuncId := 8
theorem k_L_eqReqS : comp PP (Tryd.f8.ntmps, pinOf 0 [none, none]) [0, 1, 4, 5, 10, 14, 26] (Tryd.f8.body.getD .skip) = some c_L_eqReqS.erase := by kernel_rfl
theorem v_L_eqReqS {GG : GV} (rcs : List C) {cs : List C} {r : C} {os : List (Option C)} (hN : (cs.length == 2 && rcs.length == 1) = true) (hret : retOf rcs = r)
    (hW : W PP [0, 1, 4, 5, 10, 14, 26] (Tryd.f8.ntmps, pinOf 0 [none, none]) (Valid PP GG) c_L_eqReqS (entry cs) (Fin (Valid PP GG) [(.give, 4, none)] [none, none] rcs os) (fun _ _ => False) (Fin (Valid PP GG) [(.give, 4, none)] [none, none] rcs os)) : Valid PP GG F_L_eqReqS cs r os :=
  fn_valid_n 2 1 [0, 1, 4, 5, 10, 14, 26] c_L_eqReqS [(.give, 4, none)] [none, none] rcs Tryd.func8 rfl rfl (by kernel_rfl) k_L_eqReqS rfl rfl hN hret hW
def c_L_szReq_0 : ACode := .reg [⟨.var 2, .box (.var 0), none, []⟩,
  ⟨.var 4, .mv (.const (.d (.int .i64 0))), none, []⟩] false
def c_L_szReq_1 : ACode := .reg [⟨.loc 5, .mv (.var 1), none, []⟩,
  ⟨.loc 6, .fld 2 (.var 2), none, []⟩,
  ⟨.loc 7, .load false 1 (.loc 6), none, []⟩,
  ⟨.loc 8, .len true (.loc 7), none, []⟩,
  ⟨.loc 9, .bin .int .sub (.loc 5) (.loc 8), none, []⟩,
  ⟨.var 1, .mv (.loc 9), none, []⟩] false
def c_L_szReq_2 : ACode := .reg [⟨.loc 10, .mv (.var 1), none, []⟩,
  ⟨.var 11, .bin .int .lss (.loc 10) (.const (.d (.int .i64 0))), none, []⟩] false
def c_L_szReq_3 : ACode := .reg [⟨.var 4, .mv (.const (.d (.int .i64 (-1)))), none, []⟩] false
def c_L_szReq_4 : ACode := .reg [⟨.loc 12, .mv (.var 1), none, []⟩,
  ⟨.loc 13, .fld 3 (.var 2), none, []⟩,
  ⟨.loc 14, .load false 1 (.loc 13), none, []⟩,
  ⟨.loc 15, .len true (.loc 14), none, []⟩,
  ⟨.loc 16, .bin .int .sub (.loc 12) (.loc 15), none, []⟩,
  ⟨.var 1, .mv (.loc 16), none, []⟩] false
def c_L_szReq_5 : ACode := .reg [⟨.loc 17, .mv (.var 1), none, []⟩,
  ⟨.var 18, .bin .int .lss (.loc 17) (.const (.d (.int .i64 0))), none, []⟩] false
def c_L_szReq_6 : ACode := .reg [⟨.var 4, .mv (.const (.d (.int .i64 (-1)))), none, []⟩] false
def c_L_szReq_7 : ACode := .reg [⟨.loc 19, .mv (.var 1), none, []⟩,
  ⟨.loc 20, .fld 4 (.var 2), none, []⟩,
  ⟨.loc 21, .load false 1 (.loc 20), none, []⟩,
  ⟨.loc 22, .len true (.loc 21), none, []⟩,
  ⟨.loc 23, .bin .int .sub (.loc 19) (.loc 22), none, []⟩,
  ⟨.var 1, .mv (.loc 23), none, []⟩] false
def c_L_szReq_8 : ACode := .reg [⟨.loc 24, .mv (.var 1), none, []⟩,
  ⟨.var 25, .bin .int .lss (.loc 24) (.const (.d (.int .i64 0))), none, []⟩] false
def c_L_szReq_9 : ACode := .reg [⟨.var 4, .mv (.const (.d (.int .i64 (-1)))), none, []⟩] false
def c_L_szReq_10 : ACode := .reg [⟨.loc 26, .mv (.var 1), none, []⟩,
  ⟨.var 4, .mv (.loc 26), none, []⟩] false
def c_L_szReq : ACode := (.seq c_L_szReq_0 (.seq c_L_szReq_1 (.seq (.seq c_L_szReq_2 (.cond (.var 11) (.seq c_L_szReq_3 .ret) .skip)) (.seq c_L_szReq_4 (.seq (.seq c_L_szReq_5 (.cond (.var 18) (.seq c_L_szReq_6 .ret) .skip)) (.seq c_L_szReq_7 (.seq (.seq c_L_szReq_8 (.cond (.var 25) (.seq c_L_szReq_9 .ret) .skip)) (.seq c_L_szReq_10 .ret))))))))
abbrev F_L_szReq : FuncId := 9
theorem k_L_szReq : comp PP (Tryd.f9.ntmps, pinOf 0 [none, none]) [0, 1, 2, 4, 11, 18, 25] (Tryd.f9.body.getD .skip) = some c_L_szReq.erase := by kernel_rfl
theorem v_L_szReq {GG : GV} (rcs : List C) {cs : List C} {r : C} {os : List (Option C)} (hN : (cs.length == 2 && rcs.length == 1) = true) (hret : retOf rcs = r)
    (hW : W PP [0, 1, 2, 4, 11, 18, 25] (Tryd.f9.ntmps, pinOf 0 [none, none]) (Valid PP GG) c_L_szReq (entry cs) (Fin (Valid PP GG) [(.give, 4, none)] [none, none] rcs os) (fun _ _ => False) (Fin (Valid PP GG) [(.give, 4, none)] [none, none] rcs os)) : Valid PP GG F_L_szReq cs r os :=
  fn_valid_n 2 1 [0, 1, 2, 4, 11, 18, 25] c_L_szReq [(.give, 4, none)] [none, none] rcs Tryd.func9 rfl rfl (by kernel_rfl) k_L_szReq rfl rfl hN hret hW
def c_S_ReqLine_0 : ACode := .reg [⟨.var 1, .box (.var 0), none, []⟩,
  ⟨.var 2, .mv (.const (.d (.str []))), none, []⟩,
  ⟨.var 3, .mv (.const (.d (.bool false))), none, []⟩] false
def c_S_ReqLine_1 : ACode := .reg [⟨.loc 11, .fld 2 (.var 1), none, []⟩,
  ⟨.loc 12, .load false 1 (.loc 11), none, []⟩,
  ⟨.loc 13, .len true (.loc 12), none, []⟩,
  ⟨.loc 14, .bin .int .gtr (.loc 13) (.const (.d (.int .i64 100))), none, []⟩,
  ⟨.loc 15, .split (.loc 14), none, []⟩,
  ⟨.loc 16, .fld 3 (.var 1), some ((.loc 15), false), []⟩,
  ⟨.loc 17, .load false 1 (.loc 16), some ((.loc 15), false), []⟩,
  ⟨.loc 18, .len true (.loc 17), some ((.loc 15), false), []⟩,
  ⟨.loc 19, .bin .int .gtr (.loc 18) (.const (.d (.int .i64 100))), some ((.loc 15), false), []⟩,
  ⟨.loc 20, .pick (.loc 15) (.const (.d (.bool true))) (.loc 19), none, []⟩,
  ⟨.loc 21, .split (.loc 20), none, []⟩,
  ⟨.loc 22, .fld 4 (.var 1), some ((.loc 21), false), []⟩,
  ⟨.loc 23, .load false 1 (.loc 22), some ((.loc 21), false), []⟩,
  ⟨.loc 24, .len true (.loc 23), some ((.loc 21), false), []⟩,
  ⟨.loc 25, .bin .int .gtr (.loc 24) (.const (.d (.int .i64 110))), some ((.loc 21), false), []⟩,
  ⟨.var 26, .pick (.loc 21) (.const (.d (.bool true))) (.loc 25), none, []⟩] false
def c_S_ReqLine_2 : ACode := .reg [⟨.var 2, .mv (.const (.d (.str []))), none, []⟩,
  ⟨.var 3, .mv (.const (.d (.bool false))), none, []⟩] false
def c_S_ReqLine_3 : ACode := .reg [⟨.var 4, .mv (.const (.d (.str []))), none, []⟩] false
def c_S_ReqLine_4 : ACode := .reg [⟨.loc 28, .fld 0 (.var 1), none, []⟩,
  ⟨.loc 29, .load false 1 (.loc 28), none, []⟩,
  ⟨.loc 30, .bin .int .eql (.loc 29) (.const (.d (.int .i64 14))), none, []⟩,
  ⟨.var 27, .mv (.loc 30), none, []⟩] false
def c_S_ReqLine_5 : ACode := .reg [⟨.var 4, .mv (.const (.d (.str [115, 121, 110, 99]))), none, []⟩] false
def c_S_ReqLine_6 : ACode := .reg [⟨.loc 32, .fld 0 (.var 1), none, []⟩,
  ⟨.loc 33, .load false 1 (.loc 32), none, []⟩,
  ⟨.loc 34, .call (.fn 17) [(.loc 33), (.const (.d (.int .i64 11))), (.const (.d (.int .i64 15)))] [.borrow, .borrow, .borrow], none, []⟩,
  ⟨.var 31, .mv (.loc 34), none, []⟩] false
def c_S_ReqLine_7 : ACode := .reg [⟨.loc 35, .lit 0 1 5 [.str []] [(0, (.const (.d (.str [111, 112, 101, 110])))), (1, (.const (.d (.str [116, 105, 109, 101])))), (2, (.const (.d (.str [102, 97, 114])))), (3, (.const (.d (.str [])))), (4, (.const (.d (.str [99, 114, 97, 115, 104]))))], none, []⟩,
  ⟨.var 5, .mv (.loc 35), none, []⟩] false
def c_S_ReqLine_8 : ACode := .reg [⟨.loc 36, .mv (.var 5), none, []⟩,
  ⟨.loc 37, .fld 0 (.var 1), none, []⟩,
  ⟨.loc 38, .load false 1 (.loc 37), none, [1]⟩,
  ⟨.loc 39, .bin .int .sub (.loc 38) (.const (.d (.int .i64 11))), none, [2, 1]⟩,
  ⟨.loc 40, .idxA 1 (.loc 36) (.loc 39), none, [0, 3, 2, 1]⟩,
  ⟨.loc 41, .load false 1 (.loc 40), none, [4, 0, 3, 2, 1]⟩,
  ⟨.loc 42, .bin .str .add (.loc 41) (.const (.d (.str [32]))), none, [5, 4, 0, 3, 2, 1]⟩,
  ⟨.loc 43, .fld 5 (.var 1), none, []⟩,
  ⟨.loc 44, .load false 1 (.loc 43), none, [7]⟩,
  ⟨.loc 45, .call (.fn 18) [(.loc 44)] [.borrow], none, [8, 7]⟩,
  ⟨.loc 46, .bin .str .add (.loc 42) (.loc 45), none, [6, 5, 4, 0, 3, 2, 1, 9, 8, 7]⟩,
  ⟨.var 4, .mv (.loc 46), none, [10, 6, 5, 4, 0, 3, 2, 1, 9, 8, 7]⟩] true
def c_S_ReqLine_9 : ACode := .reg [⟨.loc 48, .fld 0 (.var 1), none, []⟩,
  ⟨.loc 49, .load false 1 (.loc 48), none, []⟩,
  ⟨.loc 50, .call (.fn 17) [(.loc 49), (.const (.d (.int .i64 0))), (.const (.d (.int .i64 10)))] [.borrow, .borrow, .borrow], none, []⟩,
  ⟨.var 47, .mv (.loc 50), none, []⟩] false
def c_S_ReqLine_10 : ACode := .reg [⟨.loc 52, .call (.fn 20) [] [], none, []⟩,
  ⟨.loc 53, .fld 0 (.var 1), none, []⟩,
  ⟨.loc 54, .load false 1 (.loc 53), none, [1]⟩,
  ⟨.loc 55, .idxA 1 (.loc 52) (.loc 54), none, [0, 2, 1]⟩,
  ⟨.loc 56, .load false 1 (.loc 55), none, [3, 0, 2, 1]⟩,
  ⟨.loc 57, .call (.fn 19) [(.loc 56)] [.borrow], none, [4, 3, 2, 1, 0]⟩,
  ⟨.loc 51, .mv (.loc 57), none, [5, 4, 3, 2, 1, 0]⟩,
  ⟨.loc 58, .ext (.loc 51) 0, none, [6, 5, 4, 3, 2, 1, 0]⟩,
  ⟨.loc 59, .ext (.loc 51) 1, none, [6, 5, 4, 3, 2, 1, 0]⟩,
  ⟨.var 6, .mv (.loc 58), none, [7, 6, 5, 4, 3, 2, 1, 0]⟩,
  ⟨.var 7, .mv (.loc 59), none, [8, 9, 7, 6, 5, 4, 3, 2, 1, 0]⟩] true
def c_S_ReqLine_11 : ACode := .reg [⟨.loc 60, .fld 1 (.var 1), none, []⟩,
  ⟨.loc 61, .load false 1 (.loc 60), none, []⟩,
  ⟨.loc 62, .call (.fn 18) [(.loc 61)] [.borrow], none, []⟩,
  ⟨.loc 63, .bin .str .add (.loc 62) (.const (.d (.str [32]))), none, []⟩,
  ⟨.loc 64, .mv (.var 6), none, []⟩,
  ⟨.loc 65, .bin .str .add (.loc 63) (.loc 64), none, []⟩,
  ⟨.var 4, .mv (.loc 65), none, []⟩] false
def c_S_ReqLine_12 : ACode := .reg [⟨.var 8, .mv (.const (.d (.int .i64 0))), none, []⟩] false
def c_S_ReqLine_13 : ACode := .reg [⟨.loc 66, .mv (.var 8), none, []⟩,
  ⟨.loc 67, .mv (.var 7), none, []⟩,
  ⟨.loc 68, .len true (.loc 67), none, []⟩,
  ⟨.var 69, .bin .int .lss (.loc 66) (.loc 68), none, []⟩] false
def c_S_ReqLine_14 : ACode := .reg [⟨.loc 72, .mv (.var 4), none, []⟩,
  ⟨.loc 73, .bin .str .add (.loc 72) (.const (.d (.str [32]))), none, []⟩,
  ⟨.var 4, .mv (.loc 73), none, []⟩] false
def c_S_ReqLine_15 : ACode := .reg [⟨.loc 74, .mv (.var 7), none, []⟩,
  ⟨.loc 75, .mv (.var 8), none, []⟩,
  ⟨.var 76, .idxS (.loc 74) (.loc 75), none, []⟩] false
def c_S_ReqLine_16 : ACode := .reg [⟨.loc 78, .bin .int .eql (.var 76) (.const (.d (.int .u8 110))), none, []⟩,
  ⟨.var 77, .mv (.loc 78), none, []⟩] false
def c_S_ReqLine_17 : ACode := .reg [⟨.loc 79, .mv (.var 4), none, []⟩,
  ⟨.loc 80, .fld 5 (.var 1), none, []⟩,
  ⟨.loc 81, .load false 1 (.loc 80), none, []⟩,
  ⟨.loc 82, .call (.fn 18) [(.loc 81)] [.borrow], none, []⟩,
  ⟨.loc 83, .bin .str .add (.loc 79) (.loc 82), none, []⟩,
  ⟨.var 4, .mv (.loc 83), none, []⟩] false
def c_S_ReqLine_18 : ACode := .reg [⟨.loc 85, .bin .int .eql (.var 76) (.const (.d (.int .u8 119))), none, []⟩,
  ⟨.var 84, .mv (.loc 85), none, []⟩] false
def c_S_ReqLine_19 : ACode := .reg [⟨.loc 86, .mv (.var 4), none, []⟩,
  ⟨.loc 87, .fld 2 (.var 1), none, []⟩,
  ⟨.loc 88, .load false 1 (.loc 87), none, []⟩,
  ⟨.loc 89, .bin .str .add (.loc 86) (.loc 88), none, []⟩,
  ⟨.var 4, .mv (.loc 89), none, []⟩] false
def c_S_ReqLine_20 : ACode := .reg [⟨.loc 91, .bin .int .eql (.var 76) (.const (.d (.int .u8 112))), none, []⟩,
  ⟨.var 90, .mv (.loc 91), none, []⟩] false
def c_S_ReqLine_21 : ACode := .reg [⟨.loc 92, .mv (.var 4), none, []⟩,
  ⟨.loc 93, .fld 3 (.var 1), none, []⟩,
  ⟨.loc 94, .load false 1 (.loc 93), none, []⟩,
  ⟨.loc 95, .bin .str .add (.loc 92) (.loc 94), none, []⟩,
  ⟨.var 4, .mv (.loc 95), none, []⟩] false
def c_S_ReqLine_22 : ACode := .reg [⟨.loc 97, .bin .int .eql (.var 76) (.const (.d (.int .u8 113))), none, []⟩,
  ⟨.var 96, .mv (.loc 97), none, []⟩] false
def c_S_ReqLine_23 : ACode := .reg [⟨.loc 98, .mv (.var 4), none, []⟩,
  ⟨.loc 99, .fld 3 (.var 1), none, []⟩,
  ⟨.loc 100, .load false 1 (.loc 99), none, []⟩,
  ⟨.loc 101, .call (.fn 21) [(.loc 100)] [.borrow], none, []⟩,
  ⟨.loc 102, .bin .str .add (.loc 98) (.loc 101), none, []⟩,
  ⟨.var 4, .mv (.loc 102), none, []⟩] false
def c_S_ReqLine_24 : ACode := .reg [⟨.loc 104, .bin .int .eql (.var 76) (.const (.d (.int .u8 111))), none, []⟩,
  ⟨.var 103, .mv (.loc 104), none, []⟩] false
def c_S_ReqLine_25 : ACode := .reg [⟨.loc 105, .fld 0 (.var 1), none, []⟩,
  ⟨.loc 106, .load false 1 (.loc 105), none, []⟩,
  ⟨.var 107, .bin .int .eql (.loc 106) (.const (.d (.int .i64 0))), none, []⟩] false
def c_S_ReqLine_26 : ACode := .reg [⟨.loc 108, .mv (.var 4), none, []⟩,
  ⟨.loc 109, .fld 4 (.var 1), none, []⟩,
  ⟨.loc 110, .load false 1 (.loc 109), none, []⟩,
  ⟨.loc 111, .call (.fn 22) [(.loc 110)] [.borrow], none, []⟩,
  ⟨.loc 112, .bin .str .add (.loc 108) (.loc 111), none, []⟩,
  ⟨.var 4, .mv (.loc 112), none, []⟩] false
def c_S_ReqLine_27 : ACode := .reg [⟨.loc 113, .mv (.var 4), none, []⟩,
  ⟨.loc 114, .fld 4 (.var 1), none, []⟩,
  ⟨.loc 115, .load false 1 (.loc 114), none, []⟩,
  ⟨.loc 116, .call (.fn 21) [(.loc 115)] [.borrow], none, []⟩,
  ⟨.loc 117, .bin .str .add (.loc 113) (.loc 116), none, []⟩,
  ⟨.var 4, .mv (.loc 117), none, []⟩] false
def c_S_ReqLine_28 : ACode := .reg [⟨.loc 70, .mv (.var 8), none, []⟩,
  ⟨.loc 71, .bin .int .add (.loc 70) (.const (.d (.int .i64 1))), none, []⟩,
  ⟨.var 8, .mv (.loc 71), none, []⟩] false
def c_S_ReqLine_29 : ACode := (.seq (.seq c_S_ReqLine_13 (.cond (.var 69) .skip (.exit 1))) (.seq (.block 2 (.seq c_S_ReqLine_14 (.seq c_S_ReqLine_15 (.block 3 (.seq c_S_ReqLine_16 (.cond (.var 77) c_S_ReqLine_17 (.seq c_S_ReqLine_18 (.cond (.var 84) c_S_ReqLine_19 (.seq c_S_ReqLine_20 (.cond (.var 90) c_S_ReqLine_21 (.seq c_S_ReqLine_22 (.cond (.var 96) c_S_ReqLine_23 (.seq c_S_ReqLine_24 (.cond (.var 103) (.seq c_S_ReqLine_25 (.cond (.var 107) c_S_ReqLine_26 c_S_ReqLine_27)) .skip)))))))))))))) c_S_ReqLine_28))
def c_S_ReqLine_30 : ACode := .reg [⟨.loc 119, .mv (.var 4), none, []⟩,
  ⟨.loc 120, .call (.fn 23) [(.loc 119)] [.borrow], none, []⟩,
  ⟨.loc 118, .mv (.loc 120), none, []⟩,
  ⟨.loc 121, .ext (.loc 118) 0, none, []⟩,
  ⟨.loc 122, .ext (.loc 118) 1, none, []⟩,
  ⟨.var 9, .alloc [.d (.int .i64 0), .d (.int .i64 0), .d (.str []), .d (.str []), .d (.str []), .d (.int .i64 0)], none, []⟩,
  ⟨.none, .store 6 (.var 9) (.loc 121), none, []⟩,
  ⟨.var 10, .mv (.loc 122), none, []⟩] false
def c_S_ReqLine_31 : ACode := .reg [⟨.loc 123, .mv (.var 10), none, []⟩,
  ⟨.loc 124, .un .not (.loc 123), none, []⟩,
  ⟨.loc 125, .split (.loc 124), none, []⟩,
  ⟨.loc 126, .load true 6 (.var 9), some ((.loc 125), false), []⟩,
  ⟨.loc 127, .load true 6 (.var 1), some ((.loc 125), false), []⟩,
  ⟨.loc 128, .bin (.st [0, 0, 1, 1, 1, 0]) .neq (.loc 126) (.loc 127), some ((.loc 125), false), []⟩,
  ⟨.var 129, .pick (.loc 125) (.const (.d (.bool true))) (.loc 128), none, []⟩] false
def c_S_ReqLine_32 : ACode := .reg [⟨.var 2, .mv (.const (.d (.str []))), none, []⟩,
  ⟨.var 3, .mv (.const (.d (.bool false))), none, []⟩] false
def c_S_ReqLine_33 : ACode := .reg [⟨.loc 130, .mv (.var 4), none, []⟩,
  ⟨.var 2, .mv (.loc 130), none, []⟩,
  ⟨.var 3, .mv (.const (.d (.bool true))), none, []⟩] false
def c_S_ReqLine : ACode := (.seq c_S_ReqLine_0 (.seq (.seq c_S_ReqLine_1 (.cond (.var 26) (.seq c_S_ReqLine_2 .ret) .skip)) (.seq c_S_ReqLine_3 (.seq (.block 0 (.seq c_S_ReqLine_4 (.cond (.var 27) c_S_ReqLine_5 (.seq c_S_ReqLine_6 (.cond (.var 31) (.seq c_S_ReqLine_7 c_S_ReqLine_8) (.seq c_S_ReqLine_9 (.cond (.var 47) (.seq c_S_ReqLine_10 (.seq c_S_ReqLine_11 (.seq c_S_ReqLine_12 (.block 1 (.loop [1, 4, 7, 8] c_S_ReqLine_29))))) .skip))))))) (.seq c_S_ReqLine_30 (.seq (.seq c_S_ReqLine_31 (.cond (.var 129) (.seq c_S_ReqLine_32 .ret) .skip)) (.seq c_S_ReqLine_33 .ret)))))))
abbrev F_S_ReqLine : FuncId := 10
theorem k_S_ReqLine : comp PP (Tryd.f10.ntmps, pinOf 0 [none]) [0, 1, 2, 3, 4, 5, 6, 7, 8, 9, 10, 26, 27, 31, 47, 69, 76, 77, 84, 90, 96, 103, 107, 129] (Tryd.f10.body.getD .skip) = some c_S_ReqLine.erase := by kernel_rfl
theorem v_S_ReqLine {GG : GV} (rcs : List C) {cs : List C} {r : C} {os : List (Option C)} (hN : (cs.length == 1 && rcs.length == 2) = true) (hret : retOf rcs = r)
    (hW : W PP [0, 1, 2, 3, 4, 5, 6, 7, 8, 9, 10, 26, 27, 31, 47, 69, 76, 77, 84, 90, 96, 103, 107, 129] (Tryd.f10.ntmps, pinOf 0 [none]) (Valid PP GG) c_S_ReqLine (entry cs) (Fin (Valid PP GG) [(.give, 2, none), (.give, 3, none)] [none] rcs os) (fun _ _ => False) (Fin (Valid PP GG) [(.give, 2, none), (.give, 3, none)] [none] rcs os)) : Valid PP GG F_S_ReqLine cs r os :=
  fn_valid_n 1 2 [0, 1, 2, 3, 4, 5, 6, 7, 8, 9, 10, 26, 27, 31, 47, 69, 76, 77, 84, 90, 96, 103, 107, 129] c_S_ReqLine [(.give, 2, none), (.give, 3, none)] [none] rcs Tryd.func10 rfl rfl (by kernel_rfl) k_S_ReqLine rfl rfl hN hret hW
def c_L_toReq_0 : ACode := .reg [⟨.var 1, .box (.var 0), none, []⟩,
  ⟨.var 2, .alloc [.d (.int .i64 0), .d (.int .i64 0), .d (.str []), .d (.str []), .d (.str []), .d (.int .i64 0)], none, []⟩] false
def c_L_toReq_1 : ACode := .reg [⟨.var 3, .alloc [.d (.int .i64 0), .d (.int .i64 0), .d (.str []), .d (.str []), .d (.str []), .d (.int .i64 0)], none, []⟩] false
def c_L_toReq_2 : ACode := .reg [⟨.loc 4, .fld 0 (.var 1), none, []⟩,
  ⟨.loc 5, .load false 1 (.loc 4), none, []⟩,
  ⟨.loc 6, .fld 0 (.var 3), none, []⟩,
  ⟨.none, .store 1 (.loc 6) (.loc 5), none, []⟩] false
def c_L_toReq_3 : ACode := .reg [⟨.loc 7, .fld 1 (.var 1), none, []⟩,
  ⟨.loc 8, .load false 1 (.loc 7), none, []⟩,
  ⟨.loc 9, .fld 1 (.var 3), none, []⟩,
  ⟨.none, .store 1 (.loc 9) (.loc 8), none, []⟩] false
def c_L_toReq_4 : ACode := .reg [⟨.loc 10, .fld 2 (.var 1), none, []⟩,
  ⟨.loc 11, .load false 1 (.loc 10), none, []⟩,
  ⟨.loc 12, .fld 2 (.var 3), none, []⟩,
  ⟨.none, .store 1 (.loc 12) (.loc 11), none, []⟩] false
def c_L_toReq_5 : ACode := .reg [⟨.loc 13, .fld 3 (.var 1), none, []⟩,
  ⟨.loc 14, .load false 1 (.loc 13), none, []⟩,
  ⟨.loc 15, .fld 3 (.var 3), none, []⟩,
  ⟨.none, .store 1 (.loc 15) (.loc 14), none, []⟩] false
def c_L_toReq_6 : ACode := .reg [⟨.loc 16, .fld 4 (.var 1), none, []⟩,
  ⟨.loc 17, .load false 1 (.loc 16), none, []⟩,
  ⟨.loc 18, .fld 4 (.var 3), none, []⟩,
  ⟨.none, .store 1 (.loc 18) (.loc 17), none, []⟩] false
def c_L_toReq_7 : ACode := .reg [⟨.loc 19, .fld 5 (.var 1), none, []⟩,
  ⟨.loc 20, .load false 1 (.loc 19), none, []⟩,
  ⟨.loc 21, .fld 5 (.var 3), none, []⟩,
  ⟨.none, .store 1 (.loc 21) (.loc 20), none, []⟩] false
def c_L_toReq_8 : ACode := .reg [⟨.loc 22, .load true 6 (.var 3), none, []⟩,
  ⟨.none, .store 6 (.var 2) (.loc 22), none, []⟩] false
def c_L_toReq : ACode := (.seq c_L_toReq_0 (.seq c_L_toReq_1 (.seq c_L_toReq_2 (.seq c_L_toReq_3 (.seq c_L_toReq_4 (.seq c_L_toReq_5 (.seq c_L_toReq_6 (.seq c_L_toReq_7 (.seq c_L_toReq_8 .ret)))))))))
abbrev F_L_toReq : FuncId := 11
theorem k_L_toReq : comp PP (Tryd.f11.ntmps, pinOf 0 [none]) [0, 1, 2, 3] (Tryd.f11.body.getD .skip) = some c_L_toReq.erase := by kernel_rfl
theorem v_L_toReq {GG : GV} (rcs : List C) {cs : List C} {r : C} {os : List (Option C)} (hN : (cs.length == 1 && rcs.length == 1) = true) (hret : retOf rcs = r)
    (hW : W PP [0, 1, 2, 3] (Tryd.f11.ntmps, pinOf 0 [none]) (Valid PP GG) c_L_toReq (entry cs) (Fin (Valid PP GG) [(.give, 2, some (true, 6))] [none] rcs os) (fun _ _ => False) (Fin (Valid PP GG) [(.give, 2, some (true, 6))] [none] rcs os)) : Valid PP GG F_L_toReq cs r os :=
  fn_valid_n 1 1 [0, 1, 2, 3] c_L_toReq [(.give, 2, some (true, 6))] [none] rcs Tryd.func11 rfl rfl (by kernel_rfl) k_L_toReq rfl rfl hN hret hW
def c_I_ReqLine_0 : ACode := .reg [⟨.var 1, .box (.var 0), none, []⟩,
  ⟨.var 2, .mv (.const (.d (.str []))), none, []⟩,
  ⟨.var 3, .mv (.const (.d (.bool false))), none, []⟩] false
def c_I_ReqLine_1 : ACode := .reg [⟨.loc 7, .load true 6 (.var 1), none, []⟩,
  ⟨.loc 8, .call (.fn 24) [(.loc 7)] [.borrow], none, []⟩,
  ⟨.var 4, .mv (.loc 8), none, []⟩] false
def c_I_ReqLine_2 : ACode := .reg [⟨.loc 10, .mv (.var 4), none, []⟩,
  ⟨.loc 11, .call (.fn 25) [(.loc 10)] [.borrow], none, []⟩,
  ⟨.loc 9, .mv (.loc 11), none, []⟩,
  ⟨.loc 12, .ext (.loc 9) 0, none, []⟩,
  ⟨.loc 13, .ext (.loc 9) 1, none, []⟩,
  ⟨.var 5, .alloc [.d (.int .i64 0), .d (.int .i64 0), .d (.str []), .d (.str []), .d (.str []), .d (.int .i64 0)], none, []⟩,
  ⟨.none, .store 6 (.var 5) (.loc 12), none, []⟩,
  ⟨.var 6, .mv (.loc 13), none, []⟩] false
def c_I_ReqLine_3 : ACode := .reg [⟨.loc 14, .mv (.var 6), none, []⟩,
  ⟨.loc 15, .un .not (.loc 14), none, []⟩,
  ⟨.loc 16, .split (.loc 15), none, []⟩,
  ⟨.loc 17, .load true 6 (.var 5), some ((.loc 16), false), []⟩,
  ⟨.loc 18, .load true 6 (.var 1), some ((.loc 16), false), []⟩,
  ⟨.loc 19, .bin (.st [0, 0, 1, 1, 1, 0]) .neq (.loc 17) (.loc 18), some ((.loc 16), false), []⟩,
  ⟨.var 20, .pick (.loc 16) (.const (.d (.bool true))) (.loc 19), none, []⟩] false
def c_I_ReqLine_4 : ACode := .reg [⟨.var 2, .mv (.const (.d (.str []))), none, []⟩,
  ⟨.var 3, .mv (.const (.d (.bool false))), none, []⟩] false
def c_I_ReqLine_5 : ACode := .reg [⟨.loc 21, .mv (.var 4), none, []⟩,
  ⟨.var 2, .mv (.loc 21), none, []⟩,
  ⟨.var 3, .mv (.const (.d (.bool true))), none, []⟩] false
def c_I_ReqLine : ACode := (.seq c_I_ReqLine_0 (.seq c_I_ReqLine_1 (.seq (.seq c_I_ReqLine_2 (.seq c_I_ReqLine_3 (.cond (.var 20) (.seq c_I_ReqLine_4 .ret) .skip))) (.seq c_I_ReqLine_5 .ret))))
abbrev F_I_ReqLine : FuncId := 12
theorem k_I_ReqLine : comp PP (Tryd.f12.ntmps, pinOf 0 [none]) [0, 1, 2, 3, 4, 5, 6, 20] (Tryd.f12.body.getD .skip) = some c_I_ReqLine.erase := by kernel_rfl
theorem v_I_ReqLine {GG : GV} (rcs : List C) {cs : List C} {r : C} {os : List (Option C)} (hN : (cs.length == 1 && rcs.length == 2) = true) (hret : retOf rcs = r)
    (hW : W PP [0, 1, 2, 3, 4, 5, 6, 20] (Tryd.f12.ntmps, pinOf 0 [none]) (Valid PP GG) c_I_ReqLine (entry cs) (Fin (Valid PP GG) [(.give, 2, none), (.give, 3, none)] [none] rcs os) (fun _ _ => False) (Fin (Valid PP GG) [(.give, 2, none), (.give, 3, none)] [none] rcs os)) : Valid PP GG F_I_ReqLine cs r os :=
  fn_valid_n 1 2 [0, 1, 2, 3, 4, 5, 6, 20] c_I_ReqLine [(.give, 2, none), (.give, 3, none)] [none] rcs Tryd.func12 rfl rfl (by kernel_rfl) k_I_ReqLine rfl rfl hN hret hW
def c_L_eqReq_0 : ACode := .reg [⟨.var 2, .box (.var 0), none, []⟩,
  ⟨.var 3, .box (.var 1), none, []⟩,
  ⟨.var 4, .mv (.const (.d (.bool false))), none, []⟩] false
def c_L_eqReq_1 : ACode := .reg [⟨.loc 5, .fld 0 (.var 2), none, []⟩,
  ⟨.loc 6, .load false 1 (.loc 5), none, []⟩,
  ⟨.loc 7, .fld 0 (.var 3), none, []⟩,
  ⟨.loc 8, .load false 1 (.loc 7), none, []⟩,
  ⟨.var 9, .bin .int .neq (.loc 6) (.loc 8), none, []⟩] false
def c_L_eqReq_2 : ACode := .reg [⟨.var 4, .mv (.const (.d (.bool false))), none, []⟩] false
def c_L_eqReq_3 : ACode := .reg [⟨.loc 10, .fld 1 (.var 2), none, []⟩,
  ⟨.loc 11, .load false 1 (.loc 10), none, []⟩,
  ⟨.loc 12, .fld 1 (.var 3), none, []⟩,
  ⟨.loc 13, .load false 1 (.loc 12), none, []⟩,
  ⟨.var 14, .bin .int .neq (.loc 11) (.loc 13), none, []⟩] false
def c_L_eqReq_4 : ACode := .reg [⟨.var 4, .mv (.const (.d (.bool false))), none, []⟩] false
def c_L_eqReq_5 : ACode := .reg [⟨.loc 15, .fld 2 (.var 2), none, []⟩,
  ⟨.loc 16, .load false 1 (.loc 15), none, []⟩,
  ⟨.loc 17, .fld 2 (.var 3), none, []⟩,
  ⟨.loc 18, .load false 1 (.loc 17), none, []⟩,
  ⟨.var 19, .bin .str .neq (.loc 16) (.loc 18), none, []⟩] false
def c_L_eqReq_6 : ACode := .reg [⟨.var 4, .mv (.const (.d (.bool false))), none, []⟩] false
def c_L_eqReq_7 : ACode := .reg [⟨.loc 20, .fld 3 (.var 2), none, []⟩,
  ⟨.loc 21, .load false 1 (.loc 20), none, []⟩,
  ⟨.loc 22, .fld 3 (.var 3), none, []⟩,
  ⟨.loc 23, .load false 1 (.loc 22), none, []⟩,
  ⟨.var 24, .bin .str .neq (.loc 21) (.loc 23), none, []⟩] false
def c_L_eqReq_8 : ACode := .reg [⟨.var 4, .mv (.const (.d (.bool false))), none, []⟩] false
def c_L_eqReq_9 : ACode := .reg [⟨.loc 25, .fld 4 (.var 2), none, []⟩,
  ⟨.loc 26, .load false 1 (.loc 25), none, []⟩,
  ⟨.loc 27, .fld 4 (.var 3), none, []⟩,
  ⟨.loc 28, .load false 1 (.loc 27), none, []⟩,
  ⟨.var 29, .bin .str .neq (.loc 26) (.loc 28), none, []⟩] false
def c_L_eqReq_10 : ACode := .reg [⟨.var 4, .mv (.const (.d (.bool false))), none, []⟩] false
def c_L_eqReq_11 : ACode := .reg [⟨.loc 30, .fld 5 (.var 2), none, []⟩,
  ⟨.loc 31, .load false 1 (.loc 30), none, []⟩,
  ⟨.loc 32, .fld 5 (.var 3), none, []⟩,
  ⟨.loc 33, .load false 1 (.loc 32), none, []⟩,
  ⟨.var 34, .bin .int .neq (.loc 31) (.loc 33), none, []⟩] false
def c_L_eqReq_12 : ACode := .reg [⟨.var 4, .mv (.const (.d (.bool false))), none, []⟩] false
def c_L_eqReq_13 : ACode := .reg [⟨.var 4, .mv (.const (.d (.bool true))), none, []⟩] false
def c_L_eqReq : ACode := (.seq c_L_eqReq_0 (.seq (.seq c_L_eqReq_1 (.cond (.var 9) (.seq c_L_eqReq_2 .ret) .skip)) (.seq (.seq c_L_eqReq_3 (.cond (.var 14) (.seq c_L_eqReq_4 .ret) .skip)) (.seq (.seq c_L_eqReq_5 (.cond (.var 19) (.seq c_L_eqReq_6 .ret) .skip)) (.seq (.seq c_L_eqReq_7 (.cond (.var 24) (.seq c_L_eqReq_8 .ret) .skip)) (.seq (.seq c_L_eqReq_9 (.cond (.var 29) (.seq c_L_eqReq_10 .ret) .skip)) (.seq (.seq c_L_eqReq_11 (.cond (.var 34) (.seq c_L_eqReq_12 .ret) .skip)) (.seq c_L_eqReq_13 .ret))))))))
abbrev F_L_eqReq : FuncId := 16
theorem k_L_eqReq : comp PP (Tryd.f16.ntmps, pinOf 0 [none, none]) [0, 1, 2, 3, 4, 9, 14, 19, 24, 29, 34] (Tryd.f16.body.getD .skip) = some c_L_eqReq.erase := by kernel_rfl
theorem v_L_eqReq {GG : GV} (rcs : List C) {cs : List C} {r : C} {os : List (Option C)} (hN : (cs.length == 2 && rcs.length == 1) = true) (hret : retOf rcs = r)
    (hW : W PP [0, 1, 2, 3, 4, 9, 14, 19, 24, 29, 34] (Tryd.f16.ntmps, pinOf 0 [none, none]) (Valid PP GG) c_L_eqReq (entry cs) (Fin (Valid PP GG) [(.give, 4, none)] [none, none] rcs os) (fun _ _ => False) (Fin (Valid PP GG) [(.give, 4, none)] [none, none] rcs os)) : Valid PP GG F_L_eqReq cs r os :=
  fn_valid_n 2 1 [0, 1, 2, 3, 4, 9, 14, 19, 24, 29, 34] c_L_eqReq [(.give, 4, none)] [none, none] rcs Tryd.func16 rfl rfl (by kernel_rfl) k_L_eqReq rfl rfl hN hret hW
def c_S_l01In_0 : ACode := .reg [⟨.var 6, .mv (.const (.d (.bool false))), none, []⟩] false
def c_S_l01In_1 : ACode := .reg [⟨.loc 7, .mv (.var 1), none, []⟩,
  ⟨.loc 8, .mv (.var 0), none, []⟩,
  ⟨.loc 9, .bin .int .leq (.loc 7) (.loc 8), none, []⟩,
  ⟨.loc 10, .split (.loc 9), none, []⟩,
  ⟨.loc 11, .mv (.var 0), some ((.loc 10), true), []⟩,
  ⟨.loc 12, .mv (.var 2), some ((.loc 10), true), []⟩,
  ⟨.loc 13, .bin .int .leq (.loc 11) (.loc 12), some ((.loc 10), true), []⟩,
  ⟨.loc 14, .pick (.loc 10) (.loc 13) (.const (.d (.bool false))), none, []⟩,
  ⟨.var 6, .mv (.loc 14), none, []⟩] false
def c_S_l01In : ACode := (.seq c_S_l01In_0 (.seq c_S_l01In_1 .ret))
abbrev F_S_l01In : FuncId := 17
theorem k_S_l01In : comp PP (Tryd.f17.ntmps, pinOf 0 [none, none, none]) [0, 1, 2, 6] (Tryd.f17.body.getD .skip) = some c_S_l01In.erase := by kernel_rfl
theorem v_S_l01In {GG : GV} (rcs : List C) {cs : List C} {r : C} {os : List (Option C)} (hN : (cs.length == 3 && rcs.length == 1) = true) (hret : retOf rcs = r)
    (hW : W PP [0, 1, 2, 6] (Tryd.f17.ntmps, pinOf 0 [none, none, none]) (Valid PP GG) c_S_l01In (entry cs) (Fin (Valid PP GG) [(.give, 6, none)] [none, none, none] rcs os) (fun _ _ => False) (Fin (Valid PP GG) [(.give, 6, none)] [none, none, none] rcs os)) : Valid PP GG F_S_l01In cs r os :=
  fn_valid_n 3 1 [0, 1, 2, 6] c_S_l01In [(.give, 6, none)] [none, none, none] rcs Tryd.func17 rfl rfl (by kernel_rfl) k_S_l01In rfl rfl hN hret hW
def c_S_l01Num_0 : ACode := .reg [⟨.var 2, .mv (.const (.d (.str []))), none, []⟩] false
def c_S_l01Num_1 : ACode := .reg [⟨.loc 6, .mv (.var 0), none, []⟩,
  ⟨.var 7, .bin .int .eql (.loc 6) (.const (.d (.int .i64 0))), none, []⟩] false
def c_S_l01Num_2 : ACode := .reg [⟨.var 2, .mv (.const (.d (.str [48]))), none, []⟩] false
def c_S_l01Num_3 : ACode := .reg [⟨.var 3, .mv (.const (.d (.str []))), none, []⟩] false
def c_S_l01Num_4 : ACode := .reg [⟨.loc 8, .mv (.var 0), none, []⟩,
  ⟨.loc 9, .bin .int .lss (.loc 8) (.const (.d (.int .i64 0))), none, []⟩,
  ⟨.var 4, .mv (.loc 9), none, []⟩] false
def c_S_l01Num_5 : ACode := .reg [⟨.loc 10, .mv (.var 0), none, []⟩,
  ⟨.var 11, .bin .int .neq (.loc 10) (.const (.d (.int .i64 0))), none, []⟩] false
def c_S_l01Num_6 : ACode := .reg [⟨.loc 12, .mv (.var 0), none, []⟩,
  ⟨.loc 13, .bin .int .rem (.loc 12) (.const (.d (.int .i64 10))), none, []⟩,
  ⟨.var 5, .mv (.loc 13), none, []⟩] false
def c_S_l01Num_7 : ACode := .reg [⟨.loc 14, .mv (.var 5), none, []⟩,
  ⟨.var 15, .bin .int .lss (.loc 14) (.const (.d (.int .i64 0))), none, []⟩] false
def c_S_l01Num_8 : ACode := .reg [⟨.loc 16, .mv (.var 5), none, []⟩,
  ⟨.loc 17, .un .neg (.loc 16), none, []⟩,
  ⟨.var 5, .mv (.loc 17), none, []⟩] false
def c_S_l01Num_9 : ACode := .reg [⟨.loc 18, .mv (.var 5), none, []⟩,
  ⟨.loc 19, .bin .int .add (.const (.d (.int .i64 48))) (.loc 18), none, []⟩,
  ⟨.loc 20, .conv .u8 (.loc 19), none, []⟩,
  ⟨.loc 21, .lit 0 1 1 [.int .u8 0] [(0, (.loc 20))], none, []⟩,
  ⟨.loc 22, .b2s (.loc 21), none, []⟩,
  ⟨.loc 23, .mv (.var 3), none, []⟩,
  ⟨.loc 24, .bin .str .add (.loc 22) (.loc 23), none, []⟩,
  ⟨.var 3, .mv (.loc 24), none, []⟩] false
def c_S_l01Num_10 : ACode := .reg [⟨.loc 25, .mv (.var 0), none, []⟩,
  ⟨.loc 26, .bin .int .quo (.loc 25) (.const (.d (.int .i64 10))), none, []⟩,
  ⟨.var 0, .mv (.loc 26), none, []⟩] false
def c_S_l01Num_11 : ACode := (.seq (.seq c_S_l01Num_5 (.cond (.var 11) .skip (.exit 0))) (.block 1 (.seq c_S_l01Num_6 (.seq (.seq c_S_l01Num_7 (.cond (.var 15) c_S_l01Num_8 .skip)) (.seq c_S_l01Num_9 c_S_l01Num_10)))))
def c_S_l01Num_12 : ACode := .reg [⟨.var 27, .mv (.var 4), none, []⟩] false
def c_S_l01Num_13 : ACode := .reg [⟨.loc 28, .mv (.var 3), none, []⟩,
  ⟨.loc 29, .bin .str .add (.const (.d (.str [45]))) (.loc 28), none, []⟩,
  ⟨.var 2, .mv (.loc 29), none, []⟩] false
def c_S_l01Num_14 : ACode := .reg [⟨.loc 30, .mv (.var 3), none, []⟩,
  ⟨.var 2, .mv (.loc 30), none, []⟩] false
def c_S_l01Num : ACode := (.seq c_S_l01Num_0 (.seq (.seq c_S_l01Num_1 (.cond (.var 7) (.seq c_S_l01Num_2 .ret) .skip)) (.seq c_S_l01Num_3 (.seq c_S_l01Num_4 (.seq (.block 0 (.loop [0, 3, 4] c_S_l01Num_11)) (.seq (.seq c_S_l01Num_12 (.cond (.var 27) (.seq c_S_l01Num_13 .ret) .skip)) (.seq c_S_l01Num_14 .ret)))))))
abbrev F_S_l01Num : FuncId := 18
theorem k_S_l01Num : comp PP (Tryd.f18.ntmps, pinOf 0 [none]) [0, 2, 3, 4, 5, 7, 11, 15, 27] (Tryd.f18.body.getD .skip) = some c_S_l01Num.erase := by kernel_rfl
theorem v_S_l01Num {GG : GV} (rcs : List C) {cs : List C} {r : C} {os : List (Option C)} (hN : (cs.length == 1 && rcs.length == 1) = true) (hret : retOf rcs = r)
    (hW : W PP [0, 2, 3, 4, 5, 7, 11, 15, 27] (Tryd.f18.ntmps, pinOf 0 [none]) (Valid PP GG) c_S_l01Num (entry cs) (Fin (Valid PP GG) [(.give, 2, none)] [none] rcs os) (fun _ _ => False) (Fin (Valid PP GG) [(.give, 2, none)] [none] rcs os)) : Valid PP GG F_S_l01Num cs r os :=
  fn_valid_n 1 1 [0, 2, 3, 4, 5, 7, 11, 15, 27] c_S_l01Num [(.give, 2, none)] [none] rcs Tryd.func18 rfl rfl (by kernel_rfl) k_S_l01Num rfl rfl hN hret hW
def c_S_l19Verb_0 : ACode := .reg [⟨.var 2, .mv (.const (.d (.str []))), none, []⟩,
  ⟨.var 3, .mv (.const (.d (.str []))), none, []⟩] false
def c_S_l19Verb_1 : ACode := .reg [⟨.loc 5, .mv (.var 0), none, []⟩,
  ⟨.loc 6, .call (.fn 27) [(.loc 5), (.const (.d (.int .u8 32)))] [.borrow, .borrow], none, []⟩,
  ⟨.var 4, .mv (.loc 6), none, []⟩] false
def c_S_l19Verb_2 : ACode := .reg [⟨.loc 7, .mv (.var 4), none, []⟩,
  ⟨.loc 8, .idxA 1 (.loc 7) (.const (.d (.int .i64 0))), none, [0]⟩,
  ⟨.loc 9, .load false 1 (.loc 8), none, [1, 0]⟩,
  ⟨.loc 10, .mv (.var 4), none, []⟩,
  ⟨.loc 11, .idxA 1 (.loc 10) (.const (.d (.int .i64 1))), none, [3]⟩,
  ⟨.loc 12, .load false 1 (.loc 11), none, [4, 3]⟩,
  ⟨.var 2, .mv (.loc 9), none, [2, 1, 0]⟩,
  ⟨.var 3, .mv (.loc 12), none, [5, 4, 3, 6, 2, 1, 0]⟩] true
def c_S_l19Verb : ACode := (.seq c_S_l19Verb_0 (.seq c_S_l19Verb_1 (.seq c_S_l19Verb_2 .ret)))
abbrev F_S_l19Verb : FuncId := 19
theorem k_S_l19Verb : comp PP (Tryd.f19.ntmps, pinOf 0 [none]) [0, 2, 3, 4] (Tryd.f19.body.getD .skip) = some c_S_l19Verb.erase := by kernel_rfl
theorem v_S_l19Verb {GG : GV} (rcs : List C) {cs : List C} {r : C} {os : List (Option C)} (hN : (cs.length == 1 && rcs.length == 2) = true) (hret : retOf rcs = r)
    (hW : W PP [0, 2, 3, 4] (Tryd.f19.ntmps, pinOf 0 [none]) (Valid PP GG) c_S_l19Verb (entry cs) (Fin (Valid PP GG) [(.give, 2, none), (.give, 3, none)] [none] rcs os) (fun _ _ => False) (Fin (Valid PP GG) [(.give, 2, none), (.give, 3, none)] [none] rcs os)) : Valid PP GG F_S_l19Verb cs r os :=
  fn_valid_n 1 2 [0, 2, 3, 4] c_S_l19Verb [(.give, 2, none), (.give, 3, none)] [none] rcs Tryd.func19 rfl rfl (by kernel_rfl) k_S_l19Verb rfl rfl hN hret hW
def c_S_l19Forms_0 : ACode := .reg [⟨.var 0, .mv (.const (.nil 0 1)), none, []⟩] false
def c_S_l19Forms_1 : ACode := .reg [⟨.loc 1, .lit 0 1 11 [.str []] [(0, (.const (.d (.str [112, 111, 108, 105, 99, 121, 32, 119, 111])))), (1, (.const (.d (.str [116, 111, 107, 101, 110, 32, 111, 110])))), (2, (.const (.d (.str [114, 101, 118, 111, 107, 101, 32, 110])))), (3, (.const (.d (.str [114, 101, 110, 101, 119, 32, 110])))), (4, (.const (.d (.str [112, 117, 116, 32, 112, 110, 111])))), (5, (.const (.d (.str [103, 101, 116, 32, 112, 110])))), (6, (.const (.d (.str [116, 97, 107, 101, 32, 112, 110])))), (7, (.const (.d (.str [108, 105, 115, 116, 32, 113])))), (8, (.const (.d (.str [114, 111, 108, 101, 32, 119, 111, 110])))), (9, (.const (.d (.str [99, 114, 101, 100, 115, 32, 119])))), (10, (.const (.d (.str [119, 114, 97, 112, 32, 112, 110]))))], none, []⟩,
  ⟨.var 0, .mv (.loc 1), none, []⟩] false
def c_S_l19Forms : ACode := (.seq c_S_l19Forms_0 (.seq c_S_l19Forms_1 .ret))
abbrev F_S_l19Forms : FuncId := 20
theorem k_S_l19Forms : comp PP (Tryd.f20.ntmps, pinOf 0 []) [0] (Tryd.f20.body.getD .skip) = some c_S_l19Forms.erase := by kernel_rfl
theorem v_S_l19Forms {GG : GV} (rcs : List C) {cs : List C} {r : C} {os : List (Option C)} (hN : (cs.length == 0 && rcs.length == 1) = true) (hret : retOf rcs = r)
    (hW : W PP [0] (Tryd.f20.ntmps, pinOf 0 []) (Valid PP GG) c_S_l19Forms (entry cs) (Fin (Valid PP GG) [(.give, 0, none)] [] rcs os) (fun _ _ => False) (Fin (Valid PP GG) [(.give, 0, none)] [] rcs os)) : Valid PP GG F_S_l19Forms cs r os :=
  fn_valid_n 0 1 [0] c_S_l19Forms [(.give, 0, none)] [] rcs Tryd.func20 rfl rfl (by kernel_rfl) k_S_l19Forms rfl rfl hN hret hW
def c_S_l19Opt_0 : ACode := .reg [⟨.var 2, .mv (.const (.d (.str []))), none, []⟩] false
def c_S_l19Opt_1 : ACode := .reg [⟨.loc 3, .mv (.var 0), none, []⟩,
  ⟨.var 4, .bin .str .eql (.loc 3) (.const (.d (.str []))), none, []⟩] false
def c_S_l19Opt_2 : ACode := .reg [⟨.var 2, .mv (.const (.d (.str [46]))), none, []⟩] false
def c_S_l19Opt_3 : ACode := .reg [⟨.loc 5, .mv (.var 0), none, []⟩,
  ⟨.var 2, .mv (.loc 5), none, []⟩] false
def c_S_l19Opt : ACode := (.seq c_S_l19Opt_0 (.seq (.seq c_S_l19Opt_1 (.cond (.var 4) (.seq c_S_l19Opt_2 .ret) .skip)) (.seq c_S_l19Opt_3 .ret)))
abbrev F_S_l19Opt : FuncId := 21
theorem k_S_l19Opt : comp PP (Tryd.f21.ntmps, pinOf 0 [none]) [0, 2, 4] (Tryd.f21.body.getD .skip) = some c_S_l19Opt.erase := by kernel_rfl
theorem v_S_l19Opt {GG : GV} (rcs : List C) {cs : List C} {r : C} {os : List (Option C)} (hN : (cs.length == 1 && rcs.length == 1) = true) (hret : retOf rcs = r)
    (hW : W PP [0, 2, 4] (Tryd.f21.ntmps, pinOf 0 [none]) (Valid PP GG) c_S_l19Opt (entry cs) (Fin (Valid PP GG) [(.give, 2, none)] [none] rcs os) (fun _ _ => False) (Fin (Valid PP GG) [(.give, 2, none)] [none] rcs os)) : Valid PP GG F_S_l19Opt cs r os :=
  fn_valid_n 1 1 [0, 2, 4] c_S_l19Opt [(.give, 2, none)] [none] rcs Tryd.func21 rfl rfl (by kernel_rfl) k_S_l19Opt rfl rfl hN hret hW
def c_S_l19Unrules_0 : ACode := .reg [⟨.var 2, .mv (.const (.d (.str []))), none, []⟩] false
def c_S_l19Unrules_1 : ACode := .reg [⟨.loc 8, .mv (.var 0), none, []⟩,
  ⟨.var 9, .bin .str .eql (.loc 8) (.const (.d (.str []))), none, []⟩] false
def c_S_l19Unrules_2 : ACode := .reg [⟨.var 2, .mv (.const (.d (.str [46]))), none, []⟩] false
def c_S_l19Unrules_3 : ACode := .reg [⟨.loc 10, .mv (.var 0), none, []⟩,
  ⟨.loc 11, .call (.fn 27) [(.loc 10), (.const (.d (.int .u8 10)))] [.borrow, .borrow], none, []⟩,
  ⟨.var 3, .mv (.loc 11), none, []⟩] false
def c_S_l19Unrules_4 : ACode := .reg [⟨.loc 12, .lit 0 1 0 [.int .u8 0] [], none, []⟩,
  ⟨.var 4, .mv (.loc 12), none, []⟩] false
def c_S_l19Unrules_5 : ACode := .reg [⟨.var 5, .mv (.const (.d (.int .i64 0))), none, []⟩] false
def c_S_l19Unrules_6 : ACode := .reg [⟨.loc 13, .mv (.var 5), none, []⟩,
  ⟨.loc 14, .mv (.var 3), none, []⟩,
  ⟨.loc 15, .len false (.loc 14), none, []⟩,
  ⟨.loc 16, .bin .int .sub (.loc 15) (.const (.d (.int .i64 1))), none, []⟩,
  ⟨.var 17, .bin .int .lss (.loc 13) (.loc 16), none, []⟩] false
def c_S_l19Unrules_7 : ACode := .reg [⟨.loc 20, .mv (.var 5), none, []⟩,
  ⟨.var 21, .bin .int .gtr (.loc 20) (.const (.d (.int .i64 0))), none, []⟩] false
def c_S_l19Unrules_8 : ACode := .reg [⟨.loc 22, .mv (.var 4), none, []⟩,
  ⟨.loc 23, .lit 0 1 1 [.int .u8 0] [(0, (.const (.d (.int .u8 59))))], none, []⟩,
  ⟨.loc 24, .app 1 1 (.loc 22) (.loc 23), none, []⟩,
  ⟨.var 4, .mv (.loc 24), none, []⟩] false
def c_S_l19Unrules_9 : ACode := .reg [⟨.var 6, .mv (.const (.d (.int .i64 0))), none, []⟩] false
def c_S_l19Unrules_10 : ACode := .reg [⟨.loc 25, .mv (.var 6), none, []⟩,
  ⟨.loc 26, .mv (.var 3), none, []⟩,
  ⟨.loc 27, .mv (.var 5), none, []⟩,
  ⟨.loc 28, .idxA 1 (.loc 26) (.loc 27), none, []⟩,
  ⟨.loc 29, .load false 1 (.loc 28), none, []⟩,
  ⟨.loc 30, .len true (.loc 29), none, []⟩,
  ⟨.var 31, .bin .int .lss (.loc 25) (.loc 30), none, []⟩] false
def c_S_l19Unrules_11 : ACode := .reg [⟨.loc 34, .mv (.var 3), none, []⟩,
  ⟨.loc 35, .mv (.var 5), none, []⟩,
  ⟨.loc 36, .idxA 1 (.loc 34) (.loc 35), none, []⟩,
  ⟨.loc 37, .load false 1 (.loc 36), none, []⟩,
  ⟨.loc 38, .mv (.var 6), none, []⟩,
  ⟨.loc 39, .idxS (.loc 37) (.loc 38), none, []⟩,
  ⟨.var 7, .mv (.loc 39), none, []⟩] false
def c_S_l19Unrules_12 : ACode := .reg [⟨.loc 40, .mv (.var 7), none, []⟩,
  ⟨.var 41, .bin .int .eql (.loc 40) (.const (.d (.int .u8 32))), none, []⟩] false
def c_S_l19Unrules_13 : ACode := .reg [⟨.var 7, .mv (.const (.d (.int .u8 61))), none, []⟩] false
def c_S_l19Unrules_14 : ACode := .reg [⟨.loc 42, .mv (.var 4), none, []⟩,
  ⟨.loc 43, .mv (.var 7), none, []⟩,
  ⟨.loc 44, .lit 0 1 1 [.int .u8 0] [(0, (.loc 43))], none, []⟩,
  ⟨.loc 45, .app 1 1 (.loc 42) (.loc 44), none, []⟩,
  ⟨.var 4, .mv (.loc 45), none, []⟩] false
def c_S_l19Unrules_15 : ACode := .reg [⟨.loc 32, .mv (.var 6), none, []⟩,
  ⟨.loc 33, .bin .int .add (.loc 32) (.const (.d (.int .i64 1))), none, []⟩,
  ⟨.var 6, .mv (.loc 33), none, []⟩] false
def c_S_l19Unrules_16 : ACode := (.seq (.seq c_S_l19Unrules_10 (.cond (.var 31) .skip (.exit 2))) (.seq (.block 3 (.seq c_S_l19Unrules_11 (.seq (.seq c_S_l19Unrules_12 (.cond (.var 41) c_S_l19Unrules_13 .skip)) c_S_l19Unrules_14))) c_S_l19Unrules_15))
def c_S_l19Unrules_17 : ACode := .reg [⟨.loc 18, .mv (.var 5), none, []⟩,
  ⟨.loc 19, .bin .int .add (.loc 18) (.const (.d (.int .i64 1))), none, []⟩,
  ⟨.var 5, .mv (.loc 19), none, []⟩] false
def c_S_l19Unrules_18 : ACode := (.seq (.seq c_S_l19Unrules_6 (.cond (.var 17) .skip (.exit 0))) (.seq (.block 1 (.seq (.seq c_S_l19Unrules_7 (.cond (.var 21) c_S_l19Unrules_8 .skip)) (.seq c_S_l19Unrules_9 (.block 2 (.loop [3, 4, 5, 6] c_S_l19Unrules_16))))) c_S_l19Unrules_17))
def c_S_l19Unrules_19 : ACode := .reg [⟨.loc 46, .mv (.var 4), none, []⟩,
  ⟨.loc 47, .b2s (.loc 46), none, []⟩,
  ⟨.var 2, .mv (.loc 47), none, []⟩] false
def c_S_l19Unrules : ACode := (.seq c_S_l19Unrules_0 (.seq (.seq c_S_l19Unrules_1 (.cond (.var 9) (.seq c_S_l19Unrules_2 .ret) .skip)) (.seq c_S_l19Unrules_3 (.seq c_S_l19Unrules_4 (.seq (.seq c_S_l19Unrules_5 (.block 0 (.loop [3, 4, 5] c_S_l19Unrules_18))) (.seq c_S_l19Unrules_19 .ret))))))
abbrev F_S_l19Unrules : FuncId := 22
theorem k_S_l19Unrules : comp PP (Tryd.f22.ntmps, pinOf 0 [none]) [0, 2, 3, 4, 5, 6, 7, 9, 17, 21, 31, 41] (Tryd.f22.body.getD .skip) = some c_S_l19Unrules.erase := by kernel_rfl
theorem v_S_l19Unrules {GG : GV} (rcs : List C) {cs : List C} {r : C} {os : List (Option C)} (hN : (cs.length == 1 && rcs.length == 1) = true) (hret : retOf rcs = r)
    (hW : W PP [0, 2, 3, 4, 5, 6, 7, 9, 17, 21, 31, 41] (Tryd.f22.ntmps, pinOf 0 [none]) (Valid PP GG) c_S_l19Unrules (entry cs) (Fin (Valid PP GG) [(.give, 2, none)] [none] rcs os) (fun _ _ => False) (Fin (Valid PP GG) [(.give, 2, none)] [none] rcs os)) : Valid PP GG F_S_l19Unrules cs r os :=
  fn_valid_n 1 1 [0, 2, 3, 4, 5, 6, 7, 9, 17, 21, 31, 41] c_S_l19Unrules [(.give, 2, none)] [none] rcs Tryd.func22 rfl rfl (by kernel_rfl) k_S_l19Unrules rfl rfl hN hret hW
def c_S_ParseReq_0 : ACode := .reg [⟨.var 2, .alloc [.d (.int .i64 0), .d (.int .i64 0), .d (.str []), .d (.str []), .d (.str []), .d (.int .i64 0)], none, []⟩,
  ⟨.var 3, .mv (.const (.d (.bool false))), none, []⟩] false
def c_S_ParseReq_1 : ACode := .reg [⟨.loc 24, .build [.d (.int .i64 0), .d (.int .i64 0), .d (.str []), .d (.str []), .d (.str []), .d (.int .i64 0)] [], none, []⟩,
  ⟨.var 4, .alloc [.d (.int .i64 0), .d (.int .i64 0), .d (.str []), .d (.str []), .d (.str []), .d (.int .i64 0)], none, []⟩,
  ⟨.none, .store 6 (.var 4) (.loc 24), none, []⟩] false
def c_S_ParseReq_2 : ACode := .reg [⟨.loc 25, .mv (.var 0), none, []⟩,
  ⟨.loc 26, .len true (.loc 25), none, []⟩,
  ⟨.var 27, .bin .int .gtr (.loc 26) (.const (.d (.int .i64 250))), none, []⟩] false
def c_S_ParseReq_3 : ACode := .reg [⟨.loc 28, .load true 6 (.var 4), none, []⟩,
  ⟨.none, .store 6 (.var 2) (.loc 28), none, []⟩,
  ⟨.var 3, .mv (.const (.d (.bool false))), none, []⟩] false
def c_S_ParseReq_4 : ACode := .reg [⟨.loc 29, .mv (.var 0), none, []⟩,
  ⟨.loc 30, .call (.fn 27) [(.loc 29), (.const (.d (.int .u8 32)))] [.borrow, .borrow], none, []⟩,
  ⟨.var 5, .mv (.loc 30), none, []⟩] false
def c_S_ParseReq_5 : ACode := .reg [⟨.var 6, .mv (.const (.d (.int .i64 0))), none, []⟩] false
def c_S_ParseReq_6 : ACode := .reg [⟨.loc 31, .mv (.var 6), none, []⟩,
  ⟨.loc 32, .mv (.var 5), none, []⟩,
  ⟨.loc 33, .len false (.loc 32), none, []⟩,
  ⟨.var 34, .bin .int .lss (.loc 31) (.loc 33), none, []⟩] false
def c_S_ParseReq_7 : ACode := .reg [⟨.loc 37, .mv (.var 5), none, []⟩,
  ⟨.loc 38, .mv (.var 6), none, []⟩,
  ⟨.loc 39, .idxA 1 (.loc 37) (.loc 38), none, []⟩,
  ⟨.loc 40, .load false 1 (.loc 39), none, []⟩,
  ⟨.loc 41, .call (.fn 28) [(.loc 40)] [.borrow], none, []⟩,
  ⟨.var 42, .un .not (.loc 41), none, []⟩] false
def c_S_ParseReq_8 : ACode := .reg [⟨.loc 43, .load true 6 (.var 4), none, []⟩,
  ⟨.none, .store 6 (.var 2) (.loc 43), none, []⟩,
  ⟨.var 3, .mv (.const (.d (.bool false))), none, []⟩] false
def c_S_ParseReq_9 : ACode := .reg [⟨.loc 35, .mv (.var 6), none, []⟩,
  ⟨.loc 36, .bin .int .add (.loc 35) (.const (.d (.int .i64 1))), none, []⟩,
  ⟨.var 6, .mv (.loc 36), none, []⟩] false
def c_S_ParseReq_10 : ACode := (.seq (.seq c_S_ParseReq_6 (.cond (.var 34) .skip (.exit 0))) (.seq (.block 1 (.seq c_S_ParseReq_7 (.cond (.var 42) (.seq c_S_ParseReq_8 .ret) .skip))) c_S_ParseReq_9))
def c_S_ParseReq_11 : ACode := .reg [⟨.loc 44, .mv (.var 5), none, []⟩,
  ⟨.loc 45, .len false (.loc 44), none, []⟩,
  ⟨.loc 46, .bin .int .eql (.loc 45) (.const (.d (.int .i64 1))), none, []⟩,
  ⟨.loc 47, .split (.loc 46), none, []⟩,
  ⟨.loc 48, .mv (.var 5), some ((.loc 47), true), []⟩,
  ⟨.loc 49, .idxA 1 (.loc 48) (.const (.d (.int .i64 0))), some ((.loc 47), true), []⟩,
  ⟨.loc 50, .load false 1 (.loc 49), some ((.loc 47), true), []⟩,
  ⟨.loc 51, .bin .str .eql (.loc 50) (.const (.d (.str [115, 121, 110, 99]))), some ((.loc 47), true), []⟩,
  ⟨.var 52, .pick (.loc 47) (.loc 51) (.const (.d (.bool false))), none, []⟩] false
def c_S_ParseReq_12 : ACode := .reg [⟨.loc 53, .build [.d (.int .i64 0), .d (.int .i64 0), .d (.str []), .d (.str []), .d (.str []), .d (.int .i64 0)] [(0, 1, (.const (.d (.int .i64 14))))], none, []⟩,
  ⟨.none, .store 6 (.var 2) (.loc 53), none, []⟩,
  ⟨.var 3, .mv (.const (.d (.bool true))), none, []⟩] false
def c_S_ParseReq_13 : ACode := .reg [⟨.loc 54, .mv (.var 5), none, []⟩,
  ⟨.loc 55, .len false (.loc 54), none, []⟩,
  ⟨.var 56, .bin .int .eql (.loc 55) (.const (.d (.int .i64 2))), none, []⟩] false
def c_S_ParseReq_14 : ACode := .reg [⟨.loc 57, .lit 0 1 5 [.str []] [(0, (.const (.d (.str [111, 112, 101, 110])))), (1, (.const (.d (.str [116, 105, 109, 101])))), (2, (.const (.d (.str [102, 97, 114])))), (3, (.const (.d (.str [])))), (4, (.const (.d (.str [99, 114, 97, 115, 104]))))], none, []⟩,
  ⟨.var 7, .mv (.loc 57), none, []⟩] false
def c_S_ParseReq_15 : ACode := .reg [⟨.var 8, .mv (.const (.d (.int .i64 0))), none, []⟩] false
def c_S_ParseReq_16 : ACode := .reg [⟨.loc 58, .mv (.var 8), none, []⟩,
  ⟨.var 59, .bin .int .lss (.loc 58) (.const (.d (.int .i64 5))), none, []⟩] false
def c_S_ParseReq_17 : ACode := .reg [⟨.loc 62, .mv (.var 5), none, []⟩,
  ⟨.loc 63, .idxA 1 (.loc 62) (.const (.d (.int .i64 0))), none, [0]⟩,
  ⟨.loc 64, .load false 1 (.loc 63), none, [1, 0]⟩,
  ⟨.loc 65, .mv (.var 7), none, []⟩,
  ⟨.loc 66, .mv (.var 8), none, []⟩,
  ⟨.loc 67, .idxA 1 (.loc 65) (.loc 66), none, [3, 4]⟩,
  ⟨.loc 68, .load false 1 (.loc 67), none, [5, 3, 4]⟩,
  ⟨.var 69, .bin .str .eql (.loc 64) (.loc 68), none, [2, 1, 0, 6, 5, 3, 4]⟩] true
def c_S_ParseReq_18 : ACode := .reg [⟨.loc 71, .mv (.var 5), none, []⟩,
  ⟨.loc 72, .idxA 1 (.loc 71) (.const (.d (.int .i64 1))), none, []⟩,
  ⟨.loc 73, .load false 1 (.loc 72), none, []⟩,
  ⟨.loc 74, .call (.fn 29) [(.loc 73)] [.borrow], none, []⟩,
  ⟨.loc 70, .mv (.loc 74), none, []⟩,
  ⟨.loc 75, .ext (.loc 70) 0, none, []⟩,
  ⟨.loc 76, .ext (.loc 70) 1, none, []⟩,
  ⟨.var 9, .mv (.loc 75), none, []⟩,
  ⟨.var 10, .mv (.loc 76), none, []⟩] false
def c_S_ParseReq_19 : ACode := .reg [⟨.loc 77, .mv (.var 10), none, []⟩,
  ⟨.var 78, .un .not (.loc 77), none, []⟩] false
def c_S_ParseReq_20 : ACode := .reg [⟨.loc 79, .load true 6 (.var 4), none, []⟩,
  ⟨.none, .store 6 (.var 2) (.loc 79), none, []⟩,
  ⟨.var 3, .mv (.const (.d (.bool false))), none, []⟩] false
def c_S_ParseReq_21 : ACode := .reg [⟨.loc 80, .mv (.var 8), none, []⟩,
  ⟨.loc 81, .bin .int .add (.const (.d (.int .i64 11))) (.loc 80), none, []⟩,
  ⟨.loc 82, .mv (.var 9), none, []⟩,
  ⟨.loc 83, .build [.d (.int .i64 0), .d (.int .i64 0), .d (.str []), .d (.str []), .d (.str []), .d (.int .i64 0)] [(0, 1, (.loc 81)), (5, 1, (.loc 82))], none, []⟩,
  ⟨.none, .store 6 (.var 2) (.loc 83), none, []⟩,
  ⟨.var 3, .mv (.const (.d (.bool true))), none, []⟩] false
def c_S_ParseReq_22 : ACode := .reg [⟨.loc 60, .mv (.var 8), none, []⟩,
  ⟨.loc 61, .bin .int .add (.loc 60) (.const (.d (.int .i64 1))), none, []⟩,
  ⟨.var 8, .mv (.loc 61), none, []⟩] false
def c_S_ParseReq_23 : ACode := (.seq (.seq c_S_ParseReq_16 (.cond (.var 59) .skip (.exit 2))) (.seq (.block 3 (.seq c_S_ParseReq_17 (.cond (.var 69) (.seq c_S_ParseReq_18 (.seq (.seq c_S_ParseReq_19 (.cond (.var 78) (.seq c_S_ParseReq_20 .ret) .skip)) (.seq c_S_ParseReq_21 .ret))) .skip))) c_S_ParseReq_22))
def c_S_ParseReq_24 : ACode := .reg [⟨.loc 84, .mv (.var 5), none, []⟩,
  ⟨.loc 85, .len false (.loc 84), none, []⟩,
  ⟨.var 86, .bin .int .lss (.loc 85) (.const (.d (.int .i64 2))), none, []⟩] false
def c_S_ParseReq_25 : ACode := .reg [⟨.loc 87, .load true 6 (.var 4), none, []⟩,
  ⟨.none, .store 6 (.var 2) (.loc 87), none, []⟩,
  ⟨.var 3, .mv (.const (.d (.bool false))), none, []⟩] false
def c_S_ParseReq_26 : ACode := .reg [⟨.loc 89, .mv (.var 5), none, []⟩,
  ⟨.loc 90, .idxA 1 (.loc 89) (.const (.d (.int .i64 0))), none, []⟩,
  ⟨.loc 91, .load false 1 (.loc 90), none, []⟩,
  ⟨.loc 92, .call (.fn 29) [(.loc 91)] [.borrow], none, []⟩,
  ⟨.loc 88, .mv (.loc 92), none, []⟩,
  ⟨.loc 93, .ext (.loc 88) 0, none, []⟩,
  ⟨.loc 94, .ext (.loc 88) 1, none, []⟩,
  ⟨.var 11, .mv (.loc 93), none, []⟩,
  ⟨.var 12, .mv (.loc 94), none, []⟩] false
def c_S_ParseReq_27 : ACode := .reg [⟨.loc 95, .mv (.var 12), none, []⟩,
  ⟨.var 96, .un .not (.loc 95), none, []⟩] false
def c_S_ParseReq_28 : ACode := .reg [⟨.loc 97, .load true 6 (.var 4), none, []⟩,
  ⟨.none, .store 6 (.var 2) (.loc 97), none, []⟩,
  ⟨.var 3, .mv (.const (.d (.bool false))), none, []⟩] false
def c_S_ParseReq_29 : ACode := .reg [⟨.loc 98, .call (.fn 20) [] [], none, []⟩,
  ⟨.var 13, .mv (.loc 98), none, []⟩] false
def c_S_ParseReq_30 : ACode := .reg [⟨.var 14, .mv (.const (.d (.int .i64 0))), none, []⟩] false
def c_S_ParseReq_31 : ACode := .reg [⟨.loc 99, .mv (.var 14), none, []⟩,
  ⟨.loc 100, .mv (.var 13), none, []⟩,
  ⟨.loc 101, .len false (.loc 100), none, []⟩,
  ⟨.var 102, .bin .int .lss (.loc 99) (.loc 101), none, []⟩] false
def c_S_ParseReq_32 : ACode := .reg [⟨.loc 106, .mv (.var 13), none, []⟩,
  ⟨.loc 107, .mv (.var 14), none, []⟩,
  ⟨.loc 108, .idxA 1 (.loc 106) (.loc 107), none, []⟩,
  ⟨.loc 109, .load false 1 (.loc 108), none, []⟩,
  ⟨.loc 110, .call (.fn 19) [(.loc 109)] [.borrow], none, []⟩,
  ⟨.loc 105, .mv (.loc 110), none, []⟩,
  ⟨.loc 111, .ext (.loc 105) 0, none, []⟩,
  ⟨.loc 112, .ext (.loc 105) 1, none, []⟩,
  ⟨.var 15, .mv (.loc 111), none, []⟩,
  ⟨.var 16, .mv (.loc 112), none, []⟩] false
def c_S_ParseReq_33 : ACode := .reg [⟨.loc 113, .mv (.var 5), none, []⟩,
  ⟨.loc 114, .idxA 1 (.loc 113) (.const (.d (.int .i64 1))), none, []⟩,
  ⟨.loc 115, .load false 1 (.loc 114), none, []⟩,
  ⟨.loc 116, .mv (.var 15), none, []⟩,
  ⟨.loc 117, .bin .str .neq (.loc 115) (.loc 116), none, []⟩,
  ⟨.loc 118, .split (.loc 117), none, []⟩,
  ⟨.loc 119, .mv (.var 5), some ((.loc 118), false), []⟩,
  ⟨.loc 120, .len false (.loc 119), some ((.loc 118), false), []⟩,
  ⟨.loc 121, .mv (.var 16), some ((.loc 118), false), []⟩,
  ⟨.loc 122, .len true (.loc 121), some ((.loc 118), false), []⟩,
  ⟨.loc 123, .bin .int .add (.const (.d (.int .i64 2))) (.loc 122), some ((.loc 118), false), []⟩,
  ⟨.loc 124, .bin .int .neq (.loc 120) (.loc 123), some ((.loc 118), false), []⟩,
  ⟨.var 125, .pick (.loc 118) (.const (.d (.bool true))) (.loc 124), none, []⟩] false
def c_S_ParseReq_34 : ACode := .reg [⟨.loc 126, .mv (.var 14), none, []⟩,
  ⟨.loc 127, .mv (.var 11), none, []⟩,
  ⟨.loc 128, .build [.d (.int .i64 0), .d (.int .i64 0), .d (.str []), .d (.str []), .d (.str []), .d (.int .i64 0)] [(0, 1, (.loc 126)), (1, 1, (.loc 127))], none, []⟩,
  ⟨.var 17, .alloc [.d (.int .i64 0), .d (.int .i64 0), .d (.str []), .d (.str []), .d (.str []), .d (.int .i64 0)], none, []⟩,
  ⟨.none, .store 6 (.var 17) (.loc 128), none, []⟩] false
def c_S_ParseReq_35 : ACode := .reg [⟨.var 18, .mv (.const (.d (.int .i64 0))), none, []⟩] false
def c_S_ParseReq_36 : ACode := .reg [⟨.loc 129, .mv (.var 18), none, []⟩,
  ⟨.loc 130, .mv (.var 16), none, []⟩,
  ⟨.loc 131, .len true (.loc 130), none, []⟩,
  ⟨.var 132, .bin .int .lss (.loc 129) (.loc 131), none, []⟩] false
def c_S_ParseReq_37 : ACode := .reg [⟨.loc 135, .mv (.var 5), none, []⟩,
  ⟨.loc 136, .mv (.var 18), none, []⟩,
  ⟨.loc 137, .bin .int .add (.const (.d (.int .i64 2))) (.loc 136), none, []⟩,
  ⟨.loc 138, .idxA 1 (.loc 135) (.loc 137), none, []⟩,
  ⟨.loc 139, .load false 1 (.loc 138), none, []⟩,
  ⟨.var 19, .mv (.loc 139), none, []⟩] false
def c_S_ParseReq_38 : ACode := .reg [⟨.loc 140, .mv (.var 16), none, []⟩,
  ⟨.loc 141, .mv (.var 18), none, []⟩,
  ⟨.var 142, .idxS (.loc 140) (.loc 141), none, []⟩] false
def c_S_ParseReq_39 : ACode := .reg [⟨.loc 144, .bin .int .eql (.var 142) (.const (.d (.int .u8 110))), none, []⟩,
  ⟨.var 143, .mv (.loc 144), none, []⟩] false
def c_S_ParseReq_40 : ACode := .reg [⟨.loc 146, .mv (.var 19), none, []⟩,
  ⟨.loc 147, .call (.fn 29) [(.loc 146)] [.borrow], none, []⟩,
  ⟨.loc 145, .mv (.loc 147), none, []⟩,
  ⟨.loc 148, .ext (.loc 145) 0, none, []⟩,
  ⟨.loc 149, .ext (.loc 145) 1, none, []⟩,
  ⟨.var 20, .mv (.loc 148), none, []⟩,
  ⟨.var 21, .mv (.loc 149), none, []⟩] false
def c_S_ParseReq_41 : ACode := .reg [⟨.loc 150, .mv (.var 21), none, []⟩,
  ⟨.var 151, .un .not (.loc 150), none, []⟩] false
def c_S_ParseReq_42 : ACode := .reg [⟨.loc 152, .load true 6 (.var 4), none, []⟩,
  ⟨.none, .store 6 (.var 2) (.loc 152), none, []⟩,
  ⟨.var 3, .mv (.const (.d (.bool false))), none, []⟩] false
def c_S_ParseReq_43 : ACode := .reg [⟨.loc 153, .mv (.var 20), none, []⟩,
  ⟨.loc 154, .fld 5 (.var 17), none, []⟩,
  ⟨.none, .store 1 (.loc 154) (.loc 153), none, []⟩] false
def c_S_ParseReq_44 : ACode := .reg [⟨.loc 156, .bin .int .eql (.var 142) (.const (.d (.int .u8 119))), none, []⟩,
  ⟨.var 155, .mv (.loc 156), none, []⟩] false
def c_S_ParseReq_45 : ACode := .reg [⟨.loc 157, .mv (.var 19), none, []⟩,
  ⟨.loc 158, .fld 2 (.var 17), none, []⟩,
  ⟨.none, .store 1 (.loc 158) (.loc 157), none, []⟩] false
def c_S_ParseReq_46 : ACode := .reg [⟨.loc 160, .bin .int .eql (.var 142) (.const (.d (.int .u8 112))), none, []⟩,
  ⟨.var 159, .mv (.loc 160), none, []⟩] false
def c_S_ParseReq_47 : ACode := .reg [⟨.loc 161, .mv (.var 19), none, []⟩,
  ⟨.loc 162, .fld 3 (.var 17), none, []⟩,
  ⟨.none, .store 1 (.loc 162) (.loc 161), none, []⟩] false
def c_S_ParseReq_48 : ACode := .reg [⟨.loc 164, .bin .int .eql (.var 142) (.const (.d (.int .u8 113))), none, []⟩,
  ⟨.var 163, .mv (.loc 164), none, []⟩] false
def c_S_ParseReq_49 : ACode := .reg [⟨.loc 165, .mv (.var 19), none, []⟩,
  ⟨.var 166, .bin .str .neq (.loc 165) (.const (.d (.str [46]))), none, []⟩] false
def c_S_ParseReq_50 : ACode := .reg [⟨.loc 167, .mv (.var 19), none, []⟩,
  ⟨.loc 168, .fld 3 (.var 17), none, []⟩,
  ⟨.none, .store 1 (.loc 168) (.loc 167), none, []⟩] false
def c_S_ParseReq_51 : ACode := .reg [⟨.loc 170, .bin .int .eql (.var 142) (.const (.d (.int .u8 111))), none, []⟩,
  ⟨.var 169, .mv (.loc 170), none, []⟩] false
def c_S_ParseReq_52 : ACode := .reg [⟨.loc 171, .mv (.var 19), none, []⟩,
  ⟨.var 172, .bin .str .neq (.loc 171) (.const (.d (.str [46]))), none, []⟩] false
def c_S_ParseReq_53 : ACode := .reg [⟨.loc 173, .mv (.var 19), none, []⟩,
  ⟨.loc 174, .fld 4 (.var 17), none, []⟩,
  ⟨.none, .store 1 (.loc 174) (.loc 173), none, []⟩] false
def c_S_ParseReq_54 : ACode := .reg [⟨.loc 133, .mv (.var 18), none, []⟩,
  ⟨.loc 134, .bin .int .add (.loc 133) (.const (.d (.int .i64 1))), none, []⟩,
  ⟨.var 18, .mv (.loc 134), none, []⟩] false
def c_S_ParseReq_55 : ACode := (.seq (.seq c_S_ParseReq_36 (.cond (.var 132) .skip (.exit 6))) (.seq (.block 7 (.seq c_S_ParseReq_37 (.seq c_S_ParseReq_38 (.block 8 (.seq c_S_ParseReq_39 (.cond (.var 143) (.seq c_S_ParseReq_40 (.seq (.seq c_S_ParseReq_41 (.cond (.var 151) (.seq c_S_ParseReq_42 .ret) .skip)) c_S_ParseReq_43)) (.seq c_S_ParseReq_44 (.cond (.var 155) c_S_ParseReq_45 (.seq c_S_ParseReq_46 (.cond (.var 159) c_S_ParseReq_47 (.seq c_S_ParseReq_48 (.cond (.var 163) (.seq c_S_ParseReq_49 (.cond (.var 166) c_S_ParseReq_50 .skip)) (.seq c_S_ParseReq_51 (.cond (.var 169) (.seq c_S_ParseReq_52 (.cond (.var 172) c_S_ParseReq_53 .skip)) .skip)))))))))))))) c_S_ParseReq_54))
def c_S_ParseReq_56 : ACode := .reg [⟨.loc 175, .mv (.var 14), none, []⟩,
  ⟨.var 176, .bin .int .eql (.loc 175) (.const (.d (.int .i64 0))), none, []⟩] false
def c_S_ParseReq_57 : ACode := .reg [⟨.loc 178, .mv (.var 5), none, []⟩,
  ⟨.loc 179, .idxA 1 (.loc 178) (.const (.d (.int .i64 3))), none, []⟩,
  ⟨.loc 180, .load false 1 (.loc 179), none, []⟩,
  ⟨.loc 181, .call (.fn 30) [(.loc 180)] [.borrow], none, []⟩,
  ⟨.loc 177, .mv (.loc 181), none, []⟩,
  ⟨.loc 182, .ext (.loc 177) 0, none, []⟩,
  ⟨.loc 183, .ext (.loc 177) 1, none, []⟩,
  ⟨.var 22, .mv (.loc 182), none, []⟩,
  ⟨.var 23, .mv (.loc 183), none, []⟩] false
def c_S_ParseReq_58 : ACode := .reg [⟨.loc 184, .mv (.var 23), none, []⟩,
  ⟨.var 185, .un .not (.loc 184), none, []⟩] false
def c_S_ParseReq_59 : ACode := .reg [⟨.loc 186, .load true 6 (.var 4), none, []⟩,
  ⟨.none, .store 6 (.var 2) (.loc 186), none, []⟩,
  ⟨.var 3, .mv (.const (.d (.bool false))), none, []⟩] false
def c_S_ParseReq_60 : ACode := .reg [⟨.loc 187, .mv (.var 22), none, []⟩,
  ⟨.loc 188, .fld 4 (.var 17), none, []⟩,
  ⟨.none, .store 1 (.loc 188) (.loc 187), none, []⟩] false
def c_S_ParseReq_61 : ACode := .reg [⟨.loc 189, .load true 6 (.var 17), none, []⟩,
  ⟨.none, .store 6 (.var 2) (.loc 189), none, []⟩,
  ⟨.var 3, .mv (.const (.d (.bool true))), none, []⟩] false
def c_S_ParseReq_62 : ACode := .reg [⟨.loc 103, .mv (.var 14), none, []⟩,
  ⟨.loc 104, .bin .int .add (.loc 103) (.const (.d (.int .i64 1))), none, []⟩,
  ⟨.var 14, .mv (.loc 104), none, []⟩] false
def c_S_ParseReq_63 : ACode := (.seq (.seq c_S_ParseReq_31 (.cond (.var 102) .skip (.exit 4))) (.seq (.block 5 (.seq c_S_ParseReq_32 (.seq (.seq c_S_ParseReq_33 (.cond (.var 125) (.exit 5) .skip)) (.seq c_S_ParseReq_34 (.seq (.seq c_S_ParseReq_35 (.block 6 (.loop [2, 4, 5, 14, 16, 17, 18] c_S_ParseReq_55))) (.seq (.seq c_S_ParseReq_56 (.cond (.var 176) (.seq c_S_ParseReq_57 (.seq (.seq c_S_ParseReq_58 (.cond (.var 185) (.seq c_S_ParseReq_59 .ret) .skip)) c_S_ParseReq_60)) .skip)) (.seq c_S_ParseReq_61 .ret))))))) c_S_ParseReq_62))
def c_S_ParseReq_64 : ACode := .reg [⟨.loc 190, .load true 6 (.var 4), none, []⟩,
  ⟨.none, .store 6 (.var 2) (.loc 190), none, []⟩,
  ⟨.var 3, .mv (.const (.d (.bool false))), none, []⟩] false
def c_S_ParseReq : ACode := (.seq c_S_ParseReq_0 (.seq c_S_ParseReq_1 (.seq (.seq c_S_ParseReq_2 (.cond (.var 27) (.seq c_S_ParseReq_3 .ret) .skip)) (.seq c_S_ParseReq_4 (.seq (.seq c_S_ParseReq_5 (.block 0 (.loop [2, 4, 5, 6] c_S_ParseReq_10))) (.seq (.seq c_S_ParseReq_11 (.cond (.var 52) (.seq c_S_ParseReq_12 .ret) .skip)) (.seq (.seq c_S_ParseReq_13 (.cond (.var 56) (.seq c_S_ParseReq_14 (.seq c_S_ParseReq_15 (.block 2 (.loop [2, 4, 5, 7, 8] c_S_ParseReq_23)))) .skip)) (.seq (.seq c_S_ParseReq_24 (.cond (.var 86) (.seq c_S_ParseReq_25 .ret) .skip)) (.seq c_S_ParseReq_26 (.seq (.seq c_S_ParseReq_27 (.cond (.var 96) (.seq c_S_ParseReq_28 .ret) .skip)) (.seq c_S_ParseReq_29 (.seq (.seq c_S_ParseReq_30 (.block 4 (.loop [2, 4, 5, 11, 13, 14] c_S_ParseReq_63))) (.seq c_S_ParseReq_64 .ret)))))))))))))
abbrev F_S_ParseReq : FuncId := 23
theorem k_S_ParseReq : comp PP (Tryd.f23.ntmps, pinOf 0 [none]) [0, 2, 3, 4, 5, 6, 7, 8, 9, 10, 11, 12, 13, 14, 15, 16, 17, 18, 19, 20, 21, 22, 23, 27, 34, 42, 52, 56, 59, 69, 78, 86, 96, 102, 125, 132, 142, 143, 151, 155, 159, 163, 166, 169, 172, 176, 185] (Tryd.f23.body.getD .skip) = some c_S_ParseReq.erase := by kernel_rfl
theorem v_S_ParseReq {GG : GV} (rcs : List C) {cs : List C} {r : C} {os : List (Option C)} (hN : (cs.length == 1 && rcs.length == 2) = true) (hret : retOf rcs = r)
    (hW : W PP [0, 2, 3, 4, 5, 6, 7, 8, 9, 10, 11, 12, 13, 14, 15, 16, 17, 18, 19, 20, 21, 22, 23, 27, 34, 42, 52, 56, 59, 69, 78, 86, 96, 102, 125, 132, 142, 143, 151, 155, 159, 163, 166, 169, 172, 176, 185] (Tryd.f23.ntmps, pinOf 0 [none]) (Valid PP GG) c_S_ParseReq (entry cs) (Fin (Valid PP GG) [(.give, 2, some (true, 6)), (.give, 3, none)] [none] rcs os) (fun _ _ => False) (Fin (Valid PP GG) [(.give, 2, some (true, 6)), (.give, 3, none)] [none] rcs os)) : Valid PP GG F_S_ParseReq cs r os :=
  fn_valid_n 1 2 [0, 2, 3, 4, 5, 6, 7, 8, 9, 10, 11, 12, 13, 14, 15, 16, 17, 18, 19, 20, 21, 22, 23, 27, 34, 42, 52, 56, 59, 69, 78, 86, 96, 102, 125, 132, 142, 143, 151, 155, 159, 163, 166, 169, 172, 176, 185] c_S_ParseReq [(.give, 2, some (true, 6)), (.give, 3, none)] [none] rcs Tryd.func23 rfl rfl (by kernel_rfl) k_S_ParseReq rfl rfl hN hret hW
def c_I_reqLine_0 : ACode := .reg [⟨.var 1, .box (.var 0), none, []⟩,
  ⟨.var 2, .mv (.const (.d (.str []))), none, []⟩] false
def c_I_reqLine_1 : ACode := .reg [⟨.loc 7, .fld 0 (.var 1), none, []⟩,
  ⟨.loc 8, .load false 1 (.loc 7), none, []⟩,
  ⟨.loc 9, .call (.fn 31) [(.loc 8), (.const (.d (.int .i64 0))), (.const (.d (.int .i64 15)))] [.borrow, .borrow, .borrow], none, []⟩,
  ⟨.var 10, .un .not (.loc 9), none, []⟩] false
def c_I_reqLine_2 : ACode := .reg [⟨.var 2, .mv (.const (.d (.str []))), none, []⟩] false
def c_I_reqLine_3 : ACode := .reg [⟨.loc 11, .call (.fn 32) [] [], none, []⟩,
  ⟨.loc 12, .fld 0 (.var 1), none, []⟩,
  ⟨.loc 13, .load false 1 (.loc 12), none, [1]⟩,
  ⟨.loc 14, .idxA 4 (.loc 11) (.loc 13), none, [0, 2, 1]⟩,
  ⟨.loc 15, .load true 4 (.loc 14), none, [3, 0, 2, 1]⟩,
  ⟨.var 3, .alloc [.d (.str []), .d (.int .i64 0), .d (.bool false), .d (.str [])], none, []⟩,
  ⟨.none, .store 4 (.var 3) (.loc 15), none, [4, 3, 0, 2, 1, 5]⟩] true
def c_I_reqLine_4 : ACode := .reg [⟨.loc 16, .fld 0 (.var 3), none, []⟩,
  ⟨.loc 17, .load false 1 (.loc 16), none, []⟩,
  ⟨.var 4, .mv (.loc 17), none, []⟩] false
def c_I_reqLine_5 : ACode := .reg [⟨.loc 18, .fld 2 (.var 3), none, []⟩,
  ⟨.var 19, .load false 1 (.loc 18), none, []⟩] false
def c_I_reqLine_6 : ACode := .reg [⟨.loc 20, .fld 1 (.var 1), none, []⟩,
  ⟨.loc 21, .load false 1 (.loc 20), none, []⟩,
  ⟨.loc 22, .call (.fn 33) [(.loc 21)] [.borrow], none, []⟩,
  ⟨.loc 23, .bin .str .add (.loc 22) (.const (.d (.str [32]))), none, []⟩,
  ⟨.loc 24, .mv (.var 4), none, []⟩,
  ⟨.loc 25, .bin .str .add (.loc 23) (.loc 24), none, []⟩,
  ⟨.var 4, .mv (.loc 25), none, []⟩] false
def c_I_reqLine_7 : ACode := .reg [⟨.loc 26, .fld 3 (.var 3), none, []⟩,
  ⟨.loc 27, .load false 1 (.loc 26), none, []⟩,
  ⟨.var 28, .len true (.loc 27), none, []⟩,
  ⟨.var 29, .mv (.const (.d (.int .i64 0))), none, []⟩] false
def c_I_reqLine_8 : ACode := .reg [⟨.var 30, .bin .int .lss (.var 29) (.var 28), none, []⟩] false
def c_I_reqLine_9 : ACode := .reg [⟨.loc 31, .mv (.var 29), none, []⟩,
  ⟨.var 5, .mv (.loc 31), none, []⟩] false
def c_I_reqLine_10 : ACode := .reg [⟨.var 6, .mv (.const (.d (.str []))), none, []⟩] false
def c_I_reqLine_11 : ACode := .reg [⟨.loc 32, .fld 3 (.var 3), none, []⟩,
  ⟨.loc 33, .load false 1 (.loc 32), none, []⟩,
  ⟨.loc 34, .mv (.var 5), none, []⟩,
  ⟨.var 35, .idxS (.loc 33) (.loc 34), none, []⟩] false
def c_I_reqLine_12 : ACode := .reg [⟨.loc 53, .bin .int .eql (.var 35) (.const (.d (.int .u8 110))), none, []⟩,
  ⟨.var 52, .mv (.loc 53), none, []⟩] false
def c_I_reqLine_13 : ACode := .reg [⟨.loc 54, .fld 5 (.var 1), none, []⟩,
  ⟨.loc 55, .load false 1 (.loc 54), none, []⟩,
  ⟨.loc 56, .call (.fn 33) [(.loc 55)] [.borrow], none, []⟩,
  ⟨.var 6, .mv (.loc 56), none, []⟩] false
def c_I_reqLine_14 : ACode := .reg [⟨.loc 58, .bin .int .eql (.var 35) (.const (.d (.int .u8 112))), none, []⟩,
  ⟨.var 57, .mv (.loc 58), none, []⟩] false
def c_I_reqLine_15 : ACode := .reg [⟨.loc 59, .fld 3 (.var 1), none, []⟩,
  ⟨.loc 60, .load false 1 (.loc 59), none, []⟩,
  ⟨.var 6, .mv (.loc 60), none, []⟩] false
def c_I_reqLine_16 : ACode := .reg [⟨.loc 62, .bin .int .eql (.var 35) (.const (.d (.int .u8 109))), none, []⟩,
  ⟨.var 61, .mv (.loc 62), none, []⟩] false
def c_I_reqLine_17 : ACode := .reg [⟨.loc 63, .fld 2 (.var 1), none, []⟩,
  ⟨.loc 64, .load false 1 (.loc 63), none, []⟩,
  ⟨.var 6, .mv (.loc 64), none, []⟩] false
def c_I_reqLine_18 : ACode := .reg [⟨.loc 66, .bin .int .eql (.var 35) (.const (.d (.int .u8 113))), none, []⟩,
  ⟨.var 65, .mv (.loc 66), none, []⟩] false
def c_I_reqLine_19 : ACode := .reg [⟨.loc 67, .fld 3 (.var 1), none, []⟩,
  ⟨.loc 68, .load false 1 (.loc 67), none, []⟩,
  ⟨.loc 69, .call (.fn 34) [(.loc 68)] [.borrow], none, []⟩,
  ⟨.var 6, .mv (.loc 69), none, []⟩] false
def c_I_reqLine_20 : ACode := .reg [⟨.loc 36, .fld 4 (.var 1), none, []⟩,
  ⟨.loc 37, .load false 1 (.loc 36), none, []⟩,
  ⟨.loc 38, .call (.fn 34) [(.loc 37)] [.borrow], none, []⟩,
  ⟨.var 6, .mv (.loc 38), none, []⟩] false
def c_I_reqLine_21 : ACode := .reg [⟨.loc 39, .fld 1 (.var 3), none, []⟩,
  ⟨.loc 40, .load false 1 (.loc 39), none, []⟩,
  ⟨.loc 41, .bin .int .eql (.loc 40) (.const (.d (.int .i64 0))), none, []⟩,
  ⟨.loc 42, .split (.loc 41), none, []⟩,
  ⟨.loc 43, .fld 4 (.var 1), some ((.loc 42), true), []⟩,
  ⟨.loc 44, .load false 1 (.loc 43), some ((.loc 42), true), []⟩,
  ⟨.loc 45, .bin .str .neq (.loc 44) (.const (.d (.str []))), some ((.loc 42), true), []⟩,
  ⟨.var 46, .pick (.loc 42) (.loc 45) (.const (.d (.bool false))), none, []⟩] false
def c_I_reqLine_22 : ACode := .reg [⟨.loc 47, .fld 4 (.var 1), none, []⟩,
  ⟨.loc 48, .load false 1 (.loc 47), none, []⟩,
  ⟨.loc 49, .call (.fn 36) [(.loc 48), (.const (.d (.str [10])))] [.borrow, .borrow], none, []⟩,
  ⟨.loc 50, .call (.fn 35) [(.loc 49), (.const (.d (.str [10]))), (.const (.d (.str [59])))] [.borrow, .borrow, .borrow], none, []⟩,
  ⟨.loc 51, .call (.fn 35) [(.loc 50), (.const (.d (.str [32]))), (.const (.d (.str [61])))] [.borrow, .borrow, .borrow], none, []⟩,
  ⟨.var 6, .mv (.loc 51), none, []⟩] false
def c_I_reqLine_23 : ACode := .reg [⟨.loc 70, .mv (.var 4), none, []⟩,
  ⟨.loc 71, .mv (.var 6), none, []⟩,
  ⟨.loc 72, .bin .str .add (.const (.d (.str [32]))) (.loc 71), none, []⟩,
  ⟨.loc 73, .bin .str .add (.loc 70) (.loc 72), none, []⟩,
  ⟨.var 4, .mv (.loc 73), none, []⟩] false
def c_I_reqLine_24 : ACode := .reg [⟨.loc 74, .bin .int .add (.var 29) (.const (.d (.int .i64 1))), none, []⟩,
  ⟨.var 29, .mv (.loc 74), none, []⟩] false
def c_I_reqLine_25 : ACode := (.seq c_I_reqLine_8 (.seq (.cond (.var 30) .skip (.exit 0)) (.seq (.block 1 (.seq c_I_reqLine_9 (.seq c_I_reqLine_10 (.seq (.seq c_I_reqLine_11 (.block 2 (.seq c_I_reqLine_12 (.cond (.var 52) c_I_reqLine_13 (.seq c_I_reqLine_14 (.cond (.var 57) c_I_reqLine_15 (.seq c_I_reqLine_16 (.cond (.var 61) c_I_reqLine_17 (.seq c_I_reqLine_18 (.cond (.var 65) c_I_reqLine_19 (.seq c_I_reqLine_20 (.seq c_I_reqLine_21 (.cond (.var 46) c_I_reqLine_22 .skip))))))))))))) c_I_reqLine_23)))) c_I_reqLine_24)))
def c_I_reqLine_26 : ACode := .reg [⟨.loc 75, .mv (.var 4), none, []⟩,
  ⟨.var 2, .mv (.loc 75), none, []⟩] false
def c_I_reqLine : ACode := (.seq c_I_reqLine_0 (.seq (.seq c_I_reqLine_1 (.cond (.var 10) (.seq c_I_reqLine_2 .ret) .skip)) (.seq c_I_reqLine_3 (.seq c_I_reqLine_4 (.seq (.seq c_I_reqLine_5 (.cond (.var 19) c_I_reqLine_6 .skip)) (.seq (.seq c_I_reqLine_7 (.block 0 (.loop [1, 3, 4, 28, 29] c_I_reqLine_25))) (.seq c_I_reqLine_26 .ret)))))))
abbrev F_I_reqLine : FuncId := 24
theorem k_I_reqLine : comp PP (Tryd.f24.ntmps, pinOf 0 [none]) [0, 1, 2, 3, 4, 5, 6, 10, 19, 28, 29, 30, 35, 46, 52, 57, 61, 65] (Tryd.f24.body.getD .skip) = some c_I_reqLine.erase := by kernel_rfl
theorem v_I_reqLine {GG : GV} (rcs : List C) {cs : List C} {r : C} {os : List (Option C)} (hN : (cs.length == 1 && rcs.length == 1) = true) (hret : retOf rcs = r)
    (hW : W PP [0, 1, 2, 3, 4, 5, 6, 10, 19, 28, 29, 30, 35, 46, 52, 57, 61, 65] (Tryd.f24.ntmps, pinOf 0 [none]) (Valid PP GG) c_I_reqLine (entry cs) (Fin (Valid PP GG) [(.give, 2, none)] [none] rcs os) (fun _ _ => False) (Fin (Valid PP GG) [(.give, 2, none)] [none] rcs os)) : Valid PP GG F_I_reqLine cs r os :=
  fn_valid_n 1 1 [0, 1, 2, 3, 4, 5, 6, 10, 19, 28, 29, 30, 35, 46, 52, 57, 61, 65] c_I_reqLine [(.give, 2, none)] [none] rcs Tryd.func24 rfl rfl (by kernel_rfl) k_I_reqLine rfl rfl hN hret hW
def c_I_parseReq_0 : ACode := .reg [⟨.var 2, .alloc [.d (.int .i64 0), .d (.int .i64 0), .d (.str []), .d (.str []), .d (.str []), .d (.int .i64 0)], none, []⟩,
  ⟨.var 3, .mv (.const (.d (.bool false))), none, []⟩] false
def c_I_parseReq_1 : ACode := .reg [⟨.loc 12, .mv (.var 0), none, []⟩,
  ⟨.loc 13, .len true (.loc 12), none, []⟩,
  ⟨.var 14, .bin .int .gtr (.loc 13) (.const (.d (.int .i64 250))), none, []⟩] false
def c_I_parseReq_2 : ACode := .reg [⟨.loc 15, .build [.d (.int .i64 0), .d (.int .i64 0), .d (.str []), .d (.str []), .d (.str []), .d (.int .i64 0)] [], none, []⟩,
  ⟨.none, .store 6 (.var 2) (.loc 15), none, []⟩,
  ⟨.var 3, .mv (.const (.d (.bool false))), none, []⟩] false
def c_I_parseReq_3 : ACode := .reg [⟨.loc 16, .mv (.var 0), none, []⟩,
  ⟨.loc 17, .call (.fn 37) [(.loc 16), (.const (.d (.str [32])))] [.borrow, .borrow], none, []⟩,
  ⟨.var 4, .mv (.loc 17), none, []⟩] false
def c_I_parseReq_4 : ACode := .reg [⟨.loc 19, .mv (.var 4), none, []⟩,
  ⟨.loc 20, .idxA 1 (.loc 19) (.const (.d (.int .i64 0))), none, []⟩,
  ⟨.loc 21, .load false 1 (.loc 20), none, []⟩,
  ⟨.loc 22, .call (.fn 38) [(.loc 21)] [.borrow], none, []⟩,
  ⟨.loc 18, .mv (.loc 22), none, []⟩,
  ⟨.loc 23, .ext (.loc 18) 0, none, []⟩,
  ⟨.loc 24, .ext (.loc 18) 1, none, []⟩,
  ⟨.var 5, .mv (.loc 23), none, []⟩,
  ⟨.var 6, .mv (.loc 24), none, []⟩] false
def c_I_parseReq_5 : ACode := .reg [⟨.var 25, .mv (.var 6), none, []⟩] false
def c_I_parseReq_6 : ACode := .reg [⟨.loc 26, .mv (.var 4), none, []⟩,
  ⟨.loc 27, .sliceA 1 (.loc 26) (some (.const (.d (.int .i64 1)))) none, none, []⟩,
  ⟨.var 4, .mv (.loc 27), none, []⟩] false
def c_I_parseReq_7 : ACode := .reg [⟨.var 28, .call (.fn 32) [] [], none, []⟩,
  ⟨.var 29, .len false (.var 28), none, []⟩,
  ⟨.var 30, .mv (.const (.d (.int .i64 0))), none, []⟩] false
def c_I_parseReq_8 : ACode := .reg [⟨.var 31, .bin .int .lss (.var 30) (.var 29), none, []⟩] false
def c_I_parseReq_9 : ACode := .reg [⟨.loc 32, .idxA 4 (.var 28) (.var 30), none, []⟩,
  ⟨.loc 33, .load true 4 (.loc 32), none, []⟩,
  ⟨.var 8, .alloc [.d (.str []), .d (.int .i64 0), .d (.bool false), .d (.str [])], none, []⟩,
  ⟨.none, .store 4 (.var 8) (.loc 33), none, []⟩] false
def c_I_parseReq_10 : ACode := .reg [⟨.loc 34, .mv (.var 4), none, []⟩,
  ⟨.loc 35, .len false (.loc 34), none, [0]⟩,
  ⟨.loc 36, .fld 3 (.var 8), none, []⟩,
  ⟨.loc 37, .load false 1 (.loc 36), none, [2]⟩,
  ⟨.loc 38, .len true (.loc 37), none, [3, 2]⟩,
  ⟨.loc 39, .bin .int .add (.loc 38) (.const (.d (.int .i64 1))), none, [4, 3, 2]⟩,
  ⟨.loc 40, .bin .int .neq (.loc 35) (.loc 39), none, [1, 0, 5, 4, 3, 2]⟩,
  ⟨.loc 41, .split (.loc 40), none, [6, 1, 0, 5, 4, 3, 2]⟩,
  ⟨.loc 42, .mv (.var 4), some ((.loc 41), false), [7, 6, 1, 0, 5, 4, 3, 2]⟩,
  ⟨.loc 43, .idxA 1 (.loc 42) (.const (.d (.int .i64 0))), some ((.loc 41), false), [8, 7, 6, 1, 0, 5, 4, 3, 2]⟩,
  ⟨.loc 44, .load false 1 (.loc 43), some ((.loc 41), false), [9, 8, 7, 6, 1, 0, 5, 4, 3, 2]⟩,
  ⟨.loc 45, .fld 0 (.var 8), some ((.loc 41), false), [7, 6, 1, 0, 5, 4, 3, 2]⟩,
  ⟨.loc 46, .load false 1 (.loc 45), some ((.loc 41), false), [11, 7, 6, 1, 0, 5, 4, 3, 2]⟩,
  ⟨.loc 47, .bin .str .neq (.loc 44) (.loc 46), some ((.loc 41), false), [10, 9, 8, 12, 11, 7, 6, 1, 0, 5, 4, 3, 2]⟩,
  ⟨.loc 48, .pick (.loc 41) (.const (.d (.bool true))) (.loc 47), none, [13, 10, 9, 8, 12, 11, 7, 6, 1, 0, 5, 4, 3, 2]⟩,
  ⟨.loc 49, .split (.loc 48), none, [14, 13, 10, 9, 8, 12, 11, 7, 6, 1, 0, 5, 4, 3, 2]⟩,
  ⟨.loc 50, .fld 2 (.var 8), some ((.loc 49), false), [15, 14, 13, 10, 9, 8, 12, 11, 7, 6, 1, 0, 5, 4, 3, 2]⟩,
  ⟨.loc 51, .load false 1 (.loc 50), some ((.loc 49), false), [16, 15, 14, 13, 10, 9, 8, 12, 11, 7, 6, 1, 0, 5, 4, 3, 2]⟩,
  ⟨.loc 52, .mv (.var 6), some ((.loc 49), false), [15, 14, 13, 10, 9, 8, 12, 11, 7, 6, 1, 0, 5, 4, 3, 2]⟩,
  ⟨.loc 53, .bin .bool .neq (.loc 51) (.loc 52), some ((.loc 49), false), [17, 16, 18, 15, 14, 13, 10, 9, 8, 12, 11, 7, 6, 1, 0, 5, 4, 3, 2]⟩,
  ⟨.var 54, .pick (.loc 49) (.const (.d (.bool true))) (.loc 53), none, [19, 17, 16, 18, 15, 14, 13, 10, 9, 8, 12, 11, 7, 6, 1, 0, 5, 4, 3, 2]⟩] true
def c_I_parseReq_11 : ACode := .reg [⟨.loc 55, .fld 1 (.var 8), none, []⟩,
  ⟨.loc 56, .load false 1 (.loc 55), none, []⟩,
  ⟨.loc 57, .mv (.var 5), none, []⟩,
  ⟨.loc 58, .build [.d (.int .i64 0), .d (.int .i64 0), .d (.str []), .d (.str []), .d (.str []), .d (.int .i64 0)] [(0, 1, (.loc 56)), (1, 1, (.loc 57))], none, []⟩,
  ⟨.var 9, .alloc [.d (.int .i64 0), .d (.int .i64 0), .d (.str []), .d (.str []), .d (.str []), .d (.int .i64 0)], none, []⟩,
  ⟨.none, .store 6 (.var 9) (.loc 58), none, []⟩] false
def c_I_parseReq_12 : ACode := .reg [⟨.loc 59, .mv (.var 4), none, []⟩,
  ⟨.var 60, .sliceA 1 (.loc 59) (some (.const (.d (.int .i64 1)))) none, none, []⟩,
  ⟨.var 61, .len false (.var 60), none, []⟩,
  ⟨.var 62, .mv (.const (.d (.int .i64 0))), none, []⟩] false
def c_I_parseReq_13 : ACode := .reg [⟨.var 63, .bin .int .lss (.var 62) (.var 61), none, []⟩] false
def c_I_parseReq_14 : ACode := .reg [⟨.loc 64, .mv (.var 62), none, []⟩,
  ⟨.loc 65, .idxA 1 (.var 60) (.var 62), none, []⟩,
  ⟨.loc 66, .load false 1 (.loc 65), none, []⟩,
  ⟨.var 10, .mv (.loc 64), none, []⟩,
  ⟨.var 11, .mv (.loc 66), none, []⟩] false
def c_I_parseReq_15 : ACode := .reg [⟨.loc 67, .load true 4 (.var 8), none, []⟩,
  ⟨.loc 68, .mv (.var 10), none, []⟩,
  ⟨.loc 69, .mv (.var 11), none, []⟩,
  ⟨.loc 70, .call (.fn 39) [(.loc 67), (.var 9), (.loc 68), (.loc 69)] [.borrow, .box 6, .borrow, .borrow], none, []⟩,
  ⟨.var 71, .un .not (.loc 70), none, []⟩] false
def c_I_parseReq_16 : ACode := .reg [⟨.loc 72, .build [.d (.int .i64 0), .d (.int .i64 0), .d (.str []), .d (.str []), .d (.str []), .d (.int .i64 0)] [], none, []⟩,
  ⟨.none, .store 6 (.var 2) (.loc 72), none, []⟩,
  ⟨.var 3, .mv (.const (.d (.bool false))), none, []⟩] false
def c_I_parseReq_17 : ACode := .reg [⟨.loc 73, .bin .int .add (.var 62) (.const (.d (.int .i64 1))), none, []⟩,
  ⟨.var 62, .mv (.loc 73), none, []⟩] false
def c_I_parseReq_18 : ACode := (.seq c_I_parseReq_13 (.seq (.cond (.var 63) .skip (.exit 2)) (.seq (.block 3 (.seq c_I_parseReq_14 (.seq c_I_parseReq_15 (.cond (.var 71) (.seq c_I_parseReq_16 .ret) .skip)))) c_I_parseReq_17)))
def c_I_parseReq_19 : ACode := .reg [⟨.loc 74, .load true 6 (.var 9), none, []⟩,
  ⟨.none, .store 6 (.var 2) (.loc 74), none, []⟩,
  ⟨.var 3, .mv (.const (.d (.bool true))), none, []⟩] false
def c_I_parseReq_20 : ACode := .reg [⟨.loc 75, .bin .int .add (.var 30) (.const (.d (.int .i64 1))), none, []⟩,
  ⟨.var 30, .mv (.loc 75), none, []⟩] false
def c_I_parseReq_21 : ACode := (.seq c_I_parseReq_8 (.seq (.cond (.var 31) .skip (.exit 0)) (.seq (.block 1 (.seq c_I_parseReq_9 (.seq (.seq c_I_parseReq_10 (.cond (.var 54) (.exit 1) .skip)) (.seq c_I_parseReq_11 (.seq (.seq c_I_parseReq_12 (.block 2 (.loop [2, 8, 9, 60, 61, 62] c_I_parseReq_18))) (.seq c_I_parseReq_19 .ret)))))) c_I_parseReq_20)))
def c_I_parseReq_22 : ACode := .reg [⟨.loc 76, .build [.d (.int .i64 0), .d (.int .i64 0), .d (.str []), .d (.str []), .d (.str []), .d (.int .i64 0)] [], none, []⟩,
  ⟨.none, .store 6 (.var 2) (.loc 76), none, []⟩,
  ⟨.var 3, .mv (.const (.d (.bool false))), none, []⟩] false
def c_I_parseReq : ACode := (.seq c_I_parseReq_0 (.seq (.seq c_I_parseReq_1 (.cond (.var 14) (.seq c_I_parseReq_2 .ret) .skip)) (.seq c_I_parseReq_3 (.seq c_I_parseReq_4 (.seq (.seq c_I_parseReq_5 (.cond (.var 25) c_I_parseReq_6 .skip)) (.seq (.seq c_I_parseReq_7 (.block 0 (.loop [2, 4, 5, 6, 28, 29, 30] c_I_parseReq_21))) (.seq c_I_parseReq_22 .ret)))))))
abbrev F_I_parseReq : FuncId := 25
theorem k_I_parseReq : comp PP (Tryd.f25.ntmps, pinOf 0 [none]) [0, 2, 3, 4, 5, 6, 8, 9, 10, 11, 14, 25, 28, 29, 30, 31, 54, 60, 61, 62, 63, 71] (Tryd.f25.body.getD .skip) = some c_I_parseReq.erase := by kernel_rfl
theorem v_I_parseReq {GG : GV} (rcs : List C) {cs : List C} {r : C} {os : List (Option C)} (hN : (cs.length == 1 && rcs.length == 2) = true) (hret : retOf rcs = r)
    (hW : W PP [0, 2, 3, 4, 5, 6, 8, 9, 10, 11, 14, 25, 28, 29, 30, 31, 54, 60, 61, 62, 63, 71] (Tryd.f25.ntmps, pinOf 0 [none]) (Valid PP GG) c_I_parseReq (entry cs) (Fin (Valid PP GG) [(.give, 2, some (true, 6)), (.give, 3, none)] [none] rcs os) (fun _ _ => False) (Fin (Valid PP GG) [(.give, 2, some (true, 6)), (.give, 3, none)] [none] rcs os)) : Valid PP GG F_I_parseReq cs r os :=
  fn_valid_n 1 2 [0, 2, 3, 4, 5, 6, 8, 9, 10, 11, 14, 25, 28, 29, 30, 31, 54, 60, 61, 62, 63, 71] c_I_parseReq [(.give, 2, some (true, 6)), (.give, 3, none)] [none] rcs Tryd.func25 rfl rfl (by kernel_rfl) k_I_parseReq rfl rfl hN hret hW
def c_S_l01Parts_0 : ACode := .reg [⟨.var 4, .mv (.const (.nil 0 1)), none, []⟩] false
def c_S_l01Parts_1 : ACode := .reg [⟨.loc 8, .lit 0 1 0 [.str []] [], none, []⟩,
  ⟨.var 5, .mv (.loc 8), none, []⟩] false
def c_S_l01Parts_2 : ACode := .reg [⟨.var 6, .mv (.const (.d (.int .i64 0))), none, []⟩] false
def c_S_l01Parts_3 : ACode := .reg [⟨.var 7, .mv (.const (.d (.int .i64 0))), none, []⟩] false
def c_S_l01Parts_4 : ACode := .reg [⟨.loc 9, .mv (.var 7), none, []⟩,
  ⟨.loc 10, .mv (.var 0), none, []⟩,
  ⟨.loc 11, .len true (.loc 10), none, []⟩,
  ⟨.var 12, .bin .int .leq (.loc 9) (.loc 11), none, []⟩] false
def c_S_l01Parts_5 : ACode := .reg [⟨.loc 15, .mv (.var 7), none, []⟩,
  ⟨.loc 16, .mv (.var 0), none, []⟩,
  ⟨.loc 17, .len true (.loc 16), none, []⟩,
  ⟨.loc 18, .bin .int .eql (.loc 15) (.loc 17), none, []⟩,
  ⟨.loc 19, .split (.loc 18), none, []⟩,
  ⟨.loc 20, .mv (.var 0), some ((.loc 19), false), []⟩,
  ⟨.loc 21, .mv (.var 7), some ((.loc 19), false), []⟩,
  ⟨.loc 22, .idxS (.loc 20) (.loc 21), some ((.loc 19), false), []⟩,
  ⟨.loc 23, .mv (.var 1), some ((.loc 19), false), []⟩,
  ⟨.loc 24, .bin .int .eql (.loc 22) (.loc 23), some ((.loc 19), false), []⟩,
  ⟨.var 25, .pick (.loc 19) (.const (.d (.bool true))) (.loc 24), none, []⟩] false
def c_S_l01Parts_6 : ACode := .reg [⟨.loc 26, .mv (.var 5), none, []⟩,
  ⟨.loc 27, .mv (.var 0), none, []⟩,
  ⟨.loc 28, .mv (.var 6), none, []⟩,
  ⟨.loc 29, .mv (.var 7), none, []⟩,
  ⟨.loc 30, .sliceS (.loc 27) (some (.loc 28)) (some (.loc 29)), none, []⟩,
  ⟨.loc 31, .lit 0 1 1 [.str []] [(0, (.loc 30))], none, []⟩,
  ⟨.loc 32, .app 1 16 (.loc 26) (.loc 31), none, []⟩,
  ⟨.var 5, .mv (.loc 32), none, []⟩] false
def c_S_l01Parts_7 : ACode := .reg [⟨.loc 33, .mv (.var 7), none, []⟩,
  ⟨.loc 34, .bin .int .add (.loc 33) (.const (.d (.int .i64 1))), none, []⟩,
  ⟨.var 6, .mv (.loc 34), none, []⟩] false
def c_S_l01Parts_8 : ACode := .reg [⟨.loc 13, .mv (.var 7), none, []⟩,
  ⟨.loc 14, .bin .int .add (.loc 13) (.const (.d (.int .i64 1))), none, []⟩,
  ⟨.var 7, .mv (.loc 14), none, []⟩] false
def c_S_l01Parts_9 : ACode := (.seq (.seq c_S_l01Parts_4 (.cond (.var 12) .skip (.exit 0))) (.seq (.block 1 (.seq c_S_l01Parts_5 (.cond (.var 25) (.seq c_S_l01Parts_6 c_S_l01Parts_7) .skip))) c_S_l01Parts_8))
def c_S_l01Parts_10 : ACode := .reg [⟨.loc 35, .mv (.var 5), none, []⟩,
  ⟨.var 4, .mv (.loc 35), none, []⟩] false
def c_S_l01Parts : ACode := (.seq c_S_l01Parts_0 (.seq c_S_l01Parts_1 (.seq c_S_l01Parts_2 (.seq (.seq c_S_l01Parts_3 (.block 0 (.loop [0, 1, 5, 6, 7] c_S_l01Parts_9))) (.seq c_S_l01Parts_10 .ret)))))
abbrev F_S_l01Parts : FuncId := 27
theorem k_S_l01Parts : comp PP (Tryd.f27.ntmps, pinOf 0 [none, none]) [0, 1, 4, 5, 6, 7, 12, 25] (Tryd.f27.body.getD .skip) = some c_S_l01Parts.erase := by kernel_rfl
theorem v_S_l01Parts {GG : GV} (rcs : List C) {cs : List C} {r : C} {os : List (Option C)} (hN : (cs.length == 2 && rcs.length == 1) = true) (hret : retOf rcs = r)
    (hW : W PP [0, 1, 4, 5, 6, 7, 12, 25] (Tryd.f27.ntmps, pinOf 0 [none, none]) (Valid PP GG) c_S_l01Parts (entry cs) (Fin (Valid PP GG) [(.give, 4, none)] [none, none] rcs os) (fun _ _ => False) (Fin (Valid PP GG) [(.give, 4, none)] [none, none] rcs os)) : Valid PP GG F_S_l01Parts cs r os :=
  fn_valid_n 2 1 [0, 1, 4, 5, 6, 7, 12, 25] c_S_l01Parts [(.give, 4, none)] [none, none] rcs Tryd.func27 rfl rfl (by kernel_rfl) k_S_l01Parts rfl rfl hN hret hW
def c_S_l19Word_0 : ACode := .reg [⟨.var 2, .mv (.const (.d (.bool false))), none, []⟩] false
def c_S_l19Word_1 : ACode := .reg [⟨.var 3, .mv (.const (.d (.int .i64 0))), none, []⟩] false
def c_S_l19Word_2 : ACode := .reg [⟨.loc 4, .mv (.var 3), none, []⟩,
  ⟨.loc 5, .mv (.var 0), none, []⟩,
  ⟨.loc 6, .len true (.loc 5), none, []⟩,
  ⟨.var 7, .bin .int .lss (.loc 4) (.loc 6), none, []⟩] false
def c_S_l19Word_3 : ACode := .reg [⟨.loc 10, .mv (.var 0), none, []⟩,
  ⟨.loc 11, .mv (.var 3), none, []⟩,
  ⟨.loc 12, .idxS (.loc 10) (.loc 11), none, []⟩,
  ⟨.loc 13, .bin .int .lss (.loc 12) (.const (.d (.int .u8 33))), none, []⟩,
  ⟨.loc 14, .split (.loc 13), none, []⟩,
  ⟨.loc 15, .mv (.var 0), some ((.loc 14), false), []⟩,
  ⟨.loc 16, .mv (.var 3), some ((.loc 14), false), []⟩,
  ⟨.loc 17, .idxS (.loc 15) (.loc 16), some ((.loc 14), false), []⟩,
  ⟨.loc 18, .bin .int .gtr (.loc 17) (.const (.d (.int .u8 126))), some ((.loc 14), false), []⟩,
  ⟨.var 19, .pick (.loc 14) (.const (.d (.bool true))) (.loc 18), none, []⟩] false
def c_S_l19Word_4 : ACode := .reg [⟨.var 2, .mv (.const (.d (.bool false))), none, []⟩] false
def c_S_l19Word_5 : ACode := .reg [⟨.loc 8, .mv (.var 3), none, []⟩,
  ⟨.loc 9, .bin .int .add (.loc 8) (.const (.d (.int .i64 1))), none, []⟩,
  ⟨.var 3, .mv (.loc 9), none, []⟩] false
def c_S_l19Word_6 : ACode := (.seq (.seq c_S_l19Word_2 (.cond (.var 7) .skip (.exit 0))) (.seq (.block 1 (.seq c_S_l19Word_3 (.cond (.var 19) (.seq c_S_l19Word_4 .ret) .skip))) c_S_l19Word_5))
def c_S_l19Word_7 : ACode := .reg [⟨.loc 20, .mv (.var 0), none, []⟩,
  ⟨.loc 21, .len true (.loc 20), none, []⟩,
  ⟨.loc 22, .call (.fn 17) [(.loc 21), (.const (.d (.int .i64 1))), (.const (.d (.int .i64 100)))] [.borrow, .borrow, .borrow], none, []⟩,
  ⟨.var 2, .mv (.loc 22), none, []⟩] false
def c_S_l19Word : ACode := (.seq c_S_l19Word_0 (.seq (.seq c_S_l19Word_1 (.block 0 (.loop [0, 3] c_S_l19Word_6))) (.seq c_S_l19Word_7 .ret)))
abbrev F_S_l19Word : FuncId := 28
theorem k_S_l19Word : comp PP (Tryd.f28.ntmps, pinOf 0 [none]) [0, 2, 3, 7, 19] (Tryd.f28.body.getD .skip) = some c_S_l19Word.erase := by kernel_rfl
theorem v_S_l19Word {GG : GV} (rcs : List C) {cs : List C} {r : C} {os : List (Option C)} (hN : (cs.length == 1 && rcs.length == 1) = true) (hret : retOf rcs = r)
    (hW : W PP [0, 2, 3, 7, 19] (Tryd.f28.ntmps, pinOf 0 [none]) (Valid PP GG) c_S_l19Word (entry cs) (Fin (Valid PP GG) [(.give, 2, none)] [none] rcs os) (fun _ _ => False) (Fin (Valid PP GG) [(.give, 2, none)] [none] rcs os)) : Valid PP GG F_S_l19Word cs r os :=
  fn_valid_n 1 1 [0, 2, 3, 7, 19] c_S_l19Word [(.give, 2, none)] [none] rcs Tryd.func28 rfl rfl (by kernel_rfl) k_S_l19Word rfl rfl hN hret hW
def c_S_l19Number_0 : ACode := .reg [⟨.var 2, .mv (.const (.d (.int .i64 0))), none, []⟩,
  ⟨.var 3, .mv (.const (.d (.bool false))), none, []⟩] false
def c_S_l19Number_1 : ACode := .reg [⟨.loc 7, .mv (.var 0), none, []⟩,
  ⟨.var 4, .mv (.loc 7), none, []⟩] false
def c_S_l19Number_2 : ACode := .reg [⟨.loc 8, .mv (.var 0), none, []⟩,
  ⟨.loc 9, .len true (.loc 8), none, []⟩,
  ⟨.loc 10, .bin .int .gtr (.loc 9) (.const (.d (.int .i64 0))), none, []⟩,
  ⟨.loc 11, .split (.loc 10), none, []⟩,
  ⟨.loc 12, .mv (.var 0), some ((.loc 11), true), []⟩,
  ⟨.loc 13, .idxS (.loc 12) (.const (.d (.int .i64 0))), some ((.loc 11), true), []⟩,
  ⟨.loc 14, .bin .int .eql (.loc 13) (.const (.d (.int .u8 45))), some ((.loc 11), true), []⟩,
  ⟨.var 15, .pick (.loc 11) (.loc 14) (.const (.d (.bool false))), none, []⟩] false
def c_S_l19Number_3 : ACode := .reg [⟨.loc 16, .mv (.var 0), none, []⟩,
  ⟨.loc 17, .sliceS (.loc 16) (some (.const (.d (.int .i64 1)))) none, none, []⟩,
  ⟨.var 4, .mv (.loc 17), none, []⟩] false
def c_S_l19Number_4 : ACode := .reg [⟨.loc 18, .mv (.var 4), none, []⟩,
  ⟨.loc 19, .len true (.loc 18), none, []⟩,
  ⟨.loc 20, .call (.fn 17) [(.loc 19), (.const (.d (.int .i64 1))), (.const (.d (.int .i64 13)))] [.borrow, .borrow, .borrow], none, []⟩,
  ⟨.var 21, .un .not (.loc 20), none, []⟩] false
def c_S_l19Number_5 : ACode := .reg [⟨.var 2, .mv (.const (.d (.int .i64 0))), none, []⟩,
  ⟨.var 3, .mv (.const (.d (.bool false))), none, []⟩] false
def c_S_l19Number_6 : ACode := .reg [⟨.var 5, .mv (.const (.d (.int .i64 0))), none, []⟩] false
def c_S_l19Number_7 : ACode := .reg [⟨.var 6, .mv (.const (.d (.int .i64 0))), none, []⟩] false
def c_S_l19Number_8 : ACode := .reg [⟨.loc 22, .mv (.var 6), none, []⟩,
  ⟨.loc 23, .mv (.var 4), none, []⟩,
  ⟨.loc 24, .len true (.loc 23), none, []⟩,
  ⟨.var 25, .bin .int .lss (.loc 22) (.loc 24), none, []⟩] false
def c_S_l19Number_9 : ACode := .reg [⟨.loc 28, .mv (.var 4), none, []⟩,
  ⟨.loc 29, .mv (.var 6), none, []⟩,
  ⟨.loc 30, .idxS (.loc 28) (.loc 29), none, []⟩,
  ⟨.loc 31, .bin .int .lss (.loc 30) (.const (.d (.int .u8 48))), none, []⟩,
  ⟨.loc 32, .split (.loc 31), none, []⟩,
  ⟨.loc 33, .mv (.var 4), some ((.loc 32), false), []⟩,
  ⟨.loc 34, .mv (.var 6), some ((.loc 32), false), []⟩,
  ⟨.loc 35, .idxS (.loc 33) (.loc 34), some ((.loc 32), false), []⟩,
  ⟨.loc 36, .bin .int .gtr (.loc 35) (.const (.d (.int .u8 57))), some ((.loc 32), false), []⟩,
  ⟨.var 37, .pick (.loc 32) (.const (.d (.bool true))) (.loc 36), none, []⟩] false
def c_S_l19Number_10 : ACode := .reg [⟨.var 2, .mv (.const (.d (.int .i64 0))), none, []⟩,
  ⟨.var 3, .mv (.const (.d (.bool false))), none, []⟩] false
def c_S_l19Number_11 : ACode := .reg [⟨.loc 38, .mv (.var 5), none, []⟩,
  ⟨.loc 39, .bin .int .mul (.const (.d (.int .i64 10))) (.loc 38), none, []⟩,
  ⟨.loc 40, .mv (.var 4), none, []⟩,
  ⟨.loc 41, .mv (.var 6), none, []⟩,
  ⟨.loc 42, .idxS (.loc 40) (.loc 41), none, []⟩,
  ⟨.loc 43, .conv .i64 (.loc 42), none, []⟩,
  ⟨.loc 44, .bin .int .add (.loc 39) (.loc 43), none, []⟩,
  ⟨.loc 45, .bin .int .sub (.loc 44) (.const (.d (.int .i64 48))), none, []⟩,
  ⟨.var 5, .mv (.loc 45), none, []⟩] false
def c_S_l19Number_12 : ACode := .reg [⟨.loc 26, .mv (.var 6), none, []⟩,
  ⟨.loc 27, .bin .int .add (.loc 26) (.const (.d (.int .i64 1))), none, []⟩,
  ⟨.var 6, .mv (.loc 27), none, []⟩] false
def c_S_l19Number_13 : ACode := (.seq (.seq c_S_l19Number_8 (.cond (.var 25) .skip (.exit 0))) (.seq (.block 1 (.seq (.seq c_S_l19Number_9 (.cond (.var 37) (.seq c_S_l19Number_10 .ret) .skip)) c_S_l19Number_11)) c_S_l19Number_12))
def c_S_l19Number_14 : ACode := .reg [⟨.loc 46, .mv (.var 4), none, []⟩,
  ⟨.loc 47, .len true (.loc 46), none, []⟩,
  ⟨.loc 48, .mv (.var 0), none, []⟩,
  ⟨.loc 49, .len true (.loc 48), none, []⟩,
  ⟨.var 50, .bin .int .lss (.loc 47) (.loc 49), none, []⟩] false
def c_S_l19Number_15 : ACode := .reg [⟨.loc 51, .mv (.var 5), none, []⟩,
  ⟨.loc 52, .un .neg (.loc 51), none, []⟩,
  ⟨.var 5, .mv (.loc 52), none, []⟩] false
def c_S_l19Number_16 : ACode := .reg [⟨.loc 53, .mv (.var 5), none, []⟩,
  ⟨.loc 54, .mv (.var 5), none, []⟩,
  ⟨.loc 55, .call (.fn 18) [(.loc 54)] [.borrow], none, []⟩,
  ⟨.loc 56, .mv (.var 0), none, []⟩,
  ⟨.loc 57, .bin .str .eql (.loc 55) (.loc 56), none, []⟩,
  ⟨.var 2, .mv (.loc 53), none, []⟩,
  ⟨.var 3, .mv (.loc 57), none, []⟩] false
def c_S_l19Number : ACode := (.seq c_S_l19Number_0 (.seq c_S_l19Number_1 (.seq (.seq c_S_l19Number_2 (.cond (.var 15) c_S_l19Number_3 .skip)) (.seq (.seq c_S_l19Number_4 (.cond (.var 21) (.seq c_S_l19Number_5 .ret) .skip)) (.seq c_S_l19Number_6 (.seq (.seq c_S_l19Number_7 (.block 0 (.loop [0, 4, 5, 6] c_S_l19Number_13))) (.seq (.seq c_S_l19Number_14 (.cond (.var 50) c_S_l19Number_15 .skip)) (.seq c_S_l19Number_16 .ret))))))))
abbrev F_S_l19Number : FuncId := 29
theorem k_S_l19Number : comp PP (Tryd.f29.ntmps, pinOf 0 [none]) [0, 2, 3, 4, 5, 6, 15, 21, 25, 37, 50] (Tryd.f29.body.getD .skip) = some c_S_l19Number.erase := by kernel_rfl
theorem v_S_l19Number {GG : GV} (rcs : List C) {cs : List C} {r : C} {os : List (Option C)} (hN : (cs.length == 1 && rcs.length == 2) = true) (hret : retOf rcs = r)
    (hW : W PP [0, 2, 3, 4, 5, 6, 15, 21, 25, 37, 50] (Tryd.f29.ntmps, pinOf 0 [none]) (Valid PP GG) c_S_l19Number (entry cs) (Fin (Valid PP GG) [(.give, 2, none), (.give, 3, none)] [none] rcs os) (fun _ _ => False) (Fin (Valid PP GG) [(.give, 2, none), (.give, 3, none)] [none] rcs os)) : Valid PP GG F_S_l19Number cs r os :=
  fn_valid_n 1 2 [0, 2, 3, 4, 5, 6, 15, 21, 25, 37, 50] c_S_l19Number [(.give, 2, none), (.give, 3, none)] [none] rcs Tryd.func29 rfl rfl (by kernel_rfl) k_S_l19Number rfl rfl hN hret hW
def c_S_l19Rules_0 : ACode := .reg [⟨.var 2, .mv (.const (.d (.str []))), none, []⟩,
  ⟨.var 3, .mv (.const (.d (.bool false))), none, []⟩] false
def c_S_l19Rules_1 : ACode := .reg [⟨.loc 10, .mv (.var 0), none, []⟩,
  ⟨.var 11, .bin .str .eql (.loc 10) (.const (.d (.str [46]))), none, []⟩] false
def c_S_l19Rules_2 : ACode := .reg [⟨.var 2, .mv (.const (.d (.str []))), none, []⟩,
  ⟨.var 3, .mv (.const (.d (.bool true))), none, []⟩] false
def c_S_l19Rules_3 : ACode := .reg [⟨.loc 12, .lit 0 1 0 [.int .u8 0] [], none, []⟩,
  ⟨.var 4, .mv (.loc 12), none, []⟩] false
def c_S_l19Rules_4 : ACode := .reg [⟨.loc 13, .mv (.var 0), none, []⟩,
  ⟨.loc 14, .call (.fn 27) [(.loc 13), (.const (.d (.int .u8 59)))] [.borrow, .borrow], none, []⟩,
  ⟨.var 5, .mv (.loc 14), none, []⟩] false
def c_S_l19Rules_5 : ACode := .reg [⟨.var 6, .mv (.const (.d (.int .i64 0))), none, []⟩] false
def c_S_l19Rules_6 : ACode := .reg [⟨.loc 15, .mv (.var 6), none, []⟩,
  ⟨.loc 16, .mv (.var 5), none, []⟩,
  ⟨.loc 17, .len false (.loc 16), none, []⟩,
  ⟨.var 18, .bin .int .lss (.loc 15) (.loc 17), none, []⟩] false
def c_S_l19Rules_7 : ACode := .reg [⟨.var 7, .mv (.const (.d (.int .i64 (-1)))), none, []⟩] false
def c_S_l19Rules_8 : ACode := .reg [⟨.var 8, .mv (.const (.d (.int .i64 0))), none, []⟩] false
def c_S_l19Rules_9 : ACode := .reg [⟨.loc 21, .mv (.var 8), none, []⟩,
  ⟨.loc 22, .mv (.var 5), none, []⟩,
  ⟨.loc 23, .mv (.var 6), none, []⟩,
  ⟨.loc 24, .idxA 1 (.loc 22) (.loc 23), none, []⟩,
  ⟨.loc 25, .load false 1 (.loc 24), none, []⟩,
  ⟨.loc 26, .len true (.loc 25), none, []⟩,
  ⟨.var 27, .bin .int .lss (.loc 21) (.loc 26), none, []⟩] false
def c_S_l19Rules_10 : ACode := .reg [⟨.loc 30, .mv (.var 5), none, []⟩,
  ⟨.loc 31, .mv (.var 6), none, []⟩,
  ⟨.loc 32, .idxA 1 (.loc 30) (.loc 31), none, []⟩,
  ⟨.loc 33, .load false 1 (.loc 32), none, []⟩,
  ⟨.loc 34, .mv (.var 8), none, []⟩,
  ⟨.loc 35, .idxS (.loc 33) (.loc 34), none, []⟩,
  ⟨.var 36, .bin .int .eql (.loc 35) (.const (.d (.int .u8 61))), none, []⟩] false
def c_S_l19Rules_11 : ACode := .reg [⟨.loc 37, .mv (.var 8), none, []⟩,
  ⟨.var 7, .mv (.loc 37), none, []⟩] false
def c_S_l19Rules_12 : ACode := .reg [⟨.loc 28, .mv (.var 8), none, []⟩,
  ⟨.loc 29, .bin .int .add (.loc 28) (.const (.d (.int .i64 1))), none, []⟩,
  ⟨.var 8, .mv (.loc 29), none, []⟩] false
def c_S_l19Rules_13 : ACode := (.seq (.seq c_S_l19Rules_9 (.cond (.var 27) .skip (.exit 2))) (.seq (.block 3 (.seq c_S_l19Rules_10 (.cond (.var 36) c_S_l19Rules_11 .skip))) c_S_l19Rules_12))
def c_S_l19Rules_14 : ACode := .reg [⟨.loc 38, .mv (.var 7), none, []⟩,
  ⟨.var 39, .bin .int .lss (.loc 38) (.const (.d (.int .i64 0))), none, []⟩] false
def c_S_l19Rules_15 : ACode := .reg [⟨.var 2, .mv (.const (.d (.str []))), none, []⟩,
  ⟨.var 3, .mv (.const (.d (.bool false))), none, []⟩] false
def c_S_l19Rules_16 : ACode := .reg [⟨.var 9, .mv (.const (.d (.int .i64 0))), none, []⟩] false
def c_S_l19Rules_17 : ACode := .reg [⟨.loc 40, .mv (.var 9), none, []⟩,
  ⟨.loc 41, .mv (.var 5), none, []⟩,
  ⟨.loc 42, .mv (.var 6), none, []⟩,
  ⟨.loc 43, .idxA 1 (.loc 41) (.loc 42), none, []⟩,
  ⟨.loc 44, .load false 1 (.loc 43), none, []⟩,
  ⟨.loc 45, .len true (.loc 44), none, []⟩,
  ⟨.var 46, .bin .int .lss (.loc 40) (.loc 45), none, []⟩] false
def c_S_l19Rules_18 : ACode := .reg [⟨.loc 49, .mv (.var 9), none, []⟩,
  ⟨.loc 50, .mv (.var 7), none, []⟩,
  ⟨.var 51, .bin .int .eql (.loc 49) (.loc 50), none, []⟩] false
def c_S_l19Rules_19 : ACode := .reg [⟨.loc 52, .mv (.var 4), none, []⟩,
  ⟨.loc 53, .lit 0 1 1 [.int .u8 0] [(0, (.const (.d (.int .u8 32))))], none, []⟩,
  ⟨.loc 54, .app 1 1 (.loc 52) (.loc 53), none, []⟩,
  ⟨.var 4, .mv (.loc 54), none, []⟩] false
def c_S_l19Rules_20 : ACode := .reg [⟨.loc 55, .mv (.var 4), none, []⟩,
  ⟨.loc 56, .mv (.var 5), none, []⟩,
  ⟨.loc 57, .mv (.var 6), none, []⟩,
  ⟨.loc 58, .idxA 1 (.loc 56) (.loc 57), none, []⟩,
  ⟨.loc 59, .load false 1 (.loc 58), none, []⟩,
  ⟨.loc 60, .mv (.var 9), none, []⟩,
  ⟨.loc 61, .idxS (.loc 59) (.loc 60), none, []⟩,
  ⟨.loc 62, .lit 0 1 1 [.int .u8 0] [(0, (.loc 61))], none, []⟩,
  ⟨.loc 63, .app 1 1 (.loc 55) (.loc 62), none, []⟩,
  ⟨.var 4, .mv (.loc 63), none, []⟩] false
def c_S_l19Rules_21 : ACode := .reg [⟨.loc 47, .mv (.var 9), none, []⟩,
  ⟨.loc 48, .bin .int .add (.loc 47) (.const (.d (.int .i64 1))), none, []⟩,
  ⟨.var 9, .mv (.loc 48), none, []⟩] false
def c_S_l19Rules_22 : ACode := (.seq (.seq c_S_l19Rules_17 (.cond (.var 46) .skip (.exit 4))) (.seq (.block 5 (.seq c_S_l19Rules_18 (.cond (.var 51) c_S_l19Rules_19 c_S_l19Rules_20))) c_S_l19Rules_21))
def c_S_l19Rules_23 : ACode := .reg [⟨.loc 64, .mv (.var 4), none, []⟩,
  ⟨.loc 65, .lit 0 1 1 [.int .u8 0] [(0, (.const (.d (.int .u8 10))))], none, []⟩,
  ⟨.loc 66, .app 1 1 (.loc 64) (.loc 65), none, []⟩,
  ⟨.var 4, .mv (.loc 66), none, []⟩] false
def c_S_l19Rules_24 : ACode := .reg [⟨.loc 19, .mv (.var 6), none, []⟩,
  ⟨.loc 20, .bin .int .add (.loc 19) (.const (.d (.int .i64 1))), none, []⟩,
  ⟨.var 6, .mv (.loc 20), none, []⟩] false
def c_S_l19Rules_25 : ACode := (.seq (.seq c_S_l19Rules_6 (.cond (.var 18) .skip (.exit 0))) (.seq (.block 1 (.seq c_S_l19Rules_7 (.seq (.seq c_S_l19Rules_8 (.block 2 (.loop [4, 5, 6, 7, 8] c_S_l19Rules_13))) (.seq (.seq c_S_l19Rules_14 (.cond (.var 39) (.seq c_S_l19Rules_15 .ret) .skip)) (.seq (.seq c_S_l19Rules_16 (.block 4 (.loop [4, 5, 6, 7, 9] c_S_l19Rules_22))) c_S_l19Rules_23))))) c_S_l19Rules_24))
def c_S_l19Rules_26 : ACode := .reg [⟨.loc 67, .mv (.var 4), none, []⟩,
  ⟨.loc 68, .b2s (.loc 67), none, []⟩,
  ⟨.var 2, .mv (.loc 68), none, []⟩,
  ⟨.var 3, .mv (.const (.d (.bool true))), none, []⟩] false
def c_S_l19Rules : ACode := (.seq c_S_l19Rules_0 (.seq (.seq c_S_l19Rules_1 (.cond (.var 11) (.seq c_S_l19Rules_2 .ret) .skip)) (.seq c_S_l19Rules_3 (.seq c_S_l19Rules_4 (.seq (.seq c_S_l19Rules_5 (.block 0 (.loop [4, 5, 6] c_S_l19Rules_25))) (.seq c_S_l19Rules_26 .ret))))))
abbrev F_S_l19Rules : FuncId := 30
theorem k_S_l19Rules : comp PP (Tryd.f30.ntmps, pinOf 0 [none]) [0, 2, 3, 4, 5, 6, 7, 8, 9, 11, 18, 27, 36, 39, 46, 51] (Tryd.f30.body.getD .skip) = some c_S_l19Rules.erase := by kernel_rfl
theorem v_S_l19Rules {GG : GV} (rcs : List C) {cs : List C} {r : C} {os : List (Option C)} (hN : (cs.length == 1 && rcs.length == 2) = true) (hret : retOf rcs = r)
    (hW : W PP [0, 2, 3, 4, 5, 6, 7, 8, 9, 11, 18, 27, 36, 39, 46, 51] (Tryd.f30.ntmps, pinOf 0 [none]) (Valid PP GG) c_S_l19Rules (entry cs) (Fin (Valid PP GG) [(.give, 2, none), (.give, 3, none)] [none] rcs os) (fun _ _ => False) (Fin (Valid PP GG) [(.give, 2, none), (.give, 3, none)] [none] rcs os)) : Valid PP GG F_S_l19Rules cs r os :=
  fn_valid_n 1 2 [0, 2, 3, 4, 5, 6, 7, 8, 9, 11, 18, 27, 36, 39, 46, 51] c_S_l19Rules [(.give, 2, none), (.give, 3, none)] [none] rcs Tryd.func30 rfl rfl (by kernel_rfl) k_S_l19Rules rfl rfl hN hret hW
def c_I_within_0 : ACode := .reg [⟨.var 6, .mv (.const (.d (.bool false))), none, []⟩] false
def c_I_within_1 : ACode := .reg [⟨.loc 7, .mv (.var 0), none, []⟩,
  ⟨.loc 8, .mv (.var 1), none, []⟩,
  ⟨.loc 9, .bin .int .geq (.loc 7) (.loc 8), none, []⟩,
  ⟨.loc 10, .split (.loc 9), none, []⟩,
  ⟨.loc 11, .mv (.var 0), some ((.loc 10), true), []⟩,
  ⟨.loc 12, .mv (.var 2), some ((.loc 10), true), []⟩,
  ⟨.loc 13, .bin .int .leq (.loc 11) (.loc 12), some ((.loc 10), true), []⟩,
  ⟨.loc 14, .pick (.loc 10) (.loc 13) (.const (.d (.bool false))), none, []⟩,
  ⟨.var 6, .mv (.loc 14), none, []⟩] false
def c_I_within : ACode := (.seq c_I_within_0 (.seq c_I_within_1 .ret))
abbrev F_I_within : FuncId := 31
theorem k_I_within : comp PP (Tryd.f31.ntmps, pinOf 0 [none, none, none]) [0, 1, 2, 6] (Tryd.f31.body.getD .skip) = some c_I_within.erase := by kernel_rfl
theorem v_I_within {GG : GV} (rcs : List C) {cs : List C} {r : C} {os : List (Option C)} (hN : (cs.length == 3 && rcs.length == 1) = true) (hret : retOf rcs = r)
    (hW : W PP [0, 1, 2, 6] (Tryd.f31.ntmps, pinOf 0 [none, none, none]) (Valid PP GG) c_I_within (entry cs) (Fin (Valid PP GG) [(.give, 6, none)] [none, none, none] rcs os) (fun _ _ => False) (Fin (Valid PP GG) [(.give, 6, none)] [none, none, none] rcs os)) : Valid PP GG F_I_within cs r os :=
  fn_valid_n 3 1 [0, 1, 2, 6] c_I_within [(.give, 6, none)] [none, none, none] rcs Tryd.func31 rfl rfl (by kernel_rfl) k_I_within rfl rfl hN hret hW
def c_I_deskForms_0 : ACode := .reg [⟨.var 0, .mv (.const (.nil 0 4)), none, []⟩] false
def c_I_deskForms_1 : ACode := .reg [⟨.loc 1, .build [.d (.str []), .d (.int .i64 0), .d (.bool false), .d (.str [])] [(0, 1, (.const (.d (.str [112, 111, 108, 105, 99, 121])))), (1, 1, (.const (.d (.int .i64 0)))), (2, 1, (.const (.d (.bool true)))), (3, 1, (.const (.d (.str [109, 100]))))], none, []⟩,
  ⟨.loc 2, .build [.d (.str []), .d (.int .i64 0), .d (.bool false), .d (.str [])] [(0, 1, (.const (.d (.str [116, 111, 107, 101, 110])))), (1, 1, (.const (.d (.int .i64 1)))), (2, 1, (.const (.d (.bool true)))), (3, 1, (.const (.d (.str [100, 110]))))], none, []⟩,
  ⟨.loc 3, .build [.d (.str []), .d (.int .i64 0), .d (.bool false), .d (.str [])] [(0, 1, (.const (.d (.str [114, 101, 118, 111, 107, 101])))), (1, 1, (.const (.d (.int .i64 2)))), (2, 1, (.const (.d (.bool true)))), (3, 1, (.const (.d (.str [110]))))], none, []⟩,
  ⟨.loc 4, .build [.d (.str []), .d (.int .i64 0), .d (.bool false), .d (.str [])] [(0, 1, (.const (.d (.str [114, 101, 110, 101, 119])))), (1, 1, (.const (.d (.int .i64 3)))), (2, 1, (.const (.d (.bool true)))), (3, 1, (.const (.d (.str [110]))))], none, []⟩,
  ⟨.loc 5, .build [.d (.str []), .d (.int .i64 0), .d (.bool false), .d (.str [])] [(0, 1, (.const (.d (.str [112, 117, 116])))), (1, 1, (.const (.d (.int .i64 4)))), (2, 1, (.const (.d (.bool true)))), (3, 1, (.const (.d (.str [112, 110, 100]))))], none, []⟩,
  ⟨.loc 6, .build [.d (.str []), .d (.int .i64 0), .d (.bool false), .d (.str [])] [(0, 1, (.const (.d (.str [103, 101, 116])))), (1, 1, (.const (.d (.int .i64 5)))), (2, 1, (.const (.d (.bool true)))), (3, 1, (.const (.d (.str [112, 110]))))], none, []⟩,
  ⟨.loc 7, .build [.d (.str []), .d (.int .i64 0), .d (.bool false), .d (.str [])] [(0, 1, (.const (.d (.str [116, 97, 107, 101])))), (1, 1, (.const (.d (.int .i64 6)))), (2, 1, (.const (.d (.bool true)))), (3, 1, (.const (.d (.str [112, 110]))))], none, []⟩,
  ⟨.loc 8, .build [.d (.str []), .d (.int .i64 0), .d (.bool false), .d (.str [])] [(0, 1, (.const (.d (.str [108, 105, 115, 116])))), (1, 1, (.const (.d (.int .i64 7)))), (2, 1, (.const (.d (.bool true)))), (3, 1, (.const (.d (.str [113]))))], none, []⟩,
  ⟨.loc 9, .build [.d (.str []), .d (.int .i64 0), .d (.bool false), .d (.str [])] [(0, 1, (.const (.d (.str [114, 111, 108, 101])))), (1, 1, (.const (.d (.int .i64 8)))), (2, 1, (.const (.d (.bool true)))), (3, 1, (.const (.d (.str [109, 100, 110]))))], none, []⟩,
  ⟨.loc 10, .build [.d (.str []), .d (.int .i64 0), .d (.bool false), .d (.str [])] [(0, 1, (.const (.d (.str [99, 114, 101, 100, 115])))), (1, 1, (.const (.d (.int .i64 9)))), (2, 1, (.const (.d (.bool true)))), (3, 1, (.const (.d (.str [109]))))], none, []⟩,
  ⟨.loc 11, .build [.d (.str []), .d (.int .i64 0), .d (.bool false), .d (.str [])] [(0, 1, (.const (.d (.str [119, 114, 97, 112])))), (1, 1, (.const (.d (.int .i64 10)))), (2, 1, (.const (.d (.bool true)))), (3, 1, (.const (.d (.str [112, 110]))))], none, []⟩,
  ⟨.loc 12, .build [.d (.str []), .d (.int .i64 0), .d (.bool false), .d (.str [])] [(0, 1, (.const (.d (.str [111, 112, 101, 110])))), (1, 1, (.const (.d (.int .i64 11)))), (2, 1, (.const (.d (.bool false)))), (3, 1, (.const (.d (.str [110]))))], none, []⟩,
  ⟨.loc 13, .build [.d (.str []), .d (.int .i64 0), .d (.bool false), .d (.str [])] [(0, 1, (.const (.d (.str [116, 105, 109, 101])))), (1, 1, (.const (.d (.int .i64 12)))), (2, 1, (.const (.d (.bool false)))), (3, 1, (.const (.d (.str [110]))))], none, []⟩,
  ⟨.loc 14, .build [.d (.str []), .d (.int .i64 0), .d (.bool false), .d (.str [])] [(0, 1, (.const (.d (.str [102, 97, 114])))), (1, 1, (.const (.d (.int .i64 13)))), (2, 1, (.const (.d (.bool false)))), (3, 1, (.const (.d (.str [110]))))], none, []⟩,
  ⟨.loc 15, .build [.d (.str []), .d (.int .i64 0), .d (.bool false), .d (.str [])] [(0, 1, (.const (.d (.str [115, 121, 110, 99])))), (1, 1, (.const (.d (.int .i64 14)))), (2, 1, (.const (.d (.bool false)))), (3, 1, (.const (.d (.str []))))], none, []⟩,
  ⟨.loc 16, .build [.d (.str []), .d (.int .i64 0), .d (.bool false), .d (.str [])] [(0, 1, (.const (.d (.str [99, 114, 97, 115, 104])))), (1, 1, (.const (.d (.int .i64 15)))), (2, 1, (.const (.d (.bool false)))), (3, 1, (.const (.d (.str [110]))))], none, []⟩,
  ⟨.loc 17, .lit 0 4 16 [.str [], .int .i64 0, .bool false, .str []] [(0, (.loc 1)), (1, (.loc 2)), (2, (.loc 3)), (3, (.loc 4)), (4, (.loc 5)), (5, (.loc 6)), (6, (.loc 7)), (7, (.loc 8)), (8, (.loc 9)), (9, (.loc 10)), (10, (.loc 11)), (11, (.loc 12)), (12, (.loc 13)), (13, (.loc 14)), (14, (.loc 15)), (15, (.loc 16))], none, []⟩,
  ⟨.var 0, .mv (.loc 17), none, []⟩] false
def c_I_deskForms : ACode := (.seq c_I_deskForms_0 (.seq c_I_deskForms_1 .ret))
abbrev F_I_deskForms : FuncId := 32
theorem k_I_deskForms : comp PP (Tryd.f32.ntmps, pinOf 0 []) [0] (Tryd.f32.body.getD .skip) = some c_I_deskForms.erase := by kernel_rfl
theorem v_I_deskForms {GG : GV} (rcs : List C) {cs : List C} {r : C} {os : List (Option C)} (hN : (cs.length == 0 && rcs.length == 1) = true) (hret : retOf rcs = r)
    (hW : W PP [0] (Tryd.f32.ntmps, pinOf 0 []) (Valid PP GG) c_I_deskForms (entry cs) (Fin (Valid PP GG) [(.give, 0, none)] [] rcs os) (fun _ _ => False) (Fin (Valid PP GG) [(.give, 0, none)] [] rcs os)) : Valid PP GG F_I_deskForms cs r os :=
  fn_valid_n 0 1 [0] c_I_deskForms [(.give, 0, none)] [] rcs Tryd.func32 rfl rfl (by kernel_rfl) k_I_deskForms rfl rfl hN hret hW
def c_I_optional_0 : ACode := .reg [⟨.var 2, .mv (.const (.d (.str []))), none, []⟩] false
def c_I_optional_1 : ACode := .reg [⟨.loc 3, .mv (.var 0), none, []⟩,
  ⟨.var 4, .bin .str .eql (.loc 3) (.const (.d (.str []))), none, []⟩] false
def c_I_optional_2 : ACode := .reg [⟨.var 2, .mv (.const (.d (.str [46]))), none, []⟩] false
def c_I_optional_3 : ACode := .reg [⟨.loc 5, .mv (.var 0), none, []⟩,
  ⟨.var 2, .mv (.loc 5), none, []⟩] false
def c_I_optional : ACode := (.seq c_I_optional_0 (.seq (.seq c_I_optional_1 (.cond (.var 4) (.seq c_I_optional_2 .ret) .skip)) (.seq c_I_optional_3 .ret)))
abbrev F_I_optional : FuncId := 34
theorem k_I_optional : comp PP (Tryd.f34.ntmps, pinOf 0 [none]) [0, 2, 4] (Tryd.f34.body.getD .skip) = some c_I_optional.erase := by kernel_rfl
theorem v_I_optional {GG : GV} (rcs : List C) {cs : List C} {r : C} {os : List (Option C)} (hN : (cs.length == 1 && rcs.length == 1) = true) (hret : retOf rcs = r)
    (hW : W PP [0, 2, 4] (Tryd.f34.ntmps, pinOf 0 [none]) (Valid PP GG) c_I_optional (entry cs) (Fin (Valid PP GG) [(.give, 2, none)] [none] rcs os) (fun _ _ => False) (Fin (Valid PP GG) [(.give, 2, none)] [none] rcs os)) : Valid PP GG F_I_optional cs r os :=
  fn_valid_n 1 1 [0, 2, 4] c_I_optional [(.give, 2, none)] [none] rcs Tryd.func34 rfl rfl (by kernel_rfl) k_I_optional rfl rfl hN hret hW
def c_I_deskNumber_0 : ACode := .reg [⟨.var 2, .mv (.const (.d (.int .i64 0))), none, []⟩,
  ⟨.var 3, .mv (.const (.d (.bool false))), none, []⟩] false
def c_I_deskNumber_1 : ACode := .reg [⟨.loc 7, .mv (.var 0), none, []⟩,
  ⟨.loc 8, .call (.fn 45) [(.loc 7)] [.borrow], none, []⟩,
  ⟨.loc 6, .mv (.loc 8), none, []⟩,
  ⟨.loc 9, .ext (.loc 6) 0, none, []⟩,
  ⟨.loc 10, .ext (.loc 6) 1, none, []⟩,
  ⟨.var 4, .mv (.loc 9), none, []⟩,
  ⟨.var 5, .mv (.loc 10), none, []⟩] false
def c_I_deskNumber_2 : ACode := .reg [⟨.loc 11, .mv (.var 5), none, []⟩,
  ⟨.loc 12, .bin .err .neq (.loc 11) (.const (.d (.err true))), none, []⟩,
  ⟨.loc 13, .split (.loc 12), none, []⟩,
  ⟨.loc 14, .mv (.var 4), some ((.loc 13), false), []⟩,
  ⟨.loc 15, .call (.fn 33) [(.loc 14)] [.borrow], some ((.loc 13), false), []⟩,
  ⟨.loc 16, .mv (.var 0), some ((.loc 13), false), []⟩,
  ⟨.loc 17, .bin .str .neq (.loc 15) (.loc 16), some ((.loc 13), false), []⟩,
  ⟨.loc 18, .pick (.loc 13) (.const (.d (.bool true))) (.loc 17), none, []⟩,
  ⟨.loc 19, .split (.loc 18), none, []⟩,
  ⟨.loc 20, .mv (.var 4), some ((.loc 19), false), []⟩,
  ⟨.loc 21, .call (.fn 31) [(.loc 20), (.const (.d (.int .i64 (-9999999999999)))), (.const (.d (.int .i64 9999999999999)))] [.borrow, .borrow, .borrow], some ((.loc 19), false), []⟩,
  ⟨.loc 22, .un .not (.loc 21), some ((.loc 19), false), []⟩,
  ⟨.var 23, .pick (.loc 19) (.const (.d (.bool true))) (.loc 22), none, []⟩] false
def c_I_deskNumber_3 : ACode := .reg [⟨.var 2, .mv (.const (.d (.int .i64 0))), none, []⟩,
  ⟨.var 3, .mv (.const (.d (.bool false))), none, []⟩] false
def c_I_deskNumber_4 : ACode := .reg [⟨.loc 24, .mv (.var 4), none, []⟩,
  ⟨.var 2, .mv (.loc 24), none, []⟩,
  ⟨.var 3, .mv (.const (.d (.bool true))), none, []⟩] false
def c_I_deskNumber : ACode := (.seq c_I_deskNumber_0 (.seq c_I_deskNumber_1 (.seq (.seq c_I_deskNumber_2 (.cond (.var 23) (.seq c_I_deskNumber_3 .ret) .skip)) (.seq c_I_deskNumber_4 .ret))))
abbrev F_I_deskNumber : FuncId := 38
theorem k_I_deskNumber : comp PP (Tryd.f38.ntmps, pinOf 0 [none]) [0, 2, 3, 4, 5, 23] (Tryd.f38.body.getD .skip) = some c_I_deskNumber.erase := by kernel_rfl
theorem v_I_deskNumber {GG : GV} (rcs : List C) {cs : List C} {r : C} {os : List (Option C)} (hN : (cs.length == 1 && rcs.length == 2) = true) (hret : retOf rcs = r)
    (hW : W PP [0, 2, 3, 4, 5, 23] (Tryd.f38.ntmps, pinOf 0 [none]) (Valid PP GG) c_I_deskNumber (entry cs) (Fin (Valid PP GG) [(.give, 2, none), (.give, 3, none)] [none] rcs os) (fun _ _ => False) (Fin (Valid PP GG) [(.give, 2, none), (.give, 3, none)] [none] rcs os)) : Valid PP GG F_I_deskNumber cs r os :=
  fn_valid_n 1 2 [0, 2, 3, 4, 5, 23] c_I_deskNumber [(.give, 2, none), (.give, 3, none)] [none] rcs Tryd.func38 rfl rfl (by kernel_rfl) k_I_deskNumber rfl rfl hN hret hW
def c_I_deskForm_take_0 : ACode := .reg [⟨.var 4, .box (.var 0), none, []⟩,
  ⟨.var 8, .mv (.const (.d (.bool false))), none, []⟩] false
def c_I_deskForm_take_1 : ACode := .reg [⟨.loc 13, .fld 3 (.var 4), none, []⟩,
  ⟨.loc 14, .load false 1 (.loc 13), none, []⟩,
  ⟨.loc 15, .mv (.var 2), none, []⟩,
  ⟨.loc 16, .idxS (.loc 14) (.loc 15), none, []⟩,
  ⟨.var 17, .bin .int .eql (.loc 16) (.const (.d (.int .u8 110))), none, []⟩] false
def c_I_deskForm_take_2 : ACode := .reg [⟨.loc 19, .mv (.var 3), none, []⟩,
  ⟨.loc 20, .call (.fn 38) [(.loc 19)] [.borrow], none, []⟩,
  ⟨.loc 18, .mv (.loc 20), none, []⟩,
  ⟨.loc 21, .ext (.loc 18) 0, none, []⟩,
  ⟨.loc 22, .ext (.loc 18) 1, none, []⟩,
  ⟨.var 9, .mv (.loc 21), none, []⟩,
  ⟨.var 10, .mv (.loc 22), none, []⟩] false
def c_I_deskForm_take_3 : ACode := .reg [⟨.loc 23, .mv (.var 1), none, []⟩,
  ⟨.loc 24, .mv (.var 9), none, []⟩,
  ⟨.loc 25, .nchk (.loc 23), none, []⟩,
  ⟨.loc 26, .fld 5 (.loc 25), none, []⟩,
  ⟨.none, .store 1 (.loc 26) (.loc 24), none, []⟩] false
end Go.Proofs.YtgoknpcippfjbaaDoor.Ab
