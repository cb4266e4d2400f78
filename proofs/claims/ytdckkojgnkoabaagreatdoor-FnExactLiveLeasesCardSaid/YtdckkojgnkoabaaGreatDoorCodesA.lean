/-
  A part of a proof about the given program; what is proved is said where each theorem stands.
-/
import Derived.Lib.LaidTab
import Derived.Lib.ItoaLen
import Derived.Shelf.Strconv.Itoa3
import Derived.KernelRfl
import Derived.Test.YtdckkojgnkoabaaGreatDoorProg
import Derived.Test.YtdckkojgnkoabaaGreatDoorFrameA
import Derived.Test.YtdckkojgnkoabaaGreatDoorFrameB
import Derived.Test.YtdckkojgnkoabaaGreatDoorFrameC
import Derived.Test.YtdckkojgnkoabaaGreatDoorFrameD
import Derived.Test.YtdckkojgnkoabaaGreatDoorFrameE
namespace Go.Proofs.YtdckkojgnkoabaaGreatDoor.Ab
open Go.Proofs
noncomputable abbrev PP : Program := Tryz.prog
/-- The table of powers of ten that the library's number texts lean on. -/
def pow10Cells : Obj → Prop
  | .cells cs _ _ => cs = (Lib.pow10Tab.map fun z => Value.int .u64 z).toArray
  | _ => False
class P10 (GG : GV) : Prop where
  h : GG 1 = some pow10Cells
/-- An error variable: nil or an error. -/
def errCell : Obj → Prop
  | .cells cs _ _ => ∃ ev, cs[0]? = some ev ∧ (ev = .nilIface ∨ ∃ te pe, ev = .iface te pe)
  | _ => False
/-- A number variable. -/
def intCell : Obj → Prop
  | .cells cs _ _ => ∃ m : Int, cs[0]? = some (.int .i64 m)
  | _ => False
class MaxL (GG : GV) : Prop where
  h : GG 0 = some intCell
/-- What is asked of the code of a function. -/
abbrev WX (GG : GV) (vl : List Nat) (nt : Nat) (om : List (Option Mode)) (rs : List (Mode × Nat × Option (Bool × Nat))) (c : ACode) (rcs cs : List C) (os : List (Option C)) : Prop :=
  W PP vl (nt, pinOf 0 om) (Valid PP GG) c (entry cs) (Fin (Valid PP GG) rs om rcs os) (fun _ _ => False) (Fin (Valid PP GG) rs om rcs os)
/-- An operation without a guard. -/
abbrev o1 (d : Dst) (p : AOp) : AOper := ⟨d, p, none, []⟩
@[simp] theorem o1_is (d : Dst) (p : AOp) : o1 d p = ⟨d, p, none, []⟩ := id rfl
def c_L_FnExactLiveLeases_0 : ACode := .reg [o1 (.var 2) (.box (.var 0)),
  o1 (.var 4) (.mv (.const (.d (.bool false))))] false
def c_L_FnExactLiveLeases_1 : ACode := .reg [o1 (.var 5) (.mv (.const (.d (.int .i64 1048576))))] false
def c_L_FnExactLiveLeases_2 : ACode := .reg [o1 (.loc 13) (.load true 10 (.var 2)),
  o1 (.loc 14) (.mv (.var 5)),
  o1 (.loc 15) (.call (.fn 11) [(.loc 13), (.loc 14)] [.borrow, .borrow]),
  o1 (.var 5) (.mv (.loc 15))] false
def c_L_FnExactLiveLeases_3 : ACode := .reg [o1 (.loc 16) (.mv (.var 5)),
  o1 (.var 17) (.bin .int .lss (.loc 16) (.const (.d (.int .i64 0))))] false
def c_L_FnExactLiveLeases_4 : ACode := .reg [o1 (.var 4) (.mv (.const (.d (.bool true))))] false
def c_L_FnExactLiveLeases_5 : ACode := .reg [o1 (.loc 18) (.load true 10 (.var 2)),
  o1 (.loc 19) (.call (.fn 13) [(.loc 18)] [.borrow]),
  o1 (.loc 20) (.mv (.var 1)),
  o1 (.loc 21) (.call (.fn 22) [(.loc 19), (.loc 20)] [.borrow, .borrow]),
  o1 (.var 6) (.mv (.loc 21))] false
def c_L_FnExactLiveLeases_6 : ACode := .reg [o1 (.loc 22) (.load true 10 (.var 2)),
  o1 (.loc 23) (.call (.fn 13) [(.loc 22)] [.borrow]),
  o1 (.var 7) (.alloc [.d (.int .i64 0), .d (.int .i64 0), .d (.int .i64 0), .nil 1 7, .nil 0 6, .nil 0 2, .d (.int .i64 0), .d (.int .i64 0), .nil 0 3, .nil 0 2]),
  o1 .none (.store 10 (.var 7) (.loc 23))] false
def c_L_FnExactLiveLeases_7 : ACode := .reg [o1 (.loc 24) (.load true 10 (.var 7)),
  o1 (.loc 25) (.mv (.var 1)),
  o1 (.loc 26) (.call (.fn 23) [(.loc 24), (.loc 25)] [.borrow, .borrow]),
  o1 (.var 8) (.mv (.loc 26))] false
def c_L_FnExactLiveLeases_8 : ACode := .reg [o1 (.loc 27) (.mv (.var 8)),
  o1 (.loc 28) (.mv (.var 6)),
  o1 (.loc 29) (.call (.fn 24) [(.loc 27), (.loc 28)] [.borrow, .borrow]),
  o1 (.var 30) (.un .not (.loc 29))] false
def c_L_FnExactLiveLeases_9 : ACode := .reg [o1 (.var 4) (.mv (.const (.d (.bool false))))] false
def c_L_FnExactLiveLeases_10 : ACode := .reg [o1 (.loc 31) (.load true 10 (.var 7)),
  o1 (.loc 32) (.load true 10 (.var 2)),
  ⟨.loc 33, .call (.fn 13) [(.loc 32)] [.borrow], none, [1]⟩,
  ⟨.loc 34, .call (.fn 15) [(.loc 31), (.loc 33)] [.borrow, .borrow], none, [0, 2, 1]⟩,
  ⟨.var 35, .un .not (.loc 34), none, [3, 0, 2, 1]⟩] true
def c_L_FnExactLiveLeases_11 : ACode := .reg [o1 (.var 4) (.mv (.const (.d (.bool false))))] false
def c_L_FnExactLiveLeases_12 : ACode := .reg [o1 (.var 9) (.mv (.const (.d (.int .i64 1))))] false
def c_L_FnExactLiveLeases_13 : ACode := .reg [o1 (.loc 36) (.load true 10 (.var 7)),
  o1 (.loc 37) (.mv (.var 9)),
  o1 (.loc 38) (.call (.fn 19) [(.loc 36), (.loc 37)] [.lend, .borrow]),
  o1 (.var 9) (.mv (.loc 38))] false
def c_L_FnExactLiveLeases_14 : ACode := .reg [o1 (.loc 39) (.mv (.var 9)),
  o1 (.loc 40) (.bin .int .lss (.loc 39) (.const (.d (.int .i64 0)))),
  o1 (.loc 41) (.split (.loc 40)),
  ⟨.loc 42, .mv (.var 8), some ((.loc 41), false), []⟩,
  ⟨.loc 43, .mv (.var 6), some ((.loc 41), false), []⟩,
  ⟨.loc 44, .call (.fn 24) [(.loc 42), (.loc 43)] [.borrow, .borrow], some ((.loc 41), false), []⟩,
  ⟨.loc 45, .un .not (.loc 44), some ((.loc 41), false), []⟩,
  o1 (.var 46) (.pick (.loc 41) (.const (.d (.bool true))) (.loc 45))] false
def c_L_FnExactLiveLeases_15 : ACode := .reg [o1 (.var 4) (.mv (.const (.d (.bool false))))] false
def c_L_FnExactLiveLeases_16 : ACode := .reg [o1 (.var 10) (.mv (.const (.d (.int .i64 1))))] false
def c_L_FnExactLiveLeases_17 : ACode := .reg [o1 (.loc 47) (.mv (.var 8)),
  o1 (.loc 48) (.mv (.var 10)),
  o1 (.loc 49) (.call (.fn 25) [(.loc 47), (.loc 48)] [.lend, .borrow]),
  o1 (.var 10) (.mv (.loc 49))] false
def c_L_FnExactLiveLeases_18 : ACode := .reg [o1 (.var 11) (.mv (.const (.d (.int .i64 1))))] false
def c_L_FnExactLiveLeases_19 : ACode := .reg [o1 (.loc 50) (.mv (.var 8)),
  o1 (.loc 51) (.mv (.var 11)),
  o1 (.loc 52) (.call (.fn 26) [(.loc 50), (.loc 51)] [.borrow, .borrow]),
  o1 (.var 11) (.mv (.loc 52))] false
def c_L_FnExactLiveLeases_20 : ACode := .reg [o1 (.loc 53) (.mv (.var 11)),
  o1 (.var 54) (.bin .int .lss (.loc 53) (.const (.d (.int .i64 0))))] false
def c_L_FnExactLiveLeases_21 : ACode := .reg [o1 (.var 4) (.mv (.const (.d (.bool false))))] false
def c_L_FnExactLiveLeases_22 : ACode := .reg [o1 (.loc 55) (.mv (.var 11)),
  o1 (.loc 56) (.mv (.var 10)),
  o1 (.var 57) (.bin .int .neq (.loc 55) (.loc 56))] false
def c_L_FnExactLiveLeases_23 : ACode := .reg [o1 (.var 4) (.mv (.const (.d (.bool false))))] false
def c_L_FnExactLiveLeases_24 : ACode := .reg [o1 (.loc 58) (.load true 10 (.var 2)),
  o1 (.loc 59) (.call (.fn 13) [(.loc 58)] [.borrow]),
  o1 (.loc 60) (.mv (.var 1)),
  o1 (.loc 61) (.call (.fn 23) [(.loc 59), (.loc 60)] [.borrow, .borrow]),
  o1 (.var 12) (.mv (.loc 61))] false
def c_L_FnExactLiveLeases_25 : ACode := .reg [o1 (.loc 62) (.mv (.var 12)),
  o1 (.loc 63) (.mv (.var 6)),
  o1 (.loc 64) (.call (.fn 24) [(.loc 62), (.loc 63)] [.borrow, .borrow]),
  o1 (.var 65) (.un .not (.loc 64))] false
def c_L_FnExactLiveLeases_26 : ACode := .reg [o1 (.var 4) (.mv (.const (.d (.bool false))))] false
def c_L_FnExactLiveLeases_27 : ACode := .reg [o1 (.var 11) (.mv (.const (.d (.int .i64 1))))] false
def c_L_FnExactLiveLeases_28 : ACode := .reg [o1 (.loc 66) (.mv (.var 8)),
  o1 (.loc 67) (.mv (.var 11)),
  o1 (.loc 68) (.call (.fn 26) [(.loc 66), (.loc 67)] [.borrow, .borrow]),
  o1 (.var 11) (.mv (.loc 68))] false
def c_L_FnExactLiveLeases_29 : ACode := .reg [o1 (.loc 69) (.mv (.var 11)),
  o1 (.var 70) (.bin .int .lss (.loc 69) (.const (.d (.int .i64 0))))] false
def c_L_FnExactLiveLeases_30 : ACode := .reg [o1 (.var 4) (.mv (.const (.d (.bool false))))] false
def c_L_FnExactLiveLeases_31 : ACode := .reg [o1 (.loc 71) (.mv (.var 11)),
  o1 (.loc 72) (.mv (.var 10)),
  o1 (.var 73) (.bin .int .neq (.loc 71) (.loc 72))] false
def c_L_FnExactLiveLeases_32 : ACode := .reg [o1 (.var 4) (.mv (.const (.d (.bool false))))] false
def c_L_FnExactLiveLeases_33 : ACode := .reg [o1 (.var 4) (.mv (.const (.d (.bool true))))] false
def c_L_FnExactLiveLeases : ACode := (.seq c_L_FnExactLiveLeases_0 (.seq c_L_FnExactLiveLeases_1 (.seq c_L_FnExactLiveLeases_2 (.seq (.seq c_L_FnExactLiveLeases_3 (.cond (.var 17) (.seq c_L_FnExactLiveLeases_4 .ret) .skip)) (.seq c_L_FnExactLiveLeases_5 (.seq c_L_FnExactLiveLeases_6 (.seq c_L_FnExactLiveLeases_7 (.seq (.seq c_L_FnExactLiveLeases_8 (.cond (.var 30) (.seq c_L_FnExactLiveLeases_9 .ret) .skip)) (.seq (.seq c_L_FnExactLiveLeases_10 (.cond (.var 35) (.seq c_L_FnExactLiveLeases_11 .ret) .skip)) (.seq c_L_FnExactLiveLeases_12 (.seq c_L_FnExactLiveLeases_13 (.seq (.seq c_L_FnExactLiveLeases_14 (.cond (.var 46) (.seq c_L_FnExactLiveLeases_15 .ret) .skip)) (.seq c_L_FnExactLiveLeases_16 (.seq c_L_FnExactLiveLeases_17 (.seq c_L_FnExactLiveLeases_18 (.seq c_L_FnExactLiveLeases_19 (.seq (.seq c_L_FnExactLiveLeases_20 (.cond (.var 54) (.seq c_L_FnExactLiveLeases_21 .ret) .skip)) (.seq (.seq c_L_FnExactLiveLeases_22 (.cond (.var 57) (.seq c_L_FnExactLiveLeases_23 .ret) .skip)) (.seq c_L_FnExactLiveLeases_24 (.seq (.seq c_L_FnExactLiveLeases_25 (.cond (.var 65) (.seq c_L_FnExactLiveLeases_26 .ret) .skip)) (.seq c_L_FnExactLiveLeases_27 (.seq c_L_FnExactLiveLeases_28 (.seq (.seq c_L_FnExactLiveLeases_29 (.cond (.var 70) (.seq c_L_FnExactLiveLeases_30 .ret) .skip)) (.seq (.seq c_L_FnExactLiveLeases_31 (.cond (.var 73) (.seq c_L_FnExactLiveLeases_32 .ret) .skip)) (.seq c_L_FnExactLiveLeases_33 .ret)))))))))))))))))))))))))
abbrev F_L_FnExactLiveLeases : FuncId := 5
theorem k_L_FnExactLiveLeases : comp PP (Tryz.f5.ntmps, pinOf 0 [none, none]) [0, 1, 2, 4, 5, 6, 7, 8, 9, 10, 11, 12, 17, 30, 35, 46, 54, 57, 65, 70, 73] (Tryz.f5.body.getD .skip) = some c_L_FnExactLiveLeases.erase := by kernel_rfl
theorem v_L_FnExactLiveLeases {GG : GV} (rcs : List C) {cs : List C} {r : C} {os : List (Option C)} (hN : (cs.length == 2 && rcs.length == 1) = true) (hret : retOf rcs = r) (hW : WX GG [0, 1, 2, 4, 5, 6, 7, 8, 9, 10, 11, 12, 17, 30, 35, 46, 54, 57, 65, 70, 73] Tryz.f5.ntmps [none, none] [(.give, 4, none)] c_L_FnExactLiveLeases rcs cs os) : Valid PP GG F_L_FnExactLiveLeases cs r os :=
  fn_valid_n 2 1 _ _ _ _ rcs Tryz.func5 rfl rfl (by kernel_rfl) k_L_FnExactLiveLeases rfl rfl hN hret hW
def c_L_szWorld_0 : ACode := .reg [o1 (.var 2) (.box (.var 0)),
  o1 (.var 4) (.mv (.const (.d (.int .i64 0))))] false
def c_L_szWorld_1 : ACode := .reg [o1 (.loc 5) (.fld 3 (.var 2)),
  o1 (.loc 6) (.load true 1 (.loc 5)),
  o1 (.loc 7) (.mv (.var 1)),
  o1 (.loc 8) (.call (.fn 44) [(.loc 6), (.loc 7)] [.borrow, .borrow]),
  o1 (.var 1) (.mv (.loc 8))] false
def c_L_szWorld_2 : ACode := .reg [o1 (.loc 9) (.mv (.var 1)),
  o1 (.var 10) (.bin .int .lss (.loc 9) (.const (.d (.int .i64 0))))] false
def c_L_szWorld_3 : ACode := .reg [o1 (.var 4) (.mv (.const (.d (.int .i64 (-1)))))] false
def c_L_szWorld_4 : ACode := .reg [o1 (.loc 11) (.fld 4 (.var 2)),
  o1 (.loc 12) (.load true 1 (.loc 11)),
  o1 (.loc 13) (.mv (.var 1)),
  o1 (.loc 14) (.call (.fn 45) [(.loc 12), (.loc 13)] [.borrow, .borrow]),
  o1 (.var 1) (.mv (.loc 14))] false
def c_L_szWorld_5 : ACode := .reg [o1 (.loc 15) (.mv (.var 1)),
  o1 (.var 16) (.bin .int .lss (.loc 15) (.const (.d (.int .i64 0))))] false
def c_L_szWorld_6 : ACode := .reg [o1 (.var 4) (.mv (.const (.d (.int .i64 (-1)))))] false
def c_L_szWorld_7 : ACode := .reg [o1 (.loc 17) (.fld 5 (.var 2)),
  o1 (.loc 18) (.load true 3 (.loc 17)),
  o1 (.loc 19) (.mv (.var 1)),
  o1 (.loc 20) (.call (.fn 46) [(.loc 18), (.loc 19)] [.borrow, .borrow]),
  o1 (.var 1) (.mv (.loc 20))] false
def c_L_szWorld_8 : ACode := .reg [o1 (.loc 21) (.mv (.var 1)),
  o1 (.var 22) (.bin .int .lss (.loc 21) (.const (.d (.int .i64 0))))] false
def c_L_szWorld_9 : ACode := .reg [o1 (.var 4) (.mv (.const (.d (.int .i64 (-1)))))] false
def c_L_szWorld_10 : ACode := .reg [o1 (.loc 23) (.fld 8 (.var 2)),
  o1 (.loc 24) (.load true 1 (.loc 23)),
  o1 (.loc 25) (.mv (.var 1)),
  o1 (.loc 26) (.call (.fn 47) [(.loc 24), (.loc 25)] [.borrow, .borrow]),
  o1 (.var 1) (.mv (.loc 26))] false
def c_L_szWorld_11 : ACode := .reg [o1 (.loc 27) (.mv (.var 1)),
  o1 (.var 28) (.bin .int .lss (.loc 27) (.const (.d (.int .i64 0))))] false
def c_L_szWorld_12 : ACode := .reg [o1 (.var 4) (.mv (.const (.d (.int .i64 (-1)))))] false
def c_L_szWorld_13 : ACode := .reg [o1 (.loc 29) (.fld 9 (.var 2)),
  o1 (.loc 30) (.load false 1 (.loc 29)),
  o1 (.loc 31) (.mv (.var 1)),
  o1 (.loc 32) (.call (.fn 48) [(.loc 30), (.loc 31)] [.borrow, .borrow]),
  o1 (.var 1) (.mv (.loc 32))] false
def c_L_szWorld_14 : ACode := .reg [o1 (.loc 33) (.mv (.var 1)),
  o1 (.var 34) (.bin .int .lss (.loc 33) (.const (.d (.int .i64 0))))] false
def c_L_szWorld_15 : ACode := .reg [o1 (.var 4) (.mv (.const (.d (.int .i64 (-1)))))] false
def c_L_szWorld_16 : ACode := .reg [o1 (.loc 35) (.mv (.var 1)),
  o1 (.var 4) (.mv (.loc 35))] false
def c_L_szWorld : ACode := (.seq c_L_szWorld_0 (.seq c_L_szWorld_1 (.seq (.seq c_L_szWorld_2 (.cond (.var 10) (.seq c_L_szWorld_3 .ret) .skip)) (.seq c_L_szWorld_4 (.seq (.seq c_L_szWorld_5 (.cond (.var 16) (.seq c_L_szWorld_6 .ret) .skip)) (.seq c_L_szWorld_7 (.seq (.seq c_L_szWorld_8 (.cond (.var 22) (.seq c_L_szWorld_9 .ret) .skip)) (.seq c_L_szWorld_10 (.seq (.seq c_L_szWorld_11 (.cond (.var 28) (.seq c_L_szWorld_12 .ret) .skip)) (.seq c_L_szWorld_13 (.seq (.seq c_L_szWorld_14 (.cond (.var 34) (.seq c_L_szWorld_15 .ret) .skip)) (.seq c_L_szWorld_16 .ret))))))))))))
abbrev F_L_szWorld : FuncId := 11
theorem k_L_szWorld : comp PP (Tryz.f11.ntmps, pinOf 0 [none, none]) [0, 1, 2, 4, 10, 16, 22, 28, 34] (Tryz.f11.body.getD .skip) = some c_L_szWorld.erase := by kernel_rfl
theorem v_L_szWorld {GG : GV} (rcs : List C) {cs : List C} {r : C} {os : List (Option C)} (hN : (cs.length == 2 && rcs.length == 1) = true) (hret : retOf rcs = r) (hW : WX GG [0, 1, 2, 4, 10, 16, 22, 28, 34] Tryz.f11.ntmps [none, none] [(.give, 4, none)] c_L_szWorld rcs cs os) : Valid PP GG F_L_szWorld cs r os :=
  fn_valid_n 2 1 _ _ _ _ rcs Tryz.func11 rfl rfl (by kernel_rfl) k_L_szWorld rfl rfl hN hret hW
def c_S_WorldOk_0 : ACode := .reg [o1 (.var 1) (.box (.var 0)),
  o1 (.var 2) (.mv (.const (.d (.bool false))))] false
def c_S_WorldOk_1 : ACode := .reg [o1 (.loc 9) (.fld 0 (.var 1)),
  o1 (.loc 10) (.load false 1 (.loc 9)),
  o1 (.loc 11) (.call (.fn 49) [(.loc 10), (.const (.d (.int .i64 0))), (.const (.d (.int .i64 1000000000)))] [.borrow, .borrow, .borrow]),
  o1 (.loc 12) (.un .not (.loc 11)),
  o1 (.loc 13) (.split (.loc 12)),
  ⟨.loc 14, .fld 1 (.var 1), some ((.loc 13), false), []⟩,
  ⟨.loc 15, .load false 1 (.loc 14), some ((.loc 13), false), []⟩,
  ⟨.loc 16, .call (.fn 49) [(.loc 15), (.const (.d (.int .i64 1))), (.const (.d (.int .i64 1000000000)))] [.borrow, .borrow, .borrow], some ((.loc 13), false), []⟩,
  ⟨.loc 17, .un .not (.loc 16), some ((.loc 13), false), []⟩,
  o1 (.loc 18) (.pick (.loc 13) (.const (.d (.bool true))) (.loc 17)),
  o1 (.loc 19) (.split (.loc 18)),
  ⟨.loc 20, .fld 2 (.var 1), some ((.loc 19), false), []⟩,
  ⟨.loc 21, .load false 1 (.loc 20), some ((.loc 19), false), []⟩,
  ⟨.loc 22, .call (.fn 49) [(.loc 21), (.const (.d (.int .i64 0))), (.const (.d (.int .i64 1000000000)))] [.borrow, .borrow, .borrow], some ((.loc 19), false), []⟩,
  ⟨.loc 23, .un .not (.loc 22), some ((.loc 19), false), []⟩,
  o1 (.loc 24) (.pick (.loc 19) (.const (.d (.bool true))) (.loc 23)),
  o1 (.loc 25) (.split (.loc 24)),
  ⟨.loc 26, .fld 3 (.var 1), some ((.loc 25), false), []⟩,
  ⟨.loc 27, .load true 1 (.loc 26), some ((.loc 25), false), []⟩,
  ⟨.loc 28, .call (.fn 50) [(.loc 27)] [.borrow], some ((.loc 25), false), []⟩,
  ⟨.loc 29, .un .not (.loc 28), some ((.loc 25), false), []⟩,
  o1 (.loc 30) (.pick (.loc 25) (.const (.d (.bool true))) (.loc 29)),
  o1 (.loc 31) (.split (.loc 30)),
  ⟨.loc 32, .fld 4 (.var 1), some ((.loc 31), false), []⟩,
  ⟨.loc 33, .load true 1 (.loc 32), some ((.loc 31), false), []⟩,
  ⟨.loc 34, .call (.fn 51) [(.loc 33)] [.borrow], some ((.loc 31), false), []⟩,
  ⟨.loc 35, .un .not (.loc 34), some ((.loc 31), false), []⟩,
  o1 (.loc 36) (.pick (.loc 31) (.const (.d (.bool true))) (.loc 35)),
  o1 (.loc 37) (.split (.loc 36)),
  ⟨.loc 38, .fld 5 (.var 1), some ((.loc 37), false), []⟩,
  ⟨.loc 39, .load true 3 (.loc 38), some ((.loc 37), false), []⟩,
  ⟨.loc 40, .call (.fn 52) [(.loc 39)] [.borrow], some ((.loc 37), false), []⟩,
  ⟨.loc 41, .un .not (.loc 40), some ((.loc 37), false), []⟩,
  o1 (.loc 42) (.pick (.loc 37) (.const (.d (.bool true))) (.loc 41)),
  o1 (.loc 43) (.split (.loc 42)),
  ⟨.loc 44, .fld 8 (.var 1), some ((.loc 43), false), []⟩,
  ⟨.loc 45, .load true 1 (.loc 44), some ((.loc 43), false), []⟩,
  ⟨.loc 46, .call (.fn 53) [(.loc 45)] [.borrow], some ((.loc 43), false), []⟩,
  ⟨.loc 47, .un .not (.loc 46), some ((.loc 43), false), []⟩,
  o1 (.var 48) (.pick (.loc 43) (.const (.d (.bool true))) (.loc 47))] false
def c_S_WorldOk_2 : ACode := .reg [o1 (.var 2) (.mv (.const (.d (.bool false))))] false
def c_S_WorldOk_3 : ACode := .reg [o1 (.var 3) (.mv (.const (.d (.int .i64 0))))] false
def c_S_WorldOk_4 : ACode := .reg [o1 (.loc 49) (.mv (.var 3)),
  o1 (.loc 50) (.fld 3 (.var 1)),
  o1 (.loc 51) (.fld 0 (.loc 50)),
  o1 (.loc 52) (.load false 1 (.loc 51)),
  o1 (.loc 53) (.len false (.loc 52)),
  o1 (.var 54) (.bin .int .lss (.loc 49) (.loc 53))] false
def c_S_WorldOk_5 : ACode := .reg [o1 (.loc 57) (.fld 3 (.var 1)),
  ⟨.loc 58, .fld 0 (.loc 57), none, [0]⟩,
  ⟨.loc 59, .load false 1 (.loc 58), none, [1, 0]⟩,
  o1 (.loc 60) (.mv (.var 3)),
  ⟨.loc 61, .idxA 7 (.loc 59) (.loc 60), none, [2, 1, 0, 3]⟩,
  ⟨.loc 62, .fld 0 (.loc 61), none, [4, 2, 1, 0, 3]⟩,
  ⟨.loc 63, .load false 1 (.loc 62), none, [5, 4, 2, 1, 0, 3]⟩,
  o1 (.loc 64) (.fld 1 (.var 1)),
  ⟨.loc 65, .load false 1 (.loc 64), none, [7]⟩,
  ⟨.var 66, .bin .int .geq (.loc 63) (.loc 65), none, [6, 5, 4, 2, 1, 0, 3, 8, 7]⟩] true
def c_S_WorldOk_6 : ACode := .reg [o1 (.var 2) (.mv (.const (.d (.bool false))))] false
def c_S_WorldOk_7 : ACode := .reg [o1 (.loc 55) (.mv (.var 3)),
  o1 (.loc 56) (.bin .int .add (.loc 55) (.const (.d (.int .i64 1)))),
  o1 (.var 3) (.mv (.loc 56))] false
def c_S_WorldOk_8 : ACode := (.seq (.seq c_S_WorldOk_4 (.cond (.var 54) .skip (.exit 0))) (.seq (.block 1 (.seq c_S_WorldOk_5 (.cond (.var 66) (.seq c_S_WorldOk_6 .ret) .skip))) c_S_WorldOk_7))
def c_S_WorldOk_9 : ACode := .reg [o1 (.var 4) (.mv (.const (.d (.int .i64 0))))] false
def c_S_WorldOk_10 : ACode := .reg [o1 (.loc 67) (.mv (.var 4)),
  o1 (.loc 68) (.fld 4 (.var 1)),
  o1 (.loc 69) (.fld 0 (.loc 68)),
  o1 (.loc 70) (.load false 1 (.loc 69)),
  o1 (.loc 71) (.len false (.loc 70)),
  o1 (.var 72) (.bin .int .lss (.loc 67) (.loc 71))] false
def c_S_WorldOk_11 : ACode := .reg [o1 (.loc 75) (.fld 4 (.var 1)),
  ⟨.loc 76, .fld 0 (.loc 75), none, [0]⟩,
  ⟨.loc 77, .load false 1 (.loc 76), none, [1, 0]⟩,
  o1 (.loc 78) (.mv (.var 4)),
  ⟨.loc 79, .idxA 6 (.loc 77) (.loc 78), none, [2, 1, 0, 3]⟩,
  ⟨.loc 80, .fld 0 (.loc 79), none, [4, 2, 1, 0, 3]⟩,
  ⟨.loc 81, .load false 1 (.loc 80), none, [5, 4, 2, 1, 0, 3]⟩,
  o1 (.loc 82) (.fld 1 (.var 1)),
  ⟨.loc 83, .load false 1 (.loc 82), none, [7]⟩,
  ⟨.var 84, .bin .int .geq (.loc 81) (.loc 83), none, [6, 5, 4, 2, 1, 0, 3, 8, 7]⟩] true
def c_S_WorldOk_12 : ACode := .reg [o1 (.var 2) (.mv (.const (.d (.bool false))))] false
def c_S_WorldOk_13 : ACode := .reg [o1 (.loc 73) (.mv (.var 4)),
  o1 (.loc 74) (.bin .int .add (.loc 73) (.const (.d (.int .i64 1)))),
  o1 (.var 4) (.mv (.loc 74))] false
def c_S_WorldOk_14 : ACode := (.seq (.seq c_S_WorldOk_10 (.cond (.var 72) .skip (.exit 2))) (.seq (.block 3 (.seq c_S_WorldOk_11 (.cond (.var 84) (.seq c_S_WorldOk_12 .ret) .skip))) c_S_WorldOk_13))
def c_S_WorldOk_15 : ACode := .reg [o1 (.loc 85) (.fld 9 (.var 1)),
  o1 (.loc 86) (.load false 1 (.loc 85)),
  o1 (.loc 87) (.len false (.loc 86)),
  o1 (.loc 88) (.fld 4 (.var 1)),
  o1 (.loc 89) (.fld 0 (.loc 88)),
  o1 (.loc 90) (.load false 1 (.loc 89)),
  o1 (.loc 91) (.len false (.loc 90)),
  o1 (.var 92) (.bin .int .gtr (.loc 87) (.loc 91))] false
def c_S_WorldOk_16 : ACode := .reg [o1 (.var 2) (.mv (.const (.d (.bool false))))] false
def c_S_WorldOk_17 : ACode := .reg [o1 (.var 5) (.mv (.const (.d (.int .i64 0))))] false
def c_S_WorldOk_18 : ACode := .reg [o1 (.loc 93) (.mv (.var 5)),
  o1 (.loc 94) (.fld 9 (.var 1)),
  o1 (.loc 95) (.load false 1 (.loc 94)),
  o1 (.loc 96) (.len false (.loc 95)),
  o1 (.var 97) (.bin .int .lss (.loc 93) (.loc 96))] false
def c_S_WorldOk_19 : ACode := .reg [o1 (.loc 101) (.fld 4 (.var 1)),
  ⟨.loc 102, .load true 1 (.loc 101), none, [0]⟩,
  o1 (.loc 103) (.fld 9 (.var 1)),
  ⟨.loc 104, .load false 1 (.loc 103), none, [2]⟩,
  o1 (.loc 105) (.mv (.var 5)),
  ⟨.loc 106, .idxA 2 (.loc 104) (.loc 105), none, [3, 2, 4]⟩,
  ⟨.loc 107, .fld 0 (.loc 106), none, [5, 3, 2, 4]⟩,
  ⟨.loc 108, .load false 1 (.loc 107), none, [6, 5, 3, 2, 4]⟩,
  ⟨.loc 109, .call (.fn 54) [(.loc 102), (.loc 108)] [.borrow, .borrow], none, [1, 0, 7, 6, 5, 3, 2, 4]⟩,
  ⟨.loc 100, .mv (.loc 109), none, [8, 1, 0, 7, 6, 5, 3, 2, 4]⟩,
  ⟨.loc 110, .ext (.loc 100) 0, none, [9, 8, 1, 0, 7, 6, 5, 3, 2, 4]⟩,
  ⟨.loc 111, .ext (.loc 100) 1, none, [9, 8, 1, 0, 7, 6, 5, 3, 2, 4]⟩,
  o1 (.loc 6) (.alloc [.d (.int .i64 0), .d (.int .i64 0), .d (.str []), .d (.int .i64 0), .d (.int .i64 0), .d (.int .i64 0)]),
  ⟨.none, .store 6 (.loc 6) (.loc 110), none, [10, 9, 8, 1, 0, 7, 6, 5, 3, 2, 4, 12]⟩,
  ⟨.var 7, .mv (.loc 111), none, [11, 13, 10, 9, 8, 1, 0, 7, 6, 5, 3, 2, 4, 12]⟩] true
def c_S_WorldOk_20 : ACode := .reg [o1 (.loc 112) (.mv (.var 7)),
  ⟨.loc 113, .un .not (.loc 112), none, [0]⟩,
  ⟨.loc 114, .split (.loc 113), none, [1, 0]⟩,
  ⟨.loc 115, .fld 9 (.var 1), some ((.loc 114), false), [2, 1, 0]⟩,
  ⟨.loc 116, .load false 1 (.loc 115), some ((.loc 114), false), [3, 2, 1, 0]⟩,
  ⟨.loc 117, .mv (.var 5), some ((.loc 114), false), [2, 1, 0]⟩,
  ⟨.loc 118, .idxA 2 (.loc 116) (.loc 117), some ((.loc 114), false), [4, 3, 5, 2, 1, 0]⟩,
  ⟨.loc 119, .fld 1 (.loc 118), some ((.loc 114), false), [6, 4, 3, 5, 2, 1, 0]⟩,
  ⟨.loc 120, .load false 1 (.loc 119), some ((.loc 114), false), [7, 6, 4, 3, 5, 2, 1, 0]⟩,
  ⟨.loc 121, .call (.fn 55) [(.loc 120)] [.borrow], some ((.loc 114), false), [8, 7, 6, 4, 3, 5, 2, 1, 0]⟩,
  ⟨.loc 122, .un .not (.loc 121), some ((.loc 114), false), [9, 8, 7, 6, 4, 3, 5, 2, 1, 0]⟩,
  ⟨.loc 123, .pick (.loc 114) (.const (.d (.bool true))) (.loc 122), none, [10, 9, 8, 7, 6, 4, 3, 5, 2, 1, 0]⟩,
  ⟨.loc 124, .split (.loc 123), none, [11, 10, 9, 8, 7, 6, 4, 3, 5, 2, 1, 0]⟩,
  ⟨.loc 125, .mv (.var 5), some ((.loc 124), false), [12, 11, 10, 9, 8, 7, 6, 4, 3, 5, 2, 1, 0]⟩,
  ⟨.loc 126, .bin .int .gtr (.loc 125) (.const (.d (.int .i64 0))), some ((.loc 124), false), [13, 12, 11, 10, 9, 8, 7, 6, 4, 3, 5, 2, 1, 0]⟩,
  ⟨.loc 127, .split (.loc 126), some ((.loc 124), false), [14, 13, 12, 11, 10, 9, 8, 7, 6, 4, 3, 5, 2, 1, 0]⟩,
  ⟨.loc 128, .fld 9 (.var 1), some ((.loc 127), true), [15, 14, 13, 12, 11, 10, 9, 8, 7, 6, 4, 3, 5, 2, 1, 0]⟩,
  ⟨.loc 129, .load false 1 (.loc 128), some ((.loc 127), true), [16, 15, 14, 13, 12, 11, 10, 9, 8, 7, 6, 4, 3, 5, 2, 1, 0]⟩,
  ⟨.loc 130, .mv (.var 5), some ((.loc 127), true), [15, 14, 13, 12, 11, 10, 9, 8, 7, 6, 4, 3, 5, 2, 1, 0]⟩,
  ⟨.loc 131, .bin .int .sub (.loc 130) (.const (.d (.int .i64 1))), some ((.loc 127), true), [18, 15, 14, 13, 12, 11, 10, 9, 8, 7, 6, 4, 3, 5, 2, 1, 0]⟩,
  ⟨.loc 132, .idxA 2 (.loc 129) (.loc 131), some ((.loc 127), true), [17, 16, 19, 18, 15, 14, 13, 12, 11, 10, 9, 8, 7, 6, 4, 3, 5, 2, 1, 0]⟩,
  ⟨.loc 133, .fld 0 (.loc 132), some ((.loc 127), true), [20, 17, 16, 19, 18, 15, 14, 13, 12, 11, 10, 9, 8, 7, 6, 4, 3, 5, 2, 1, 0]⟩,
  ⟨.loc 134, .load false 1 (.loc 133), some ((.loc 127), true), [21, 20, 17, 16, 19, 18, 15, 14, 13, 12, 11, 10, 9, 8, 7, 6, 4, 3, 5, 2, 1, 0]⟩,
  ⟨.loc 135, .fld 9 (.var 1), some ((.loc 127), true), [15, 14, 13, 12, 11, 10, 9, 8, 7, 6, 4, 3, 5, 2, 1, 0]⟩,
  ⟨.loc 136, .load false 1 (.loc 135), some ((.loc 127), true), [23, 15, 14, 13, 12, 11, 10, 9, 8, 7, 6, 4, 3, 5, 2, 1, 0]⟩,
  ⟨.loc 137, .mv (.var 5), some ((.loc 127), true), [15, 14, 13, 12, 11, 10, 9, 8, 7, 6, 4, 3, 5, 2, 1, 0]⟩,
  ⟨.loc 138, .idxA 2 (.loc 136) (.loc 137), some ((.loc 127), true), [24, 23, 25, 15, 14, 13, 12, 11, 10, 9, 8, 7, 6, 4, 3, 5, 2, 1, 0]⟩,
  ⟨.loc 139, .fld 0 (.loc 138), some ((.loc 127), true), [26, 24, 23, 25, 15, 14, 13, 12, 11, 10, 9, 8, 7, 6, 4, 3, 5, 2, 1, 0]⟩,
  ⟨.loc 140, .load false 1 (.loc 139), some ((.loc 127), true), [27, 26, 24, 23, 25, 15, 14, 13, 12, 11, 10, 9, 8, 7, 6, 4, 3, 5, 2, 1, 0]⟩,
  ⟨.loc 141, .bin .int .geq (.loc 134) (.loc 140), some ((.loc 127), true), [22, 21, 20, 17, 16, 19, 18, 28, 27, 26, 24, 23, 25, 15, 14, 13, 12, 11, 10, 9, 8, 7, 6, 4, 3, 5, 2, 1, 0]⟩,
  ⟨.loc 142, .pick (.loc 127) (.loc 141) (.const (.d (.bool false))), some ((.loc 124), false), [29, 22, 21, 20, 17, 16, 19, 18, 28, 27, 26, 24, 23, 25, 15, 14, 13, 12, 11, 10, 9, 8, 7, 6, 4, 3, 5, 2, 1, 0]⟩,
  ⟨.var 143, .pick (.loc 124) (.const (.d (.bool true))) (.loc 142), none, [30, 29, 22, 21, 20, 17, 16, 19, 18, 28, 27, 26, 24, 23, 25, 15, 14, 13, 12, 11, 10, 9, 8, 7, 6, 4, 3, 5, 2, 1, 0]⟩] true
def c_S_WorldOk_21 : ACode := .reg [o1 (.var 2) (.mv (.const (.d (.bool false))))] false
def c_S_WorldOk_22 : ACode := .reg [o1 (.var 8) (.mv (.const (.d (.int .i64 0))))] false
def c_S_WorldOk_23 : ACode := .reg [o1 (.loc 144) (.mv (.var 8)),
  o1 (.loc 145) (.mv (.var 5)),
  o1 (.var 146) (.bin .int .lss (.loc 144) (.loc 145))] false
def c_S_WorldOk_24 : ACode := .reg [o1 (.loc 149) (.fld 9 (.var 1)),
  ⟨.loc 150, .load false 1 (.loc 149), none, [0]⟩,
  o1 (.loc 151) (.mv (.var 8)),
  ⟨.loc 152, .idxA 2 (.loc 150) (.loc 151), none, [1, 0, 2]⟩,
  ⟨.loc 153, .fld 1 (.loc 152), none, [3, 1, 0, 2]⟩,
  ⟨.loc 154, .load false 1 (.loc 153), none, [4, 3, 1, 0, 2]⟩,
  o1 (.loc 155) (.fld 9 (.var 1)),
  ⟨.loc 156, .load false 1 (.loc 155), none, [6]⟩,
  o1 (.loc 157) (.mv (.var 5)),
  ⟨.loc 158, .idxA 2 (.loc 156) (.loc 157), none, [7, 6, 8]⟩,
  ⟨.loc 159, .fld 1 (.loc 158), none, [9, 7, 6, 8]⟩,
  ⟨.loc 160, .load false 1 (.loc 159), none, [10, 9, 7, 6, 8]⟩,
  ⟨.var 161, .bin .str .eql (.loc 154) (.loc 160), none, [5, 4, 3, 1, 0, 2, 11, 10, 9, 7, 6, 8]⟩] true
def c_S_WorldOk_25 : ACode := .reg [o1 (.var 2) (.mv (.const (.d (.bool false))))] false
def c_S_WorldOk_26 : ACode := .reg [o1 (.loc 147) (.mv (.var 8)),
  o1 (.loc 148) (.bin .int .add (.loc 147) (.const (.d (.int .i64 1)))),
  o1 (.var 8) (.mv (.loc 148))] false
def c_S_WorldOk_27 : ACode := (.seq (.seq c_S_WorldOk_23 (.cond (.var 146) .skip (.exit 6))) (.seq (.block 7 (.seq c_S_WorldOk_24 (.cond (.var 161) (.seq c_S_WorldOk_25 .ret) .skip))) c_S_WorldOk_26))
def c_S_WorldOk_28 : ACode := .reg [o1 (.loc 98) (.mv (.var 5)),
  o1 (.loc 99) (.bin .int .add (.loc 98) (.const (.d (.int .i64 1)))),
  o1 (.var 5) (.mv (.loc 99))] false
def c_S_WorldOk_29 : ACode := (.seq (.seq c_S_WorldOk_18 (.cond (.var 97) .skip (.exit 4))) (.seq (.block 5 (.seq c_S_WorldOk_19 (.seq (.seq c_S_WorldOk_20 (.cond (.var 143) (.seq c_S_WorldOk_21 .ret) .skip)) (.seq c_S_WorldOk_22 (.block 6 (.loop [1, 5, 8] c_S_WorldOk_27)))))) c_S_WorldOk_28))
def c_S_WorldOk_30 : ACode := .reg [o1 (.var 2) (.mv (.const (.d (.bool true))))] false
def c_S_WorldOk : ACode := (.seq c_S_WorldOk_0 (.seq (.seq c_S_WorldOk_1 (.cond (.var 48) (.seq c_S_WorldOk_2 .ret) .skip)) (.seq (.seq c_S_WorldOk_3 (.block 0 (.loop [1, 3] c_S_WorldOk_8))) (.seq (.seq c_S_WorldOk_9 (.block 2 (.loop [1, 4] c_S_WorldOk_14))) (.seq (.seq c_S_WorldOk_15 (.cond (.var 92) (.seq c_S_WorldOk_16 .ret) .skip)) (.seq (.seq c_S_WorldOk_17 (.block 4 (.loop [1, 5] c_S_WorldOk_29))) (.seq c_S_WorldOk_30 .ret)))))))
abbrev F_S_WorldOk : FuncId := 12
theorem k_S_WorldOk : comp PP (Tryz.f12.ntmps, pinOf 0 [none]) [0, 1, 2, 3, 4, 5, 7, 8, 48, 54, 66, 72, 84, 92, 97, 143, 146, 161] (Tryz.f12.body.getD .skip) = some c_S_WorldOk.erase := by kernel_rfl
theorem v_S_WorldOk {GG : GV} (rcs : List C) {cs : List C} {r : C} {os : List (Option C)} (hN : (cs.length == 1 && rcs.length == 1) = true) (hret : retOf rcs = r) (hW : WX GG [0, 1, 2, 3, 4, 5, 7, 8, 48, 54, 66, 72, 84, 92, 97, 143, 146, 161] Tryz.f12.ntmps [none] [(.give, 2, none)] c_S_WorldOk rcs cs os) : Valid PP GG F_S_WorldOk cs r os :=
  fn_valid_n 1 1 _ _ _ _ rcs Tryz.func12 rfl rfl (by kernel_rfl) k_S_WorldOk rfl rfl hN hret hW
def c_L_toWorld_0 : ACode := .reg [o1 (.var 1) (.box (.var 0)),
  o1 (.var 2) (.alloc [.d (.int .i64 0), .d (.int .i64 0), .d (.int .i64 0), .nil 1 7, .nil 0 6, .nil 0 2, .d (.int .i64 0), .d (.int .i64 0), .nil 0 3, .nil 0 2])] false
def c_L_toWorld_1 : ACode := .reg [o1 (.var 3) (.alloc [.d (.int .i64 0), .d (.int .i64 0), .d (.int .i64 0), .nil 1 7, .nil 0 6, .nil 0 2, .d (.int .i64 0), .d (.int .i64 0), .nil 0 3, .nil 0 2])] false
def c_L_toWorld_2 : ACode := .reg [o1 (.loc 4) (.fld 0 (.var 1)),
  o1 (.loc 5) (.load false 1 (.loc 4)),
  o1 (.loc 6) (.fld 0 (.var 3)),
  o1 .none (.store 1 (.loc 6) (.loc 5))] false
def c_L_toWorld_3 : ACode := .reg [o1 (.loc 7) (.fld 1 (.var 1)),
  o1 (.loc 8) (.load false 1 (.loc 7)),
  o1 (.loc 9) (.fld 1 (.var 3)),
  o1 .none (.store 1 (.loc 9) (.loc 8))] false
def c_L_toWorld_4 : ACode := .reg [o1 (.loc 10) (.fld 2 (.var 1)),
  o1 (.loc 11) (.load false 1 (.loc 10)),
  o1 (.loc 12) (.fld 2 (.var 3)),
  o1 .none (.store 1 (.loc 12) (.loc 11))] false
def c_L_toWorld_5 : ACode := .reg [o1 (.loc 13) (.fld 3 (.var 1)),
  o1 (.loc 14) (.load true 1 (.loc 13)),
  o1 (.loc 15) (.call (.fn 56) [(.loc 14)] [.borrow]),
  o1 (.loc 16) (.fld 3 (.var 3)),
  o1 .none (.store 1 (.loc 16) (.loc 15))] false
def c_L_toWorld_6 : ACode := .reg [o1 (.loc 17) (.fld 4 (.var 1)),
  o1 (.loc 18) (.load true 1 (.loc 17)),
  o1 (.loc 19) (.call (.fn 57) [(.loc 18)] [.borrow]),
  o1 (.loc 20) (.fld 4 (.var 3)),
  o1 .none (.store 1 (.loc 20) (.loc 19))] false
def c_L_toWorld_7 : ACode := .reg [o1 (.loc 21) (.fld 5 (.var 1)),
  o1 (.loc 22) (.load true 3 (.loc 21)),
  o1 (.loc 23) (.call (.fn 58) [(.loc 22)] [.borrow]),
  o1 (.loc 24) (.fld 5 (.var 3)),
  o1 .none (.store 3 (.loc 24) (.loc 23))] false
def c_L_toWorld_8 : ACode := .reg [o1 (.loc 25) (.fld 8 (.var 1)),
  o1 (.loc 26) (.load true 1 (.loc 25)),
  o1 (.loc 27) (.call (.fn 59) [(.loc 26)] [.borrow]),
  o1 (.loc 28) (.fld 8 (.var 3)),
  o1 .none (.store 1 (.loc 28) (.loc 27))] false
def c_L_toWorld_9 : ACode := .reg [o1 (.loc 29) (.fld 9 (.var 1)),
  o1 (.loc 30) (.load false 1 (.loc 29)),
  o1 (.loc 31) (.call (.fn 60) [(.loc 30)] [.borrow]),
  o1 (.loc 32) (.fld 9 (.var 3)),
  o1 .none (.store 1 (.loc 32) (.loc 31))] false
def c_L_toWorld_10 : ACode := .reg [o1 (.loc 33) (.load true 10 (.var 3)),
  o1 .none (.store 10 (.var 2) (.loc 33))] false
def c_L_toWorld : ACode := (.seq c_L_toWorld_0 (.seq c_L_toWorld_1 (.seq c_L_toWorld_2 (.seq c_L_toWorld_3 (.seq c_L_toWorld_4 (.seq c_L_toWorld_5 (.seq c_L_toWorld_6 (.seq c_L_toWorld_7 (.seq c_L_toWorld_8 (.seq c_L_toWorld_9 (.seq c_L_toWorld_10 .ret)))))))))))
abbrev F_L_toWorld : FuncId := 13
theorem k_L_toWorld : comp PP (Tryz.f13.ntmps, pinOf 0 [none]) [0, 1, 2, 3] (Tryz.f13.body.getD .skip) = some c_L_toWorld.erase := by kernel_rfl
theorem v_L_toWorld {GG : GV} (rcs : List C) {cs : List C} {r : C} {os : List (Option C)} (hN : (cs.length == 1 && rcs.length == 1) = true) (hret : retOf rcs = r) (hW : WX GG [0, 1, 2, 3] Tryz.f13.ntmps [none] [(.give, 2, some (true, 10))] c_L_toWorld rcs cs os) : Valid PP GG F_L_toWorld cs r os :=
  fn_valid_n 1 1 _ _ _ _ rcs Tryz.func13 rfl rfl (by kernel_rfl) k_L_toWorld rfl rfl hN hret hW
def c_L_eqWorld_0 : ACode := .reg [o1 (.var 2) (.box (.var 0)),
  o1 (.var 3) (.box (.var 1)),
  o1 (.var 4) (.mv (.const (.d (.bool false))))] false
def c_L_eqWorld_1 : ACode := .reg [o1 (.loc 5) (.fld 0 (.var 2)),
  o1 (.loc 6) (.load false 1 (.loc 5)),
  o1 (.loc 7) (.fld 0 (.var 3)),
  o1 (.loc 8) (.load false 1 (.loc 7)),
  o1 (.var 9) (.bin .int .neq (.loc 6) (.loc 8))] false
def c_L_eqWorld_2 : ACode := .reg [o1 (.var 4) (.mv (.const (.d (.bool false))))] false
def c_L_eqWorld_3 : ACode := .reg [o1 (.loc 10) (.fld 1 (.var 2)),
  o1 (.loc 11) (.load false 1 (.loc 10)),
  o1 (.loc 12) (.fld 1 (.var 3)),
  o1 (.loc 13) (.load false 1 (.loc 12)),
  o1 (.var 14) (.bin .int .neq (.loc 11) (.loc 13))] false
def c_L_eqWorld_4 : ACode := .reg [o1 (.var 4) (.mv (.const (.d (.bool false))))] false
def c_L_eqWorld_5 : ACode := .reg [o1 (.loc 15) (.fld 2 (.var 2)),
  o1 (.loc 16) (.load false 1 (.loc 15)),
  o1 (.loc 17) (.fld 2 (.var 3)),
  o1 (.loc 18) (.load false 1 (.loc 17)),
  o1 (.var 19) (.bin .int .neq (.loc 16) (.loc 18))] false
def c_L_eqWorld_6 : ACode := .reg [o1 (.var 4) (.mv (.const (.d (.bool false))))] false
def c_L_eqWorld_7 : ACode := .reg [o1 (.loc 20) (.fld 3 (.var 2)),
  o1 (.loc 21) (.load true 1 (.loc 20)),
  o1 (.loc 22) (.fld 3 (.var 3)),
  o1 (.loc 23) (.load true 1 (.loc 22)),
  o1 (.loc 24) (.call (.fn 62) [(.loc 21), (.loc 23)] [.borrow, .borrow]),
  o1 (.var 25) (.un .not (.loc 24))] false
def c_L_eqWorld_8 : ACode := .reg [o1 (.var 4) (.mv (.const (.d (.bool false))))] false
def c_L_eqWorld_9 : ACode := .reg [o1 (.loc 26) (.fld 4 (.var 2)),
  o1 (.loc 27) (.load true 1 (.loc 26)),
  o1 (.loc 28) (.fld 4 (.var 3)),
  o1 (.loc 29) (.load true 1 (.loc 28)),
  o1 (.loc 30) (.call (.fn 63) [(.loc 27), (.loc 29)] [.borrow, .borrow]),
  o1 (.var 31) (.un .not (.loc 30))] false
def c_L_eqWorld_10 : ACode := .reg [o1 (.var 4) (.mv (.const (.d (.bool false))))] false
def c_L_eqWorld_11 : ACode := .reg [o1 (.loc 32) (.fld 5 (.var 2)),
  o1 (.loc 33) (.load true 3 (.loc 32)),
  o1 (.loc 34) (.fld 5 (.var 3)),
  o1 (.loc 35) (.load true 3 (.loc 34)),
  o1 (.loc 36) (.call (.fn 64) [(.loc 33), (.loc 35)] [.borrow, .borrow]),
  o1 (.var 37) (.un .not (.loc 36))] false
def c_L_eqWorld_12 : ACode := .reg [o1 (.var 4) (.mv (.const (.d (.bool false))))] false
def c_L_eqWorld_13 : ACode := .reg [o1 (.loc 38) (.fld 8 (.var 2)),
  o1 (.loc 39) (.load true 1 (.loc 38)),
  o1 (.loc 40) (.fld 8 (.var 3)),
  o1 (.loc 41) (.load true 1 (.loc 40)),
  o1 (.loc 42) (.call (.fn 65) [(.loc 39), (.loc 41)] [.borrow, .borrow]),
  o1 (.var 43) (.un .not (.loc 42))] false
def c_L_eqWorld_14 : ACode := .reg [o1 (.var 4) (.mv (.const (.d (.bool false))))] false
def c_L_eqWorld_15 : ACode := .reg [o1 (.loc 44) (.fld 9 (.var 2)),
  o1 (.loc 45) (.load false 1 (.loc 44)),
  o1 (.loc 46) (.fld 9 (.var 3)),
  o1 (.loc 47) (.load false 1 (.loc 46)),
  o1 (.loc 48) (.call (.fn 66) [(.loc 45), (.loc 47)] [.borrow, .borrow]),
  o1 (.var 49) (.un .not (.loc 48))] false
def c_L_eqWorld_16 : ACode := .reg [o1 (.var 4) (.mv (.const (.d (.bool false))))] false
def c_L_eqWorld_17 : ACode := .reg [o1 (.var 4) (.mv (.const (.d (.bool true))))] false
def c_L_eqWorld : ACode := (.seq c_L_eqWorld_0 (.seq (.seq c_L_eqWorld_1 (.cond (.var 9) (.seq c_L_eqWorld_2 .ret) .skip)) (.seq (.seq c_L_eqWorld_3 (.cond (.var 14) (.seq c_L_eqWorld_4 .ret) .skip)) (.seq (.seq c_L_eqWorld_5 (.cond (.var 19) (.seq c_L_eqWorld_6 .ret) .skip)) (.seq (.seq c_L_eqWorld_7 (.cond (.var 25) (.seq c_L_eqWorld_8 .ret) .skip)) (.seq (.seq c_L_eqWorld_9 (.cond (.var 31) (.seq c_L_eqWorld_10 .ret) .skip)) (.seq (.seq c_L_eqWorld_11 (.cond (.var 37) (.seq c_L_eqWorld_12 .ret) .skip)) (.seq (.seq c_L_eqWorld_13 (.cond (.var 43) (.seq c_L_eqWorld_14 .ret) .skip)) (.seq (.seq c_L_eqWorld_15 (.cond (.var 49) (.seq c_L_eqWorld_16 .ret) .skip)) (.seq c_L_eqWorld_17 .ret))))))))))
abbrev F_L_eqWorld : FuncId := 15
theorem k_L_eqWorld : comp PP (Tryz.f15.ntmps, pinOf 0 [none, none]) [0, 1, 2, 3, 4, 9, 14, 19, 25, 31, 37, 43, 49] (Tryz.f15.body.getD .skip) = some c_L_eqWorld.erase := by kernel_rfl
theorem v_L_eqWorld {GG : GV} (rcs : List C) {cs : List C} {r : C} {os : List (Option C)} (hN : (cs.length == 2 && rcs.length == 1) = true) (hret : retOf rcs = r) (hW : WX GG [0, 1, 2, 3, 4, 9, 14, 19, 25, 31, 37, 43, 49] Tryz.f15.ntmps [none, none] [(.give, 4, none)] c_L_eqWorld rcs cs os) : Valid PP GG F_L_eqWorld cs r os :=
  fn_valid_n 2 1 _ _ _ _ rcs Tryz.func15 rfl rfl (by kernel_rfl) k_L_eqWorld rfl rfl hN hret hW
def c_L_eqStringS_0 : ACode := .reg [o1 (.var 4) (.mv (.const (.d (.bool false))))] false
def c_L_eqStringS_1 : ACode := .reg [o1 (.loc 6) (.mv (.var 0)),
  o1 (.loc 7) (.len false (.loc 6)),
  o1 (.loc 8) (.mv (.var 1)),
  o1 (.loc 9) (.len false (.loc 8)),
  o1 (.var 10) (.bin .int .neq (.loc 7) (.loc 9))] false
def c_L_eqStringS_2 : ACode := .reg [o1 (.var 4) (.mv (.const (.d (.bool false))))] false
def c_L_eqStringS_3 : ACode := .reg [o1 (.var 5) (.mv (.const (.d (.int .i64 0))))] false
def c_L_eqStringS_4 : ACode := .reg [o1 (.loc 11) (.mv (.var 5)),
  o1 (.loc 12) (.mv (.var 0)),
  o1 (.loc 13) (.len false (.loc 12)),
  o1 (.var 14) (.bin .int .lss (.loc 11) (.loc 13))] false
def c_L_eqStringS_5 : ACode := .reg [o1 (.loc 17) (.mv (.var 0)),
  o1 (.loc 18) (.mv (.var 5)),
  ⟨.loc 19, .idxA 1 (.loc 17) (.loc 18), none, [0, 1]⟩,
  ⟨.loc 20, .load false 1 (.loc 19), none, [2, 0, 1]⟩,
  o1 (.loc 21) (.mv (.var 1)),
  o1 (.loc 22) (.mv (.var 5)),
  ⟨.loc 23, .idxA 1 (.loc 21) (.loc 22), none, [4, 5]⟩,
  ⟨.loc 24, .load false 1 (.loc 23), none, [6, 4, 5]⟩,
  ⟨.var 25, .bin .str .neq (.loc 20) (.loc 24), none, [3, 2, 0, 1, 7, 6, 4, 5]⟩] true
def c_L_eqStringS_6 : ACode := .reg [o1 (.var 4) (.mv (.const (.d (.bool false))))] false
def c_L_eqStringS_7 : ACode := .reg [o1 (.loc 15) (.mv (.var 5)),
  o1 (.loc 16) (.bin .int .add (.loc 15) (.const (.d (.int .i64 1)))),
  o1 (.var 5) (.mv (.loc 16))] false
def c_L_eqStringS_8 : ACode := (.seq (.seq c_L_eqStringS_4 (.cond (.var 14) .skip (.exit 0))) (.seq (.block 1 (.seq c_L_eqStringS_5 (.cond (.var 25) (.seq c_L_eqStringS_6 .ret) .skip))) c_L_eqStringS_7))
def c_L_eqStringS_9 : ACode := .reg [o1 (.var 4) (.mv (.const (.d (.bool true))))] false
def c_L_eqStringS : ACode := (.seq c_L_eqStringS_0 (.seq (.seq c_L_eqStringS_1 (.cond (.var 10) (.seq c_L_eqStringS_2 .ret) .skip)) (.seq (.seq c_L_eqStringS_3 (.block 0 (.loop [0, 1, 5] c_L_eqStringS_8))) (.seq c_L_eqStringS_9 .ret))))
abbrev F_L_eqStringS : FuncId := 18
theorem k_L_eqStringS : comp PP (Tryz.f18.ntmps, pinOf 0 [none, none]) [0, 1, 4, 5, 10, 14, 25] (Tryz.f18.body.getD .skip) = some c_L_eqStringS.erase := by kernel_rfl
theorem v_L_eqStringS {GG : GV} (rcs : List C) {cs : List C} {r : C} {os : List (Option C)} (hN : (cs.length == 2 && rcs.length == 1) = true) (hret : retOf rcs = r) (hW : WX GG [0, 1, 4, 5, 10, 14, 25] Tryz.f18.ntmps [none, none] [(.give, 4, none)] c_L_eqStringS rcs cs os) : Valid PP GG F_L_eqStringS cs r os :=
  fn_valid_n 2 1 _ _ _ _ rcs Tryz.func18 rfl rfl (by kernel_rfl) k_L_eqStringS rfl rfl hN hret hW
def c_L_markWorld_0 : ACode := .reg [o1 (.var 2) (.box (.var 0)),
  o1 (.var 4) (.mv (.const (.d (.int .i64 0))))] false
def c_L_markWorld_1 : ACode := .reg [o1 (.loc 5) (.fld 3 (.var 2)),
  o1 (.loc 6) (.load true 1 (.loc 5)),
  o1 (.loc 7) (.mv (.var 1)),
  o1 (.loc 8) (.call (.fn 70) [(.loc 6), (.loc 7)] [.lend, .borrow]),
  o1 (.var 1) (.mv (.loc 8))] false
def c_L_markWorld_2 : ACode := .reg [o1 (.loc 9) (.fld 4 (.var 2)),
  o1 (.loc 10) (.load true 1 (.loc 9)),
  o1 (.loc 11) (.mv (.var 1)),
  o1 (.loc 12) (.call (.fn 71) [(.loc 10), (.loc 11)] [.lend, .borrow]),
  o1 (.var 1) (.mv (.loc 12))] false
def c_L_markWorld_3 : ACode := .reg [o1 (.loc 13) (.fld 5 (.var 2)),
  o1 (.loc 14) (.load true 3 (.loc 13)),
  o1 (.loc 15) (.mv (.var 1)),
  o1 (.loc 16) (.call (.fn 72) [(.loc 14), (.loc 15)] [.lend, .borrow]),
  o1 (.var 1) (.mv (.loc 16))] false
def c_L_markWorld_4 : ACode := .reg [o1 (.loc 17) (.fld 8 (.var 2)),
  o1 (.loc 18) (.load true 1 (.loc 17)),
  o1 (.loc 19) (.mv (.var 1)),
  o1 (.loc 20) (.call (.fn 73) [(.loc 18), (.loc 19)] [.lend, .borrow]),
  o1 (.var 1) (.mv (.loc 20))] false
def c_L_markWorld_5 : ACode := .reg [o1 (.loc 21) (.fld 9 (.var 2)),
  o1 (.loc 22) (.load false 1 (.loc 21)),
  o1 (.loc 23) (.mv (.var 1)),
  o1 (.loc 24) (.call (.fn 74) [(.loc 22), (.loc 23)] [.lend, .borrow]),
  o1 (.var 1) (.mv (.loc 24))] false
def c_L_markWorld_6 : ACode := .reg [o1 (.loc 25) (.mv (.var 1)),
  o1 (.var 4) (.mv (.loc 25))] false
def c_L_markWorld : ACode := (.seq c_L_markWorld_0 (.seq c_L_markWorld_1 (.seq c_L_markWorld_2 (.seq c_L_markWorld_3 (.seq c_L_markWorld_4 (.seq c_L_markWorld_5 (.seq c_L_markWorld_6 .ret)))))))
abbrev F_L_markWorld : FuncId := 19
theorem k_L_markWorld : comp PP (Tryz.f19.ntmps, pinOf 0 [some .give, none]) [0, 1, 2, 4] (Tryz.f19.body.getD .skip) = some c_L_markWorld.erase := by kernel_rfl
theorem v_L_markWorld {GG : GV} (rcs : List C) {cs : List C} {r : C} {os : List (Option C)} (hN : (cs.length == 2 && rcs.length == 1) = true) (hret : retOf rcs = r) (hW : WX GG [0, 1, 2, 4] Tryz.f19.ntmps [some .give, none] [(.give, 4, none)] c_L_markWorld rcs cs os) : Valid PP GG F_L_markWorld cs r os :=
  fn_valid_n 2 1 _ _ _ _ rcs Tryz.func19 rfl rfl (by kernel_rfl) k_L_markWorld rfl rfl hN hret hW
def c_L_markStringS_0 : ACode := .reg [o1 (.var 4) (.mv (.const (.d (.int .i64 0))))] false
def c_L_markStringS_1 : ACode := .reg [o1 (.var 5) (.mv (.const (.d (.int .i64 0))))] false
def c_L_markStringS_2 : ACode := .reg [o1 (.loc 6) (.mv (.var 5)),
  o1 (.loc 7) (.mv (.var 0)),
  o1 (.loc 8) (.len false (.loc 7)),
  o1 (.var 9) (.bin .int .lss (.loc 6) (.loc 8))] false
def c_L_markStringS_3 : ACode := .reg [o1 (.loc 12) (.mv (.var 0)),
  o1 (.loc 13) (.mv (.var 5)),
  o1 (.loc 14) (.mv (.var 1)),
  o1 (.loc 15) (.call (.fn 75) [(.loc 14)] [.borrow]),
  o1 (.loc 16) (.idxA 1 (.loc 12) (.loc 13)),
  o1 .none (.store 1 (.loc 16) (.loc 15))] false
def c_L_markStringS_4 : ACode := .reg [o1 (.loc 17) (.mv (.var 1)),
  o1 (.loc 18) (.bin .int .add (.loc 17) (.const (.d (.int .i64 1)))),
  o1 (.var 1) (.mv (.loc 18))] false
def c_L_markStringS_5 : ACode := .reg [o1 (.loc 10) (.mv (.var 5)),
  o1 (.loc 11) (.bin .int .add (.loc 10) (.const (.d (.int .i64 1)))),
  o1 (.var 5) (.mv (.loc 11))] false
def c_L_markStringS_6 : ACode := (.seq (.seq c_L_markStringS_2 (.cond (.var 9) .skip (.exit 0))) (.seq (.block 1 (.seq c_L_markStringS_3 c_L_markStringS_4)) c_L_markStringS_5))
def c_L_markStringS_7 : ACode := .reg [o1 (.loc 19) (.mv (.var 1)),
  o1 (.var 4) (.mv (.loc 19))] false
def c_L_markStringS : ACode := (.seq c_L_markStringS_0 (.seq (.seq c_L_markStringS_1 (.block 0 (.loop [0, 1, 5] c_L_markStringS_6))) (.seq c_L_markStringS_7 .ret)))
abbrev F_L_markStringS : FuncId := 20
theorem k_L_markStringS : comp PP (Tryz.f20.ntmps, pinOf 0 [some .give, none]) [0, 1, 4, 5, 9] (Tryz.f20.body.getD .skip) = some c_L_markStringS.erase := by kernel_rfl
theorem v_L_markStringS {GG : GV} (rcs : List C) {cs : List C} {r : C} {os : List (Option C)} (hN : (cs.length == 2 && rcs.length == 1) = true) (hret : retOf rcs = r) (hW : WX GG [0, 1, 4, 5, 9] Tryz.f20.ntmps [some .give, none] [(.give, 4, none)] c_L_markStringS rcs cs os) : Valid PP GG F_L_markStringS cs r os :=
  fn_valid_n 2 1 _ _ _ _ rcs Tryz.func20 rfl rfl (by kernel_rfl) k_L_markStringS rfl rfl hN hret hW
def c_S_LiveLeases_0 : ACode := .reg [o1 (.var 2) (.box (.var 0)),
  o1 (.var 4) (.mv (.const (.nil 0 1)))] false
def c_S_LiveLeases_1 : ACode := .reg [o1 (.loc 8) (.lit 0 1 0 [.int .i64 0] []),
  o1 (.var 5) (.mv (.loc 8))] false
def c_S_LiveLeases_2 : ACode := .reg [o1 (.loc 9) (.load true 10 (.var 2)),
  o1 (.loc 10) (.call (.fn 12) [(.loc 9)] [.borrow]),
  o1 (.var 11) (.un .not (.loc 10))] false
def c_S_LiveLeases_3 : ACode := .reg [o1 (.var 4) (.mv (.const (.nil 0 1)))] false
def c_S_LiveLeases_4 : ACode := .reg [o1 (.loc 12) (.fld 3 (.var 2)),
  o1 (.loc 13) (.load true 1 (.loc 12)),
  o1 (.loc 14) (.mv (.var 1)),
  o1 (.loc 15) (.call (.fn 76) [(.loc 13), (.loc 14)] [.borrow, .borrow]),
  o1 (.var 6) (.mv (.loc 15))] false
def c_S_LiveLeases_5 : ACode := .reg [o1 (.var 7) (.mv (.const (.d (.int .i64 0))))] false
def c_S_LiveLeases_6 : ACode := .reg [o1 (.loc 16) (.mv (.var 7)),
  o1 (.loc 17) (.fld 4 (.var 2)),
  o1 (.loc 18) (.fld 0 (.loc 17)),
  o1 (.loc 19) (.load false 1 (.loc 18)),
  o1 (.loc 20) (.len false (.loc 19)),
  o1 (.var 21) (.bin .int .lss (.loc 16) (.loc 20))] false
def c_S_LiveLeases_7 : ACode := .reg [o1 (.loc 24) (.mv (.var 6)),
  o1 (.loc 25) (.fld 4 (.var 2)),
  o1 (.loc 26) (.fld 0 (.loc 25)),
  o1 (.loc 27) (.load false 1 (.loc 26)),
  o1 (.loc 28) (.mv (.var 7)),
  o1 (.loc 29) (.idxA 6 (.loc 27) (.loc 28)),
  o1 (.loc 30) (.fld 1 (.loc 29)),
  o1 (.loc 31) (.load false 1 (.loc 30)),
  o1 (.var 32) (.call (.fn 77) [(.loc 24), (.loc 31)] [.borrow, .borrow])] false
def c_S_LiveLeases_8 : ACode := .reg [o1 (.loc 33) (.mv (.var 5)),
  o1 (.loc 34) (.fld 4 (.var 2)),
  o1 (.loc 35) (.fld 0 (.loc 34)),
  o1 (.loc 36) (.load false 1 (.loc 35)),
  o1 (.loc 37) (.mv (.var 7)),
  o1 (.loc 38) (.idxA 6 (.loc 36) (.loc 37)),
  o1 (.loc 39) (.fld 0 (.loc 38)),
  o1 (.loc 40) (.load false 1 (.loc 39)),
  o1 (.loc 41) (.lit 0 1 1 [.int .i64 0] [(0, (.loc 40))]),
  o1 (.loc 42) (.app 1 8 (.loc 33) (.loc 41)),
  o1 (.var 5) (.mv (.loc 42))] false
def c_S_LiveLeases_9 : ACode := .reg [o1 (.loc 22) (.mv (.var 7)),
  o1 (.loc 23) (.bin .int .add (.loc 22) (.const (.d (.int .i64 1)))),
  o1 (.var 7) (.mv (.loc 23))] false
def c_S_LiveLeases_10 : ACode := (.seq (.seq c_S_LiveLeases_6 (.cond (.var 21) .skip (.exit 0))) (.seq (.block 1 (.seq c_S_LiveLeases_7 (.cond (.var 32) c_S_LiveLeases_8 .skip))) c_S_LiveLeases_9))
def c_S_LiveLeases_11 : ACode := .reg [o1 (.loc 43) (.mv (.var 5)),
  o1 (.var 4) (.mv (.loc 43))] false
def c_S_LiveLeases : ACode := (.seq c_S_LiveLeases_0 (.seq c_S_LiveLeases_1 (.seq (.seq c_S_LiveLeases_2 (.cond (.var 11) (.seq c_S_LiveLeases_3 .ret) .skip)) (.seq c_S_LiveLeases_4 (.seq (.seq c_S_LiveLeases_5 (.block 0 (.loop [2, 5, 6, 7] c_S_LiveLeases_10))) (.seq c_S_LiveLeases_11 .ret))))))
abbrev F_S_LiveLeases : FuncId := 22
theorem k_S_LiveLeases : comp PP (Tryz.f22.ntmps, pinOf 0 [none, none]) [0, 1, 2, 4, 5, 6, 7, 11, 21, 32] (Tryz.f22.body.getD .skip) = some c_S_LiveLeases.erase := by kernel_rfl
theorem v_S_LiveLeases {GG : GV} (rcs : List C) {cs : List C} {r : C} {os : List (Option C)} (hN : (cs.length == 2 && rcs.length == 1) = true) (hret : retOf rcs = r) (hW : WX GG [0, 1, 2, 4, 5, 6, 7, 11, 21, 32] Tryz.f22.ntmps [none, none] [(.give, 4, none)] c_S_LiveLeases rcs cs os) : Valid PP GG F_S_LiveLeases cs r os :=
  fn_valid_n 2 1 _ _ _ _ rcs Tryz.func22 rfl rfl (by kernel_rfl) k_S_LiveLeases rfl rfl hN hret hW
def c_I_LiveLeases_0 : ACode := .reg [o1 (.var 2) (.box (.var 0)),
  o1 (.var 3) (.box (.var 1)),
  o1 (.var 4) (.mv (.const (.nil 0 1)))] false
def c_I_LiveLeases_1 : ACode := .reg [o1 (.loc 10) (.load true 10 (.var 2)),
  o1 (.loc 11) (.call (.fn 61) [(.loc 10)] [.borrow]),
  o1 (.var 12) (.un .not (.loc 11))] false
def c_I_LiveLeases_2 : ACode := .reg [o1 (.var 4) (.mv (.const (.nil 0 1)))] false
def c_I_LiveLeases_3 : ACode := .reg [o1 (.loc 14) (.fld 3 (.var 2)),
  o1 (.loc 15) (.load true 1 (.loc 14)),
  o1 (.loc 16) (.clo 79 [(.var 3)]),
  o1 (.loc 17) (.call (.fn 78) [(.loc 15), (.loc 16)] [.borrow, .borrow]),
  o1 (.loc 13) (.mv (.loc 17)),
  o1 (.loc 18) (.ext (.loc 13) 0),
  o1 (.loc 19) (.ext (.loc 13) 1),
  o1 (.loc 5) (.alloc [.nil 1 7]),
  o1 .none (.store 1 (.loc 5) (.loc 18)),
  o1 (.var 6) (.mv (.loc 19))] false
def c_I_LiveLeases_4 : ACode := .reg [o1 (.var 7) (.mv (.const (.nil 0 1)))] false
def c_I_LiveLeases_5 : ACode := .reg [o1 (.loc 20) (.fld 4 (.var 2)),
  o1 (.loc 21) (.fld 0 (.loc 20)),
  o1 (.var 22) (.load false 1 (.loc 21)),
  o1 (.var 23) (.len false (.var 22)),
  o1 (.var 24) (.mv (.const (.d (.int .i64 0))))] false
def c_I_LiveLeases_6 : ACode := .reg [o1 (.var 25) (.bin .int .lss (.var 24) (.var 23))] false
def c_I_LiveLeases_7 : ACode := .reg [o1 (.loc 26) (.idxA 6 (.var 22) (.var 24)),
  o1 (.loc 27) (.load true 6 (.loc 26)),
  o1 (.var 9) (.alloc [.d (.int .i64 0), .d (.int .i64 0), .d (.str []), .d (.int .i64 0), .d (.int .i64 0), .d (.int .i64 0)]),
  o1 .none (.store 6 (.var 9) (.loc 27))] false
def c_I_LiveLeases_8 : ACode := .reg [o1 (.loc 28) (.mv (.var 6)),
  o1 (.loc 29) (.fld 1 (.var 9)),
  o1 (.loc 30) (.load false 1 (.loc 29)),
  o1 (.var 31) (.call (.fn 80) [(.loc 28), (.loc 30)] [.borrow, .borrow])] false
def c_I_LiveLeases_9 : ACode := .reg [o1 (.loc 32) (.mv (.var 7)),
  o1 (.loc 33) (.fld 0 (.var 9)),
  o1 (.loc 34) (.load false 1 (.loc 33)),
  o1 (.loc 35) (.lit 0 1 1 [.int .i64 0] [(0, (.loc 34))]),
  o1 (.loc 36) (.app 1 8 (.loc 32) (.loc 35)),
  o1 (.var 7) (.mv (.loc 36))] false
def c_I_LiveLeases_10 : ACode := .reg [o1 (.loc 37) (.bin .int .add (.var 24) (.const (.d (.int .i64 1)))),
  o1 (.var 24) (.mv (.loc 37))] false
def c_I_LiveLeases_11 : ACode := (.seq c_I_LiveLeases_6 (.seq (.cond (.var 25) .skip (.exit 0)) (.seq (.block 1 (.seq c_I_LiveLeases_7 (.seq c_I_LiveLeases_8 (.cond (.var 31) c_I_LiveLeases_9 .skip)))) c_I_LiveLeases_10)))
def c_I_LiveLeases_12 : ACode := .reg [o1 (.loc 38) (.mv (.var 7)),
  o1 (.var 4) (.mv (.loc 38))] false
def c_I_LiveLeases : ACode := (.seq c_I_LiveLeases_0 (.seq (.seq c_I_LiveLeases_1 (.cond (.var 12) (.seq c_I_LiveLeases_2 .ret) .skip)) (.seq c_I_LiveLeases_3 (.seq c_I_LiveLeases_4 (.seq (.seq c_I_LiveLeases_5 (.block 0 (.loop [6, 7, 22, 23, 24] c_I_LiveLeases_11))) (.seq c_I_LiveLeases_12 .ret))))))
abbrev F_I_LiveLeases : FuncId := 23
theorem k_I_LiveLeases : comp PP (Tryz.f23.ntmps, pinOf 0 [none, none]) [0, 1, 2, 3, 4, 6, 7, 9, 12, 22, 23, 24, 25, 31] (Tryz.f23.body.getD .skip) = some c_I_LiveLeases.erase := by kernel_rfl
theorem v_I_LiveLeases {GG : GV} (rcs : List C) {cs : List C} {r : C} {os : List (Option C)} (hN : (cs.length == 2 && rcs.length == 1) = true) (hret : retOf rcs = r) (hW : WX GG [0, 1, 2, 3, 4, 6, 7, 9, 12, 22, 23, 24, 25, 31] Tryz.f23.ntmps [none, none] [(.give, 4, none)] c_I_LiveLeases rcs cs os) : Valid PP GG F_I_LiveLeases cs r os :=
  fn_valid_n 2 1 _ _ _ _ rcs Tryz.func23 rfl rfl (by kernel_rfl) k_I_LiveLeases rfl rfl hN hret hW
def c_L_eqIntS_0 : ACode := .reg [o1 (.var 4) (.mv (.const (.d (.bool false))))] false
def c_L_eqIntS_1 : ACode := .reg [o1 (.loc 6) (.mv (.var 0)),
  o1 (.loc 7) (.len false (.loc 6)),
  o1 (.loc 8) (.mv (.var 1)),
  o1 (.loc 9) (.len false (.loc 8)),
  o1 (.var 10) (.bin .int .neq (.loc 7) (.loc 9))] false
def c_L_eqIntS_2 : ACode := .reg [o1 (.var 4) (.mv (.const (.d (.bool false))))] false
def c_L_eqIntS_3 : ACode := .reg [o1 (.var 5) (.mv (.const (.d (.int .i64 0))))] false
def c_L_eqIntS_4 : ACode := .reg [o1 (.loc 11) (.mv (.var 5)),
  o1 (.loc 12) (.mv (.var 0)),
  o1 (.loc 13) (.len false (.loc 12)),
  o1 (.var 14) (.bin .int .lss (.loc 11) (.loc 13))] false
def c_L_eqIntS_5 : ACode := .reg [o1 (.loc 17) (.mv (.var 0)),
  o1 (.loc 18) (.mv (.var 5)),
  ⟨.loc 19, .idxA 1 (.loc 17) (.loc 18), none, [0, 1]⟩,
  ⟨.loc 20, .load false 1 (.loc 19), none, [2, 0, 1]⟩,
  o1 (.loc 21) (.mv (.var 1)),
  o1 (.loc 22) (.mv (.var 5)),
  ⟨.loc 23, .idxA 1 (.loc 21) (.loc 22), none, [4, 5]⟩,
  ⟨.loc 24, .load false 1 (.loc 23), none, [6, 4, 5]⟩,
  ⟨.var 25, .bin .int .neq (.loc 20) (.loc 24), none, [3, 2, 0, 1, 7, 6, 4, 5]⟩] true
def c_L_eqIntS_6 : ACode := .reg [o1 (.var 4) (.mv (.const (.d (.bool false))))] false
def c_L_eqIntS_7 : ACode := .reg [o1 (.loc 15) (.mv (.var 5)),
  o1 (.loc 16) (.bin .int .add (.loc 15) (.const (.d (.int .i64 1)))),
  o1 (.var 5) (.mv (.loc 16))] false
def c_L_eqIntS_8 : ACode := (.seq (.seq c_L_eqIntS_4 (.cond (.var 14) .skip (.exit 0))) (.seq (.block 1 (.seq c_L_eqIntS_5 (.cond (.var 25) (.seq c_L_eqIntS_6 .ret) .skip))) c_L_eqIntS_7))
def c_L_eqIntS_9 : ACode := .reg [o1 (.var 4) (.mv (.const (.d (.bool true))))] false
def c_L_eqIntS : ACode := (.seq c_L_eqIntS_0 (.seq (.seq c_L_eqIntS_1 (.cond (.var 10) (.seq c_L_eqIntS_2 .ret) .skip)) (.seq (.seq c_L_eqIntS_3 (.block 0 (.loop [0, 1, 5] c_L_eqIntS_8))) (.seq c_L_eqIntS_9 .ret))))
abbrev F_L_eqIntS : FuncId := 24
theorem k_L_eqIntS : comp PP (Tryz.f24.ntmps, pinOf 0 [none, none]) [0, 1, 4, 5, 10, 14, 25] (Tryz.f24.body.getD .skip) = some c_L_eqIntS.erase := by kernel_rfl
theorem v_L_eqIntS {GG : GV} (rcs : List C) {cs : List C} {r : C} {os : List (Option C)} (hN : (cs.length == 2 && rcs.length == 1) = true) (hret : retOf rcs = r) (hW : WX GG [0, 1, 4, 5, 10, 14, 25] Tryz.f24.ntmps [none, none] [(.give, 4, none)] c_L_eqIntS rcs cs os) : Valid PP GG F_L_eqIntS cs r os :=
  fn_valid_n 2 1 _ _ _ _ rcs Tryz.func24 rfl rfl (by kernel_rfl) k_L_eqIntS rfl rfl hN hret hW
def c_L_markIntS_0 : ACode := .reg [o1 (.var 4) (.mv (.const (.d (.int .i64 0))))] false
def c_L_markIntS_1 : ACode := .reg [o1 (.var 5) (.mv (.const (.d (.int .i64 0))))] false
def c_L_markIntS_2 : ACode := .reg [o1 (.loc 6) (.mv (.var 5)),
  o1 (.loc 7) (.mv (.var 0)),
  o1 (.loc 8) (.len false (.loc 7)),
  o1 (.var 9) (.bin .int .lss (.loc 6) (.loc 8))] false
def c_L_markIntS_3 : ACode := .reg [o1 (.loc 12) (.mv (.var 0)),
  o1 (.loc 13) (.mv (.var 5)),
  o1 (.loc 14) (.mv (.var 1)),
  o1 (.loc 15) (.idxA 1 (.loc 12) (.loc 13)),
  o1 .none (.store 1 (.loc 15) (.loc 14))] false
def c_L_markIntS_4 : ACode := .reg [o1 (.loc 16) (.mv (.var 1)),
  o1 (.loc 17) (.bin .int .add (.loc 16) (.const (.d (.int .i64 1)))),
  o1 (.var 1) (.mv (.loc 17))] false
def c_L_markIntS_5 : ACode := .reg [o1 (.loc 10) (.mv (.var 5)),
  o1 (.loc 11) (.bin .int .add (.loc 10) (.const (.d (.int .i64 1)))),
  o1 (.var 5) (.mv (.loc 11))] false
def c_L_markIntS_6 : ACode := (.seq (.seq c_L_markIntS_2 (.cond (.var 9) .skip (.exit 0))) (.seq (.block 1 (.seq c_L_markIntS_3 c_L_markIntS_4)) c_L_markIntS_5))
def c_L_markIntS_7 : ACode := .reg [o1 (.loc 18) (.mv (.var 1)),
  o1 (.var 4) (.mv (.loc 18))] false
def c_L_markIntS : ACode := (.seq c_L_markIntS_0 (.seq (.seq c_L_markIntS_1 (.block 0 (.loop [0, 1, 5] c_L_markIntS_6))) (.seq c_L_markIntS_7 .ret)))
abbrev F_L_markIntS : FuncId := 25
theorem k_L_markIntS : comp PP (Tryz.f25.ntmps, pinOf 0 [some .give, none]) [0, 1, 4, 5, 9] (Tryz.f25.body.getD .skip) = some c_L_markIntS.erase := by kernel_rfl
theorem v_L_markIntS {GG : GV} (rcs : List C) {cs : List C} {r : C} {os : List (Option C)} (hN : (cs.length == 2 && rcs.length == 1) = true) (hret : retOf rcs = r) (hW : WX GG [0, 1, 4, 5, 9] Tryz.f25.ntmps [some .give, none] [(.give, 4, none)] c_L_markIntS rcs cs os) : Valid PP GG F_L_markIntS cs r os :=
  fn_valid_n 2 1 _ _ _ _ rcs Tryz.func25 rfl rfl (by kernel_rfl) k_L_markIntS rfl rfl hN hret hW
def c_L_heldIntS_0 : ACode := .reg [o1 (.var 4) (.mv (.const (.d (.int .i64 0))))] false
def c_L_heldIntS_1 : ACode := .reg [o1 (.var 5) (.mv (.const (.d (.int .i64 0))))] false
def c_L_heldIntS_2 : ACode := .reg [o1 (.loc 6) (.mv (.var 5)),
  o1 (.loc 7) (.mv (.var 0)),
  o1 (.loc 8) (.len false (.loc 7)),
  o1 (.var 9) (.bin .int .lss (.loc 6) (.loc 8))] false
def c_L_heldIntS_3 : ACode := .reg [o1 (.loc 12) (.mv (.var 0)),
  o1 (.loc 13) (.mv (.var 5)),
  o1 (.loc 14) (.idxA 1 (.loc 12) (.loc 13)),
  o1 (.loc 15) (.load false 1 (.loc 14)),
  o1 (.loc 16) (.mv (.var 1)),
  o1 (.var 17) (.bin .int .neq (.loc 15) (.loc 16))] false
def c_L_heldIntS_4 : ACode := .reg [o1 (.var 4) (.mv (.const (.d (.int .i64 (-1)))))] false
def c_L_heldIntS_5 : ACode := .reg [o1 (.loc 18) (.mv (.var 1)),
  o1 (.loc 19) (.bin .int .add (.loc 18) (.const (.d (.int .i64 1)))),
  o1 (.var 1) (.mv (.loc 19))] false
def c_L_heldIntS_6 : ACode := .reg [o1 (.loc 10) (.mv (.var 5)),
  o1 (.loc 11) (.bin .int .add (.loc 10) (.const (.d (.int .i64 1)))),
  o1 (.var 5) (.mv (.loc 11))] false
def c_L_heldIntS_7 : ACode := (.seq (.seq c_L_heldIntS_2 (.cond (.var 9) .skip (.exit 0))) (.seq (.block 1 (.seq (.seq c_L_heldIntS_3 (.cond (.var 17) (.seq c_L_heldIntS_4 .ret) .skip)) c_L_heldIntS_5)) c_L_heldIntS_6))
def c_L_heldIntS_8 : ACode := .reg [o1 (.loc 20) (.mv (.var 1)),
  o1 (.var 4) (.mv (.loc 20))] false
def c_L_heldIntS : ACode := (.seq c_L_heldIntS_0 (.seq (.seq c_L_heldIntS_1 (.block 0 (.loop [0, 1, 5] c_L_heldIntS_7))) (.seq c_L_heldIntS_8 .ret)))
abbrev F_L_heldIntS : FuncId := 26
theorem k_L_heldIntS : comp PP (Tryz.f26.ntmps, pinOf 0 [none, none]) [0, 1, 4, 5, 9, 17] (Tryz.f26.body.getD .skip) = some c_L_heldIntS.erase := by kernel_rfl
theorem v_L_heldIntS {GG : GV} (rcs : List C) {cs : List C} {r : C} {os : List (Option C)} (hN : (cs.length == 2 && rcs.length == 1) = true) (hret : retOf rcs = r) (hW : WX GG [0, 1, 4, 5, 9, 17] Tryz.f26.ntmps [none, none] [(.give, 4, none)] c_L_heldIntS rcs cs os) : Valid PP GG F_L_heldIntS cs r os :=
  fn_valid_n 2 1 _ _ _ _ rcs Tryz.func26 rfl rfl (by kernel_rfl) k_L_heldIntS rfl rfl hN hret hW
def c_L_eqUser_0 : ACode := .reg [o1 (.var 2) (.box (.var 0)),
  o1 (.var 3) (.box (.var 1)),
  o1 (.var 4) (.mv (.const (.d (.bool false))))] false
def c_L_eqUser_1 : ACode := .reg [o1 (.loc 5) (.fld 0 (.var 2)),
  o1 (.loc 6) (.load false 1 (.loc 5)),
  o1 (.loc 7) (.fld 0 (.var 3)),
  o1 (.loc 8) (.load false 1 (.loc 7)),
  o1 (.var 9) (.bin .str .neq (.loc 6) (.loc 8))] false
def c_L_eqUser_2 : ACode := .reg [o1 (.var 4) (.mv (.const (.d (.bool false))))] false
def c_L_eqUser_3 : ACode := .reg [o1 (.loc 10) (.fld 1 (.var 2)),
  o1 (.loc 11) (.load false 1 (.loc 10)),
  o1 (.loc 12) (.fld 1 (.var 3)),
  o1 (.loc 13) (.load false 1 (.loc 12)),
  o1 (.var 14) (.bin .str .neq (.loc 11) (.loc 13))] false
def c_L_eqUser_4 : ACode := .reg [o1 (.var 4) (.mv (.const (.d (.bool false))))] false
def c_L_eqUser_5 : ACode := .reg [o1 (.var 4) (.mv (.const (.d (.bool true))))] false
def c_L_eqUser : ACode := (.seq c_L_eqUser_0 (.seq (.seq c_L_eqUser_1 (.cond (.var 9) (.seq c_L_eqUser_2 .ret) .skip)) (.seq (.seq c_L_eqUser_3 (.cond (.var 14) (.seq c_L_eqUser_4 .ret) .skip)) (.seq c_L_eqUser_5 .ret))))
abbrev F_L_eqUser : FuncId := 43
theorem k_L_eqUser : comp PP (Tryz.f43.ntmps, pinOf 0 [none, none]) [0, 1, 2, 3, 4, 9, 14] (Tryz.f43.body.getD .skip) = some c_L_eqUser.erase := by kernel_rfl
theorem v_L_eqUser {GG : GV} (rcs : List C) {cs : List C} {r : C} {os : List (Option C)} (hN : (cs.length == 2 && rcs.length == 1) = true) (hret : retOf rcs = r) (hW : WX GG [0, 1, 2, 3, 4, 9, 14] Tryz.f43.ntmps [none, none] [(.give, 4, none)] c_L_eqUser rcs cs os) : Valid PP GG F_L_eqUser cs r os :=
  fn_valid_n 2 1 _ _ _ _ rcs Tryz.func43 rfl rfl (by kernel_rfl) k_L_eqUser rfl rfl hN hret hW
def c_L_szForest_0 : ACode := .reg [o1 (.var 2) (.box (.var 0)),
  o1 (.var 4) (.mv (.const (.d (.int .i64 0))))] false
def c_L_szForest_1 : ACode := .reg [o1 (.loc 5) (.fld 0 (.var 2)),
  o1 (.loc 6) (.load false 1 (.loc 5)),
  o1 (.loc 7) (.mv (.var 1)),
  o1 (.loc 8) (.call (.fn 109) [(.loc 6), (.loc 7)] [.borrow, .borrow]),
  o1 (.var 1) (.mv (.loc 8))] false
def c_L_szForest_2 : ACode := .reg [o1 (.loc 9) (.mv (.var 1)),
  o1 (.var 10) (.bin .int .lss (.loc 9) (.const (.d (.int .i64 0))))] false
def c_L_szForest_3 : ACode := .reg [o1 (.var 4) (.mv (.const (.d (.int .i64 (-1)))))] false
def c_L_szForest_4 : ACode := .reg [o1 (.loc 11) (.mv (.var 1)),
  o1 (.var 4) (.mv (.loc 11))] false
def c_L_szForest : ACode := (.seq c_L_szForest_0 (.seq c_L_szForest_1 (.seq (.seq c_L_szForest_2 (.cond (.var 10) (.seq c_L_szForest_3 .ret) .skip)) (.seq c_L_szForest_4 .ret))))
abbrev F_L_szForest : FuncId := 44
theorem k_L_szForest : comp PP (Tryz.f44.ntmps, pinOf 0 [none, none]) [0, 1, 2, 4, 10] (Tryz.f44.body.getD .skip) = some c_L_szForest.erase := by kernel_rfl
theorem v_L_szForest {GG : GV} (rcs : List C) {cs : List C} {r : C} {os : List (Option C)} (hN : (cs.length == 2 && rcs.length == 1) = true) (hret : retOf rcs = r) (hW : WX GG [0, 1, 2, 4, 10] Tryz.f44.ntmps [none, none] [(.give, 4, none)] c_L_szForest rcs cs os) : Valid PP GG F_L_szForest cs r os :=
  fn_valid_n 2 1 _ _ _ _ rcs Tryz.func44 rfl rfl (by kernel_rfl) k_L_szForest rfl rfl hN hret hW
def c_L_szBook_0 : ACode := .reg [o1 (.var 2) (.box (.var 0)),
  o1 (.var 4) (.mv (.const (.d (.int .i64 0))))] false
def c_L_szBook_1 : ACode := .reg [o1 (.loc 5) (.fld 0 (.var 2)),
  o1 (.loc 6) (.load false 1 (.loc 5)),
  o1 (.loc 7) (.mv (.var 1)),
  o1 (.loc 8) (.call (.fn 110) [(.loc 6), (.loc 7)] [.borrow, .borrow]),
  o1 (.var 1) (.mv (.loc 8))] false
def c_L_szBook_2 : ACode := .reg [o1 (.loc 9) (.mv (.var 1)),
  o1 (.var 10) (.bin .int .lss (.loc 9) (.const (.d (.int .i64 0))))] false
def c_L_szBook_3 : ACode := .reg [o1 (.var 4) (.mv (.const (.d (.int .i64 (-1)))))] false
def c_L_szBook_4 : ACode := .reg [o1 (.loc 11) (.mv (.var 1)),
  o1 (.var 4) (.mv (.loc 11))] false
def c_L_szBook : ACode := (.seq c_L_szBook_0 (.seq c_L_szBook_1 (.seq (.seq c_L_szBook_2 (.cond (.var 10) (.seq c_L_szBook_3 .ret) .skip)) (.seq c_L_szBook_4 .ret))))
abbrev F_L_szBook : FuncId := 45
theorem k_L_szBook : comp PP (Tryz.f45.ntmps, pinOf 0 [none, none]) [0, 1, 2, 4, 10] (Tryz.f45.body.getD .skip) = some c_L_szBook.erase := by kernel_rfl
theorem v_L_szBook {GG : GV} (rcs : List C) {cs : List C} {r : C} {os : List (Option C)} (hN : (cs.length == 2 && rcs.length == 1) = true) (hret : retOf rcs = r) (hW : WX GG [0, 1, 2, 4, 10] Tryz.f45.ntmps [none, none] [(.give, 4, none)] c_L_szBook rcs cs os) : Valid PP GG F_L_szBook cs r os :=
  fn_valid_n 2 1 _ _ _ _ rcs Tryz.func45 rfl rfl (by kernel_rfl) k_L_szBook rfl rfl hN hret hW
def c_L_szFar_0 : ACode := .reg [o1 (.var 2) (.box (.var 0)),
  o1 (.var 4) (.mv (.const (.d (.int .i64 0))))] false
def c_L_szFar_1 : ACode := .reg [o1 (.loc 5) (.fld 0 (.var 2)),
  o1 (.loc 6) (.load false 1 (.loc 5)),
  o1 (.loc 7) (.mv (.var 1)),
  o1 (.loc 8) (.call (.fn 111) [(.loc 6), (.loc 7)] [.borrow, .borrow]),
  o1 (.var 1) (.mv (.loc 8))] false
def c_L_szFar_2 : ACode := .reg [o1 (.loc 9) (.mv (.var 1)),
  o1 (.var 10) (.bin .int .lss (.loc 9) (.const (.d (.int .i64 0))))] false
def c_L_szFar_3 : ACode := .reg [o1 (.var 4) (.mv (.const (.d (.int .i64 (-1)))))] false
def c_L_szFar_4 : ACode := .reg [o1 (.loc 11) (.mv (.var 1)),
  o1 (.var 4) (.mv (.loc 11))] false
def c_L_szFar : ACode := (.seq c_L_szFar_0 (.seq c_L_szFar_1 (.seq (.seq c_L_szFar_2 (.cond (.var 10) (.seq c_L_szFar_3 .ret) .skip)) (.seq c_L_szFar_4 .ret))))
abbrev F_L_szFar : FuncId := 46
theorem k_L_szFar : comp PP (Tryz.f46.ntmps, pinOf 0 [none, none]) [0, 1, 2, 4, 10] (Tryz.f46.body.getD .skip) = some c_L_szFar.erase := by kernel_rfl
theorem v_L_szFar {GG : GV} (rcs : List C) {cs : List C} {r : C} {os : List (Option C)} (hN : (cs.length == 2 && rcs.length == 1) = true) (hret : retOf rcs = r) (hW : WX GG [0, 1, 2, 4, 10] Tryz.f46.ntmps [none, none] [(.give, 4, none)] c_L_szFar rcs cs os) : Valid PP GG F_L_szFar cs r os :=
  fn_valid_n 2 1 _ _ _ _ rcs Tryz.func46 rfl rfl (by kernel_rfl) k_L_szFar rfl rfl hN hret hW
def c_L_szQueue_0 : ACode := .reg [o1 (.var 2) (.box (.var 0)),
  o1 (.var 4) (.mv (.const (.d (.int .i64 0))))] false
def c_L_szQueue_1 : ACode := .reg [o1 (.loc 5) (.fld 0 (.var 2)),
  o1 (.loc 6) (.load false 1 (.loc 5)),
  o1 (.loc 7) (.mv (.var 1)),
  o1 (.loc 8) (.call (.fn 112) [(.loc 6), (.loc 7)] [.borrow, .borrow]),
  o1 (.var 1) (.mv (.loc 8))] false
def c_L_szQueue_2 : ACode := .reg [o1 (.loc 9) (.mv (.var 1)),
  o1 (.var 10) (.bin .int .lss (.loc 9) (.const (.d (.int .i64 0))))] false
def c_L_szQueue_3 : ACode := .reg [o1 (.var 4) (.mv (.const (.d (.int .i64 (-1)))))] false
def c_L_szQueue_4 : ACode := .reg [o1 (.loc 11) (.mv (.var 1)),
  o1 (.var 4) (.mv (.loc 11))] false
def c_L_szQueue : ACode := (.seq c_L_szQueue_0 (.seq c_L_szQueue_1 (.seq (.seq c_L_szQueue_2 (.cond (.var 10) (.seq c_L_szQueue_3 .ret) .skip)) (.seq c_L_szQueue_4 .ret))))
abbrev F_L_szQueue : FuncId := 47
theorem k_L_szQueue : comp PP (Tryz.f47.ntmps, pinOf 0 [none, none]) [0, 1, 2, 4, 10] (Tryz.f47.body.getD .skip) = some c_L_szQueue.erase := by kernel_rfl
theorem v_L_szQueue {GG : GV} (rcs : List C) {cs : List C} {r : C} {os : List (Option C)} (hN : (cs.length == 2 && rcs.length == 1) = true) (hret : retOf rcs = r) (hW : WX GG [0, 1, 2, 4, 10] Tryz.f47.ntmps [none, none] [(.give, 4, none)] c_L_szQueue rcs cs os) : Valid PP GG F_L_szQueue cs r os :=
  fn_valid_n 2 1 _ _ _ _ rcs Tryz.func47 rfl rfl (by kernel_rfl) k_L_szQueue rfl rfl hN hret hW
def c_L_szOwnedS_0 : ACode := .reg [o1 (.var 4) (.mv (.const (.d (.int .i64 0))))] false
def c_L_szOwnedS_1 : ACode := .reg [o1 (.loc 6) (.mv (.var 1)),
  o1 (.loc 7) (.mv (.var 0)),
  o1 (.loc 8) (.len false (.loc 7)),
  o1 (.loc 9) (.bin .int .sub (.loc 6) (.loc 8)),
  o1 (.var 1) (.mv (.loc 9))] false
def c_L_szOwnedS_2 : ACode := .reg [o1 (.loc 10) (.mv (.var 1)),
  o1 (.var 11) (.bin .int .lss (.loc 10) (.const (.d (.int .i64 0))))] false
def c_L_szOwnedS_3 : ACode := .reg [o1 (.var 4) (.mv (.const (.d (.int .i64 (-1)))))] false
def c_L_szOwnedS_4 : ACode := .reg [o1 (.var 5) (.mv (.const (.d (.int .i64 0))))] false
def c_L_szOwnedS_5 : ACode := .reg [o1 (.loc 12) (.mv (.var 5)),
  o1 (.loc 13) (.mv (.var 0)),
  o1 (.loc 14) (.len false (.loc 13)),
  o1 (.var 15) (.bin .int .lss (.loc 12) (.loc 14))] false
def c_L_szOwnedS_6 : ACode := .reg [o1 (.loc 18) (.mv (.var 0)),
  o1 (.loc 19) (.mv (.var 5)),
  o1 (.loc 20) (.idxA 2 (.loc 18) (.loc 19)),
  o1 (.loc 21) (.load true 2 (.loc 20)),
  o1 (.loc 22) (.mv (.var 1)),
  o1 (.loc 23) (.call (.fn 113) [(.loc 21), (.loc 22)] [.borrow, .borrow]),
  o1 (.var 1) (.mv (.loc 23))] false
def c_L_szOwnedS_7 : ACode := .reg [o1 (.loc 24) (.mv (.var 1)),
  o1 (.var 25) (.bin .int .lss (.loc 24) (.const (.d (.int .i64 0))))] false
def c_L_szOwnedS_8 : ACode := .reg [o1 (.var 4) (.mv (.const (.d (.int .i64 (-1)))))] false
def c_L_szOwnedS_9 : ACode := .reg [o1 (.loc 16) (.mv (.var 5)),
  o1 (.loc 17) (.bin .int .add (.loc 16) (.const (.d (.int .i64 1)))),
  o1 (.var 5) (.mv (.loc 17))] false
def c_L_szOwnedS_10 : ACode := (.seq (.seq c_L_szOwnedS_5 (.cond (.var 15) .skip (.exit 0))) (.seq (.block 1 (.seq c_L_szOwnedS_6 (.seq c_L_szOwnedS_7 (.cond (.var 25) (.seq c_L_szOwnedS_8 .ret) .skip)))) c_L_szOwnedS_9))
def c_L_szOwnedS_11 : ACode := .reg [o1 (.loc 26) (.mv (.var 1)),
  o1 (.var 4) (.mv (.loc 26))] false
def c_L_szOwnedS : ACode := (.seq c_L_szOwnedS_0 (.seq c_L_szOwnedS_1 (.seq (.seq c_L_szOwnedS_2 (.cond (.var 11) (.seq c_L_szOwnedS_3 .ret) .skip)) (.seq (.seq c_L_szOwnedS_4 (.block 0 (.loop [0, 1, 5] c_L_szOwnedS_10))) (.seq c_L_szOwnedS_11 .ret)))))
abbrev F_L_szOwnedS : FuncId := 48
theorem k_L_szOwnedS : comp PP (Tryz.f48.ntmps, pinOf 0 [none, none]) [0, 1, 4, 5, 11, 15, 25] (Tryz.f48.body.getD .skip) = some c_L_szOwnedS.erase := by kernel_rfl
theorem v_L_szOwnedS {GG : GV} (rcs : List C) {cs : List C} {r : C} {os : List (Option C)} (hN : (cs.length == 2 && rcs.length == 1) = true) (hret : retOf rcs = r) (hW : WX GG [0, 1, 4, 5, 11, 15, 25] Tryz.f48.ntmps [none, none] [(.give, 4, none)] c_L_szOwnedS rcs cs os) : Valid PP GG F_L_szOwnedS cs r os :=
  fn_valid_n 2 1 _ _ _ _ rcs Tryz.func48 rfl rfl (by kernel_rfl) k_L_szOwnedS rfl rfl hN hret hW
def c_S_l01In_0 : ACode := .reg [o1 (.var 6) (.mv (.const (.d (.bool false))))] false
def c_S_l01In_1 : ACode := .reg [o1 (.loc 7) (.mv (.var 1)),
  o1 (.loc 8) (.mv (.var 0)),
  o1 (.loc 9) (.bin .int .leq (.loc 7) (.loc 8)),
  o1 (.loc 10) (.split (.loc 9)),
  ⟨.loc 11, .mv (.var 0), some ((.loc 10), true), []⟩,
  ⟨.loc 12, .mv (.var 2), some ((.loc 10), true), []⟩,
  ⟨.loc 13, .bin .int .leq (.loc 11) (.loc 12), some ((.loc 10), true), []⟩,
  o1 (.loc 14) (.pick (.loc 10) (.loc 13) (.const (.d (.bool false)))),
  o1 (.var 6) (.mv (.loc 14))] false
def c_S_l01In : ACode := (.seq c_S_l01In_0 (.seq c_S_l01In_1 .ret))
abbrev F_S_l01In : FuncId := 49
theorem k_S_l01In : comp PP (Tryz.f49.ntmps, pinOf 0 [none, none, none]) [0, 1, 2, 6] (Tryz.f49.body.getD .skip) = some c_S_l01In.erase := by kernel_rfl
theorem v_S_l01In {GG : GV} (rcs : List C) {cs : List C} {r : C} {os : List (Option C)} (hN : (cs.length == 3 && rcs.length == 1) = true) (hret : retOf rcs = r) (hW : WX GG [0, 1, 2, 6] Tryz.f49.ntmps [none, none, none] [(.give, 6, none)] c_S_l01In rcs cs os) : Valid PP GG F_S_l01In cs r os :=
  fn_valid_n 3 1 _ _ _ _ rcs Tryz.func49 rfl rfl (by kernel_rfl) k_S_l01In rfl rfl hN hret hW
def c_S_ForestOk_0 : ACode := .reg [o1 (.var 1) (.box (.var 0)),
  o1 (.var 2) (.mv (.const (.d (.bool false))))] false
def c_S_ForestOk_1 : ACode := .reg [o1 (.loc 5) (.fld 0 (.var 1)),
  o1 (.loc 6) (.load false 1 (.loc 5)),
  o1 (.loc 7) (.len false (.loc 6)),
  o1 (.var 8) (.bin .int .gtr (.loc 7) (.const (.d (.int .i64 120))))] false
def c_S_ForestOk_2 : ACode := .reg [o1 (.var 2) (.mv (.const (.d (.bool false))))] false
def c_S_ForestOk_3 : ACode := .reg [o1 (.var 3) (.mv (.const (.d (.int .i64 0))))] false
def c_S_ForestOk_4 : ACode := .reg [o1 (.loc 9) (.mv (.var 3)),
  o1 (.loc 10) (.fld 0 (.var 1)),
  o1 (.loc 11) (.load false 1 (.loc 10)),
  o1 (.loc 12) (.len false (.loc 11)),
  o1 (.var 13) (.bin .int .lss (.loc 9) (.loc 12))] false
def c_S_ForestOk_5 : ACode := .reg [o1 (.loc 16) (.fld 0 (.var 1)),
  o1 (.loc 17) (.load false 1 (.loc 16)),
  o1 (.loc 18) (.mv (.var 3)),
  o1 (.loc 19) (.idxA 7 (.loc 17) (.loc 18)),
  o1 (.loc 20) (.load true 7 (.loc 19)),
  o1 (.var 4) (.alloc [.d (.int .i64 0), .d (.int .i64 0), .nil 0 1, .d (.int .i64 0), .d (.int .i64 0), .d (.int .i64 0), .d (.int .i64 0)]),
  o1 .none (.store 7 (.var 4) (.loc 20))] false
def c_S_ForestOk_6 : ACode := .reg [o1 (.loc 21) (.load true 7 (.var 4)),
  ⟨.loc 22, .call (.fn 114) [(.loc 21)] [.borrow], none, [0]⟩,
  ⟨.loc 23, .un .not (.loc 22), none, [1, 0]⟩,
  ⟨.loc 24, .split (.loc 23), none, [2, 1, 0]⟩,
  ⟨.loc 25, .mv (.var 3), some ((.loc 24), false), [3, 2, 1, 0]⟩,
  ⟨.loc 26, .bin .int .gtr (.loc 25) (.const (.d (.int .i64 0))), some ((.loc 24), false), [4, 3, 2, 1, 0]⟩,
  ⟨.loc 27, .split (.loc 26), some ((.loc 24), false), [5, 4, 3, 2, 1, 0]⟩,
  ⟨.loc 28, .fld 0 (.var 1), some ((.loc 27), true), [6, 5, 4, 3, 2, 1, 0]⟩,
  ⟨.loc 29, .load false 1 (.loc 28), some ((.loc 27), true), [7, 6, 5, 4, 3, 2, 1, 0]⟩,
  ⟨.loc 30, .mv (.var 3), some ((.loc 27), true), [6, 5, 4, 3, 2, 1, 0]⟩,
  ⟨.loc 31, .bin .int .sub (.loc 30) (.const (.d (.int .i64 1))), some ((.loc 27), true), [9, 6, 5, 4, 3, 2, 1, 0]⟩,
  ⟨.loc 32, .idxA 7 (.loc 29) (.loc 31), some ((.loc 27), true), [8, 7, 10, 9, 6, 5, 4, 3, 2, 1, 0]⟩,
  ⟨.loc 33, .fld 0 (.loc 32), some ((.loc 27), true), [11, 8, 7, 10, 9, 6, 5, 4, 3, 2, 1, 0]⟩,
  ⟨.loc 34, .load false 1 (.loc 33), some ((.loc 27), true), [12, 11, 8, 7, 10, 9, 6, 5, 4, 3, 2, 1, 0]⟩,
  ⟨.loc 35, .fld 0 (.var 4), some ((.loc 27), true), [6, 5, 4, 3, 2, 1, 0]⟩,
  ⟨.loc 36, .load false 1 (.loc 35), some ((.loc 27), true), [14, 6, 5, 4, 3, 2, 1, 0]⟩,
  ⟨.loc 37, .bin .int .geq (.loc 34) (.loc 36), some ((.loc 27), true), [13, 12, 11, 8, 7, 10, 9, 15, 14, 6, 5, 4, 3, 2, 1, 0]⟩,
  ⟨.loc 38, .pick (.loc 27) (.loc 37) (.const (.d (.bool false))), some ((.loc 24), false), [16, 13, 12, 11, 8, 7, 10, 9, 15, 14, 6, 5, 4, 3, 2, 1, 0]⟩,
  ⟨.loc 39, .pick (.loc 24) (.const (.d (.bool true))) (.loc 38), none, [17, 16, 13, 12, 11, 8, 7, 10, 9, 15, 14, 6, 5, 4, 3, 2, 1, 0]⟩,
  ⟨.loc 40, .split (.loc 39), none, [18, 17, 16, 13, 12, 11, 8, 7, 10, 9, 15, 14, 6, 5, 4, 3, 2, 1, 0]⟩,
  ⟨.loc 41, .fld 1 (.var 4), some ((.loc 40), false), [19, 18, 17, 16, 13, 12, 11, 8, 7, 10, 9, 15, 14, 6, 5, 4, 3, 2, 1, 0]⟩,
  ⟨.loc 42, .load false 1 (.loc 41), some ((.loc 40), false), [20, 19, 18, 17, 16, 13, 12, 11, 8, 7, 10, 9, 15, 14, 6, 5, 4, 3, 2, 1, 0]⟩,
  ⟨.loc 43, .bin .int .neq (.loc 42) (.const (.d (.int .i64 0))), some ((.loc 40), false), [21, 20, 19, 18, 17, 16, 13, 12, 11, 8, 7, 10, 9, 15, 14, 6, 5, 4, 3, 2, 1, 0]⟩,
  ⟨.loc 44, .split (.loc 43), some ((.loc 40), false), [22, 21, 20, 19, 18, 17, 16, 13, 12, 11, 8, 7, 10, 9, 15, 14, 6, 5, 4, 3, 2, 1, 0]⟩,
  ⟨.loc 45, .load true 1 (.var 1), some ((.loc 44), true), [23, 22, 21, 20, 19, 18, 17, 16, 13, 12, 11, 8, 7, 10, 9, 15, 14, 6, 5, 4, 3, 2, 1, 0]⟩,
  ⟨.loc 46, .fld 1 (.var 4), some ((.loc 44), true), [23, 22, 21, 20, 19, 18, 17, 16, 13, 12, 11, 8, 7, 10, 9, 15, 14, 6, 5, 4, 3, 2, 1, 0]⟩,
  ⟨.loc 47, .load false 1 (.loc 46), some ((.loc 44), true), [25, 23, 22, 21, 20, 19, 18, 17, 16, 13, 12, 11, 8, 7, 10, 9, 15, 14, 6, 5, 4, 3, 2, 1, 0]⟩,
  ⟨.loc 48, .call (.fn 115) [(.loc 45), (.loc 47)] [.borrow, .borrow], some ((.loc 44), true), [24, 26, 25, 23, 22, 21, 20, 19, 18, 17, 16, 13, 12, 11, 8, 7, 10, 9, 15, 14, 6, 5, 4, 3, 2, 1, 0]⟩,
  ⟨.loc 49, .bin .int .lss (.loc 48) (.const (.d (.int .i64 0))), some ((.loc 44), true), [27, 24, 26, 25, 23, 22, 21, 20, 19, 18, 17, 16, 13, 12, 11, 8, 7, 10, 9, 15, 14, 6, 5, 4, 3, 2, 1, 0]⟩,
  ⟨.loc 50, .pick (.loc 44) (.loc 49) (.const (.d (.bool false))), some ((.loc 40), false), [28, 27, 24, 26, 25, 23, 22, 21, 20, 19, 18, 17, 16, 13, 12, 11, 8, 7, 10, 9, 15, 14, 6, 5, 4, 3, 2, 1, 0]⟩,
  ⟨.var 51, .pick (.loc 40) (.const (.d (.bool true))) (.loc 50), none, [29, 28, 27, 24, 26, 25, 23, 22, 21, 20, 19, 18, 17, 16, 13, 12, 11, 8, 7, 10, 9, 15, 14, 6, 5, 4, 3, 2, 1, 0]⟩] true
def c_S_ForestOk_7 : ACode := .reg [o1 (.var 2) (.mv (.const (.d (.bool false))))] false
def c_S_ForestOk_8 : ACode := .reg [o1 (.loc 14) (.mv (.var 3)),
  o1 (.loc 15) (.bin .int .add (.loc 14) (.const (.d (.int .i64 1)))),
  o1 (.var 3) (.mv (.loc 15))] false
def c_S_ForestOk_9 : ACode := (.seq (.seq c_S_ForestOk_4 (.cond (.var 13) .skip (.exit 0))) (.seq (.block 1 (.seq c_S_ForestOk_5 (.seq c_S_ForestOk_6 (.cond (.var 51) (.seq c_S_ForestOk_7 .ret) .skip)))) c_S_ForestOk_8))
def c_S_ForestOk_10 : ACode := .reg [o1 (.var 2) (.mv (.const (.d (.bool true))))] false
def c_S_ForestOk : ACode := (.seq c_S_ForestOk_0 (.seq (.seq c_S_ForestOk_1 (.cond (.var 8) (.seq c_S_ForestOk_2 .ret) .skip)) (.seq (.seq c_S_ForestOk_3 (.block 0 (.loop [1, 3] c_S_ForestOk_9))) (.seq c_S_ForestOk_10 .ret))))
abbrev F_S_ForestOk : FuncId := 50
theorem k_S_ForestOk : comp PP (Tryz.f50.ntmps, pinOf 0 [none]) [0, 1, 2, 3, 4, 8, 13, 51] (Tryz.f50.body.getD .skip) = some c_S_ForestOk.erase := by kernel_rfl
theorem v_S_ForestOk {GG : GV} (rcs : List C) {cs : List C} {r : C} {os : List (Option C)} (hN : (cs.length == 1 && rcs.length == 1) = true) (hret : retOf rcs = r) (hW : WX GG [0, 1, 2, 3, 4, 8, 13, 51] Tryz.f50.ntmps [none] [(.give, 2, none)] c_S_ForestOk rcs cs os) : Valid PP GG F_S_ForestOk cs r os :=
  fn_valid_n 1 1 _ _ _ _ rcs Tryz.func50 rfl rfl (by kernel_rfl) k_S_ForestOk rfl rfl hN hret hW
def c_S_BookOk_0 : ACode := .reg [o1 (.var 1) (.box (.var 0)),
  o1 (.var 2) (.mv (.const (.d (.bool false))))] false
def c_S_BookOk_1 : ACode := .reg [o1 (.loc 4) (.fld 0 (.var 1)),
  o1 (.loc 5) (.load false 1 (.loc 4)),
  o1 (.loc 6) (.len false (.loc 5)),
  o1 (.var 7) (.bin .int .gtr (.loc 6) (.const (.d (.int .i64 150))))] false
def c_S_BookOk_2 : ACode := .reg [o1 (.var 2) (.mv (.const (.d (.bool false))))] false
def c_S_BookOk_3 : ACode := .reg [o1 (.var 3) (.mv (.const (.d (.int .i64 0))))] false
def c_S_BookOk_4 : ACode := .reg [o1 (.loc 8) (.mv (.var 3)),
  o1 (.loc 9) (.fld 0 (.var 1)),
  o1 (.loc 10) (.load false 1 (.loc 9)),
  o1 (.loc 11) (.len false (.loc 10)),
  o1 (.var 12) (.bin .int .lss (.loc 8) (.loc 11))] false
def c_S_BookOk_5 : ACode := .reg [o1 (.loc 15) (.fld 0 (.var 1)),
  ⟨.loc 16, .load false 1 (.loc 15), none, [0]⟩,
  o1 (.loc 17) (.mv (.var 3)),
  ⟨.loc 18, .idxA 6 (.loc 16) (.loc 17), none, [1, 0, 2]⟩,
  ⟨.loc 19, .load true 6 (.loc 18), none, [3, 1, 0, 2]⟩,
  ⟨.loc 20, .call (.fn 116) [(.loc 19)] [.borrow], none, [4, 3, 1, 0, 2]⟩,
  ⟨.loc 21, .un .not (.loc 20), none, [5, 4, 3, 1, 0, 2]⟩,
  ⟨.loc 22, .split (.loc 21), none, [6, 5, 4, 3, 1, 0, 2]⟩,
  ⟨.loc 23, .mv (.var 3), some ((.loc 22), false), [7, 6, 5, 4, 3, 1, 0, 2]⟩,
  ⟨.loc 24, .bin .int .gtr (.loc 23) (.const (.d (.int .i64 0))), some ((.loc 22), false), [8, 7, 6, 5, 4, 3, 1, 0, 2]⟩,
  ⟨.loc 25, .split (.loc 24), some ((.loc 22), false), [9, 8, 7, 6, 5, 4, 3, 1, 0, 2]⟩,
  ⟨.loc 26, .fld 0 (.var 1), some ((.loc 25), true), [10, 9, 8, 7, 6, 5, 4, 3, 1, 0, 2]⟩,
  ⟨.loc 27, .load false 1 (.loc 26), some ((.loc 25), true), [11, 10, 9, 8, 7, 6, 5, 4, 3, 1, 0, 2]⟩,
  ⟨.loc 28, .mv (.var 3), some ((.loc 25), true), [10, 9, 8, 7, 6, 5, 4, 3, 1, 0, 2]⟩,
  ⟨.loc 29, .bin .int .sub (.loc 28) (.const (.d (.int .i64 1))), some ((.loc 25), true), [13, 10, 9, 8, 7, 6, 5, 4, 3, 1, 0, 2]⟩,
  ⟨.loc 30, .idxA 6 (.loc 27) (.loc 29), some ((.loc 25), true), [12, 11, 14, 13, 10, 9, 8, 7, 6, 5, 4, 3, 1, 0, 2]⟩,
  ⟨.loc 31, .fld 0 (.loc 30), some ((.loc 25), true), [15, 12, 11, 14, 13, 10, 9, 8, 7, 6, 5, 4, 3, 1, 0, 2]⟩,
  ⟨.loc 32, .load false 1 (.loc 31), some ((.loc 25), true), [16, 15, 12, 11, 14, 13, 10, 9, 8, 7, 6, 5, 4, 3, 1, 0, 2]⟩,
  ⟨.loc 33, .fld 0 (.var 1), some ((.loc 25), true), [10, 9, 8, 7, 6, 5, 4, 3, 1, 0, 2]⟩,
  ⟨.loc 34, .load false 1 (.loc 33), some ((.loc 25), true), [18, 10, 9, 8, 7, 6, 5, 4, 3, 1, 0, 2]⟩,
  ⟨.loc 35, .mv (.var 3), some ((.loc 25), true), [10, 9, 8, 7, 6, 5, 4, 3, 1, 0, 2]⟩,
  ⟨.loc 36, .idxA 6 (.loc 34) (.loc 35), some ((.loc 25), true), [19, 18, 20, 10, 9, 8, 7, 6, 5, 4, 3, 1, 0, 2]⟩,
  ⟨.loc 37, .fld 0 (.loc 36), some ((.loc 25), true), [21, 19, 18, 20, 10, 9, 8, 7, 6, 5, 4, 3, 1, 0, 2]⟩,
  ⟨.loc 38, .load false 1 (.loc 37), some ((.loc 25), true), [22, 21, 19, 18, 20, 10, 9, 8, 7, 6, 5, 4, 3, 1, 0, 2]⟩,
  ⟨.loc 39, .bin .int .geq (.loc 32) (.loc 38), some ((.loc 25), true), [17, 16, 15, 12, 11, 14, 13, 23, 22, 21, 19, 18, 20, 10, 9, 8, 7, 6, 5, 4, 3, 1, 0, 2]⟩,
  ⟨.loc 40, .pick (.loc 25) (.loc 39) (.const (.d (.bool false))), some ((.loc 22), false), [24, 17, 16, 15, 12, 11, 14, 13, 23, 22, 21, 19, 18, 20, 10, 9, 8, 7, 6, 5, 4, 3, 1, 0, 2]⟩,
  ⟨.var 41, .pick (.loc 22) (.const (.d (.bool true))) (.loc 40), none, [25, 24, 17, 16, 15, 12, 11, 14, 13, 23, 22, 21, 19, 18, 20, 10, 9, 8, 7, 6, 5, 4, 3, 1, 0, 2]⟩] true
def c_S_BookOk_6 : ACode := .reg [o1 (.var 2) (.mv (.const (.d (.bool false))))] false
def c_S_BookOk_7 : ACode := .reg [o1 (.loc 13) (.mv (.var 3)),
  o1 (.loc 14) (.bin .int .add (.loc 13) (.const (.d (.int .i64 1)))),
  o1 (.var 3) (.mv (.loc 14))] false
def c_S_BookOk_8 : ACode := (.seq (.seq c_S_BookOk_4 (.cond (.var 12) .skip (.exit 0))) (.seq (.block 1 (.seq c_S_BookOk_5 (.cond (.var 41) (.seq c_S_BookOk_6 .ret) .skip))) c_S_BookOk_7))
def c_S_BookOk_9 : ACode := .reg [o1 (.var 2) (.mv (.const (.d (.bool true))))] false
def c_S_BookOk : ACode := (.seq c_S_BookOk_0 (.seq (.seq c_S_BookOk_1 (.cond (.var 7) (.seq c_S_BookOk_2 .ret) .skip)) (.seq (.seq c_S_BookOk_3 (.block 0 (.loop [1, 3] c_S_BookOk_8))) (.seq c_S_BookOk_9 .ret))))
abbrev F_S_BookOk : FuncId := 51
theorem k_S_BookOk : comp PP (Tryz.f51.ntmps, pinOf 0 [none]) [0, 1, 2, 3, 7, 12, 41] (Tryz.f51.body.getD .skip) = some c_S_BookOk.erase := by kernel_rfl
theorem v_S_BookOk {GG : GV} (rcs : List C) {cs : List C} {r : C} {os : List (Option C)} (hN : (cs.length == 1 && rcs.length == 1) = true) (hret : retOf rcs = r) (hW : WX GG [0, 1, 2, 3, 7, 12, 41] Tryz.f51.ntmps [none] [(.give, 2, none)] c_S_BookOk rcs cs os) : Valid PP GG F_S_BookOk cs r os :=
  fn_valid_n 1 1 _ _ _ _ rcs Tryz.func51 rfl rfl (by kernel_rfl) k_S_BookOk rfl rfl hN hret hW
def c_S_FarOk_0 : ACode := .reg [o1 (.var 1) (.box (.var 0)),
  o1 (.var 2) (.mv (.const (.d (.bool false))))] false
def c_S_FarOk_1 : ACode := .reg [o1 (.loc 4) (.fld 0 (.var 1)),
  o1 (.loc 5) (.load false 1 (.loc 4)),
  o1 (.loc 6) (.len false (.loc 5)),
  o1 (.loc 7) (.bin .int .gtr (.loc 6) (.const (.d (.int .i64 120)))),
  o1 (.loc 8) (.split (.loc 7)),
  ⟨.loc 9, .fld 1 (.var 1), some ((.loc 8), false), []⟩,
  ⟨.loc 10, .load false 1 (.loc 9), some ((.loc 8), false), []⟩,
  ⟨.loc 11, .call (.fn 49) [(.loc 10), (.const (.d (.int .i64 0))), (.const (.d (.int .i64 1000)))] [.borrow, .borrow, .borrow], some ((.loc 8), false), []⟩,
  ⟨.loc 12, .un .not (.loc 11), some ((.loc 8), false), []⟩,
  o1 (.loc 13) (.pick (.loc 8) (.const (.d (.bool true))) (.loc 12)),
  o1 (.loc 14) (.split (.loc 13)),
  ⟨.loc 15, .fld 2 (.var 1), some ((.loc 14), false), []⟩,
  ⟨.loc 16, .load false 1 (.loc 15), some ((.loc 14), false), []⟩,
  ⟨.loc 17, .call (.fn 49) [(.loc 16), (.const (.d (.int .i64 0))), (.const (.d (.int .i64 1000000000)))] [.borrow, .borrow, .borrow], some ((.loc 14), false), []⟩,
  ⟨.loc 18, .un .not (.loc 17), some ((.loc 14), false), []⟩,
  o1 (.var 19) (.pick (.loc 14) (.const (.d (.bool true))) (.loc 18))] false
def c_S_FarOk_2 : ACode := .reg [o1 (.var 2) (.mv (.const (.d (.bool false))))] false
def c_S_FarOk_3 : ACode := .reg [o1 (.var 3) (.mv (.const (.d (.int .i64 0))))] false
def c_S_FarOk_4 : ACode := .reg [o1 (.loc 20) (.mv (.var 3)),
  o1 (.loc 21) (.fld 0 (.var 1)),
  o1 (.loc 22) (.load false 1 (.loc 21)),
  o1 (.loc 23) (.len false (.loc 22)),
  o1 (.var 24) (.bin .int .lss (.loc 20) (.loc 23))] false
def c_S_FarOk_5 : ACode := .reg [o1 (.loc 27) (.fld 0 (.var 1)),
  ⟨.loc 28, .load false 1 (.loc 27), none, [0]⟩,
  o1 (.loc 29) (.mv (.var 3)),
  ⟨.loc 30, .idxA 2 (.loc 28) (.loc 29), none, [1, 0, 2]⟩,
  ⟨.loc 31, .fld 0 (.loc 30), none, [3, 1, 0, 2]⟩,
  ⟨.loc 32, .load false 1 (.loc 31), none, [4, 3, 1, 0, 2]⟩,
  ⟨.loc 33, .call (.fn 55) [(.loc 32)] [.borrow], none, [5, 4, 3, 1, 0, 2]⟩,
  ⟨.loc 34, .un .not (.loc 33), none, [6, 5, 4, 3, 1, 0, 2]⟩,
  ⟨.loc 35, .split (.loc 34), none, [7, 6, 5, 4, 3, 1, 0, 2]⟩,
  ⟨.loc 36, .mv (.var 3), some ((.loc 35), false), [8, 7, 6, 5, 4, 3, 1, 0, 2]⟩,
  ⟨.loc 37, .bin .int .gtr (.loc 36) (.const (.d (.int .i64 0))), some ((.loc 35), false), [9, 8, 7, 6, 5, 4, 3, 1, 0, 2]⟩,
  ⟨.loc 38, .split (.loc 37), some ((.loc 35), false), [10, 9, 8, 7, 6, 5, 4, 3, 1, 0, 2]⟩,
  ⟨.loc 39, .fld 0 (.var 1), some ((.loc 38), true), [11, 10, 9, 8, 7, 6, 5, 4, 3, 1, 0, 2]⟩,
  ⟨.loc 40, .load false 1 (.loc 39), some ((.loc 38), true), [12, 11, 10, 9, 8, 7, 6, 5, 4, 3, 1, 0, 2]⟩,
  ⟨.loc 41, .mv (.var 3), some ((.loc 38), true), [11, 10, 9, 8, 7, 6, 5, 4, 3, 1, 0, 2]⟩,
  ⟨.loc 42, .bin .int .sub (.loc 41) (.const (.d (.int .i64 1))), some ((.loc 38), true), [14, 11, 10, 9, 8, 7, 6, 5, 4, 3, 1, 0, 2]⟩,
  ⟨.loc 43, .idxA 2 (.loc 40) (.loc 42), some ((.loc 38), true), [13, 12, 15, 14, 11, 10, 9, 8, 7, 6, 5, 4, 3, 1, 0, 2]⟩,
  ⟨.loc 44, .fld 0 (.loc 43), some ((.loc 38), true), [16, 13, 12, 15, 14, 11, 10, 9, 8, 7, 6, 5, 4, 3, 1, 0, 2]⟩,
  ⟨.loc 45, .load false 1 (.loc 44), some ((.loc 38), true), [17, 16, 13, 12, 15, 14, 11, 10, 9, 8, 7, 6, 5, 4, 3, 1, 0, 2]⟩,
  ⟨.loc 46, .fld 0 (.var 1), some ((.loc 38), true), [11, 10, 9, 8, 7, 6, 5, 4, 3, 1, 0, 2]⟩,
  ⟨.loc 47, .load false 1 (.loc 46), some ((.loc 38), true), [19, 11, 10, 9, 8, 7, 6, 5, 4, 3, 1, 0, 2]⟩,
  ⟨.loc 48, .mv (.var 3), some ((.loc 38), true), [11, 10, 9, 8, 7, 6, 5, 4, 3, 1, 0, 2]⟩,
  ⟨.loc 49, .idxA 2 (.loc 47) (.loc 48), some ((.loc 38), true), [20, 19, 21, 11, 10, 9, 8, 7, 6, 5, 4, 3, 1, 0, 2]⟩,
  ⟨.loc 50, .fld 0 (.loc 49), some ((.loc 38), true), [22, 20, 19, 21, 11, 10, 9, 8, 7, 6, 5, 4, 3, 1, 0, 2]⟩,
  ⟨.loc 51, .load false 1 (.loc 50), some ((.loc 38), true), [23, 22, 20, 19, 21, 11, 10, 9, 8, 7, 6, 5, 4, 3, 1, 0, 2]⟩,
  ⟨.loc 52, .bin .str .geq (.loc 45) (.loc 51), some ((.loc 38), true), [18, 17, 16, 13, 12, 15, 14, 24, 23, 22, 20, 19, 21, 11, 10, 9, 8, 7, 6, 5, 4, 3, 1, 0, 2]⟩,
  ⟨.loc 53, .pick (.loc 38) (.loc 52) (.const (.d (.bool false))), some ((.loc 35), false), [25, 18, 17, 16, 13, 12, 15, 14, 24, 23, 22, 20, 19, 21, 11, 10, 9, 8, 7, 6, 5, 4, 3, 1, 0, 2]⟩,
  ⟨.var 54, .pick (.loc 35) (.const (.d (.bool true))) (.loc 53), none, [26, 25, 18, 17, 16, 13, 12, 15, 14, 24, 23, 22, 20, 19, 21, 11, 10, 9, 8, 7, 6, 5, 4, 3, 1, 0, 2]⟩] true
def c_S_FarOk_6 : ACode := .reg [o1 (.var 2) (.mv (.const (.d (.bool false))))] false
def c_S_FarOk_7 : ACode := .reg [o1 (.loc 25) (.mv (.var 3)),
  o1 (.loc 26) (.bin .int .add (.loc 25) (.const (.d (.int .i64 1)))),
  o1 (.var 3) (.mv (.loc 26))] false
def c_S_FarOk_8 : ACode := (.seq (.seq c_S_FarOk_4 (.cond (.var 24) .skip (.exit 0))) (.seq (.block 1 (.seq c_S_FarOk_5 (.cond (.var 54) (.seq c_S_FarOk_6 .ret) .skip))) c_S_FarOk_7))
def c_S_FarOk_9 : ACode := .reg [o1 (.var 2) (.mv (.const (.d (.bool true))))] false
def c_S_FarOk : ACode := (.seq c_S_FarOk_0 (.seq (.seq c_S_FarOk_1 (.cond (.var 19) (.seq c_S_FarOk_2 .ret) .skip)) (.seq (.seq c_S_FarOk_3 (.block 0 (.loop [1, 3] c_S_FarOk_8))) (.seq c_S_FarOk_9 .ret))))
abbrev F_S_FarOk : FuncId := 52
theorem k_S_FarOk : comp PP (Tryz.f52.ntmps, pinOf 0 [none]) [0, 1, 2, 3, 19, 24, 54] (Tryz.f52.body.getD .skip) = some c_S_FarOk.erase := by kernel_rfl
theorem v_S_FarOk {GG : GV} (rcs : List C) {cs : List C} {r : C} {os : List (Option C)} (hN : (cs.length == 1 && rcs.length == 1) = true) (hret : retOf rcs = r) (hW : WX GG [0, 1, 2, 3, 19, 24, 54] Tryz.f52.ntmps [none] [(.give, 2, none)] c_S_FarOk rcs cs os) : Valid PP GG F_S_FarOk cs r os :=
  fn_valid_n 1 1 _ _ _ _ rcs Tryz.func52 rfl rfl (by kernel_rfl) k_S_FarOk rfl rfl hN hret hW
def c_S_QueueOk_0 : ACode := .reg [o1 (.var 1) (.box (.var 0)),
  o1 (.var 2) (.mv (.const (.d (.bool false))))] false
def c_S_QueueOk_1 : ACode := .reg [o1 (.loc 6) (.fld 0 (.var 1)),
  o1 (.loc 7) (.load false 1 (.loc 6)),
  o1 (.loc 8) (.len false (.loc 7)),
  o1 (.var 9) (.bin .int .gtr (.loc 8) (.const (.d (.int .i64 120))))] false
def c_S_QueueOk_2 : ACode := .reg [o1 (.var 2) (.mv (.const (.d (.bool false))))] false
def c_S_QueueOk_3 : ACode := .reg [o1 (.var 3) (.mv (.const (.d (.int .i64 0))))] false
def c_S_QueueOk_4 : ACode := .reg [o1 (.loc 10) (.mv (.var 3)),
  o1 (.loc 11) (.fld 0 (.var 1)),
  o1 (.loc 12) (.load false 1 (.loc 11)),
  o1 (.loc 13) (.len false (.loc 12)),
  o1 (.var 14) (.bin .int .lss (.loc 10) (.loc 13))] false
def c_S_QueueOk_5 : ACode := .reg [o1 (.loc 17) (.fld 0 (.var 1)),
  o1 (.loc 18) (.load false 1 (.loc 17)),
  o1 (.loc 19) (.mv (.var 3)),
  o1 (.loc 20) (.idxA 3 (.loc 18) (.loc 19)),
  o1 (.loc 21) (.load true 3 (.loc 20)),
  o1 (.var 4) (.alloc [.d (.str []), .d (.int .i64 0), .d (.int .i64 0)]),
  o1 .none (.store 3 (.var 4) (.loc 21))] false
def c_S_QueueOk_6 : ACode := .reg [o1 (.loc 22) (.fld 0 (.var 4)),
  o1 (.loc 23) (.load false 1 (.loc 22)),
  o1 (.loc 24) (.call (.fn 55) [(.loc 23)] [.borrow]),
  o1 (.loc 25) (.un .not (.loc 24)),
  o1 (.loc 26) (.split (.loc 25)),
  ⟨.loc 27, .fld 1 (.var 4), some ((.loc 26), false), []⟩,
  ⟨.loc 28, .load false 1 (.loc 27), some ((.loc 26), false), []⟩,
  ⟨.loc 29, .call (.fn 49) [(.loc 28), (.const (.d (.int .i64 0))), (.const (.d (.int .i64 2000000000)))] [.borrow, .borrow, .borrow], some ((.loc 26), false), []⟩,
  ⟨.loc 30, .un .not (.loc 29), some ((.loc 26), false), []⟩,
  o1 (.loc 31) (.pick (.loc 26) (.const (.d (.bool true))) (.loc 30)),
  o1 (.loc 32) (.split (.loc 31)),
  ⟨.loc 33, .fld 2 (.var 4), some ((.loc 32), false), []⟩,
  ⟨.loc 34, .load false 1 (.loc 33), some ((.loc 32), false), []⟩,
  ⟨.loc 35, .call (.fn 49) [(.loc 34), (.const (.d (.int .i64 0))), (.const (.d (.int .i64 5)))] [.borrow, .borrow, .borrow], some ((.loc 32), false), []⟩,
  ⟨.loc 36, .un .not (.loc 35), some ((.loc 32), false), []⟩,
  o1 (.var 37) (.pick (.loc 32) (.const (.d (.bool true))) (.loc 36))] false
def c_S_QueueOk_7 : ACode := .reg [o1 (.var 2) (.mv (.const (.d (.bool false))))] false
def c_S_QueueOk_8 : ACode := .reg [o1 (.var 5) (.mv (.const (.d (.int .i64 0))))] false
def c_S_QueueOk_9 : ACode := .reg [o1 (.loc 38) (.mv (.var 5)),
  o1 (.loc 39) (.mv (.var 3)),
  o1 (.var 40) (.bin .int .lss (.loc 38) (.loc 39))] false
def c_S_QueueOk_10 : ACode := .reg [o1 (.loc 43) (.fld 0 (.var 1)),
  ⟨.loc 44, .load false 1 (.loc 43), none, [0]⟩,
  o1 (.loc 45) (.mv (.var 5)),
  ⟨.loc 46, .idxA 3 (.loc 44) (.loc 45), none, [1, 0, 2]⟩,
  ⟨.loc 47, .fld 0 (.loc 46), none, [3, 1, 0, 2]⟩,
  ⟨.loc 48, .load false 1 (.loc 47), none, [4, 3, 1, 0, 2]⟩,
  o1 (.loc 49) (.fld 0 (.var 4)),
  ⟨.loc 50, .load false 1 (.loc 49), none, [6]⟩,
  ⟨.var 51, .bin .str .eql (.loc 48) (.loc 50), none, [5, 4, 3, 1, 0, 2, 7, 6]⟩] true
def c_S_QueueOk_11 : ACode := .reg [o1 (.var 2) (.mv (.const (.d (.bool false))))] false
def c_S_QueueOk_12 : ACode := .reg [o1 (.loc 41) (.mv (.var 5)),
  o1 (.loc 42) (.bin .int .add (.loc 41) (.const (.d (.int .i64 1)))),
  o1 (.var 5) (.mv (.loc 42))] false
def c_S_QueueOk_13 : ACode := (.seq (.seq c_S_QueueOk_9 (.cond (.var 40) .skip (.exit 2))) (.seq (.block 3 (.seq c_S_QueueOk_10 (.cond (.var 51) (.seq c_S_QueueOk_11 .ret) .skip))) c_S_QueueOk_12))
def c_S_QueueOk_14 : ACode := .reg [o1 (.loc 15) (.mv (.var 3)),
  o1 (.loc 16) (.bin .int .add (.loc 15) (.const (.d (.int .i64 1)))),
  o1 (.var 3) (.mv (.loc 16))] false
def c_S_QueueOk_15 : ACode := (.seq (.seq c_S_QueueOk_4 (.cond (.var 14) .skip (.exit 0))) (.seq (.block 1 (.seq c_S_QueueOk_5 (.seq (.seq c_S_QueueOk_6 (.cond (.var 37) (.seq c_S_QueueOk_7 .ret) .skip)) (.seq c_S_QueueOk_8 (.block 2 (.loop [1, 3, 4, 5] c_S_QueueOk_13)))))) c_S_QueueOk_14))
def c_S_QueueOk_16 : ACode := .reg [o1 (.var 2) (.mv (.const (.d (.bool true))))] false
def c_S_QueueOk : ACode := (.seq c_S_QueueOk_0 (.seq (.seq c_S_QueueOk_1 (.cond (.var 9) (.seq c_S_QueueOk_2 .ret) .skip)) (.seq (.seq c_S_QueueOk_3 (.block 0 (.loop [1, 3] c_S_QueueOk_15))) (.seq c_S_QueueOk_16 .ret))))
abbrev F_S_QueueOk : FuncId := 53
theorem k_S_QueueOk : comp PP (Tryz.f53.ntmps, pinOf 0 [none]) [0, 1, 2, 3, 4, 5, 9, 14, 37, 40, 51] (Tryz.f53.body.getD .skip) = some c_S_QueueOk.erase := by kernel_rfl
theorem v_S_QueueOk {GG : GV} (rcs : List C) {cs : List C} {r : C} {os : List (Option C)} (hN : (cs.length == 1 && rcs.length == 1) = true) (hret : retOf rcs = r) (hW : WX GG [0, 1, 2, 3, 4, 5, 9, 14, 37, 40, 51] Tryz.f53.ntmps [none] [(.give, 2, none)] c_S_QueueOk rcs cs os) : Valid PP GG F_S_QueueOk cs r os :=
  fn_valid_n 1 1 _ _ _ _ rcs Tryz.func53 rfl rfl (by kernel_rfl) k_S_QueueOk rfl rfl hN hret hW
def c_S_FindLease_0 : ACode := .reg [o1 (.var 2) (.box (.var 0)),
  o1 (.var 4) (.alloc [.d (.int .i64 0), .d (.int .i64 0), .d (.str []), .d (.int .i64 0), .d (.int .i64 0), .d (.int .i64 0)]),
  o1 (.var 5) (.mv (.const (.d (.bool false))))] false
def c_S_FindLease_1 : ACode := .reg [o1 (.loc 7) (.load true 1 (.var 2)),
  o1 (.loc 8) (.call (.fn 51) [(.loc 7)] [.borrow]),
  o1 (.var 9) (.un .not (.loc 8))] false
def c_S_FindLease_2 : ACode := .reg [o1 (.loc 10) (.build [.d (.int .i64 0), .d (.int .i64 0), .d (.str []), .d (.int .i64 0), .d (.int .i64 0), .d (.int .i64 0)] []),
  o1 .none (.store 6 (.var 4) (.loc 10)),
  o1 (.var 5) (.mv (.const (.d (.bool false))))] false
def c_S_FindLease_3 : ACode := .reg [o1 (.var 6) (.mv (.const (.d (.int .i64 0))))] false
def c_S_FindLease_4 : ACode := .reg [o1 (.loc 11) (.mv (.var 6)),
  o1 (.loc 12) (.fld 0 (.var 2)),
  o1 (.loc 13) (.load false 1 (.loc 12)),
  o1 (.loc 14) (.len false (.loc 13)),
  o1 (.var 15) (.bin .int .lss (.loc 11) (.loc 14))] false
def c_S_FindLease_5 : ACode := .reg [o1 (.loc 18) (.fld 0 (.var 2)),
  o1 (.loc 19) (.load false 1 (.loc 18)),
  o1 (.loc 20) (.mv (.var 6)),
  o1 (.loc 21) (.idxA 6 (.loc 19) (.loc 20)),
  o1 (.loc 22) (.fld 0 (.loc 21)),
  o1 (.loc 23) (.load false 1 (.loc 22)),
  o1 (.loc 24) (.mv (.var 1)),
  o1 (.var 25) (.bin .int .eql (.loc 23) (.loc 24))] false
def c_S_FindLease_6 : ACode := .reg [o1 (.loc 26) (.fld 0 (.var 2)),
  o1 (.loc 27) (.load false 1 (.loc 26)),
  o1 (.loc 28) (.mv (.var 6)),
  o1 (.loc 29) (.idxA 6 (.loc 27) (.loc 28)),
  o1 (.loc 30) (.load true 6 (.loc 29)),
  o1 .none (.store 6 (.var 4) (.loc 30)),
  o1 (.var 5) (.mv (.const (.d (.bool true))))] false
def c_S_FindLease_7 : ACode := .reg [o1 (.loc 16) (.mv (.var 6)),
  o1 (.loc 17) (.bin .int .add (.loc 16) (.const (.d (.int .i64 1)))),
  o1 (.var 6) (.mv (.loc 17))] false
def c_S_FindLease_8 : ACode := (.seq (.seq c_S_FindLease_4 (.cond (.var 15) .skip (.exit 0))) (.seq (.block 1 (.seq c_S_FindLease_5 (.cond (.var 25) (.seq c_S_FindLease_6 .ret) .skip))) c_S_FindLease_7))
def c_S_FindLease_9 : ACode := .reg [o1 (.loc 31) (.build [.d (.int .i64 0), .d (.int .i64 0), .d (.str []), .d (.int .i64 0), .d (.int .i64 0), .d (.int .i64 0)] []),
  o1 .none (.store 6 (.var 4) (.loc 31)),
  o1 (.var 5) (.mv (.const (.d (.bool false))))] false
def c_S_FindLease : ACode := (.seq c_S_FindLease_0 (.seq (.seq c_S_FindLease_1 (.cond (.var 9) (.seq c_S_FindLease_2 .ret) .skip)) (.seq (.seq c_S_FindLease_3 (.block 0 (.loop [1, 2, 4, 6] c_S_FindLease_8))) (.seq c_S_FindLease_9 .ret))))
abbrev F_S_FindLease : FuncId := 54
theorem k_S_FindLease : comp PP (Tryz.f54.ntmps, pinOf 0 [none, none]) [0, 1, 2, 4, 5, 6, 9, 15, 25] (Tryz.f54.body.getD .skip) = some c_S_FindLease.erase := by kernel_rfl
theorem v_S_FindLease {GG : GV} (rcs : List C) {cs : List C} {r : C} {os : List (Option C)} (hN : (cs.length == 2 && rcs.length == 2) = true) (hret : retOf rcs = r) (hW : WX GG [0, 1, 2, 4, 5, 6, 9, 15, 25] Tryz.f54.ntmps [none, none] [(.give, 4, some (true, 6)), (.give, 5, none)] c_S_FindLease rcs cs os) : Valid PP GG F_S_FindLease cs r os :=
  fn_valid_n 2 2 _ _ _ _ rcs Tryz.func54 rfl rfl (by kernel_rfl) k_S_FindLease rfl rfl hN hret hW
def c_S_l01Name_0 : ACode := .reg [o1 (.var 2) (.mv (.const (.d (.bool false))))] false
def c_S_l01Name_1 : ACode := .reg [o1 (.var 3) (.mv (.const (.d (.int .i64 0))))] false
def c_S_l01Name_2 : ACode := .reg [o1 (.loc 5) (.mv (.var 3)),
  o1 (.loc 6) (.mv (.var 0)),
  o1 (.loc 7) (.len true (.loc 6)),
  o1 (.var 8) (.bin .int .lss (.loc 5) (.loc 7))] false
def c_S_l01Name_3 : ACode := .reg [o1 (.loc 11) (.mv (.var 0)),
  o1 (.loc 12) (.mv (.var 3)),
  o1 (.loc 13) (.idxS (.loc 11) (.loc 12)),
  o1 (.var 4) (.mv (.loc 13))] false
def c_S_l01Name_4 : ACode := .reg [o1 (.loc 14) (.mv (.var 4)),
  o1 (.loc 15) (.bin .int .geq (.loc 14) (.const (.d (.int .u8 97)))),
  o1 (.loc 16) (.split (.loc 15)),
  ⟨.loc 17, .mv (.var 4), some ((.loc 16), true), []⟩,
  ⟨.loc 18, .bin .int .leq (.loc 17) (.const (.d (.int .u8 122))), some ((.loc 16), true), []⟩,
  o1 (.loc 19) (.pick (.loc 16) (.loc 18) (.const (.d (.bool false)))),
  o1 (.loc 20) (.un .not (.loc 19)),
  o1 (.loc 21) (.split (.loc 20)),
  ⟨.loc 22, .mv (.var 4), some ((.loc 21), true), []⟩,
  ⟨.loc 23, .bin .int .geq (.loc 22) (.const (.d (.int .u8 48))), some ((.loc 21), true), []⟩,
  ⟨.loc 24, .split (.loc 23), some ((.loc 21), true), []⟩,
  ⟨.loc 25, .mv (.var 4), some ((.loc 24), true), []⟩,
  ⟨.loc 26, .bin .int .leq (.loc 25) (.const (.d (.int .u8 57))), some ((.loc 24), true), []⟩,
  ⟨.loc 27, .pick (.loc 24) (.loc 26) (.const (.d (.bool false))), some ((.loc 21), true), []⟩,
  ⟨.loc 28, .un .not (.loc 27), some ((.loc 21), true), []⟩,
  o1 (.var 29) (.pick (.loc 21) (.loc 28) (.const (.d (.bool false))))] false
def c_S_l01Name_5 : ACode := .reg [o1 (.var 2) (.mv (.const (.d (.bool false))))] false
def c_S_l01Name_6 : ACode := .reg [o1 (.loc 9) (.mv (.var 3)),
  o1 (.loc 10) (.bin .int .add (.loc 9) (.const (.d (.int .i64 1)))),
  o1 (.var 3) (.mv (.loc 10))] false
def c_S_l01Name_7 : ACode := (.seq (.seq c_S_l01Name_2 (.cond (.var 8) .skip (.exit 0))) (.seq (.block 1 (.seq c_S_l01Name_3 (.seq c_S_l01Name_4 (.cond (.var 29) (.seq c_S_l01Name_5 .ret) .skip)))) c_S_l01Name_6))
def c_S_l01Name_8 : ACode := .reg [o1 (.loc 30) (.mv (.var 0)),
  o1 (.loc 31) (.len true (.loc 30)),
  o1 (.loc 32) (.call (.fn 49) [(.loc 31), (.const (.d (.int .i64 1))), (.const (.d (.int .i64 12)))] [.borrow, .borrow, .borrow]),
  o1 (.var 2) (.mv (.loc 32))] false
def c_S_l01Name : ACode := (.seq c_S_l01Name_0 (.seq (.seq c_S_l01Name_1 (.block 0 (.loop [0, 3] c_S_l01Name_7))) (.seq c_S_l01Name_8 .ret)))
abbrev F_S_l01Name : FuncId := 55
theorem k_S_l01Name : comp PP (Tryz.f55.ntmps, pinOf 0 [none]) [0, 2, 3, 4, 8, 29] (Tryz.f55.body.getD .skip) = some c_S_l01Name.erase := by kernel_rfl
theorem v_S_l01Name {GG : GV} (rcs : List C) {cs : List C} {r : C} {os : List (Option C)} (hN : (cs.length == 1 && rcs.length == 1) = true) (hret : retOf rcs = r) (hW : WX GG [0, 2, 3, 4, 8, 29] Tryz.f55.ntmps [none] [(.give, 2, none)] c_S_l01Name rcs cs os) : Valid PP GG F_S_l01Name cs r os :=
  fn_valid_n 1 1 _ _ _ _ rcs Tryz.func55 rfl rfl (by kernel_rfl) k_S_l01Name rfl rfl hN hret hW
def c_L_toForest_0 : ACode := .reg [o1 (.var 1) (.box (.var 0)),
  o1 (.var 2) (.alloc [.nil 1 7])] false
def c_L_toForest_1 : ACode := .reg [o1 (.var 3) (.alloc [.nil 1 7])] false
def c_L_toForest_2 : ACode := .reg [o1 (.loc 4) (.fld 0 (.var 1)),
  o1 (.loc 5) (.load false 1 (.loc 4)),
  o1 (.loc 6) (.call (.fn 117) [(.loc 5)] [.borrow]),
  o1 (.loc 7) (.fld 0 (.var 3)),
  o1 .none (.store 1 (.loc 7) (.loc 6))] false
def c_L_toForest_3 : ACode := .reg [o1 (.loc 8) (.load true 1 (.var 3)),
  o1 .none (.store 1 (.var 2) (.loc 8))] false
def c_L_toForest : ACode := (.seq c_L_toForest_0 (.seq c_L_toForest_1 (.seq c_L_toForest_2 (.seq c_L_toForest_3 .ret))))
abbrev F_L_toForest : FuncId := 56
theorem k_L_toForest : comp PP (Tryz.f56.ntmps, pinOf 0 [none]) [0, 1, 2, 3] (Tryz.f56.body.getD .skip) = some c_L_toForest.erase := by kernel_rfl
theorem v_L_toForest {GG : GV} (rcs : List C) {cs : List C} {r : C} {os : List (Option C)} (hN : (cs.length == 1 && rcs.length == 1) = true) (hret : retOf rcs = r) (hW : WX GG [0, 1, 2, 3] Tryz.f56.ntmps [none] [(.give, 2, some (true, 1))] c_L_toForest rcs cs os) : Valid PP GG F_L_toForest cs r os :=
  fn_valid_n 1 1 _ _ _ _ rcs Tryz.func56 rfl rfl (by kernel_rfl) k_L_toForest rfl rfl hN hret hW
def c_L_toBook_0 : ACode := .reg [o1 (.var 1) (.box (.var 0)),
  o1 (.var 2) (.alloc [.nil 0 6])] false
def c_L_toBook_1 : ACode := .reg [o1 (.var 3) (.alloc [.nil 0 6])] false
def c_L_toBook_2 : ACode := .reg [o1 (.loc 4) (.fld 0 (.var 1)),
  o1 (.loc 5) (.load false 1 (.loc 4)),
  o1 (.loc 6) (.call (.fn 118) [(.loc 5)] [.borrow]),
  o1 (.loc 7) (.fld 0 (.var 3)),
  o1 .none (.store 1 (.loc 7) (.loc 6))] false
def c_L_toBook_3 : ACode := .reg [o1 (.loc 8) (.load true 1 (.var 3)),
  o1 .none (.store 1 (.var 2) (.loc 8))] false
def c_L_toBook : ACode := (.seq c_L_toBook_0 (.seq c_L_toBook_1 (.seq c_L_toBook_2 (.seq c_L_toBook_3 .ret))))
abbrev F_L_toBook : FuncId := 57
theorem k_L_toBook : comp PP (Tryz.f57.ntmps, pinOf 0 [none]) [0, 1, 2, 3] (Tryz.f57.body.getD .skip) = some c_L_toBook.erase := by kernel_rfl
theorem v_L_toBook {GG : GV} (rcs : List C) {cs : List C} {r : C} {os : List (Option C)} (hN : (cs.length == 1 && rcs.length == 1) = true) (hret : retOf rcs = r) (hW : WX GG [0, 1, 2, 3] Tryz.f57.ntmps [none] [(.give, 2, some (true, 1))] c_L_toBook rcs cs os) : Valid PP GG F_L_toBook cs r os :=
  fn_valid_n 1 1 _ _ _ _ rcs Tryz.func57 rfl rfl (by kernel_rfl) k_L_toBook rfl rfl hN hret hW
def c_L_toFar_0 : ACode := .reg [o1 (.var 1) (.box (.var 0)),
  o1 (.var 2) (.alloc [.nil 0 2, .d (.int .i64 0), .d (.int .i64 0)])] false
def c_L_toFar_1 : ACode := .reg [o1 (.var 3) (.alloc [.nil 0 2, .d (.int .i64 0), .d (.int .i64 0)])] false
def c_L_toFar_2 : ACode := .reg [o1 (.loc 4) (.fld 0 (.var 1)),
  o1 (.loc 5) (.load false 1 (.loc 4)),
  o1 (.loc 6) (.call (.fn 119) [(.loc 5)] [.borrow]),
  o1 (.loc 7) (.fld 0 (.var 3)),
  o1 .none (.store 1 (.loc 7) (.loc 6))] false
def c_L_toFar_3 : ACode := .reg [o1 (.loc 8) (.fld 1 (.var 1)),
  o1 (.loc 9) (.load false 1 (.loc 8)),
  o1 (.loc 10) (.fld 1 (.var 3)),
  o1 .none (.store 1 (.loc 10) (.loc 9))] false
def c_L_toFar_4 : ACode := .reg [o1 (.loc 11) (.fld 2 (.var 1)),
  o1 (.loc 12) (.load false 1 (.loc 11)),
  o1 (.loc 13) (.fld 2 (.var 3)),
  o1 .none (.store 1 (.loc 13) (.loc 12))] false
def c_L_toFar_5 : ACode := .reg [o1 (.loc 14) (.load true 3 (.var 3)),
  o1 .none (.store 3 (.var 2) (.loc 14))] false
def c_L_toFar : ACode := (.seq c_L_toFar_0 (.seq c_L_toFar_1 (.seq c_L_toFar_2 (.seq c_L_toFar_3 (.seq c_L_toFar_4 (.seq c_L_toFar_5 .ret))))))
abbrev F_L_toFar : FuncId := 58
theorem k_L_toFar : comp PP (Tryz.f58.ntmps, pinOf 0 [none]) [0, 1, 2, 3] (Tryz.f58.body.getD .skip) = some c_L_toFar.erase := by kernel_rfl
theorem v_L_toFar {GG : GV} (rcs : List C) {cs : List C} {r : C} {os : List (Option C)} (hN : (cs.length == 1 && rcs.length == 1) = true) (hret : retOf rcs = r) (hW : WX GG [0, 1, 2, 3] Tryz.f58.ntmps [none] [(.give, 2, some (true, 3))] c_L_toFar rcs cs os) : Valid PP GG F_L_toFar cs r os :=
  fn_valid_n 1 1 _ _ _ _ rcs Tryz.func58 rfl rfl (by kernel_rfl) k_L_toFar rfl rfl hN hret hW
def c_L_toQueue_0 : ACode := .reg [o1 (.var 1) (.box (.var 0)),
  o1 (.var 2) (.alloc [.nil 0 3])] false
def c_L_toQueue_1 : ACode := .reg [o1 (.var 3) (.alloc [.nil 0 3])] false
def c_L_toQueue_2 : ACode := .reg [o1 (.loc 4) (.fld 0 (.var 1)),
  o1 (.loc 5) (.load false 1 (.loc 4)),
  o1 (.loc 6) (.call (.fn 120) [(.loc 5)] [.borrow]),
  o1 (.loc 7) (.fld 0 (.var 3)),
  o1 .none (.store 1 (.loc 7) (.loc 6))] false
def c_L_toQueue_3 : ACode := .reg [o1 (.loc 8) (.load true 1 (.var 3)),
  o1 .none (.store 1 (.var 2) (.loc 8))] false
def c_L_toQueue : ACode := (.seq c_L_toQueue_0 (.seq c_L_toQueue_1 (.seq c_L_toQueue_2 (.seq c_L_toQueue_3 .ret))))
abbrev F_L_toQueue : FuncId := 59
theorem k_L_toQueue : comp PP (Tryz.f59.ntmps, pinOf 0 [none]) [0, 1, 2, 3] (Tryz.f59.body.getD .skip) = some c_L_toQueue.erase := by kernel_rfl
theorem v_L_toQueue {GG : GV} (rcs : List C) {cs : List C} {r : C} {os : List (Option C)} (hN : (cs.length == 1 && rcs.length == 1) = true) (hret : retOf rcs = r) (hW : WX GG [0, 1, 2, 3] Tryz.f59.ntmps [none] [(.give, 2, some (true, 1))] c_L_toQueue rcs cs os) : Valid PP GG F_L_toQueue cs r os :=
  fn_valid_n 1 1 _ _ _ _ rcs Tryz.func59 rfl rfl (by kernel_rfl) k_L_toQueue rfl rfl hN hret hW
def c_L_toOwnedS_0 : ACode := .reg [o1 (.var 2) (.mv (.const (.nil 0 2)))] false
def c_L_toOwnedS_1 : ACode := .reg [o1 (.loc 5) (.mv (.var 0)),
  o1 (.loc 6) (.len false (.loc 5)),
  o1 (.loc 7) (.mkslice 0 2 24 [.int .i64 0, .str []] (.loc 6) (.loc 6)),
  o1 (.var 3) (.mv (.loc 7))] false
def c_L_toOwnedS_2 : ACode := .reg [o1 (.var 4) (.mv (.const (.d (.int .i64 0))))] false
def c_L_toOwnedS_3 : ACode := .reg [o1 (.loc 8) (.mv (.var 4)),
  o1 (.loc 9) (.mv (.var 0)),
  o1 (.loc 10) (.len false (.loc 9)),
  o1 (.var 11) (.bin .int .lss (.loc 8) (.loc 10))] false
def c_L_toOwnedS_4 : ACode := .reg [o1 (.loc 14) (.mv (.var 3)),
  o1 (.loc 15) (.mv (.var 4)),
  o1 (.loc 16) (.mv (.var 0)),
  o1 (.loc 17) (.mv (.var 4)),
  o1 (.loc 18) (.idxA 2 (.loc 16) (.loc 17)),
  o1 (.loc 19) (.load true 2 (.loc 18)),
  o1 (.loc 20) (.call (.fn 121) [(.loc 19)] [.borrow]),
  o1 (.loc 21) (.idxA 2 (.loc 14) (.loc 15)),
  o1 .none (.store 2 (.loc 21) (.loc 20))] false
def c_L_toOwnedS_5 : ACode := .reg [o1 (.loc 12) (.mv (.var 4)),
  o1 (.loc 13) (.bin .int .add (.loc 12) (.const (.d (.int .i64 1)))),
  o1 (.var 4) (.mv (.loc 13))] false
def c_L_toOwnedS_6 : ACode := (.seq (.seq c_L_toOwnedS_3 (.cond (.var 11) .skip (.exit 0))) (.seq (.block 1 c_L_toOwnedS_4) c_L_toOwnedS_5))
def c_L_toOwnedS_7 : ACode := .reg [o1 (.loc 22) (.mv (.var 3)),
  o1 (.var 2) (.mv (.loc 22))] false
def c_L_toOwnedS : ACode := (.seq c_L_toOwnedS_0 (.seq c_L_toOwnedS_1 (.seq (.seq c_L_toOwnedS_2 (.block 0 (.loop [0, 3, 4] c_L_toOwnedS_6))) (.seq c_L_toOwnedS_7 .ret))))
abbrev F_L_toOwnedS : FuncId := 60
theorem k_L_toOwnedS : comp PP (Tryz.f60.ntmps, pinOf 0 [none]) [0, 2, 3, 4, 11] (Tryz.f60.body.getD .skip) = some c_L_toOwnedS.erase := by kernel_rfl
theorem v_L_toOwnedS {GG : GV} (rcs : List C) {cs : List C} {r : C} {os : List (Option C)} (hN : (cs.length == 1 && rcs.length == 1) = true) (hret : retOf rcs = r) (hW : WX GG [0, 2, 3, 4, 11] Tryz.f60.ntmps [none] [(.give, 2, none)] c_L_toOwnedS rcs cs os) : Valid PP GG F_L_toOwnedS cs r os :=
  fn_valid_n 1 1 _ _ _ _ rcs Tryz.func60 rfl rfl (by kernel_rfl) k_L_toOwnedS rfl rfl hN hret hW
def c_I_isWorld_0 : ACode := .reg [o1 (.var 1) (.box (.var 0)),
  o1 (.var 2) (.mv (.const (.d (.bool false))))] false
def c_I_isWorld_1 : ACode := .reg [o1 (.loc 7) (.fld 0 (.var 1)),
  o1 (.loc 8) (.load false 1 (.loc 7)),
  o1 (.loc 9) (.call (.fn 103) [(.loc 8), (.const (.d (.int .i64 0))), (.const (.d (.int .i64 1000000000)))] [.borrow, .borrow, .borrow]),
  o1 (.loc 10) (.un .not (.loc 9)),
  o1 (.loc 11) (.split (.loc 10)),
  ⟨.loc 12, .fld 1 (.var 1), some ((.loc 11), false), []⟩,
  ⟨.loc 13, .load false 1 (.loc 12), some ((.loc 11), false), []⟩,
  ⟨.loc 14, .call (.fn 103) [(.loc 13), (.const (.d (.int .i64 1))), (.const (.d (.int .i64 1000000000)))] [.borrow, .borrow, .borrow], some ((.loc 11), false), []⟩,
  ⟨.loc 15, .un .not (.loc 14), some ((.loc 11), false), []⟩,
  o1 (.loc 16) (.pick (.loc 11) (.const (.d (.bool true))) (.loc 15)),
  o1 (.loc 17) (.split (.loc 16)),
  ⟨.loc 18, .fld 2 (.var 1), some ((.loc 17), false), []⟩,
  ⟨.loc 19, .load false 1 (.loc 18), some ((.loc 17), false), []⟩,
  ⟨.loc 20, .call (.fn 103) [(.loc 19), (.const (.d (.int .i64 0))), (.const (.d (.int .i64 1000000000)))] [.borrow, .borrow, .borrow], some ((.loc 17), false), []⟩,
  ⟨.loc 21, .un .not (.loc 20), some ((.loc 17), false), []⟩,
  o1 (.loc 22) (.pick (.loc 17) (.const (.d (.bool true))) (.loc 21)),
  o1 (.loc 23) (.split (.loc 22)),
  ⟨.loc 24, .fld 3 (.var 1), some ((.loc 23), false), []⟩,
  ⟨.loc 25, .load true 1 (.loc 24), some ((.loc 23), false), []⟩,
  ⟨.loc 26, .call (.fn 122) [(.loc 25)] [.borrow], some ((.loc 23), false), []⟩,
  ⟨.loc 27, .un .not (.loc 26), some ((.loc 23), false), []⟩,
  o1 (.loc 28) (.pick (.loc 23) (.const (.d (.bool true))) (.loc 27)),
  o1 (.loc 29) (.split (.loc 28)),
  ⟨.loc 30, .fld 4 (.var 1), some ((.loc 29), false), []⟩,
  ⟨.loc 31, .load true 1 (.loc 30), some ((.loc 29), false), []⟩,
  ⟨.loc 32, .call (.fn 123) [(.loc 31)] [.borrow], some ((.loc 29), false), []⟩,
  ⟨.loc 33, .un .not (.loc 32), some ((.loc 29), false), []⟩,
  o1 (.loc 34) (.pick (.loc 29) (.const (.d (.bool true))) (.loc 33)),
  o1 (.loc 35) (.split (.loc 34)),
  ⟨.loc 36, .fld 5 (.var 1), some ((.loc 35), false), []⟩,
  ⟨.loc 37, .load true 3 (.loc 36), some ((.loc 35), false), []⟩,
  ⟨.loc 38, .call (.fn 124) [(.loc 37)] [.borrow], some ((.loc 35), false), []⟩,
  ⟨.loc 39, .un .not (.loc 38), some ((.loc 35), false), []⟩,
  o1 (.loc 40) (.pick (.loc 35) (.const (.d (.bool true))) (.loc 39)),
  o1 (.loc 41) (.split (.loc 40)),
  ⟨.loc 42, .fld 8 (.var 1), some ((.loc 41), false), []⟩,
  ⟨.loc 43, .load true 1 (.loc 42), some ((.loc 41), false), []⟩,
  ⟨.loc 44, .call (.fn 125) [(.loc 43)] [.borrow], some ((.loc 41), false), []⟩,
  ⟨.loc 45, .un .not (.loc 44), some ((.loc 41), false), []⟩,
  o1 (.var 46) (.pick (.loc 41) (.const (.d (.bool true))) (.loc 45))] false
def c_I_isWorld_2 : ACode := .reg [o1 (.var 2) (.mv (.const (.d (.bool false))))] false
def c_I_isWorld_3 : ACode := .reg [o1 (.loc 47) (.fld 3 (.var 1)),
  o1 (.loc 48) (.fld 0 (.loc 47)),
  o1 (.loc 49) (.load false 1 (.loc 48)),
  o1 (.loc 50) (.len false (.loc 49)),
  o1 (.var 3) (.mv (.loc 50))] false
def c_I_isWorld_4 : ACode := .reg [o1 (.loc 51) (.mv (.var 3)),
  ⟨.loc 52, .bin .int .gtr (.loc 51) (.const (.d (.int .i64 0))), none, [0]⟩,
  ⟨.loc 53, .split (.loc 52), none, [1, 0]⟩,
  ⟨.loc 54, .fld 3 (.var 1), some ((.loc 53), true), [2, 1, 0]⟩,
  ⟨.loc 55, .fld 0 (.loc 54), some ((.loc 53), true), [3, 2, 1, 0]⟩,
  ⟨.loc 56, .load false 1 (.loc 55), some ((.loc 53), true), [4, 3, 2, 1, 0]⟩,
  ⟨.loc 57, .mv (.var 3), some ((.loc 53), true), [2, 1, 0]⟩,
  ⟨.loc 58, .bin .int .sub (.loc 57) (.const (.d (.int .i64 1))), some ((.loc 53), true), [6, 2, 1, 0]⟩,
  ⟨.loc 59, .idxA 7 (.loc 56) (.loc 58), some ((.loc 53), true), [5, 4, 3, 7, 6, 2, 1, 0]⟩,
  ⟨.loc 60, .fld 0 (.loc 59), some ((.loc 53), true), [8, 5, 4, 3, 7, 6, 2, 1, 0]⟩,
  ⟨.loc 61, .load false 1 (.loc 60), some ((.loc 53), true), [9, 8, 5, 4, 3, 7, 6, 2, 1, 0]⟩,
  ⟨.loc 62, .fld 1 (.var 1), some ((.loc 53), true), [2, 1, 0]⟩,
  ⟨.loc 63, .load false 1 (.loc 62), some ((.loc 53), true), [11, 2, 1, 0]⟩,
  ⟨.loc 64, .bin .int .geq (.loc 61) (.loc 63), some ((.loc 53), true), [10, 9, 8, 5, 4, 3, 7, 6, 12, 11, 2, 1, 0]⟩,
  ⟨.var 65, .pick (.loc 53) (.loc 64) (.const (.d (.bool false))), none, [13, 10, 9, 8, 5, 4, 3, 7, 6, 12, 11, 2, 1, 0]⟩] true
def c_I_isWorld_5 : ACode := .reg [o1 (.var 2) (.mv (.const (.d (.bool false))))] false
def c_I_isWorld_6 : ACode := .reg [o1 (.loc 66) (.fld 4 (.var 1)),
  o1 (.loc 67) (.fld 0 (.loc 66)),
  o1 (.loc 68) (.load false 1 (.loc 67)),
  o1 (.loc 69) (.len false (.loc 68)),
  o1 (.var 4) (.mv (.loc 69))] false
def c_I_isWorld_7 : ACode := .reg [o1 (.loc 70) (.mv (.var 4)),
  ⟨.loc 71, .bin .int .gtr (.loc 70) (.const (.d (.int .i64 0))), none, [0]⟩,
  ⟨.loc 72, .split (.loc 71), none, [1, 0]⟩,
  ⟨.loc 73, .fld 4 (.var 1), some ((.loc 72), true), [2, 1, 0]⟩,
  ⟨.loc 74, .fld 0 (.loc 73), some ((.loc 72), true), [3, 2, 1, 0]⟩,
  ⟨.loc 75, .load false 1 (.loc 74), some ((.loc 72), true), [4, 3, 2, 1, 0]⟩,
  ⟨.loc 76, .mv (.var 4), some ((.loc 72), true), [2, 1, 0]⟩,
  ⟨.loc 77, .bin .int .sub (.loc 76) (.const (.d (.int .i64 1))), some ((.loc 72), true), [6, 2, 1, 0]⟩,
  ⟨.loc 78, .idxA 6 (.loc 75) (.loc 77), some ((.loc 72), true), [5, 4, 3, 7, 6, 2, 1, 0]⟩,
  ⟨.loc 79, .fld 0 (.loc 78), some ((.loc 72), true), [8, 5, 4, 3, 7, 6, 2, 1, 0]⟩,
  ⟨.loc 80, .load false 1 (.loc 79), some ((.loc 72), true), [9, 8, 5, 4, 3, 7, 6, 2, 1, 0]⟩,
  ⟨.loc 81, .fld 1 (.var 1), some ((.loc 72), true), [2, 1, 0]⟩,
  ⟨.loc 82, .load false 1 (.loc 81), some ((.loc 72), true), [11, 2, 1, 0]⟩,
  ⟨.loc 83, .bin .int .geq (.loc 80) (.loc 82), some ((.loc 72), true), [10, 9, 8, 5, 4, 3, 7, 6, 12, 11, 2, 1, 0]⟩,
  ⟨.var 84, .pick (.loc 72) (.loc 83) (.const (.d (.bool false))), none, [13, 10, 9, 8, 5, 4, 3, 7, 6, 12, 11, 2, 1, 0]⟩] true
def c_I_isWorld_8 : ACode := .reg [o1 (.var 2) (.mv (.const (.d (.bool false))))] false
def c_I_isWorld_9 : ACode := .reg [o1 (.loc 85) (.fld 9 (.var 1)),
  o1 (.var 86) (.load false 1 (.loc 85)),
  o1 (.var 87) (.len false (.var 86)),
  o1 (.var 88) (.mv (.const (.d (.int .i64 0))))] false
def c_I_isWorld_10 : ACode := .reg [o1 (.var 89) (.bin .int .lss (.var 88) (.var 87))] false
def c_I_isWorld_11 : ACode := .reg [o1 (.loc 90) (.mv (.var 88)),
  o1 (.loc 91) (.idxA 2 (.var 86) (.var 88)),
  o1 (.loc 92) (.load true 2 (.loc 91)),
  o1 (.var 6) (.alloc [.d (.int .i64 0), .d (.str [])]),
  o1 (.var 5) (.mv (.loc 90)),
  o1 .none (.store 2 (.var 6) (.loc 92))] false
def c_I_isWorld_12 : ACode := .reg [o1 (.loc 93) (.mv (.var 5)),
  ⟨.loc 94, .bin .int .gtr (.loc 93) (.const (.d (.int .i64 0))), none, [0]⟩,
  ⟨.loc 95, .split (.loc 94), none, [1, 0]⟩,
  ⟨.loc 96, .fld 9 (.var 1), some ((.loc 95), true), [2, 1, 0]⟩,
  ⟨.loc 97, .load false 1 (.loc 96), some ((.loc 95), true), [3, 2, 1, 0]⟩,
  ⟨.loc 98, .mv (.var 5), some ((.loc 95), true), [2, 1, 0]⟩,
  ⟨.loc 99, .bin .int .sub (.loc 98) (.const (.d (.int .i64 1))), some ((.loc 95), true), [5, 2, 1, 0]⟩,
  ⟨.loc 100, .idxA 2 (.loc 97) (.loc 99), some ((.loc 95), true), [4, 3, 6, 5, 2, 1, 0]⟩,
  ⟨.loc 101, .fld 0 (.loc 100), some ((.loc 95), true), [7, 4, 3, 6, 5, 2, 1, 0]⟩,
  ⟨.loc 102, .load false 1 (.loc 101), some ((.loc 95), true), [8, 7, 4, 3, 6, 5, 2, 1, 0]⟩,
  ⟨.loc 103, .fld 0 (.var 6), some ((.loc 95), true), [2, 1, 0]⟩,
  ⟨.loc 104, .load false 1 (.loc 103), some ((.loc 95), true), [10, 2, 1, 0]⟩,
  ⟨.loc 105, .bin .int .geq (.loc 102) (.loc 104), some ((.loc 95), true), [9, 8, 7, 4, 3, 6, 5, 11, 10, 2, 1, 0]⟩,
  ⟨.loc 106, .pick (.loc 95) (.loc 105) (.const (.d (.bool false))), none, [12, 9, 8, 7, 4, 3, 6, 5, 11, 10, 2, 1, 0]⟩,
  ⟨.loc 107, .split (.loc 106), none, [13, 12, 9, 8, 7, 4, 3, 6, 5, 11, 10, 2, 1, 0]⟩,
  ⟨.loc 108, .fld 4 (.var 1), some ((.loc 107), false), [14, 13, 12, 9, 8, 7, 4, 3, 6, 5, 11, 10, 2, 1, 0]⟩,
  ⟨.loc 109, .load true 1 (.loc 108), some ((.loc 107), false), [15, 14, 13, 12, 9, 8, 7, 4, 3, 6, 5, 11, 10, 2, 1, 0]⟩,
  ⟨.loc 110, .fld 0 (.var 6), some ((.loc 107), false), [14, 13, 12, 9, 8, 7, 4, 3, 6, 5, 11, 10, 2, 1, 0]⟩,
  ⟨.loc 111, .load false 1 (.loc 110), some ((.loc 107), false), [17, 14, 13, 12, 9, 8, 7, 4, 3, 6, 5, 11, 10, 2, 1, 0]⟩,
  ⟨.loc 112, .call (.fn 94) [(.loc 109), (.loc 111)] [.borrow, .borrow], some ((.loc 107), false), [16, 15, 18, 17, 14, 13, 12, 9, 8, 7, 4, 3, 6, 5, 11, 10, 2, 1, 0]⟩,
  ⟨.loc 113, .bin .int .lss (.loc 112) (.const (.d (.int .i64 0))), some ((.loc 107), false), [19, 16, 15, 18, 17, 14, 13, 12, 9, 8, 7, 4, 3, 6, 5, 11, 10, 2, 1, 0]⟩,
  ⟨.loc 114, .pick (.loc 107) (.const (.d (.bool true))) (.loc 113), none, [20, 19, 16, 15, 18, 17, 14, 13, 12, 9, 8, 7, 4, 3, 6, 5, 11, 10, 2, 1, 0]⟩,
  ⟨.loc 115, .split (.loc 114), none, [21, 20, 19, 16, 15, 18, 17, 14, 13, 12, 9, 8, 7, 4, 3, 6, 5, 11, 10, 2, 1, 0]⟩,
  ⟨.loc 116, .fld 1 (.var 6), some ((.loc 115), false), [22, 21, 20, 19, 16, 15, 18, 17, 14, 13, 12, 9, 8, 7, 4, 3, 6, 5, 11, 10, 2, 1, 0]⟩,
  ⟨.loc 117, .load false 1 (.loc 116), some ((.loc 115), false), [23, 22, 21, 20, 19, 16, 15, 18, 17, 14, 13, 12, 9, 8, 7, 4, 3, 6, 5, 11, 10, 2, 1, 0]⟩,
  ⟨.loc 118, .call (.fn 126) [(.loc 117)] [.borrow], some ((.loc 115), false), [24, 23, 22, 21, 20, 19, 16, 15, 18, 17, 14, 13, 12, 9, 8, 7, 4, 3, 6, 5, 11, 10, 2, 1, 0]⟩,
  ⟨.loc 119, .un .not (.loc 118), some ((.loc 115), false), [25, 24, 23, 22, 21, 20, 19, 16, 15, 18, 17, 14, 13, 12, 9, 8, 7, 4, 3, 6, 5, 11, 10, 2, 1, 0]⟩,
  ⟨.loc 120, .pick (.loc 115) (.const (.d (.bool true))) (.loc 119), none, [26, 25, 24, 23, 22, 21, 20, 19, 16, 15, 18, 17, 14, 13, 12, 9, 8, 7, 4, 3, 6, 5, 11, 10, 2, 1, 0]⟩,
  ⟨.loc 121, .split (.loc 120), none, [27, 26, 25, 24, 23, 22, 21, 20, 19, 16, 15, 18, 17, 14, 13, 12, 9, 8, 7, 4, 3, 6, 5, 11, 10, 2, 1, 0]⟩,
  ⟨.loc 122, .fld 9 (.var 1), some ((.loc 121), false), [28, 27, 26, 25, 24, 23, 22, 21, 20, 19, 16, 15, 18, 17, 14, 13, 12, 9, 8, 7, 4, 3, 6, 5, 11, 10, 2, 1, 0]⟩,
  ⟨.loc 123, .load false 1 (.loc 122), some ((.loc 121), false), [29, 28, 27, 26, 25, 24, 23, 22, 21, 20, 19, 16, 15, 18, 17, 14, 13, 12, 9, 8, 7, 4, 3, 6, 5, 11, 10, 2, 1, 0]⟩,
  ⟨.loc 124, .mv (.var 5), some ((.loc 121), false), [28, 27, 26, 25, 24, 23, 22, 21, 20, 19, 16, 15, 18, 17, 14, 13, 12, 9, 8, 7, 4, 3, 6, 5, 11, 10, 2, 1, 0]⟩,
  ⟨.loc 125, .sliceA 2 (.loc 123) none (some (.loc 124)), some ((.loc 121), false), [30, 29, 31, 28, 27, 26, 25, 24, 23, 22, 21, 20, 19, 16, 15, 18, 17, 14, 13, 12, 9, 8, 7, 4, 3, 6, 5, 11, 10, 2, 1, 0]⟩,
  ⟨.loc 126, .clo 127 [(.var 6)], some ((.loc 121), false), [28, 27, 26, 25, 24, 23, 22, 21, 20, 19, 16, 15, 18, 17, 14, 13, 12, 9, 8, 7, 4, 3, 6, 5, 11, 10, 2, 1, 0]⟩,
  ⟨.loc 127, .call (.fn 68) [(.loc 125), (.loc 126)] [.borrow, .borrow], some ((.loc 121), false), [32, 30, 29, 31, 33, 28, 27, 26, 25, 24, 23, 22, 21, 20, 19, 16, 15, 18, 17, 14, 13, 12, 9, 8, 7, 4, 3, 6, 5, 11, 10, 2, 1, 0]⟩,
  ⟨.var 128, .pick (.loc 121) (.const (.d (.bool true))) (.loc 127), none, [34, 32, 30, 29, 31, 33, 28, 27, 26, 25, 24, 23, 22, 21, 20, 19, 16, 15, 18, 17, 14, 13, 12, 9, 8, 7, 4, 3, 6, 5, 11, 10, 2, 1, 0]⟩] true
def c_I_isWorld_13 : ACode := .reg [o1 (.var 2) (.mv (.const (.d (.bool false))))] false
def c_I_isWorld_14 : ACode := .reg [o1 (.loc 129) (.bin .int .add (.var 88) (.const (.d (.int .i64 1)))),
  o1 (.var 88) (.mv (.loc 129))] false
def c_I_isWorld_15 : ACode := (.seq c_I_isWorld_10 (.seq (.cond (.var 89) .skip (.exit 0)) (.seq (.block 1 (.seq c_I_isWorld_11 (.seq c_I_isWorld_12 (.cond (.var 128) (.seq c_I_isWorld_13 .ret) .skip)))) c_I_isWorld_14)))
def c_I_isWorld_16 : ACode := .reg [o1 (.var 2) (.mv (.const (.d (.bool true))))] false
def c_I_isWorld : ACode := (.seq c_I_isWorld_0 (.seq (.seq c_I_isWorld_1 (.cond (.var 46) (.seq c_I_isWorld_2 .ret) .skip)) (.seq (.seq c_I_isWorld_3 (.seq c_I_isWorld_4 (.cond (.var 65) (.seq c_I_isWorld_5 .ret) .skip))) (.seq (.seq c_I_isWorld_6 (.seq c_I_isWorld_7 (.cond (.var 84) (.seq c_I_isWorld_8 .ret) .skip))) (.seq (.seq c_I_isWorld_9 (.block 0 (.loop [1, 86, 87, 88] c_I_isWorld_15))) (.seq c_I_isWorld_16 .ret))))))
abbrev F_I_isWorld : FuncId := 61
theorem k_I_isWorld : comp PP (Tryz.f61.ntmps, pinOf 0 [none]) [0, 1, 2, 3, 4, 5, 6, 46, 65, 84, 86, 87, 88, 89, 128] (Tryz.f61.body.getD .skip) = some c_I_isWorld.erase := by kernel_rfl
theorem v_I_isWorld {GG : GV} (rcs : List C) {cs : List C} {r : C} {os : List (Option C)} (hN : (cs.length == 1 && rcs.length == 1) = true) (hret : retOf rcs = r) (hW : WX GG [0, 1, 2, 3, 4, 5, 6, 46, 65, 84, 86, 87, 88, 89, 128] Tryz.f61.ntmps [none] [(.give, 2, none)] c_I_isWorld rcs cs os) : Valid PP GG F_I_isWorld cs r os :=
  fn_valid_n 1 1 _ _ _ _ rcs Tryz.func61 rfl rfl (by kernel_rfl) k_I_isWorld rfl rfl hN hret hW
def c_L_eqForest_0 : ACode := .reg [o1 (.var 2) (.box (.var 0)),
  o1 (.var 3) (.box (.var 1)),
  o1 (.var 4) (.mv (.const (.d (.bool false))))] false
def c_L_eqForest_1 : ACode := .reg [o1 (.loc 5) (.fld 0 (.var 2)),
  o1 (.loc 6) (.load false 1 (.loc 5)),
  o1 (.loc 7) (.fld 0 (.var 3)),
  o1 (.loc 8) (.load false 1 (.loc 7)),
  o1 (.loc 9) (.call (.fn 128) [(.loc 6), (.loc 8)] [.borrow, .borrow]),
  o1 (.var 10) (.un .not (.loc 9))] false
def c_L_eqForest_2 : ACode := .reg [o1 (.var 4) (.mv (.const (.d (.bool false))))] false
def c_L_eqForest_3 : ACode := .reg [o1 (.var 4) (.mv (.const (.d (.bool true))))] false
def c_L_eqForest : ACode := (.seq c_L_eqForest_0 (.seq (.seq c_L_eqForest_1 (.cond (.var 10) (.seq c_L_eqForest_2 .ret) .skip)) (.seq c_L_eqForest_3 .ret)))
abbrev F_L_eqForest : FuncId := 62
theorem k_L_eqForest : comp PP (Tryz.f62.ntmps, pinOf 0 [none, none]) [0, 1, 2, 3, 4, 10] (Tryz.f62.body.getD .skip) = some c_L_eqForest.erase := by kernel_rfl
theorem v_L_eqForest {GG : GV} (rcs : List C) {cs : List C} {r : C} {os : List (Option C)} (hN : (cs.length == 2 && rcs.length == 1) = true) (hret : retOf rcs = r) (hW : WX GG [0, 1, 2, 3, 4, 10] Tryz.f62.ntmps [none, none] [(.give, 4, none)] c_L_eqForest rcs cs os) : Valid PP GG F_L_eqForest cs r os :=
  fn_valid_n 2 1 _ _ _ _ rcs Tryz.func62 rfl rfl (by kernel_rfl) k_L_eqForest rfl rfl hN hret hW
def c_L_eqBook_0 : ACode := .reg [o1 (.var 2) (.box (.var 0)),
  o1 (.var 3) (.box (.var 1)),
  o1 (.var 4) (.mv (.const (.d (.bool false))))] false
def c_L_eqBook_1 : ACode := .reg [o1 (.loc 5) (.fld 0 (.var 2)),
  o1 (.loc 6) (.load false 1 (.loc 5)),
  o1 (.loc 7) (.fld 0 (.var 3)),
  o1 (.loc 8) (.load false 1 (.loc 7)),
  o1 (.loc 9) (.call (.fn 129) [(.loc 6), (.loc 8)] [.borrow, .borrow]),
  o1 (.var 10) (.un .not (.loc 9))] false
def c_L_eqBook_2 : ACode := .reg [o1 (.var 4) (.mv (.const (.d (.bool false))))] false
def c_L_eqBook_3 : ACode := .reg [o1 (.var 4) (.mv (.const (.d (.bool true))))] false
def c_L_eqBook : ACode := (.seq c_L_eqBook_0 (.seq (.seq c_L_eqBook_1 (.cond (.var 10) (.seq c_L_eqBook_2 .ret) .skip)) (.seq c_L_eqBook_3 .ret)))
abbrev F_L_eqBook : FuncId := 63
theorem k_L_eqBook : comp PP (Tryz.f63.ntmps, pinOf 0 [none, none]) [0, 1, 2, 3, 4, 10] (Tryz.f63.body.getD .skip) = some c_L_eqBook.erase := by kernel_rfl
theorem v_L_eqBook {GG : GV} (rcs : List C) {cs : List C} {r : C} {os : List (Option C)} (hN : (cs.length == 2 && rcs.length == 1) = true) (hret : retOf rcs = r) (hW : WX GG [0, 1, 2, 3, 4, 10] Tryz.f63.ntmps [none, none] [(.give, 4, none)] c_L_eqBook rcs cs os) : Valid PP GG F_L_eqBook cs r os :=
  fn_valid_n 2 1 _ _ _ _ rcs Tryz.func63 rfl rfl (by kernel_rfl) k_L_eqBook rfl rfl hN hret hW
def c_L_eqFar_0 : ACode := .reg [o1 (.var 2) (.box (.var 0)),
  o1 (.var 3) (.box (.var 1)),
  o1 (.var 4) (.mv (.const (.d (.bool false))))] false
def c_L_eqFar_1 : ACode := .reg [o1 (.loc 5) (.fld 0 (.var 2)),
  o1 (.loc 6) (.load false 1 (.loc 5)),
  o1 (.loc 7) (.fld 0 (.var 3)),
  o1 (.loc 8) (.load false 1 (.loc 7)),
  o1 (.loc 9) (.call (.fn 130) [(.loc 6), (.loc 8)] [.borrow, .borrow]),
  o1 (.var 10) (.un .not (.loc 9))] false
def c_L_eqFar_2 : ACode := .reg [o1 (.var 4) (.mv (.const (.d (.bool false))))] false
def c_L_eqFar_3 : ACode := .reg [o1 (.loc 11) (.fld 1 (.var 2)),
  o1 (.loc 12) (.load false 1 (.loc 11)),
  o1 (.loc 13) (.fld 1 (.var 3)),
  o1 (.loc 14) (.load false 1 (.loc 13)),
  o1 (.var 15) (.bin .int .neq (.loc 12) (.loc 14))] false
def c_L_eqFar_4 : ACode := .reg [o1 (.var 4) (.mv (.const (.d (.bool false))))] false
def c_L_eqFar_5 : ACode := .reg [o1 (.loc 16) (.fld 2 (.var 2)),
  o1 (.loc 17) (.load false 1 (.loc 16)),
  o1 (.loc 18) (.fld 2 (.var 3)),
  o1 (.loc 19) (.load false 1 (.loc 18)),
  o1 (.var 20) (.bin .int .neq (.loc 17) (.loc 19))] false
def c_L_eqFar_6 : ACode := .reg [o1 (.var 4) (.mv (.const (.d (.bool false))))] false
def c_L_eqFar_7 : ACode := .reg [o1 (.var 4) (.mv (.const (.d (.bool true))))] false
def c_L_eqFar : ACode := (.seq c_L_eqFar_0 (.seq (.seq c_L_eqFar_1 (.cond (.var 10) (.seq c_L_eqFar_2 .ret) .skip)) (.seq (.seq c_L_eqFar_3 (.cond (.var 15) (.seq c_L_eqFar_4 .ret) .skip)) (.seq (.seq c_L_eqFar_5 (.cond (.var 20) (.seq c_L_eqFar_6 .ret) .skip)) (.seq c_L_eqFar_7 .ret)))))
abbrev F_L_eqFar : FuncId := 64
theorem k_L_eqFar : comp PP (Tryz.f64.ntmps, pinOf 0 [none, none]) [0, 1, 2, 3, 4, 10, 15, 20] (Tryz.f64.body.getD .skip) = some c_L_eqFar.erase := by kernel_rfl
theorem v_L_eqFar {GG : GV} (rcs : List C) {cs : List C} {r : C} {os : List (Option C)} (hN : (cs.length == 2 && rcs.length == 1) = true) (hret : retOf rcs = r) (hW : WX GG [0, 1, 2, 3, 4, 10, 15, 20] Tryz.f64.ntmps [none, none] [(.give, 4, none)] c_L_eqFar rcs cs os) : Valid PP GG F_L_eqFar cs r os :=
  fn_valid_n 2 1 _ _ _ _ rcs Tryz.func64 rfl rfl (by kernel_rfl) k_L_eqFar rfl rfl hN hret hW
def c_L_eqQueue_0 : ACode := .reg [o1 (.var 2) (.box (.var 0)),
  o1 (.var 3) (.box (.var 1)),
  o1 (.var 4) (.mv (.const (.d (.bool false))))] false
def c_L_eqQueue_1 : ACode := .reg [o1 (.loc 5) (.fld 0 (.var 2)),
  o1 (.loc 6) (.load false 1 (.loc 5)),
  o1 (.loc 7) (.fld 0 (.var 3)),
  o1 (.loc 8) (.load false 1 (.loc 7)),
  o1 (.loc 9) (.call (.fn 131) [(.loc 6), (.loc 8)] [.borrow, .borrow]),
  o1 (.var 10) (.un .not (.loc 9))] false
def c_L_eqQueue_2 : ACode := .reg [o1 (.var 4) (.mv (.const (.d (.bool false))))] false
def c_L_eqQueue_3 : ACode := .reg [o1 (.var 4) (.mv (.const (.d (.bool true))))] false
def c_L_eqQueue : ACode := (.seq c_L_eqQueue_0 (.seq (.seq c_L_eqQueue_1 (.cond (.var 10) (.seq c_L_eqQueue_2 .ret) .skip)) (.seq c_L_eqQueue_3 .ret)))
abbrev F_L_eqQueue : FuncId := 65
theorem k_L_eqQueue : comp PP (Tryz.f65.ntmps, pinOf 0 [none, none]) [0, 1, 2, 3, 4, 10] (Tryz.f65.body.getD .skip) = some c_L_eqQueue.erase := by kernel_rfl
theorem v_L_eqQueue {GG : GV} (rcs : List C) {cs : List C} {r : C} {os : List (Option C)} (hN : (cs.length == 2 && rcs.length == 1) = true) (hret : retOf rcs = r) (hW : WX GG [0, 1, 2, 3, 4, 10] Tryz.f65.ntmps [none, none] [(.give, 4, none)] c_L_eqQueue rcs cs os) : Valid PP GG F_L_eqQueue cs r os :=
  fn_valid_n 2 1 _ _ _ _ rcs Tryz.func65 rfl rfl (by kernel_rfl) k_L_eqQueue rfl rfl hN hret hW
def c_L_eqOwnedS_0 : ACode := .reg [o1 (.var 4) (.mv (.const (.d (.bool false))))] false
def c_L_eqOwnedS_1 : ACode := .reg [o1 (.loc 6) (.mv (.var 0)),
  o1 (.loc 7) (.len false (.loc 6)),
  o1 (.loc 8) (.mv (.var 1)),
  o1 (.loc 9) (.len false (.loc 8)),
  o1 (.var 10) (.bin .int .neq (.loc 7) (.loc 9))] false
def c_L_eqOwnedS_2 : ACode := .reg [o1 (.var 4) (.mv (.const (.d (.bool false))))] false
def c_L_eqOwnedS_3 : ACode := .reg [o1 (.var 5) (.mv (.const (.d (.int .i64 0))))] false
def c_L_eqOwnedS_4 : ACode := .reg [o1 (.loc 11) (.mv (.var 5)),
  o1 (.loc 12) (.mv (.var 0)),
  o1 (.loc 13) (.len false (.loc 12)),
  o1 (.var 14) (.bin .int .lss (.loc 11) (.loc 13))] false
def c_L_eqOwnedS_5 : ACode := .reg [o1 (.loc 17) (.mv (.var 0)),
  o1 (.loc 18) (.mv (.var 5)),
  ⟨.loc 19, .idxA 2 (.loc 17) (.loc 18), none, [0, 1]⟩,
  ⟨.loc 20, .load true 2 (.loc 19), none, [2, 0, 1]⟩,
  o1 (.loc 21) (.mv (.var 1)),
  o1 (.loc 22) (.mv (.var 5)),
  ⟨.loc 23, .idxA 2 (.loc 21) (.loc 22), none, [4, 5]⟩,
  ⟨.loc 24, .load true 2 (.loc 23), none, [6, 4, 5]⟩,
  ⟨.loc 25, .call (.fn 132) [(.loc 20), (.loc 24)] [.borrow, .borrow], none, [3, 2, 0, 1, 7, 6, 4, 5]⟩,
  ⟨.var 26, .un .not (.loc 25), none, [8, 3, 2, 0, 1, 7, 6, 4, 5]⟩] true
def c_L_eqOwnedS_6 : ACode := .reg [o1 (.var 4) (.mv (.const (.d (.bool false))))] false
def c_L_eqOwnedS_7 : ACode := .reg [o1 (.loc 15) (.mv (.var 5)),
  o1 (.loc 16) (.bin .int .add (.loc 15) (.const (.d (.int .i64 1)))),
  o1 (.var 5) (.mv (.loc 16))] false
def c_L_eqOwnedS_8 : ACode := (.seq (.seq c_L_eqOwnedS_4 (.cond (.var 14) .skip (.exit 0))) (.seq (.block 1 (.seq c_L_eqOwnedS_5 (.cond (.var 26) (.seq c_L_eqOwnedS_6 .ret) .skip))) c_L_eqOwnedS_7))
def c_L_eqOwnedS_9 : ACode := .reg [o1 (.var 4) (.mv (.const (.d (.bool true))))] false
def c_L_eqOwnedS : ACode := (.seq c_L_eqOwnedS_0 (.seq (.seq c_L_eqOwnedS_1 (.cond (.var 10) (.seq c_L_eqOwnedS_2 .ret) .skip)) (.seq (.seq c_L_eqOwnedS_3 (.block 0 (.loop [0, 1, 5] c_L_eqOwnedS_8))) (.seq c_L_eqOwnedS_9 .ret))))
abbrev F_L_eqOwnedS : FuncId := 66
theorem k_L_eqOwnedS : comp PP (Tryz.f66.ntmps, pinOf 0 [none, none]) [0, 1, 4, 5, 10, 14, 26] (Tryz.f66.body.getD .skip) = some c_L_eqOwnedS.erase := by kernel_rfl
theorem v_L_eqOwnedS {GG : GV} (rcs : List C) {cs : List C} {r : C} {os : List (Option C)} (hN : (cs.length == 2 && rcs.length == 1) = true) (hret : retOf rcs = r) (hW : WX GG [0, 1, 4, 5, 10, 14, 26] Tryz.f66.ntmps [none, none] [(.give, 4, none)] c_L_eqOwnedS rcs cs os) : Valid PP GG F_L_eqOwnedS cs r os :=
  fn_valid_n 2 1 _ _ _ _ rcs Tryz.func66 rfl rfl (by kernel_rfl) k_L_eqOwnedS rfl rfl hN hret hW
def c_I_hasJob_0 : ACode := .reg [o1 (.var 2) (.box (.var 0)),
  o1 (.var 3) (.box (.var 1)),
  o1 (.var 4) (.mv (.const (.d (.bool false))))] false
def c_I_hasJob_1 : ACode := .reg [o1 (.loc 5) (.fld 0 (.var 2)),
  o1 (.loc 6) (.load false 1 (.loc 5)),
  o1 (.loc 7) (.clo 134 [(.var 3)]),
  o1 (.loc 8) (.call (.fn 133) [(.loc 6), (.loc 7)] [.borrow, .borrow]),
  o1 (.var 4) (.mv (.loc 8))] false
def c_I_hasJob : ACode := (.seq c_I_hasJob_0 (.seq c_I_hasJob_1 .ret))
abbrev F_I_hasJob : FuncId := 67
theorem k_I_hasJob : comp PP (Tryz.f67.ntmps, pinOf 0 [none, none]) [0, 1, 2, 3, 4] (Tryz.f67.body.getD .skip) = some c_I_hasJob.erase := by kernel_rfl
theorem v_I_hasJob {GG : GV} (rcs : List C) {cs : List C} {r : C} {os : List (Option C)} (hN : (cs.length == 2 && rcs.length == 1) = true) (hret : retOf rcs = r) (hW : WX GG [0, 1, 2, 3, 4] Tryz.f67.ntmps [none, none] [(.give, 4, none)] c_I_hasJob rcs cs os) : Valid PP GG F_I_hasJob cs r os :=
  fn_valid_n 2 1 _ _ _ _ rcs Tryz.func67 rfl rfl (by kernel_rfl) k_I_hasJob rfl rfl hN hret hW
def c_slices_ContainsFunc___impl_Owned_impl_Owned__0 : ACode := .reg [o1 (.var 4) (.mv (.const (.d (.bool false))))] false
def c_slices_ContainsFunc___impl_Owned_impl_Owned__1 : ACode := .reg [o1 (.loc 5) (.mv (.var 0)),
  o1 (.loc 6) (.mv (.var 1)),
  o1 (.loc 7) (.call (.fn 135) [(.loc 5), (.loc 6)] [.borrow, .borrow]),
  o1 (.loc 8) (.bin .int .geq (.loc 7) (.const (.d (.int .i64 0)))),
  o1 (.var 4) (.mv (.loc 8))] false
def c_slices_ContainsFunc___impl_Owned_impl_Owned_ : ACode := (.seq c_slices_ContainsFunc___impl_Owned_impl_Owned__0 (.seq c_slices_ContainsFunc___impl_Owned_impl_Owned__1 .ret))
abbrev F_slices_ContainsFunc___impl_Owned_impl_Owned_ : FuncId := 68
theorem k_slices_ContainsFunc___impl_Owned_impl_Owned_ : comp PP (Tryz.f68.ntmps, pinOf 0 [none, none]) [0, 1, 4] (Tryz.f68.body.getD .skip) = some c_slices_ContainsFunc___impl_Owned_impl_Owned_.erase := by kernel_rfl
theorem v_slices_ContainsFunc___impl_Owned_impl_Owned_ {GG : GV} (rcs : List C) {cs : List C} {r : C} {os : List (Option C)} (hN : (cs.length == 2 && rcs.length == 1) = true) (hret : retOf rcs = r) (hW : WX GG [0, 1, 4] Tryz.f68.ntmps [none, none] [(.give, 4, none)] c_slices_ContainsFunc___impl_Owned_impl_Owned_ rcs cs os) : Valid PP GG F_slices_ContainsFunc___impl_Owned_impl_Owned_ cs r os :=
  fn_valid_n 2 1 _ _ _ _ rcs Tryz.func68 rfl rfl (by kernel_rfl) k_slices_ContainsFunc___impl_Owned_impl_Owned_ rfl rfl hN hret hW
def c_L_markForest_0 : ACode := .reg [o1 (.var 2) (.box (.var 0)),
  o1 (.var 4) (.mv (.const (.d (.int .i64 0))))] false
def c_L_markForest_1 : ACode := .reg [o1 (.loc 5) (.fld 0 (.var 2)),
  o1 (.loc 6) (.load false 1 (.loc 5)),
  o1 (.loc 7) (.mv (.var 1)),
  o1 (.loc 8) (.call (.fn 136) [(.loc 6), (.loc 7)] [.lend, .borrow]),
  o1 (.var 1) (.mv (.loc 8))] false
def c_L_markForest_2 : ACode := .reg [o1 (.loc 9) (.mv (.var 1)),
  o1 (.var 4) (.mv (.loc 9))] false
def c_L_markForest : ACode := (.seq c_L_markForest_0 (.seq c_L_markForest_1 (.seq c_L_markForest_2 .ret)))
abbrev F_L_markForest : FuncId := 70
theorem k_L_markForest : comp PP (Tryz.f70.ntmps, pinOf 0 [some .give, none]) [0, 1, 2, 4] (Tryz.f70.body.getD .skip) = some c_L_markForest.erase := by kernel_rfl
theorem v_L_markForest {GG : GV} (rcs : List C) {cs : List C} {r : C} {os : List (Option C)} (hN : (cs.length == 2 && rcs.length == 1) = true) (hret : retOf rcs = r) (hW : WX GG [0, 1, 2, 4] Tryz.f70.ntmps [some .give, none] [(.give, 4, none)] c_L_markForest rcs cs os) : Valid PP GG F_L_markForest cs r os :=
  fn_valid_n 2 1 _ _ _ _ rcs Tryz.func70 rfl rfl (by kernel_rfl) k_L_markForest rfl rfl hN hret hW
def c_L_markBook_0 : ACode := .reg [o1 (.var 2) (.box (.var 0)),
  o1 (.var 4) (.mv (.const (.d (.int .i64 0))))] false
def c_L_markBook_1 : ACode := .reg [o1 (.loc 5) (.fld 0 (.var 2)),
  o1 (.loc 6) (.load false 1 (.loc 5)),
  o1 (.loc 7) (.mv (.var 1)),
  o1 (.loc 8) (.call (.fn 137) [(.loc 6), (.loc 7)] [.lend, .borrow]),
  o1 (.var 1) (.mv (.loc 8))] false
def c_L_markBook_2 : ACode := .reg [o1 (.loc 9) (.mv (.var 1)),
  o1 (.var 4) (.mv (.loc 9))] false
def c_L_markBook : ACode := (.seq c_L_markBook_0 (.seq c_L_markBook_1 (.seq c_L_markBook_2 .ret)))
abbrev F_L_markBook : FuncId := 71
theorem k_L_markBook : comp PP (Tryz.f71.ntmps, pinOf 0 [some .give, none]) [0, 1, 2, 4] (Tryz.f71.body.getD .skip) = some c_L_markBook.erase := by kernel_rfl
theorem v_L_markBook {GG : GV} (rcs : List C) {cs : List C} {r : C} {os : List (Option C)} (hN : (cs.length == 2 && rcs.length == 1) = true) (hret : retOf rcs = r) (hW : WX GG [0, 1, 2, 4] Tryz.f71.ntmps [some .give, none] [(.give, 4, none)] c_L_markBook rcs cs os) : Valid PP GG F_L_markBook cs r os :=
  fn_valid_n 2 1 _ _ _ _ rcs Tryz.func71 rfl rfl (by kernel_rfl) k_L_markBook rfl rfl hN hret hW
def c_L_markFar_0 : ACode := .reg [o1 (.var 2) (.box (.var 0)),
  o1 (.var 4) (.mv (.const (.d (.int .i64 0))))] false
def c_L_markFar_1 : ACode := .reg [o1 (.loc 5) (.fld 0 (.var 2)),
  o1 (.loc 6) (.load false 1 (.loc 5)),
  o1 (.loc 7) (.mv (.var 1)),
  o1 (.loc 8) (.call (.fn 138) [(.loc 6), (.loc 7)] [.lend, .borrow]),
  o1 (.var 1) (.mv (.loc 8))] false
def c_L_markFar_2 : ACode := .reg [o1 (.loc 9) (.mv (.var 1)),
  o1 (.var 4) (.mv (.loc 9))] false
def c_L_markFar : ACode := (.seq c_L_markFar_0 (.seq c_L_markFar_1 (.seq c_L_markFar_2 .ret)))
abbrev F_L_markFar : FuncId := 72
theorem k_L_markFar : comp PP (Tryz.f72.ntmps, pinOf 0 [some .give, none]) [0, 1, 2, 4] (Tryz.f72.body.getD .skip) = some c_L_markFar.erase := by kernel_rfl
theorem v_L_markFar {GG : GV} (rcs : List C) {cs : List C} {r : C} {os : List (Option C)} (hN : (cs.length == 2 && rcs.length == 1) = true) (hret : retOf rcs = r) (hW : WX GG [0, 1, 2, 4] Tryz.f72.ntmps [some .give, none] [(.give, 4, none)] c_L_markFar rcs cs os) : Valid PP GG F_L_markFar cs r os :=
  fn_valid_n 2 1 _ _ _ _ rcs Tryz.func72 rfl rfl (by kernel_rfl) k_L_markFar rfl rfl hN hret hW
def c_L_markQueue_0 : ACode := .reg [o1 (.var 2) (.box (.var 0)),
  o1 (.var 4) (.mv (.const (.d (.int .i64 0))))] false
def c_L_markQueue_1 : ACode := .reg [o1 (.loc 5) (.fld 0 (.var 2)),
  o1 (.loc 6) (.load false 1 (.loc 5)),
  o1 (.loc 7) (.mv (.var 1)),
  o1 (.loc 8) (.call (.fn 139) [(.loc 6), (.loc 7)] [.lend, .borrow]),
  o1 (.var 1) (.mv (.loc 8))] false
def c_L_markQueue_2 : ACode := .reg [o1 (.loc 9) (.mv (.var 1)),
  o1 (.var 4) (.mv (.loc 9))] false
def c_L_markQueue : ACode := (.seq c_L_markQueue_0 (.seq c_L_markQueue_1 (.seq c_L_markQueue_2 .ret)))
abbrev F_L_markQueue : FuncId := 73
theorem k_L_markQueue : comp PP (Tryz.f73.ntmps, pinOf 0 [some .give, none]) [0, 1, 2, 4] (Tryz.f73.body.getD .skip) = some c_L_markQueue.erase := by kernel_rfl
theorem v_L_markQueue {GG : GV} (rcs : List C) {cs : List C} {r : C} {os : List (Option C)} (hN : (cs.length == 2 && rcs.length == 1) = true) (hret : retOf rcs = r) (hW : WX GG [0, 1, 2, 4] Tryz.f73.ntmps [some .give, none] [(.give, 4, none)] c_L_markQueue rcs cs os) : Valid PP GG F_L_markQueue cs r os :=
  fn_valid_n 2 1 _ _ _ _ rcs Tryz.func73 rfl rfl (by kernel_rfl) k_L_markQueue rfl rfl hN hret hW
def c_L_markOwnedS_0 : ACode := .reg [o1 (.var 4) (.mv (.const (.d (.int .i64 0))))] false
def c_L_markOwnedS_1 : ACode := .reg [o1 (.var 5) (.mv (.const (.d (.int .i64 0))))] false
def c_L_markOwnedS_2 : ACode := .reg [o1 (.loc 6) (.mv (.var 5)),
  o1 (.loc 7) (.mv (.var 0)),
  o1 (.loc 8) (.len false (.loc 7)),
  o1 (.var 9) (.bin .int .lss (.loc 6) (.loc 8))] false
def c_L_markOwnedS_3 : ACode := .reg [o1 (.loc 12) (.mv (.var 0)),
  o1 (.loc 13) (.mv (.var 5)),
  o1 (.loc 14) (.mv (.var 1)),
  o1 (.loc 15) (.idxA 2 (.loc 12) (.loc 13)),
  o1 (.loc 16) (.fld 0 (.loc 15)),
  o1 .none (.store 1 (.loc 16) (.loc 14))] false
def c_L_markOwnedS_4 : ACode := .reg [o1 (.loc 17) (.mv (.var 1)),
  o1 (.loc 18) (.bin .int .add (.loc 17) (.const (.d (.int .i64 1)))),
  o1 (.var 1) (.mv (.loc 18))] false
def c_L_markOwnedS_5 : ACode := .reg [o1 (.loc 19) (.mv (.var 0)),
  o1 (.loc 20) (.mv (.var 5)),
  o1 (.loc 21) (.mv (.var 1)),
  o1 (.loc 22) (.call (.fn 75) [(.loc 21)] [.borrow]),
  o1 (.loc 23) (.idxA 2 (.loc 19) (.loc 20)),
  o1 (.loc 24) (.fld 1 (.loc 23)),
  o1 .none (.store 1 (.loc 24) (.loc 22))] false
def c_L_markOwnedS_6 : ACode := .reg [o1 (.loc 25) (.mv (.var 1)),
  o1 (.loc 26) (.bin .int .add (.loc 25) (.const (.d (.int .i64 1)))),
  o1 (.var 1) (.mv (.loc 26))] false
def c_L_markOwnedS_7 : ACode := .reg [o1 (.loc 10) (.mv (.var 5)),
  o1 (.loc 11) (.bin .int .add (.loc 10) (.const (.d (.int .i64 1)))),
  o1 (.var 5) (.mv (.loc 11))] false
def c_L_markOwnedS_8 : ACode := (.seq (.seq c_L_markOwnedS_2 (.cond (.var 9) .skip (.exit 0))) (.seq (.block 1 (.seq c_L_markOwnedS_3 (.seq c_L_markOwnedS_4 (.seq c_L_markOwnedS_5 c_L_markOwnedS_6)))) c_L_markOwnedS_7))
def c_L_markOwnedS_9 : ACode := .reg [o1 (.loc 27) (.mv (.var 1)),
  o1 (.var 4) (.mv (.loc 27))] false
def c_L_markOwnedS : ACode := (.seq c_L_markOwnedS_0 (.seq (.seq c_L_markOwnedS_1 (.block 0 (.loop [0, 1, 5] c_L_markOwnedS_8))) (.seq c_L_markOwnedS_9 .ret)))
abbrev F_L_markOwnedS : FuncId := 74
theorem k_L_markOwnedS : comp PP (Tryz.f74.ntmps, pinOf 0 [some .give, none]) [0, 1, 4, 5, 9] (Tryz.f74.body.getD .skip) = some c_L_markOwnedS.erase := by kernel_rfl
theorem v_L_markOwnedS {GG : GV} (rcs : List C) {cs : List C} {r : C} {os : List (Option C)} (hN : (cs.length == 2 && rcs.length == 1) = true) (hret : retOf rcs = r) (hW : WX GG [0, 1, 4, 5, 9] Tryz.f74.ntmps [some .give, none] [(.give, 4, none)] c_L_markOwnedS rcs cs os) : Valid PP GG F_L_markOwnedS cs r os :=
  fn_valid_n 2 1 _ _ _ _ rcs Tryz.func74 rfl rfl (by kernel_rfl) k_L_markOwnedS rfl rfl hN hret hW
def c_L_markText_0 : ACode := .reg [o1 (.var 2) (.mv (.const (.d (.str []))))] false
def c_L_markText_1 : ACode := .reg [o1 (.loc 4) (.mv (.var 0)),
  o1 (.var 5) (.bin .int .leq (.loc 4) (.const (.d (.int .i64 0))))] false
def c_L_markText_2 : ACode := .reg [o1 (.var 2) (.mv (.const (.d (.str [109, 48]))))] false
def c_L_markText_3 : ACode := .reg [o1 (.var 3) (.mv (.const (.d (.str []))))] false
def c_L_markText_4 : ACode := .reg [o1 (.loc 6) (.mv (.var 0)),
  o1 (.var 7) (.bin .int .gtr (.loc 6) (.const (.d (.int .i64 0))))] false
def c_L_markText_5 : ACode := .reg [o1 (.loc 8) (.mv (.var 0)),
  o1 (.loc 9) (.bin .int .rem (.loc 8) (.const (.d (.int .i64 10)))),
  o1 (.loc 10) (.bin .int .add (.const (.d (.int .i64 48))) (.loc 9)),
  o1 (.loc 11) (.conv .u8 (.loc 10)),
  o1 (.loc 12) (.lit 0 1 1 [.int .u8 0] [(0, (.loc 11))]),
  o1 (.loc 13) (.b2s (.loc 12)),
  o1 (.loc 14) (.mv (.var 3)),
  o1 (.loc 15) (.bin .str .add (.loc 13) (.loc 14)),
  o1 (.var 3) (.mv (.loc 15))] false
def c_L_markText_6 : ACode := .reg [o1 (.loc 16) (.mv (.var 0)),
  o1 (.loc 17) (.bin .int .quo (.loc 16) (.const (.d (.int .i64 10)))),
  o1 (.var 0) (.mv (.loc 17))] false
def c_L_markText_7 : ACode := (.seq (.seq c_L_markText_4 (.cond (.var 7) .skip (.exit 0))) (.block 1 (.seq c_L_markText_5 c_L_markText_6)))
def c_L_markText_8 : ACode := .reg [o1 (.loc 18) (.mv (.var 3)),
  o1 (.loc 19) (.bin .str .add (.const (.d (.str [109]))) (.loc 18)),
  o1 (.var 2) (.mv (.loc 19))] false
def c_L_markText : ACode := (.seq c_L_markText_0 (.seq (.seq c_L_markText_1 (.cond (.var 5) (.seq c_L_markText_2 .ret) .skip)) (.seq c_L_markText_3 (.seq (.block 0 (.loop [0, 3] c_L_markText_7)) (.seq c_L_markText_8 .ret)))))
abbrev F_L_markText : FuncId := 75
theorem k_L_markText : comp PP (Tryz.f75.ntmps, pinOf 0 [none]) [0, 2, 3, 5, 7] (Tryz.f75.body.getD .skip) = some c_L_markText.erase := by kernel_rfl
theorem v_L_markText {GG : GV} (rcs : List C) {cs : List C} {r : C} {os : List (Option C)} (hN : (cs.length == 1 && rcs.length == 1) = true) (hret : retOf rcs = r) (hW : WX GG [0, 2, 3, 5, 7] Tryz.f75.ntmps [none] [(.give, 2, none)] c_L_markText rcs cs os) : Valid PP GG F_L_markText cs r os :=
  fn_valid_n 1 1 _ _ _ _ rcs Tryz.func75 rfl rfl (by kernel_rfl) k_L_markText rfl rfl hN hret hW
def c_S_Below_0 : ACode := .reg [o1 (.var 2) (.box (.var 0)),
  o1 (.var 4) (.mv (.const (.nil 0 1)))] false
def c_S_Below_1 : ACode := .reg [o1 (.loc 7) (.lit 0 1 0 [.int .i64 0] []),
  o1 (.var 5) (.mv (.loc 7))] false
def c_S_Below_2 : ACode := .reg [o1 (.loc 8) (.load true 1 (.var 2)),
  o1 (.loc 9) (.call (.fn 50) [(.loc 8)] [.borrow]),
  o1 (.loc 10) (.un .not (.loc 9)),
  o1 (.loc 11) (.split (.loc 10)),
  ⟨.loc 12, .load true 1 (.var 2), some ((.loc 11), false), []⟩,
  ⟨.loc 13, .mv (.var 1), some ((.loc 11), false), []⟩,
  ⟨.loc 14, .call (.fn 115) [(.loc 12), (.loc 13)] [.borrow, .borrow], some ((.loc 11), false), []⟩,
  ⟨.loc 15, .bin .int .lss (.loc 14) (.const (.d (.int .i64 0))), some ((.loc 11), false), []⟩,
  o1 (.var 16) (.pick (.loc 11) (.const (.d (.bool true))) (.loc 15))] false
def c_S_Below_3 : ACode := .reg [o1 (.var 4) (.mv (.const (.nil 0 1)))] false
def c_S_Below_4 : ACode := .reg [o1 (.var 6) (.mv (.const (.d (.int .i64 0))))] false
def c_S_Below_5 : ACode := .reg [o1 (.loc 17) (.mv (.var 6)),
  o1 (.loc 18) (.fld 0 (.var 2)),
  o1 (.loc 19) (.load false 1 (.loc 18)),
  o1 (.loc 20) (.len false (.loc 19)),
  o1 (.var 21) (.bin .int .lss (.loc 17) (.loc 20))] false
def c_S_Below_6 : ACode := .reg [o1 (.loc 24) (.load true 1 (.var 2)),
  o1 (.loc 25) (.fld 0 (.var 2)),
  ⟨.loc 26, .load false 1 (.loc 25), none, [1]⟩,
  o1 (.loc 27) (.mv (.var 6)),
  ⟨.loc 28, .idxA 7 (.loc 26) (.loc 27), none, [2, 1, 3]⟩,
  ⟨.loc 29, .fld 0 (.loc 28), none, [4, 2, 1, 3]⟩,
  ⟨.loc 30, .load false 1 (.loc 29), none, [5, 4, 2, 1, 3]⟩,
  o1 (.loc 31) (.mv (.var 1)),
  ⟨.var 32, .call (.fn 140) [(.loc 24), (.loc 30), (.loc 31)] [.borrow, .borrow, .borrow], none, [0, 6, 5, 4, 2, 1, 3, 7]⟩] true
def c_S_Below_7 : ACode := .reg [o1 (.loc 33) (.mv (.var 5)),
  o1 (.loc 34) (.fld 0 (.var 2)),
  o1 (.loc 35) (.load false 1 (.loc 34)),
  o1 (.loc 36) (.mv (.var 6)),
  o1 (.loc 37) (.idxA 7 (.loc 35) (.loc 36)),
  o1 (.loc 38) (.fld 0 (.loc 37)),
  o1 (.loc 39) (.load false 1 (.loc 38)),
  o1 (.loc 40) (.lit 0 1 1 [.int .i64 0] [(0, (.loc 39))]),
  o1 (.loc 41) (.app 1 8 (.loc 33) (.loc 40)),
  o1 (.var 5) (.mv (.loc 41))] false
def c_S_Below_8 : ACode := .reg [o1 (.loc 22) (.mv (.var 6)),
  o1 (.loc 23) (.bin .int .add (.loc 22) (.const (.d (.int .i64 1)))),
  o1 (.var 6) (.mv (.loc 23))] false
def c_S_Below_9 : ACode := (.seq (.seq c_S_Below_5 (.cond (.var 21) .skip (.exit 0))) (.seq (.block 1 (.seq c_S_Below_6 (.cond (.var 32) c_S_Below_7 .skip))) c_S_Below_8))
def c_S_Below_10 : ACode := .reg [o1 (.loc 42) (.mv (.var 5)),
  o1 (.var 4) (.mv (.loc 42))] false
def c_S_Below : ACode := (.seq c_S_Below_0 (.seq c_S_Below_1 (.seq (.seq c_S_Below_2 (.cond (.var 16) (.seq c_S_Below_3 .ret) .skip)) (.seq (.seq c_S_Below_4 (.block 0 (.loop [1, 2, 5, 6] c_S_Below_9))) (.seq c_S_Below_10 .ret)))))
abbrev F_S_Below : FuncId := 76
theorem k_S_Below : comp PP (Tryz.f76.ntmps, pinOf 0 [none, none]) [0, 1, 2, 4, 5, 6, 16, 21, 32] (Tryz.f76.body.getD .skip) = some c_S_Below.erase := by kernel_rfl
theorem v_S_Below {GG : GV} (rcs : List C) {cs : List C} {r : C} {os : List (Option C)} (hN : (cs.length == 2 && rcs.length == 1) = true) (hret : retOf rcs = r) (hW : WX GG [0, 1, 2, 4, 5, 6, 16, 21, 32] Tryz.f76.ntmps [none, none] [(.give, 4, none)] c_S_Below rcs cs os) : Valid PP GG F_S_Below cs r os :=
  fn_valid_n 2 1 _ _ _ _ rcs Tryz.func76 rfl rfl (by kernel_rfl) k_S_Below rfl rfl hN hret hW
def c_S_l01Has_0 : ACode := .reg [o1 (.var 4) (.mv (.const (.d (.bool false))))] false
def c_S_l01Has_1 : ACode := .reg [o1 (.var 5) (.mv (.const (.d (.int .i64 0))))] false
def c_S_l01Has_2 : ACode := .reg [o1 (.loc 6) (.mv (.var 5)),
  o1 (.loc 7) (.mv (.var 0)),
  o1 (.loc 8) (.len false (.loc 7)),
  o1 (.var 9) (.bin .int .lss (.loc 6) (.loc 8))] false
def c_S_l01Has_3 : ACode := .reg [o1 (.loc 12) (.mv (.var 0)),
  o1 (.loc 13) (.mv (.var 5)),
  o1 (.loc 14) (.idxA 1 (.loc 12) (.loc 13)),
  o1 (.loc 15) (.load false 1 (.loc 14)),
  o1 (.loc 16) (.mv (.var 1)),
  o1 (.var 17) (.bin .int .eql (.loc 15) (.loc 16))] false
def c_S_l01Has_4 : ACode := .reg [o1 (.var 4) (.mv (.const (.d (.bool true))))] false
def c_S_l01Has_5 : ACode := .reg [o1 (.loc 10) (.mv (.var 5)),
  o1 (.loc 11) (.bin .int .add (.loc 10) (.const (.d (.int .i64 1)))),
  o1 (.var 5) (.mv (.loc 11))] false
def c_S_l01Has_6 : ACode := (.seq (.seq c_S_l01Has_2 (.cond (.var 9) .skip (.exit 0))) (.seq (.block 1 (.seq c_S_l01Has_3 (.cond (.var 17) (.seq c_S_l01Has_4 .ret) .skip))) c_S_l01Has_5))
def c_S_l01Has_7 : ACode := .reg [o1 (.var 4) (.mv (.const (.d (.bool false))))] false
def c_S_l01Has : ACode := (.seq c_S_l01Has_0 (.seq (.seq c_S_l01Has_1 (.block 0 (.loop [0, 1, 5] c_S_l01Has_6))) (.seq c_S_l01Has_7 .ret)))
abbrev F_S_l01Has : FuncId := 77
theorem k_S_l01Has : comp PP (Tryz.f77.ntmps, pinOf 0 [none, none]) [0, 1, 4, 5, 9, 17] (Tryz.f77.body.getD .skip) = some c_S_l01Has.erase := by kernel_rfl
theorem v_S_l01Has {GG : GV} (rcs : List C) {cs : List C} {r : C} {os : List (Option C)} (hN : (cs.length == 2 && rcs.length == 1) = true) (hret : retOf rcs = r) (hW : WX GG [0, 1, 4, 5, 9, 17] Tryz.f77.ntmps [none, none] [(.give, 4, none)] c_S_l01Has rcs cs os) : Valid PP GG F_S_l01Has cs r os :=
  fn_valid_n 2 1 _ _ _ _ rcs Tryz.func77 rfl rfl (by kernel_rfl) k_S_l01Has rfl rfl hN hret hW
def c_I_without_0 : ACode := .reg [o1 (.var 2) (.box (.var 0)),
  o1 (.var 4) (.alloc [.nil 1 7]),
  o1 (.var 5) (.mv (.const (.nil 0 1)))] false
def c_I_without_1 : ACode := .reg [o1 (.var 6) (.alloc [.nil 1 7])] false
def c_I_without_2 : ACode := .reg [o1 (.var 7) (.mv (.const (.nil 0 1)))] false
def c_I_without_3 : ACode := .reg [o1 (.loc 10) (.fld 0 (.var 2)),
  o1 (.var 11) (.load false 1 (.loc 10)),
  o1 (.var 12) (.len false (.var 11)),
  o1 (.var 13) (.mv (.const (.d (.int .i64 0))))] false
def c_I_without_4 : ACode := .reg [o1 (.var 14) (.bin .int .lss (.var 13) (.var 12))] false
def c_I_without_5 : ACode := .reg [o1 (.loc 15) (.idxA 7 (.var 11) (.var 13)),
  o1 (.loc 16) (.load true 7 (.loc 15)),
  o1 (.var 9) (.alloc [.d (.int .i64 0), .d (.int .i64 0), .nil 0 1, .d (.int .i64 0), .d (.int .i64 0), .d (.int .i64 0), .d (.int .i64 0)]),
  o1 .none (.store 7 (.var 9) (.loc 16))] false
def c_I_without_6 : ACode := .reg [o1 (.loc 17) (.mv (.var 1)),
  o1 (.loc 18) (.load true 7 (.var 9)),
  o1 (.loc 19) (.call (.loc 17) [(.loc 18)] [.borrow]),
  o1 (.loc 20) (.split (.loc 19)),
  ⟨.loc 21, .mv (.var 7), some ((.loc 20), false), []⟩,
  ⟨.loc 22, .fld 1 (.var 9), some ((.loc 20), false), []⟩,
  ⟨.loc 23, .load false 1 (.loc 22), some ((.loc 20), false), []⟩,
  ⟨.loc 24, .call (.fn 80) [(.loc 21), (.loc 23)] [.borrow, .borrow], some ((.loc 20), false), []⟩,
  o1 (.var 25) (.pick (.loc 20) (.const (.d (.bool true))) (.loc 24))] false
def c_I_without_7 : ACode := .reg [o1 (.loc 26) (.mv (.var 7)),
  o1 (.loc 27) (.fld 0 (.var 9)),
  o1 (.loc 28) (.load false 1 (.loc 27)),
  o1 (.loc 29) (.lit 0 1 1 [.int .i64 0] [(0, (.loc 28))]),
  o1 (.loc 30) (.app 1 8 (.loc 26) (.loc 29)),
  o1 (.var 7) (.mv (.loc 30))] false
def c_I_without_8 : ACode := .reg [o1 (.loc 31) (.fld 0 (.var 6)),
  ⟨.loc 32, .load false 1 (.loc 31), none, [0]⟩,
  o1 (.loc 33) (.load true 7 (.var 9)),
  ⟨.loc 34, .call (.fn 141) [(.loc 33)] [.borrow], none, [2]⟩,
  ⟨.loc 35, .lit 1 7 1 [.int .i64 0, .int .i64 0, .slc 1 [], .int .i64 0, .int .i64 0, .int .i64 0, .int .i64 0] [(0, (.loc 34))], none, [3, 2]⟩,
  ⟨.loc 36, .app 7 72 (.loc 32) (.loc 35), none, [1, 0, 4, 3, 2]⟩,
  ⟨.loc 37, .fld 0 (.var 6), none, [5, 1, 0, 4, 3, 2]⟩,
  ⟨.none, .store 1 (.loc 37) (.loc 36), none, [6, 5, 1, 0, 4, 3, 2]⟩] true
def c_I_without_9 : ACode := .reg [o1 (.loc 38) (.bin .int .add (.var 13) (.const (.d (.int .i64 1)))),
  o1 (.var 13) (.mv (.loc 38))] false
def c_I_without_10 : ACode := (.seq c_I_without_4 (.seq (.cond (.var 14) .skip (.exit 0)) (.seq (.block 1 (.seq c_I_without_5 (.seq c_I_without_6 (.cond (.var 25) c_I_without_7 c_I_without_8)))) c_I_without_9)))
def c_I_without_11 : ACode := .reg [o1 (.loc 39) (.load true 1 (.var 6)),
  o1 (.loc 40) (.mv (.var 7)),
  o1 .none (.store 1 (.var 4) (.loc 39)),
  o1 (.var 5) (.mv (.loc 40))] false
def c_I_without : ACode := (.seq c_I_without_0 (.seq c_I_without_1 (.seq c_I_without_2 (.seq (.seq c_I_without_3 (.block 0 (.loop [1, 4, 6, 7, 11, 12, 13] c_I_without_10))) (.seq c_I_without_11 .ret)))))
abbrev F_I_without : FuncId := 78
theorem k_I_without : comp PP (Tryz.f78.ntmps, pinOf 0 [none, none]) [0, 1, 2, 4, 5, 6, 7, 9, 11, 12, 13, 14, 25] (Tryz.f78.body.getD .skip) = some c_I_without.erase := by kernel_rfl
theorem v_I_without {GG : GV} (rcs : List C) {cs : List C} {r : C} {os : List (Option C)} (hN : (cs.length == 2 && rcs.length == 2) = true) (hret : retOf rcs = r) (hW : WX GG [0, 1, 2, 4, 5, 6, 7, 9, 11, 12, 13, 14, 25] Tryz.f78.ntmps [none, none] [(.give, 4, some (true, 1)), (.give, 5, none)] c_I_without rcs cs os) : Valid PP GG F_I_without cs r os :=
  fn_valid_n 2 2 _ _ _ _ rcs Tryz.func78 rfl rfl (by kernel_rfl) k_I_without rfl rfl hN hret hW
def c_I_LiveLeases_c1_0 : ACode := .reg [o1 (.var 2) (.box (.var 0)),
  o1 (.var 3) (.mv (.const (.d (.bool false))))] false
def c_I_LiveLeases_c1_1 : ACode := .reg [o1 (.loc 4) (.fld 0 (.var 2)),
  o1 (.loc 5) (.load false 1 (.loc 4)),
  o1 (.loc 6) (.load false 1 (.var 1)),
  o1 (.loc 7) (.bin .int .eql (.loc 5) (.loc 6)),
  o1 (.var 3) (.mv (.loc 7))] false
def c_I_LiveLeases_c1 : ACode := (.seq c_I_LiveLeases_c1_0 (.seq c_I_LiveLeases_c1_1 .ret))
abbrev F_I_LiveLeases_c1 : FuncId := 79
theorem k_I_LiveLeases_c1 : comp PP (Tryz.f79.ntmps, pinOf 0 [none]) [0, 1, 2, 3] (Tryz.f79.body.getD .skip) = some c_I_LiveLeases_c1.erase := by kernel_rfl
theorem v_I_LiveLeases_c1 {GG : GV} (rcs : List C) {cs : List C} {r : C} {os : List (Option C)} (hN : (cs.length == 2 && rcs.length == 1) = true) (hret : retOf rcs = r) (hW : WX GG [0, 1, 2, 3] Tryz.f79.ntmps [none] [(.give, 3, none)] c_I_LiveLeases_c1 rcs cs os) : Valid PP GG F_I_LiveLeases_c1 cs r os :=
  fn_valid_n 2 1 _ _ _ _ rcs Tryz.func79 rfl rfl (by kernel_rfl) k_I_LiveLeases_c1 rfl rfl hN hret hW
def c_slices_Contains___int_int__0 : ACode := .reg [o1 (.var 4) (.mv (.const (.d (.bool false))))] false
def c_slices_Contains___int_int__1 : ACode := .reg [o1 (.loc 5) (.mv (.var 0)),
  o1 (.loc 6) (.mv (.var 1)),
  o1 (.loc 7) (.call (.fn 142) [(.loc 5), (.loc 6)] [.borrow, .borrow]),
  o1 (.loc 8) (.bin .int .geq (.loc 7) (.const (.d (.int .i64 0)))),
  o1 (.var 4) (.mv (.loc 8))] false
def c_slices_Contains___int_int_ : ACode := (.seq c_slices_Contains___int_int__0 (.seq c_slices_Contains___int_int__1 .ret))
abbrev F_slices_Contains___int_int_ : FuncId := 80
theorem k_slices_Contains___int_int_ : comp PP (Tryz.f80.ntmps, pinOf 0 [none, none]) [0, 1, 4] (Tryz.f80.body.getD .skip) = some c_slices_Contains___int_int_.erase := by kernel_rfl
theorem v_slices_Contains___int_int_ {GG : GV} (rcs : List C) {cs : List C} {r : C} {os : List (Option C)} (hN : (cs.length == 2 && rcs.length == 1) = true) (hret : retOf rcs = r) (hW : WX GG [0, 1, 4] Tryz.f80.ntmps [none, none] [(.give, 4, none)] c_slices_Contains___int_int_ rcs cs os) : Valid PP GG F_slices_Contains___int_int_ cs r os :=
  fn_valid_n 2 1 _ _ _ _ rcs Tryz.func80 rfl rfl (by kernel_rfl) k_slices_Contains___int_int_ rfl rfl hN hret hW
def c_I_leaseIndex_0 : ACode := .reg [o1 (.var 2) (.box (.var 0)),
  o1 (.var 3) (.box (.var 1)),
  o1 (.var 4) (.mv (.const (.d (.int .i64 0))))] false
def c_I_leaseIndex_1 : ACode := .reg [o1 (.loc 5) (.fld 0 (.var 2)),
  o1 (.loc 6) (.load false 1 (.loc 5)),
  o1 (.loc 7) (.clo 163 [(.var 3)]),
  o1 (.loc 8) (.call (.fn 162) [(.loc 6), (.loc 7)] [.borrow, .borrow]),
  o1 (.var 4) (.mv (.loc 8))] false
def c_I_leaseIndex : ACode := (.seq c_I_leaseIndex_0 (.seq c_I_leaseIndex_1 .ret))
abbrev F_I_leaseIndex : FuncId := 94
theorem k_I_leaseIndex : comp PP (Tryz.f94.ntmps, pinOf 0 [none, none]) [0, 1, 2, 3, 4] (Tryz.f94.body.getD .skip) = some c_I_leaseIndex.erase := by kernel_rfl
theorem v_I_leaseIndex {GG : GV} (rcs : List C) {cs : List C} {r : C} {os : List (Option C)} (hN : (cs.length == 2 && rcs.length == 1) = true) (hret : retOf rcs = r) (hW : WX GG [0, 1, 2, 3, 4] Tryz.f94.ntmps [none, none] [(.give, 4, none)] c_I_leaseIndex rcs cs os) : Valid PP GG F_I_leaseIndex cs r os :=
  fn_valid_n 2 1 _ _ _ _ rcs Tryz.func94 rfl rfl (by kernel_rfl) k_I_leaseIndex rfl rfl hN hret hW
def c_I_tokenIndex_0 : ACode := .reg [o1 (.var 2) (.box (.var 0)),
  o1 (.var 3) (.box (.var 1)),
  o1 (.var 4) (.mv (.const (.d (.int .i64 0))))] false
def c_I_tokenIndex_1 : ACode := .reg [o1 (.loc 5) (.fld 0 (.var 2)),
  o1 (.loc 6) (.load false 1 (.loc 5)),
  o1 (.loc 7) (.clo 170 [(.var 3)]),
  o1 (.loc 8) (.call (.fn 169) [(.loc 6), (.loc 7)] [.borrow, .borrow]),
  o1 (.var 4) (.mv (.loc 8))] false
def c_I_tokenIndex : ACode := (.seq c_I_tokenIndex_0 (.seq c_I_tokenIndex_1 .ret))
abbrev F_I_tokenIndex : FuncId := 99
theorem k_I_tokenIndex : comp PP (Tryz.f99.ntmps, pinOf 0 [none, none]) [0, 1, 2, 3, 4] (Tryz.f99.body.getD .skip) = some c_I_tokenIndex.erase := by kernel_rfl
theorem v_I_tokenIndex {GG : GV} (rcs : List C) {cs : List C} {r : C} {os : List (Option C)} (hN : (cs.length == 2 && rcs.length == 1) = true) (hret : retOf rcs = r) (hW : WX GG [0, 1, 2, 3, 4] Tryz.f99.ntmps [none, none] [(.give, 4, none)] c_I_tokenIndex rcs cs os) : Valid PP GG F_I_tokenIndex cs r os :=
  fn_valid_n 2 1 _ _ _ _ rcs Tryz.func99 rfl rfl (by kernel_rfl) k_I_tokenIndex rfl rfl hN hret hW
def c_I_within_0 : ACode := .reg [o1 (.var 6) (.mv (.const (.d (.bool false))))] false
def c_I_within_1 : ACode := .reg [o1 (.loc 7) (.mv (.var 0)),
  o1 (.loc 8) (.mv (.var 1)),
  o1 (.loc 9) (.bin .int .geq (.loc 7) (.loc 8)),
  o1 (.loc 10) (.split (.loc 9)),
  ⟨.loc 11, .mv (.var 0), some ((.loc 10), true), []⟩,
  ⟨.loc 12, .mv (.var 2), some ((.loc 10), true), []⟩,
  ⟨.loc 13, .bin .int .leq (.loc 11) (.loc 12), some ((.loc 10), true), []⟩,
  o1 (.loc 14) (.pick (.loc 10) (.loc 13) (.const (.d (.bool false)))),
  o1 (.var 6) (.mv (.loc 14))] false
def c_I_within : ACode := (.seq c_I_within_0 (.seq c_I_within_1 .ret))
abbrev F_I_within : FuncId := 103
theorem k_I_within : comp PP (Tryz.f103.ntmps, pinOf 0 [none, none, none]) [0, 1, 2, 6] (Tryz.f103.body.getD .skip) = some c_I_within.erase := by kernel_rfl
theorem v_I_within {GG : GV} (rcs : List C) {cs : List C} {r : C} {os : List (Option C)} (hN : (cs.length == 3 && rcs.length == 1) = true) (hret : retOf rcs = r) (hW : WX GG [0, 1, 2, 6] Tryz.f103.ntmps [none, none, none] [(.give, 6, none)] c_I_within rcs cs os) : Valid PP GG F_I_within cs r os :=
  fn_valid_n 3 1 _ _ _ _ rcs Tryz.func103 rfl rfl (by kernel_rfl) k_I_within rfl rfl hN hret hW
def c_L_szTokenS_0 : ACode := .reg [o1 (.var 4) (.mv (.const (.d (.int .i64 0))))] false
def c_L_szTokenS_1 : ACode := .reg [o1 (.loc 6) (.mv (.var 1)),
  o1 (.loc 7) (.mv (.var 0)),
  o1 (.loc 8) (.len false (.loc 7)),
  o1 (.loc 9) (.bin .int .sub (.loc 6) (.loc 8)),
  o1 (.var 1) (.mv (.loc 9))] false
def c_L_szTokenS_2 : ACode := .reg [o1 (.loc 10) (.mv (.var 1)),
  o1 (.var 11) (.bin .int .lss (.loc 10) (.const (.d (.int .i64 0))))] false
def c_L_szTokenS_3 : ACode := .reg [o1 (.var 4) (.mv (.const (.d (.int .i64 (-1)))))] false
def c_L_szTokenS_4 : ACode := .reg [o1 (.var 5) (.mv (.const (.d (.int .i64 0))))] false
def c_L_szTokenS_5 : ACode := .reg [o1 (.loc 12) (.mv (.var 5)),
  o1 (.loc 13) (.mv (.var 0)),
  o1 (.loc 14) (.len false (.loc 13)),
  o1 (.var 15) (.bin .int .lss (.loc 12) (.loc 14))] false
def c_L_szTokenS_6 : ACode := .reg [o1 (.loc 18) (.mv (.var 0)),
  o1 (.loc 19) (.mv (.var 5)),
  o1 (.loc 20) (.idxA 7 (.loc 18) (.loc 19)),
  o1 (.loc 21) (.load true 7 (.loc 20)),
  o1 (.loc 22) (.mv (.var 1)),
  o1 (.loc 23) (.call (.fn 181) [(.loc 21), (.loc 22)] [.borrow, .borrow]),
  o1 (.var 1) (.mv (.loc 23))] false
def c_L_szTokenS_7 : ACode := .reg [o1 (.loc 24) (.mv (.var 1)),
  o1 (.var 25) (.bin .int .lss (.loc 24) (.const (.d (.int .i64 0))))] false
def c_L_szTokenS_8 : ACode := .reg [o1 (.var 4) (.mv (.const (.d (.int .i64 (-1)))))] false
def c_L_szTokenS_9 : ACode := .reg [o1 (.loc 16) (.mv (.var 5)),
  o1 (.loc 17) (.bin .int .add (.loc 16) (.const (.d (.int .i64 1)))),
  o1 (.var 5) (.mv (.loc 17))] false
def c_L_szTokenS_10 : ACode := (.seq (.seq c_L_szTokenS_5 (.cond (.var 15) .skip (.exit 0))) (.seq (.block 1 (.seq c_L_szTokenS_6 (.seq c_L_szTokenS_7 (.cond (.var 25) (.seq c_L_szTokenS_8 .ret) .skip)))) c_L_szTokenS_9))
def c_L_szTokenS_11 : ACode := .reg [o1 (.loc 26) (.mv (.var 1)),
  o1 (.var 4) (.mv (.loc 26))] false
def c_L_szTokenS : ACode := (.seq c_L_szTokenS_0 (.seq c_L_szTokenS_1 (.seq (.seq c_L_szTokenS_2 (.cond (.var 11) (.seq c_L_szTokenS_3 .ret) .skip)) (.seq (.seq c_L_szTokenS_4 (.block 0 (.loop [0, 1, 5] c_L_szTokenS_10))) (.seq c_L_szTokenS_11 .ret)))))
abbrev F_L_szTokenS : FuncId := 109
theorem k_L_szTokenS : comp PP (Tryz.f109.ntmps, pinOf 0 [none, none]) [0, 1, 4, 5, 11, 15, 25] (Tryz.f109.body.getD .skip) = some c_L_szTokenS.erase := by kernel_rfl
theorem v_L_szTokenS {GG : GV} (rcs : List C) {cs : List C} {r : C} {os : List (Option C)} (hN : (cs.length == 2 && rcs.length == 1) = true) (hret : retOf rcs = r) (hW : WX GG [0, 1, 4, 5, 11, 15, 25] Tryz.f109.ntmps [none, none] [(.give, 4, none)] c_L_szTokenS rcs cs os) : Valid PP GG F_L_szTokenS cs r os :=
  fn_valid_n 2 1 _ _ _ _ rcs Tryz.func109 rfl rfl (by kernel_rfl) k_L_szTokenS rfl rfl hN hret hW
def c_L_szLeaseS_0 : ACode := .reg [o1 (.var 4) (.mv (.const (.d (.int .i64 0))))] false
def c_L_szLeaseS_1 : ACode := .reg [o1 (.loc 6) (.mv (.var 1)),
  o1 (.loc 7) (.mv (.var 0)),
  o1 (.loc 8) (.len false (.loc 7)),
  o1 (.loc 9) (.bin .int .sub (.loc 6) (.loc 8)),
  o1 (.var 1) (.mv (.loc 9))] false
def c_L_szLeaseS_2 : ACode := .reg [o1 (.loc 10) (.mv (.var 1)),
  o1 (.var 11) (.bin .int .lss (.loc 10) (.const (.d (.int .i64 0))))] false
def c_L_szLeaseS_3 : ACode := .reg [o1 (.var 4) (.mv (.const (.d (.int .i64 (-1)))))] false
def c_L_szLeaseS_4 : ACode := .reg [o1 (.var 5) (.mv (.const (.d (.int .i64 0))))] false
def c_L_szLeaseS_5 : ACode := .reg [o1 (.loc 12) (.mv (.var 5)),
  o1 (.loc 13) (.mv (.var 0)),
  o1 (.loc 14) (.len false (.loc 13)),
  o1 (.var 15) (.bin .int .lss (.loc 12) (.loc 14))] false
def c_L_szLeaseS_6 : ACode := .reg [o1 (.loc 18) (.mv (.var 0)),
  o1 (.loc 19) (.mv (.var 5)),
  o1 (.loc 20) (.idxA 6 (.loc 18) (.loc 19)),
  o1 (.loc 21) (.load true 6 (.loc 20)),
  o1 (.loc 22) (.mv (.var 1)),
  o1 (.loc 23) (.call (.fn 182) [(.loc 21), (.loc 22)] [.borrow, .borrow]),
  o1 (.var 1) (.mv (.loc 23))] false
def c_L_szLeaseS_7 : ACode := .reg [o1 (.loc 24) (.mv (.var 1)),
  o1 (.var 25) (.bin .int .lss (.loc 24) (.const (.d (.int .i64 0))))] false
def c_L_szLeaseS_8 : ACode := .reg [o1 (.var 4) (.mv (.const (.d (.int .i64 (-1)))))] false
def c_L_szLeaseS_9 : ACode := .reg [o1 (.loc 16) (.mv (.var 5)),
  o1 (.loc 17) (.bin .int .add (.loc 16) (.const (.d (.int .i64 1)))),
  o1 (.var 5) (.mv (.loc 17))] false
def c_L_szLeaseS_10 : ACode := (.seq (.seq c_L_szLeaseS_5 (.cond (.var 15) .skip (.exit 0))) (.seq (.block 1 (.seq c_L_szLeaseS_6 (.seq c_L_szLeaseS_7 (.cond (.var 25) (.seq c_L_szLeaseS_8 .ret) .skip)))) c_L_szLeaseS_9))
def c_L_szLeaseS_11 : ACode := .reg [o1 (.loc 26) (.mv (.var 1)),
  o1 (.var 4) (.mv (.loc 26))] false
def c_L_szLeaseS : ACode := (.seq c_L_szLeaseS_0 (.seq c_L_szLeaseS_1 (.seq (.seq c_L_szLeaseS_2 (.cond (.var 11) (.seq c_L_szLeaseS_3 .ret) .skip)) (.seq (.seq c_L_szLeaseS_4 (.block 0 (.loop [0, 1, 5] c_L_szLeaseS_10))) (.seq c_L_szLeaseS_11 .ret)))))
abbrev F_L_szLeaseS : FuncId := 110
theorem k_L_szLeaseS : comp PP (Tryz.f110.ntmps, pinOf 0 [none, none]) [0, 1, 4, 5, 11, 15, 25] (Tryz.f110.body.getD .skip) = some c_L_szLeaseS.erase := by kernel_rfl
theorem v_L_szLeaseS {GG : GV} (rcs : List C) {cs : List C} {r : C} {os : List (Option C)} (hN : (cs.length == 2 && rcs.length == 1) = true) (hret : retOf rcs = r) (hW : WX GG [0, 1, 4, 5, 11, 15, 25] Tryz.f110.ntmps [none, none] [(.give, 4, none)] c_L_szLeaseS rcs cs os) : Valid PP GG F_L_szLeaseS cs r os :=
  fn_valid_n 2 1 _ _ _ _ rcs Tryz.func110 rfl rfl (by kernel_rfl) k_L_szLeaseS rfl rfl hN hret hW
def c_L_szUserS_0 : ACode := .reg [o1 (.var 4) (.mv (.const (.d (.int .i64 0))))] false
def c_L_szUserS_1 : ACode := .reg [o1 (.loc 6) (.mv (.var 1)),
  o1 (.loc 7) (.mv (.var 0)),
  o1 (.loc 8) (.len false (.loc 7)),
  o1 (.loc 9) (.bin .int .sub (.loc 6) (.loc 8)),
  o1 (.var 1) (.mv (.loc 9))] false
def c_L_szUserS_2 : ACode := .reg [o1 (.loc 10) (.mv (.var 1)),
  o1 (.var 11) (.bin .int .lss (.loc 10) (.const (.d (.int .i64 0))))] false
def c_L_szUserS_3 : ACode := .reg [o1 (.var 4) (.mv (.const (.d (.int .i64 (-1)))))] false
def c_L_szUserS_4 : ACode := .reg [o1 (.var 5) (.mv (.const (.d (.int .i64 0))))] false
def c_L_szUserS_5 : ACode := .reg [o1 (.loc 12) (.mv (.var 5)),
  o1 (.loc 13) (.mv (.var 0)),
  o1 (.loc 14) (.len false (.loc 13)),
  o1 (.var 15) (.bin .int .lss (.loc 12) (.loc 14))] false
def c_L_szUserS_6 : ACode := .reg [o1 (.loc 18) (.mv (.var 0)),
  o1 (.loc 19) (.mv (.var 5)),
  o1 (.loc 20) (.idxA 2 (.loc 18) (.loc 19)),
  o1 (.loc 21) (.load true 2 (.loc 20)),
  o1 (.loc 22) (.mv (.var 1)),
  o1 (.loc 23) (.call (.fn 183) [(.loc 21), (.loc 22)] [.borrow, .borrow]),
  o1 (.var 1) (.mv (.loc 23))] false
def c_L_szUserS_7 : ACode := .reg [o1 (.loc 24) (.mv (.var 1)),
  o1 (.var 25) (.bin .int .lss (.loc 24) (.const (.d (.int .i64 0))))] false
def c_L_szUserS_8 : ACode := .reg [o1 (.var 4) (.mv (.const (.d (.int .i64 (-1)))))] false
def c_L_szUserS_9 : ACode := .reg [o1 (.loc 16) (.mv (.var 5)),
  o1 (.loc 17) (.bin .int .add (.loc 16) (.const (.d (.int .i64 1)))),
  o1 (.var 5) (.mv (.loc 17))] false
def c_L_szUserS_10 : ACode := (.seq (.seq c_L_szUserS_5 (.cond (.var 15) .skip (.exit 0))) (.seq (.block 1 (.seq c_L_szUserS_6 (.seq c_L_szUserS_7 (.cond (.var 25) (.seq c_L_szUserS_8 .ret) .skip)))) c_L_szUserS_9))
def c_L_szUserS_11 : ACode := .reg [o1 (.loc 26) (.mv (.var 1)),
  o1 (.var 4) (.mv (.loc 26))] false
def c_L_szUserS : ACode := (.seq c_L_szUserS_0 (.seq c_L_szUserS_1 (.seq (.seq c_L_szUserS_2 (.cond (.var 11) (.seq c_L_szUserS_3 .ret) .skip)) (.seq (.seq c_L_szUserS_4 (.block 0 (.loop [0, 1, 5] c_L_szUserS_10))) (.seq c_L_szUserS_11 .ret)))))
abbrev F_L_szUserS : FuncId := 111
theorem k_L_szUserS : comp PP (Tryz.f111.ntmps, pinOf 0 [none, none]) [0, 1, 4, 5, 11, 15, 25] (Tryz.f111.body.getD .skip) = some c_L_szUserS.erase := by kernel_rfl
theorem v_L_szUserS {GG : GV} (rcs : List C) {cs : List C} {r : C} {os : List (Option C)} (hN : (cs.length == 2 && rcs.length == 1) = true) (hret : retOf rcs = r) (hW : WX GG [0, 1, 4, 5, 11, 15, 25] Tryz.f111.ntmps [none, none] [(.give, 4, none)] c_L_szUserS rcs cs os) : Valid PP GG F_L_szUserS cs r os :=
  fn_valid_n 2 1 _ _ _ _ rcs Tryz.func111 rfl rfl (by kernel_rfl) k_L_szUserS rfl rfl hN hret hW
def c_L_szJobS_0 : ACode := .reg [o1 (.var 4) (.mv (.const (.d (.int .i64 0))))] false
def c_L_szJobS_1 : ACode := .reg [o1 (.loc 6) (.mv (.var 1)),
  o1 (.loc 7) (.mv (.var 0)),
  o1 (.loc 8) (.len false (.loc 7)),
  o1 (.loc 9) (.bin .int .sub (.loc 6) (.loc 8)),
  o1 (.var 1) (.mv (.loc 9))] false
def c_L_szJobS_2 : ACode := .reg [o1 (.loc 10) (.mv (.var 1)),
  o1 (.var 11) (.bin .int .lss (.loc 10) (.const (.d (.int .i64 0))))] false
def c_L_szJobS_3 : ACode := .reg [o1 (.var 4) (.mv (.const (.d (.int .i64 (-1)))))] false
def c_L_szJobS_4 : ACode := .reg [o1 (.var 5) (.mv (.const (.d (.int .i64 0))))] false
def c_L_szJobS_5 : ACode := .reg [o1 (.loc 12) (.mv (.var 5)),
  o1 (.loc 13) (.mv (.var 0)),
  o1 (.loc 14) (.len false (.loc 13)),
  o1 (.var 15) (.bin .int .lss (.loc 12) (.loc 14))] false
def c_L_szJobS_6 : ACode := .reg [o1 (.loc 18) (.mv (.var 0)),
  o1 (.loc 19) (.mv (.var 5)),
  o1 (.loc 20) (.idxA 3 (.loc 18) (.loc 19)),
  o1 (.loc 21) (.load true 3 (.loc 20)),
  o1 (.loc 22) (.mv (.var 1)),
  o1 (.loc 23) (.call (.fn 184) [(.loc 21), (.loc 22)] [.borrow, .borrow]),
  o1 (.var 1) (.mv (.loc 23))] false
def c_L_szJobS_7 : ACode := .reg [o1 (.loc 24) (.mv (.var 1)),
  o1 (.var 25) (.bin .int .lss (.loc 24) (.const (.d (.int .i64 0))))] false
def c_L_szJobS_8 : ACode := .reg [o1 (.var 4) (.mv (.const (.d (.int .i64 (-1)))))] false
def c_L_szJobS_9 : ACode := .reg [o1 (.loc 16) (.mv (.var 5)),
  o1 (.loc 17) (.bin .int .add (.loc 16) (.const (.d (.int .i64 1)))),
  o1 (.var 5) (.mv (.loc 17))] false
def c_L_szJobS_10 : ACode := (.seq (.seq c_L_szJobS_5 (.cond (.var 15) .skip (.exit 0))) (.seq (.block 1 (.seq c_L_szJobS_6 (.seq c_L_szJobS_7 (.cond (.var 25) (.seq c_L_szJobS_8 .ret) .skip)))) c_L_szJobS_9))
def c_L_szJobS_11 : ACode := .reg [o1 (.loc 26) (.mv (.var 1)),
  o1 (.var 4) (.mv (.loc 26))] false
def c_L_szJobS : ACode := (.seq c_L_szJobS_0 (.seq c_L_szJobS_1 (.seq (.seq c_L_szJobS_2 (.cond (.var 11) (.seq c_L_szJobS_3 .ret) .skip)) (.seq (.seq c_L_szJobS_4 (.block 0 (.loop [0, 1, 5] c_L_szJobS_10))) (.seq c_L_szJobS_11 .ret)))))
abbrev F_L_szJobS : FuncId := 112
theorem k_L_szJobS : comp PP (Tryz.f112.ntmps, pinOf 0 [none, none]) [0, 1, 4, 5, 11, 15, 25] (Tryz.f112.body.getD .skip) = some c_L_szJobS.erase := by kernel_rfl
theorem v_L_szJobS {GG : GV} (rcs : List C) {cs : List C} {r : C} {os : List (Option C)} (hN : (cs.length == 2 && rcs.length == 1) = true) (hret : retOf rcs = r) (hW : WX GG [0, 1, 4, 5, 11, 15, 25] Tryz.f112.ntmps [none, none] [(.give, 4, none)] c_L_szJobS rcs cs os) : Valid PP GG F_L_szJobS cs r os :=
  fn_valid_n 2 1 _ _ _ _ rcs Tryz.func112 rfl rfl (by kernel_rfl) k_L_szJobS rfl rfl hN hret hW
def c_L_szOwned_0 : ACode := .reg [o1 (.var 2) (.box (.var 0)),
  o1 (.var 4) (.mv (.const (.d (.int .i64 0))))] false
def c_L_szOwned_1 : ACode := .reg [o1 (.loc 5) (.mv (.var 1)),
  o1 (.loc 6) (.fld 1 (.var 2)),
  o1 (.loc 7) (.load false 1 (.loc 6)),
  o1 (.loc 8) (.len true (.loc 7)),
  o1 (.loc 9) (.bin .int .sub (.loc 5) (.loc 8)),
  o1 (.var 1) (.mv (.loc 9))] false
def c_L_szOwned_2 : ACode := .reg [o1 (.loc 10) (.mv (.var 1)),
  o1 (.var 11) (.bin .int .lss (.loc 10) (.const (.d (.int .i64 0))))] false
def c_L_szOwned_3 : ACode := .reg [o1 (.var 4) (.mv (.const (.d (.int .i64 (-1)))))] false
def c_L_szOwned_4 : ACode := .reg [o1 (.loc 12) (.mv (.var 1)),
  o1 (.var 4) (.mv (.loc 12))] false
def c_L_szOwned : ACode := (.seq c_L_szOwned_0 (.seq c_L_szOwned_1 (.seq (.seq c_L_szOwned_2 (.cond (.var 11) (.seq c_L_szOwned_3 .ret) .skip)) (.seq c_L_szOwned_4 .ret))))
abbrev F_L_szOwned : FuncId := 113
theorem k_L_szOwned : comp PP (Tryz.f113.ntmps, pinOf 0 [none, none]) [0, 1, 2, 4, 11] (Tryz.f113.body.getD .skip) = some c_L_szOwned.erase := by kernel_rfl
theorem v_L_szOwned {GG : GV} (rcs : List C) {cs : List C} {r : C} {os : List (Option C)} (hN : (cs.length == 2 && rcs.length == 1) = true) (hret : retOf rcs = r) (hW : WX GG [0, 1, 2, 4, 11] Tryz.f113.ntmps [none, none] [(.give, 4, none)] c_L_szOwned rcs cs os) : Valid PP GG F_L_szOwned cs r os :=
  fn_valid_n 2 1 _ _ _ _ rcs Tryz.func113 rfl rfl (by kernel_rfl) k_L_szOwned rfl rfl hN hret hW
def c_S_l08Token_0 : ACode := .reg [o1 (.var 1) (.box (.var 0)),
  o1 (.var 2) (.mv (.const (.d (.bool false))))] false
def c_S_l08Token_1 : ACode := .reg [o1 (.loc 3) (.fld 0 (.var 1)),
  o1 (.loc 4) (.load false 1 (.loc 3)),
  o1 (.loc 5) (.call (.fn 49) [(.loc 4), (.const (.d (.int .i64 1))), (.const (.d (.int .i64 1000000000)))] [.borrow, .borrow, .borrow]),
  o1 (.loc 6) (.un .not (.loc 5)),
  o1 (.loc 7) (.split (.loc 6)),
  ⟨.loc 8, .fld 1 (.var 1), some ((.loc 7), false), []⟩,
  ⟨.loc 9, .load false 1 (.loc 8), some ((.loc 7), false), []⟩,
  ⟨.loc 10, .bin .int .lss (.loc 9) (.const (.d (.int .i64 0))), some ((.loc 7), false), []⟩,
  o1 (.loc 11) (.pick (.loc 7) (.const (.d (.bool true))) (.loc 10)),
  o1 (.loc 12) (.split (.loc 11)),
  ⟨.loc 13, .fld 1 (.var 1), some ((.loc 12), false), []⟩,
  ⟨.loc 14, .load false 1 (.loc 13), some ((.loc 12), false), []⟩,
  ⟨.loc 15, .fld 0 (.var 1), some ((.loc 12), false), []⟩,
  ⟨.loc 16, .load false 1 (.loc 15), some ((.loc 12), false), []⟩,
  ⟨.loc 17, .bin .int .geq (.loc 14) (.loc 16), some ((.loc 12), false), []⟩,
  o1 (.loc 18) (.pick (.loc 12) (.const (.d (.bool true))) (.loc 17)),
  o1 (.loc 19) (.split (.loc 18)),
  ⟨.loc 20, .fld 2 (.var 1), some ((.loc 19), false), []⟩,
  ⟨.loc 21, .load false 1 (.loc 20), some ((.loc 19), false), []⟩,
  ⟨.loc 22, .call (.fn 185) [(.loc 21)] [.borrow], some ((.loc 19), false), []⟩,
  ⟨.loc 23, .un .not (.loc 22), some ((.loc 19), false), []⟩,
  o1 (.loc 24) (.pick (.loc 19) (.const (.d (.bool true))) (.loc 23)),
  o1 (.loc 25) (.split (.loc 24)),
  ⟨.loc 26, .fld 3 (.var 1), some ((.loc 25), false), []⟩,
  ⟨.loc 27, .load false 1 (.loc 26), some ((.loc 25), false), []⟩,
  ⟨.loc 28, .call (.fn 49) [(.loc 27), (.const (.d (.int .i64 0))), (.const (.d (.int .i64 1000000000)))] [.borrow, .borrow, .borrow], some ((.loc 25), false), []⟩,
  ⟨.loc 29, .un .not (.loc 28), some ((.loc 25), false), []⟩,
  o1 (.loc 30) (.pick (.loc 25) (.const (.d (.bool true))) (.loc 29)),
  o1 (.loc 31) (.split (.loc 30)),
  ⟨.loc 32, .fld 6 (.var 1), some ((.loc 31), false), []⟩,
  ⟨.loc 33, .load false 1 (.loc 32), some ((.loc 31), false), []⟩,
  ⟨.loc 34, .call (.fn 49) [(.loc 33), (.const (.d (.int .i64 0))), (.const (.d (.int .i64 1000)))] [.borrow, .borrow, .borrow], some ((.loc 31), false), []⟩,
  ⟨.loc 35, .un .not (.loc 34), some ((.loc 31), false), []⟩,
  o1 (.var 36) (.pick (.loc 31) (.const (.d (.bool true))) (.loc 35))] false
def c_S_l08Token_2 : ACode := .reg [o1 (.var 2) (.mv (.const (.d (.bool false))))] false
def c_S_l08Token_3 : ACode := .reg [o1 (.loc 37) (.fld 4 (.var 1)),
  o1 (.loc 38) (.load false 1 (.loc 37)),
  o1 (.loc 39) (.bin .int .neq (.loc 38) (.const (.d (.int .i64 0)))),
  o1 (.loc 40) (.split (.loc 39)),
  ⟨.loc 41, .fld 4 (.var 1), some ((.loc 40), true), []⟩,
  ⟨.loc 42, .load false 1 (.loc 41), some ((.loc 40), true), []⟩,
  ⟨.loc 43, .fld 3 (.var 1), some ((.loc 40), true), []⟩,
  ⟨.loc 44, .load false 1 (.loc 43), some ((.loc 40), true), []⟩,
  ⟨.loc 45, .bin .int .add (.loc 44) (.const (.d (.int .i64 1))), some ((.loc 40), true), []⟩,
  ⟨.loc 46, .call (.fn 49) [(.loc 42), (.loc 45), (.const (.d (.int .i64 1000000000)))] [.borrow, .borrow, .borrow], some ((.loc 40), true), []⟩,
  ⟨.loc 47, .un .not (.loc 46), some ((.loc 40), true), []⟩,
  o1 (.var 48) (.pick (.loc 40) (.loc 47) (.const (.d (.bool false))))] false
def c_S_l08Token_4 : ACode := .reg [o1 (.var 2) (.mv (.const (.d (.bool false))))] false
def c_S_l08Token_5 : ACode := .reg [o1 (.loc 49) (.fld 5 (.var 1)),
  o1 (.loc 50) (.load false 1 (.loc 49)),
  o1 (.var 51) (.bin .int .eql (.loc 50) (.const (.d (.int .i64 0))))] false
def c_S_l08Token_6 : ACode := .reg [o1 (.var 2) (.mv (.const (.d (.bool true))))] false
def c_S_l08Token_7 : ACode := .reg [o1 (.loc 52) (.fld 5 (.var 1)),
  o1 (.loc 53) (.load false 1 (.loc 52)),
  o1 (.loc 54) (.fld 3 (.var 1)),
  o1 (.loc 55) (.load false 1 (.loc 54)),
  o1 (.loc 56) (.bin .int .add (.loc 55) (.const (.d (.int .i64 1)))),
  o1 (.loc 57) (.call (.fn 49) [(.loc 53), (.loc 56), (.const (.d (.int .i64 1000000000)))] [.borrow, .borrow, .borrow]),
  o1 (.loc 58) (.split (.loc 57)),
  ⟨.loc 59, .fld 4 (.var 1), some ((.loc 58), true), []⟩,
  ⟨.loc 60, .load false 1 (.loc 59), some ((.loc 58), true), []⟩,
  ⟨.loc 61, .bin .int .neq (.loc 60) (.const (.d (.int .i64 0))), some ((.loc 58), true), []⟩,
  o1 (.loc 62) (.pick (.loc 58) (.loc 61) (.const (.d (.bool false)))),
  o1 (.loc 63) (.split (.loc 62)),
  ⟨.loc 64, .fld 4 (.var 1), some ((.loc 63), true), []⟩,
  ⟨.loc 65, .load false 1 (.loc 64), some ((.loc 63), true), []⟩,
  ⟨.loc 66, .fld 5 (.var 1), some ((.loc 63), true), []⟩,
  ⟨.loc 67, .load false 1 (.loc 66), some ((.loc 63), true), []⟩,
  ⟨.loc 68, .bin .int .leq (.loc 65) (.loc 67), some ((.loc 63), true), []⟩,
  o1 (.loc 69) (.pick (.loc 63) (.loc 68) (.const (.d (.bool false)))),
  o1 (.var 2) (.mv (.loc 69))] false
def c_S_l08Token : ACode := (.seq c_S_l08Token_0 (.seq (.seq c_S_l08Token_1 (.cond (.var 36) (.seq c_S_l08Token_2 .ret) .skip)) (.seq (.seq c_S_l08Token_3 (.cond (.var 48) (.seq c_S_l08Token_4 .ret) .skip)) (.seq (.seq c_S_l08Token_5 (.cond (.var 51) (.seq c_S_l08Token_6 .ret) .skip)) (.seq c_S_l08Token_7 .ret)))))
abbrev F_S_l08Token : FuncId := 114
theorem k_S_l08Token : comp PP (Tryz.f114.ntmps, pinOf 0 [none]) [0, 1, 2, 36, 48, 51] (Tryz.f114.body.getD .skip) = some c_S_l08Token.erase := by kernel_rfl
theorem v_S_l08Token {GG : GV} (rcs : List C) {cs : List C} {r : C} {os : List (Option C)} (hN : (cs.length == 1 && rcs.length == 1) = true) (hret : retOf rcs = r) (hW : WX GG [0, 1, 2, 36, 48, 51] Tryz.f114.ntmps [none] [(.give, 2, none)] c_S_l08Token rcs cs os) : Valid PP GG F_S_l08Token cs r os :=
  fn_valid_n 1 1 _ _ _ _ rcs Tryz.func114 rfl rfl (by kernel_rfl) k_S_l08Token rfl rfl hN hret hW
def c_S_l08At_0 : ACode := .reg [o1 (.var 2) (.box (.var 0)),
  o1 (.var 4) (.mv (.const (.d (.int .i64 0))))] false
def c_S_l08At_1 : ACode := .reg [o1 (.var 5) (.mv (.const (.d (.int .i64 0))))] false
def c_S_l08At_2 : ACode := .reg [o1 (.loc 6) (.mv (.var 5)),
  o1 (.loc 7) (.fld 0 (.var 2)),
  o1 (.loc 8) (.load false 1 (.loc 7)),
  o1 (.loc 9) (.len false (.loc 8)),
  o1 (.var 10) (.bin .int .lss (.loc 6) (.loc 9))] false
def c_S_l08At_3 : ACode := .reg [o1 (.loc 13) (.fld 0 (.var 2)),
  o1 (.loc 14) (.load false 1 (.loc 13)),
  o1 (.loc 15) (.mv (.var 5)),
  o1 (.loc 16) (.idxA 7 (.loc 14) (.loc 15)),
  o1 (.loc 17) (.fld 0 (.loc 16)),
  o1 (.loc 18) (.load false 1 (.loc 17)),
  o1 (.loc 19) (.mv (.var 1)),
  o1 (.var 20) (.bin .int .eql (.loc 18) (.loc 19))] false
def c_S_l08At_4 : ACode := .reg [o1 (.loc 21) (.mv (.var 5)),
  o1 (.var 4) (.mv (.loc 21))] false
def c_S_l08At_5 : ACode := .reg [o1 (.loc 11) (.mv (.var 5)),
  o1 (.loc 12) (.bin .int .add (.loc 11) (.const (.d (.int .i64 1)))),
  o1 (.var 5) (.mv (.loc 12))] false
def c_S_l08At_6 : ACode := (.seq (.seq c_S_l08At_2 (.cond (.var 10) .skip (.exit 0))) (.seq (.block 1 (.seq c_S_l08At_3 (.cond (.var 20) (.seq c_S_l08At_4 .ret) .skip))) c_S_l08At_5))
def c_S_l08At_7 : ACode := .reg [o1 (.var 4) (.mv (.const (.d (.int .i64 (-1)))))] false
def c_S_l08At : ACode := (.seq c_S_l08At_0 (.seq (.seq c_S_l08At_1 (.block 0 (.loop [1, 2, 5] c_S_l08At_6))) (.seq c_S_l08At_7 .ret)))
abbrev F_S_l08At : FuncId := 115
theorem k_S_l08At : comp PP (Tryz.f115.ntmps, pinOf 0 [none, none]) [0, 1, 2, 4, 5, 10, 20] (Tryz.f115.body.getD .skip) = some c_S_l08At.erase := by kernel_rfl
theorem v_S_l08At {GG : GV} (rcs : List C) {cs : List C} {r : C} {os : List (Option C)} (hN : (cs.length == 2 && rcs.length == 1) = true) (hret : retOf rcs = r) (hW : WX GG [0, 1, 2, 4, 5, 10, 20] Tryz.f115.ntmps [none, none] [(.give, 4, none)] c_S_l08At rcs cs os) : Valid PP GG F_S_l08At cs r os :=
  fn_valid_n 2 1 _ _ _ _ rcs Tryz.func115 rfl rfl (by kernel_rfl) k_S_l08At rfl rfl hN hret hW
def c_S_l09Lease_0 : ACode := .reg [o1 (.var 1) (.box (.var 0)),
  o1 (.var 2) (.mv (.const (.d (.bool false))))] false
def c_S_l09Lease_1 : ACode := .reg [o1 (.loc 3) (.fld 0 (.var 1)),
  o1 (.loc 4) (.load false 1 (.loc 3)),
  o1 (.loc 5) (.call (.fn 49) [(.loc 4), (.const (.d (.int .i64 1))), (.const (.d (.int .i64 1000000000)))] [.borrow, .borrow, .borrow]),
  o1 (.loc 6) (.split (.loc 5)),
  ⟨.loc 7, .fld 1 (.var 1), some ((.loc 6), true), []⟩,
  ⟨.loc 8, .load false 1 (.loc 7), some ((.loc 6), true), []⟩,
  ⟨.loc 9, .call (.fn 49) [(.loc 8), (.const (.d (.int .i64 0))), (.const (.d (.int .i64 1000000000)))] [.borrow, .borrow, .borrow], some ((.loc 6), true), []⟩,
  o1 (.loc 10) (.pick (.loc 6) (.loc 9) (.const (.d (.bool false)))),
  o1 (.loc 11) (.split (.loc 10)),
  ⟨.loc 12, .fld 2 (.var 1), some ((.loc 11), true), []⟩,
  ⟨.loc 13, .load false 1 (.loc 12), some ((.loc 11), true), []⟩,
  ⟨.loc 14, .call (.fn 186) [(.loc 13)] [.borrow], some ((.loc 11), true), []⟩,
  o1 (.loc 15) (.pick (.loc 11) (.loc 14) (.const (.d (.bool false)))),
  o1 (.loc 16) (.split (.loc 15)),
  ⟨.loc 17, .fld 3 (.var 1), some ((.loc 16), true), []⟩,
  ⟨.loc 18, .load false 1 (.loc 17), some ((.loc 16), true), []⟩,
  ⟨.loc 19, .call (.fn 49) [(.loc 18), (.const (.d (.int .i64 0))), (.const (.d (.int .i64 1000000000)))] [.borrow, .borrow, .borrow], some ((.loc 16), true), []⟩,
  o1 (.loc 20) (.pick (.loc 16) (.loc 19) (.const (.d (.bool false)))),
  o1 (.loc 21) (.split (.loc 20)),
  ⟨.loc 22, .fld 5 (.var 1), some ((.loc 21), true), []⟩,
  ⟨.loc 23, .load false 1 (.loc 22), some ((.loc 21), true), []⟩,
  ⟨.loc 24, .fld 3 (.var 1), some ((.loc 21), true), []⟩,
  ⟨.loc 25, .load false 1 (.loc 24), some ((.loc 21), true), []⟩,
  ⟨.loc 26, .bin .int .add (.loc 25) (.const (.d (.int .i64 1))), some ((.loc 21), true), []⟩,
  ⟨.loc 27, .call (.fn 49) [(.loc 23), (.loc 26), (.const (.d (.int .i64 1000000000)))] [.borrow, .borrow, .borrow], some ((.loc 21), true), []⟩,
  o1 (.loc 28) (.pick (.loc 21) (.loc 27) (.const (.d (.bool false)))),
  o1 (.loc 29) (.split (.loc 28)),
  ⟨.loc 30, .fld 4 (.var 1), some ((.loc 29), true), []⟩,
  ⟨.loc 31, .load false 1 (.loc 30), some ((.loc 29), true), []⟩,
  ⟨.loc 32, .fld 3 (.var 1), some ((.loc 29), true), []⟩,
  ⟨.loc 33, .load false 1 (.loc 32), some ((.loc 29), true), []⟩,
  ⟨.loc 34, .bin .int .add (.loc 33) (.const (.d (.int .i64 1))), some ((.loc 29), true), []⟩,
  ⟨.loc 35, .fld 5 (.var 1), some ((.loc 29), true), []⟩,
  ⟨.loc 36, .load false 1 (.loc 35), some ((.loc 29), true), []⟩,
  ⟨.loc 37, .call (.fn 49) [(.loc 31), (.loc 34), (.loc 36)] [.borrow, .borrow, .borrow], some ((.loc 29), true), []⟩,
  o1 (.loc 38) (.pick (.loc 29) (.loc 37) (.const (.d (.bool false)))),
  o1 (.var 2) (.mv (.loc 38))] false
def c_S_l09Lease : ACode := (.seq c_S_l09Lease_0 (.seq c_S_l09Lease_1 .ret))
abbrev F_S_l09Lease : FuncId := 116
theorem k_S_l09Lease : comp PP (Tryz.f116.ntmps, pinOf 0 [none]) [0, 1, 2] (Tryz.f116.body.getD .skip) = some c_S_l09Lease.erase := by kernel_rfl
theorem v_S_l09Lease {GG : GV} (rcs : List C) {cs : List C} {r : C} {os : List (Option C)} (hN : (cs.length == 1 && rcs.length == 1) = true) (hret : retOf rcs = r) (hW : WX GG [0, 1, 2] Tryz.f116.ntmps [none] [(.give, 2, none)] c_S_l09Lease rcs cs os) : Valid PP GG F_S_l09Lease cs r os :=
  fn_valid_n 1 1 _ _ _ _ rcs Tryz.func116 rfl rfl (by kernel_rfl) k_S_l09Lease rfl rfl hN hret hW
def c_L_toTokenS_0 : ACode := .reg [o1 (.var 2) (.mv (.const (.nil 1 7)))] false
def c_L_toTokenS_1 : ACode := .reg [o1 (.loc 5) (.mv (.var 0)),
  o1 (.loc 6) (.len false (.loc 5)),
  o1 (.loc 7) (.mkslice 1 7 72 [.int .i64 0, .int .i64 0, .slc 1 [], .int .i64 0, .int .i64 0, .int .i64 0, .int .i64 0] (.loc 6) (.loc 6)),
  o1 (.var 3) (.mv (.loc 7))] false
def c_L_toTokenS_2 : ACode := .reg [o1 (.var 4) (.mv (.const (.d (.int .i64 0))))] false
def c_L_toTokenS_3 : ACode := .reg [o1 (.loc 8) (.mv (.var 4)),
  o1 (.loc 9) (.mv (.var 0)),
  o1 (.loc 10) (.len false (.loc 9)),
  o1 (.var 11) (.bin .int .lss (.loc 8) (.loc 10))] false
def c_L_toTokenS_4 : ACode := .reg [o1 (.loc 14) (.mv (.var 3)),
  o1 (.loc 15) (.mv (.var 4)),
  o1 (.loc 16) (.mv (.var 0)),
  o1 (.loc 17) (.mv (.var 4)),
  o1 (.loc 18) (.idxA 7 (.loc 16) (.loc 17)),
  o1 (.loc 19) (.load true 7 (.loc 18)),
  o1 (.loc 20) (.call (.fn 187) [(.loc 19)] [.borrow]),
  o1 (.loc 21) (.idxA 7 (.loc 14) (.loc 15)),
  o1 .none (.store 7 (.loc 21) (.loc 20))] false
def c_L_toTokenS_5 : ACode := .reg [o1 (.loc 12) (.mv (.var 4)),
  o1 (.loc 13) (.bin .int .add (.loc 12) (.const (.d (.int .i64 1)))),
  o1 (.var 4) (.mv (.loc 13))] false
def c_L_toTokenS_6 : ACode := (.seq (.seq c_L_toTokenS_3 (.cond (.var 11) .skip (.exit 0))) (.seq (.block 1 c_L_toTokenS_4) c_L_toTokenS_5))
def c_L_toTokenS_7 : ACode := .reg [o1 (.loc 22) (.mv (.var 3)),
  o1 (.var 2) (.mv (.loc 22))] false
def c_L_toTokenS : ACode := (.seq c_L_toTokenS_0 (.seq c_L_toTokenS_1 (.seq (.seq c_L_toTokenS_2 (.block 0 (.loop [0, 3, 4] c_L_toTokenS_6))) (.seq c_L_toTokenS_7 .ret))))
abbrev F_L_toTokenS : FuncId := 117
theorem k_L_toTokenS : comp PP (Tryz.f117.ntmps, pinOf 0 [none]) [0, 2, 3, 4, 11] (Tryz.f117.body.getD .skip) = some c_L_toTokenS.erase := by kernel_rfl
theorem v_L_toTokenS {GG : GV} (rcs : List C) {cs : List C} {r : C} {os : List (Option C)} (hN : (cs.length == 1 && rcs.length == 1) = true) (hret : retOf rcs = r) (hW : WX GG [0, 2, 3, 4, 11] Tryz.f117.ntmps [none] [(.give, 2, none)] c_L_toTokenS rcs cs os) : Valid PP GG F_L_toTokenS cs r os :=
  fn_valid_n 1 1 _ _ _ _ rcs Tryz.func117 rfl rfl (by kernel_rfl) k_L_toTokenS rfl rfl hN hret hW
def c_L_toLeaseS_0 : ACode := .reg [o1 (.var 2) (.mv (.const (.nil 0 6)))] false
def c_L_toLeaseS_1 : ACode := .reg [o1 (.loc 5) (.mv (.var 0)),
  o1 (.loc 6) (.len false (.loc 5)),
  o1 (.loc 7) (.mkslice 0 6 56 [.int .i64 0, .int .i64 0, .str [], .int .i64 0, .int .i64 0, .int .i64 0] (.loc 6) (.loc 6)),
  o1 (.var 3) (.mv (.loc 7))] false
def c_L_toLeaseS_2 : ACode := .reg [o1 (.var 4) (.mv (.const (.d (.int .i64 0))))] false
def c_L_toLeaseS_3 : ACode := .reg [o1 (.loc 8) (.mv (.var 4)),
  o1 (.loc 9) (.mv (.var 0)),
  o1 (.loc 10) (.len false (.loc 9)),
  o1 (.var 11) (.bin .int .lss (.loc 8) (.loc 10))] false
def c_L_toLeaseS_4 : ACode := .reg [o1 (.loc 14) (.mv (.var 3)),
  o1 (.loc 15) (.mv (.var 4)),
  o1 (.loc 16) (.mv (.var 0)),
  o1 (.loc 17) (.mv (.var 4)),
  o1 (.loc 18) (.idxA 6 (.loc 16) (.loc 17)),
  o1 (.loc 19) (.load true 6 (.loc 18)),
  o1 (.loc 20) (.call (.fn 188) [(.loc 19)] [.borrow]),
  o1 (.loc 21) (.idxA 6 (.loc 14) (.loc 15)),
  o1 .none (.store 6 (.loc 21) (.loc 20))] false
def c_L_toLeaseS_5 : ACode := .reg [o1 (.loc 12) (.mv (.var 4)),
  o1 (.loc 13) (.bin .int .add (.loc 12) (.const (.d (.int .i64 1)))),
  o1 (.var 4) (.mv (.loc 13))] false
def c_L_toLeaseS_6 : ACode := (.seq (.seq c_L_toLeaseS_3 (.cond (.var 11) .skip (.exit 0))) (.seq (.block 1 c_L_toLeaseS_4) c_L_toLeaseS_5))
def c_L_toLeaseS_7 : ACode := .reg [o1 (.loc 22) (.mv (.var 3)),
  o1 (.var 2) (.mv (.loc 22))] false
def c_L_toLeaseS : ACode := (.seq c_L_toLeaseS_0 (.seq c_L_toLeaseS_1 (.seq (.seq c_L_toLeaseS_2 (.block 0 (.loop [0, 3, 4] c_L_toLeaseS_6))) (.seq c_L_toLeaseS_7 .ret))))
abbrev F_L_toLeaseS : FuncId := 118
theorem k_L_toLeaseS : comp PP (Tryz.f118.ntmps, pinOf 0 [none]) [0, 2, 3, 4, 11] (Tryz.f118.body.getD .skip) = some c_L_toLeaseS.erase := by kernel_rfl
theorem v_L_toLeaseS {GG : GV} (rcs : List C) {cs : List C} {r : C} {os : List (Option C)} (hN : (cs.length == 1 && rcs.length == 1) = true) (hret : retOf rcs = r) (hW : WX GG [0, 2, 3, 4, 11] Tryz.f118.ntmps [none] [(.give, 2, none)] c_L_toLeaseS rcs cs os) : Valid PP GG F_L_toLeaseS cs r os :=
  fn_valid_n 1 1 _ _ _ _ rcs Tryz.func118 rfl rfl (by kernel_rfl) k_L_toLeaseS rfl rfl hN hret hW
def c_L_toUserS_0 : ACode := .reg [o1 (.var 2) (.mv (.const (.nil 0 2)))] false
def c_L_toUserS_1 : ACode := .reg [o1 (.loc 5) (.mv (.var 0)),
  o1 (.loc 6) (.len false (.loc 5)),
  o1 (.loc 7) (.mkslice 0 2 32 [.str [], .str []] (.loc 6) (.loc 6)),
  o1 (.var 3) (.mv (.loc 7))] false
def c_L_toUserS_2 : ACode := .reg [o1 (.var 4) (.mv (.const (.d (.int .i64 0))))] false
def c_L_toUserS_3 : ACode := .reg [o1 (.loc 8) (.mv (.var 4)),
  o1 (.loc 9) (.mv (.var 0)),
  o1 (.loc 10) (.len false (.loc 9)),
  o1 (.var 11) (.bin .int .lss (.loc 8) (.loc 10))] false
def c_L_toUserS_4 : ACode := .reg [o1 (.loc 14) (.mv (.var 3)),
  o1 (.loc 15) (.mv (.var 4)),
  o1 (.loc 16) (.mv (.var 0)),
  o1 (.loc 17) (.mv (.var 4)),
  o1 (.loc 18) (.idxA 2 (.loc 16) (.loc 17)),
  o1 (.loc 19) (.load true 2 (.loc 18)),
  o1 (.loc 20) (.call (.fn 189) [(.loc 19)] [.borrow]),
  o1 (.loc 21) (.idxA 2 (.loc 14) (.loc 15)),
  o1 .none (.store 2 (.loc 21) (.loc 20))] false
def c_L_toUserS_5 : ACode := .reg [o1 (.loc 12) (.mv (.var 4)),
  o1 (.loc 13) (.bin .int .add (.loc 12) (.const (.d (.int .i64 1)))),
  o1 (.var 4) (.mv (.loc 13))] false
def c_L_toUserS_6 : ACode := (.seq (.seq c_L_toUserS_3 (.cond (.var 11) .skip (.exit 0))) (.seq (.block 1 c_L_toUserS_4) c_L_toUserS_5))
def c_L_toUserS_7 : ACode := .reg [o1 (.loc 22) (.mv (.var 3)),
  o1 (.var 2) (.mv (.loc 22))] false
def c_L_toUserS : ACode := (.seq c_L_toUserS_0 (.seq c_L_toUserS_1 (.seq (.seq c_L_toUserS_2 (.block 0 (.loop [0, 3, 4] c_L_toUserS_6))) (.seq c_L_toUserS_7 .ret))))
abbrev F_L_toUserS : FuncId := 119
theorem k_L_toUserS : comp PP (Tryz.f119.ntmps, pinOf 0 [none]) [0, 2, 3, 4, 11] (Tryz.f119.body.getD .skip) = some c_L_toUserS.erase := by kernel_rfl
theorem v_L_toUserS {GG : GV} (rcs : List C) {cs : List C} {r : C} {os : List (Option C)} (hN : (cs.length == 1 && rcs.length == 1) = true) (hret : retOf rcs = r) (hW : WX GG [0, 2, 3, 4, 11] Tryz.f119.ntmps [none] [(.give, 2, none)] c_L_toUserS rcs cs os) : Valid PP GG F_L_toUserS cs r os :=
  fn_valid_n 1 1 _ _ _ _ rcs Tryz.func119 rfl rfl (by kernel_rfl) k_L_toUserS rfl rfl hN hret hW
def c_L_toJobS_0 : ACode := .reg [o1 (.var 2) (.mv (.const (.nil 0 3)))] false
def c_L_toJobS_1 : ACode := .reg [o1 (.loc 5) (.mv (.var 0)),
  o1 (.loc 6) (.len false (.loc 5)),
  o1 (.loc 7) (.mkslice 0 3 32 [.str [], .int .i64 0, .int .i64 0] (.loc 6) (.loc 6)),
  o1 (.var 3) (.mv (.loc 7))] false
def c_L_toJobS_2 : ACode := .reg [o1 (.var 4) (.mv (.const (.d (.int .i64 0))))] false
def c_L_toJobS_3 : ACode := .reg [o1 (.loc 8) (.mv (.var 4)),
  o1 (.loc 9) (.mv (.var 0)),
  o1 (.loc 10) (.len false (.loc 9)),
  o1 (.var 11) (.bin .int .lss (.loc 8) (.loc 10))] false
def c_L_toJobS_4 : ACode := .reg [o1 (.loc 14) (.mv (.var 3)),
  o1 (.loc 15) (.mv (.var 4)),
  o1 (.loc 16) (.mv (.var 0)),
  o1 (.loc 17) (.mv (.var 4)),
  o1 (.loc 18) (.idxA 3 (.loc 16) (.loc 17)),
  o1 (.loc 19) (.load true 3 (.loc 18)),
  o1 (.loc 20) (.call (.fn 190) [(.loc 19)] [.borrow]),
  o1 (.loc 21) (.idxA 3 (.loc 14) (.loc 15)),
  o1 .none (.store 3 (.loc 21) (.loc 20))] false
def c_L_toJobS_5 : ACode := .reg [o1 (.loc 12) (.mv (.var 4)),
  o1 (.loc 13) (.bin .int .add (.loc 12) (.const (.d (.int .i64 1)))),
  o1 (.var 4) (.mv (.loc 13))] false
def c_L_toJobS_6 : ACode := (.seq (.seq c_L_toJobS_3 (.cond (.var 11) .skip (.exit 0))) (.seq (.block 1 c_L_toJobS_4) c_L_toJobS_5))
def c_L_toJobS_7 : ACode := .reg [o1 (.loc 22) (.mv (.var 3)),
  o1 (.var 2) (.mv (.loc 22))] false
def c_L_toJobS : ACode := (.seq c_L_toJobS_0 (.seq c_L_toJobS_1 (.seq (.seq c_L_toJobS_2 (.block 0 (.loop [0, 3, 4] c_L_toJobS_6))) (.seq c_L_toJobS_7 .ret))))
abbrev F_L_toJobS : FuncId := 120
theorem k_L_toJobS : comp PP (Tryz.f120.ntmps, pinOf 0 [none]) [0, 2, 3, 4, 11] (Tryz.f120.body.getD .skip) = some c_L_toJobS.erase := by kernel_rfl
theorem v_L_toJobS {GG : GV} (rcs : List C) {cs : List C} {r : C} {os : List (Option C)} (hN : (cs.length == 1 && rcs.length == 1) = true) (hret : retOf rcs = r) (hW : WX GG [0, 2, 3, 4, 11] Tryz.f120.ntmps [none] [(.give, 2, none)] c_L_toJobS rcs cs os) : Valid PP GG F_L_toJobS cs r os :=
  fn_valid_n 1 1 _ _ _ _ rcs Tryz.func120 rfl rfl (by kernel_rfl) k_L_toJobS rfl rfl hN hret hW
def c_L_toOwned_0 : ACode := .reg [o1 (.var 1) (.box (.var 0)),
  o1 (.var 2) (.alloc [.d (.int .i64 0), .d (.str [])])] false
def c_L_toOwned_1 : ACode := .reg [o1 (.var 3) (.alloc [.d (.int .i64 0), .d (.str [])])] false
def c_L_toOwned_2 : ACode := .reg [o1 (.loc 4) (.fld 0 (.var 1)),
  o1 (.loc 5) (.load false 1 (.loc 4)),
  o1 (.loc 6) (.fld 0 (.var 3)),
  o1 .none (.store 1 (.loc 6) (.loc 5))] false
def c_L_toOwned_3 : ACode := .reg [o1 (.loc 7) (.fld 1 (.var 1)),
  o1 (.loc 8) (.load false 1 (.loc 7)),
  o1 (.loc 9) (.fld 1 (.var 3)),
  o1 .none (.store 1 (.loc 9) (.loc 8))] false
def c_L_toOwned_4 : ACode := .reg [o1 (.loc 10) (.load true 2 (.var 3)),
  o1 .none (.store 2 (.var 2) (.loc 10))] false
def c_L_toOwned : ACode := (.seq c_L_toOwned_0 (.seq c_L_toOwned_1 (.seq c_L_toOwned_2 (.seq c_L_toOwned_3 (.seq c_L_toOwned_4 .ret)))))
abbrev F_L_toOwned : FuncId := 121
theorem k_L_toOwned : comp PP (Tryz.f121.ntmps, pinOf 0 [none]) [0, 1, 2, 3] (Tryz.f121.body.getD .skip) = some c_L_toOwned.erase := by kernel_rfl
theorem v_L_toOwned {GG : GV} (rcs : List C) {cs : List C} {r : C} {os : List (Option C)} (hN : (cs.length == 1 && rcs.length == 1) = true) (hret : retOf rcs = r) (hW : WX GG [0, 1, 2, 3] Tryz.f121.ntmps [none] [(.give, 2, some (true, 2))] c_L_toOwned rcs cs os) : Valid PP GG F_L_toOwned cs r os :=
  fn_valid_n 1 1 _ _ _ _ rcs Tryz.func121 rfl rfl (by kernel_rfl) k_L_toOwned rfl rfl hN hret hW
def c_I_isForest_0 : ACode := .reg [o1 (.var 1) (.box (.var 0)),
  o1 (.var 2) (.mv (.const (.d (.bool false))))] false
def c_I_isForest_1 : ACode := .reg [o1 (.loc 5) (.fld 0 (.var 1)),
  o1 (.var 6) (.load false 1 (.loc 5)),
  o1 (.var 7) (.len false (.var 6)),
  o1 (.var 8) (.mv (.const (.d (.int .i64 0))))] false
def c_I_isForest_2 : ACode := .reg [o1 (.var 9) (.bin .int .lss (.var 8) (.var 7))] false
def c_I_isForest_3 : ACode := .reg [o1 (.loc 10) (.mv (.var 8)),
  o1 (.loc 11) (.idxA 7 (.var 6) (.var 8)),
  o1 (.loc 12) (.load true 7 (.loc 11)),
  o1 (.var 4) (.alloc [.d (.int .i64 0), .d (.int .i64 0), .nil 0 1, .d (.int .i64 0), .d (.int .i64 0), .d (.int .i64 0), .d (.int .i64 0)]),
  o1 (.var 3) (.mv (.loc 10)),
  o1 .none (.store 7 (.var 4) (.loc 12))] false
def c_I_isForest_4 : ACode := .reg [o1 (.loc 13) (.load true 7 (.var 4)),
  ⟨.loc 14, .call (.fn 191) [(.loc 13)] [.borrow], none, [0]⟩,
  ⟨.loc 15, .un .not (.loc 14), none, [1, 0]⟩,
  ⟨.loc 16, .split (.loc 15), none, [2, 1, 0]⟩,
  ⟨.loc 17, .mv (.var 3), some ((.loc 16), false), [3, 2, 1, 0]⟩,
  ⟨.loc 18, .bin .int .gtr (.loc 17) (.const (.d (.int .i64 0))), some ((.loc 16), false), [4, 3, 2, 1, 0]⟩,
  ⟨.loc 19, .split (.loc 18), some ((.loc 16), false), [5, 4, 3, 2, 1, 0]⟩,
  ⟨.loc 20, .fld 0 (.var 1), some ((.loc 19), true), [6, 5, 4, 3, 2, 1, 0]⟩,
  ⟨.loc 21, .load false 1 (.loc 20), some ((.loc 19), true), [7, 6, 5, 4, 3, 2, 1, 0]⟩,
  ⟨.loc 22, .mv (.var 3), some ((.loc 19), true), [6, 5, 4, 3, 2, 1, 0]⟩,
  ⟨.loc 23, .bin .int .sub (.loc 22) (.const (.d (.int .i64 1))), some ((.loc 19), true), [9, 6, 5, 4, 3, 2, 1, 0]⟩,
  ⟨.loc 24, .idxA 7 (.loc 21) (.loc 23), some ((.loc 19), true), [8, 7, 10, 9, 6, 5, 4, 3, 2, 1, 0]⟩,
  ⟨.loc 25, .fld 0 (.loc 24), some ((.loc 19), true), [11, 8, 7, 10, 9, 6, 5, 4, 3, 2, 1, 0]⟩,
  ⟨.loc 26, .load false 1 (.loc 25), some ((.loc 19), true), [12, 11, 8, 7, 10, 9, 6, 5, 4, 3, 2, 1, 0]⟩,
  ⟨.loc 27, .fld 0 (.var 4), some ((.loc 19), true), [6, 5, 4, 3, 2, 1, 0]⟩,
  ⟨.loc 28, .load false 1 (.loc 27), some ((.loc 19), true), [14, 6, 5, 4, 3, 2, 1, 0]⟩,
  ⟨.loc 29, .bin .int .geq (.loc 26) (.loc 28), some ((.loc 19), true), [13, 12, 11, 8, 7, 10, 9, 15, 14, 6, 5, 4, 3, 2, 1, 0]⟩,
  ⟨.loc 30, .pick (.loc 19) (.loc 29) (.const (.d (.bool false))), some ((.loc 16), false), [16, 13, 12, 11, 8, 7, 10, 9, 15, 14, 6, 5, 4, 3, 2, 1, 0]⟩,
  ⟨.loc 31, .pick (.loc 16) (.const (.d (.bool true))) (.loc 30), none, [17, 16, 13, 12, 11, 8, 7, 10, 9, 15, 14, 6, 5, 4, 3, 2, 1, 0]⟩,
  ⟨.loc 32, .split (.loc 31), none, [18, 17, 16, 13, 12, 11, 8, 7, 10, 9, 15, 14, 6, 5, 4, 3, 2, 1, 0]⟩,
  ⟨.loc 33, .fld 1 (.var 4), some ((.loc 32), false), [19, 18, 17, 16, 13, 12, 11, 8, 7, 10, 9, 15, 14, 6, 5, 4, 3, 2, 1, 0]⟩,
  ⟨.loc 34, .load false 1 (.loc 33), some ((.loc 32), false), [20, 19, 18, 17, 16, 13, 12, 11, 8, 7, 10, 9, 15, 14, 6, 5, 4, 3, 2, 1, 0]⟩,
  ⟨.loc 35, .bin .int .neq (.loc 34) (.const (.d (.int .i64 0))), some ((.loc 32), false), [21, 20, 19, 18, 17, 16, 13, 12, 11, 8, 7, 10, 9, 15, 14, 6, 5, 4, 3, 2, 1, 0]⟩,
  ⟨.loc 36, .split (.loc 35), some ((.loc 32), false), [22, 21, 20, 19, 18, 17, 16, 13, 12, 11, 8, 7, 10, 9, 15, 14, 6, 5, 4, 3, 2, 1, 0]⟩,
  ⟨.loc 37, .load true 1 (.var 1), some ((.loc 36), true), [23, 22, 21, 20, 19, 18, 17, 16, 13, 12, 11, 8, 7, 10, 9, 15, 14, 6, 5, 4, 3, 2, 1, 0]⟩,
  ⟨.loc 38, .fld 1 (.var 4), some ((.loc 36), true), [23, 22, 21, 20, 19, 18, 17, 16, 13, 12, 11, 8, 7, 10, 9, 15, 14, 6, 5, 4, 3, 2, 1, 0]⟩,
  ⟨.loc 39, .load false 1 (.loc 38), some ((.loc 36), true), [25, 23, 22, 21, 20, 19, 18, 17, 16, 13, 12, 11, 8, 7, 10, 9, 15, 14, 6, 5, 4, 3, 2, 1, 0]⟩,
  ⟨.loc 40, .call (.fn 99) [(.loc 37), (.loc 39)] [.borrow, .borrow], some ((.loc 36), true), [24, 26, 25, 23, 22, 21, 20, 19, 18, 17, 16, 13, 12, 11, 8, 7, 10, 9, 15, 14, 6, 5, 4, 3, 2, 1, 0]⟩,
  ⟨.loc 41, .bin .int .lss (.loc 40) (.const (.d (.int .i64 0))), some ((.loc 36), true), [27, 24, 26, 25, 23, 22, 21, 20, 19, 18, 17, 16, 13, 12, 11, 8, 7, 10, 9, 15, 14, 6, 5, 4, 3, 2, 1, 0]⟩,
  ⟨.loc 42, .pick (.loc 36) (.loc 41) (.const (.d (.bool false))), some ((.loc 32), false), [28, 27, 24, 26, 25, 23, 22, 21, 20, 19, 18, 17, 16, 13, 12, 11, 8, 7, 10, 9, 15, 14, 6, 5, 4, 3, 2, 1, 0]⟩,
  ⟨.var 43, .pick (.loc 32) (.const (.d (.bool true))) (.loc 42), none, [29, 28, 27, 24, 26, 25, 23, 22, 21, 20, 19, 18, 17, 16, 13, 12, 11, 8, 7, 10, 9, 15, 14, 6, 5, 4, 3, 2, 1, 0]⟩] true
def c_I_isForest_5 : ACode := .reg [o1 (.var 2) (.mv (.const (.d (.bool false))))] false
def c_I_isForest_6 : ACode := .reg [o1 (.loc 44) (.bin .int .add (.var 8) (.const (.d (.int .i64 1)))),
  o1 (.var 8) (.mv (.loc 44))] false
def c_I_isForest_7 : ACode := (.seq c_I_isForest_2 (.seq (.cond (.var 9) .skip (.exit 0)) (.seq (.block 1 (.seq c_I_isForest_3 (.seq c_I_isForest_4 (.cond (.var 43) (.seq c_I_isForest_5 .ret) .skip)))) c_I_isForest_6)))
def c_I_isForest_8 : ACode := .reg [o1 (.loc 45) (.fld 0 (.var 1)),
  o1 (.loc 46) (.load false 1 (.loc 45)),
  o1 (.loc 47) (.len false (.loc 46)),
  o1 (.loc 48) (.bin .int .leq (.loc 47) (.const (.d (.int .i64 120)))),
  o1 (.var 2) (.mv (.loc 48))] false
def c_I_isForest : ACode := (.seq c_I_isForest_0 (.seq (.seq c_I_isForest_1 (.block 0 (.loop [1, 6, 7, 8] c_I_isForest_7))) (.seq c_I_isForest_8 .ret)))
abbrev F_I_isForest : FuncId := 122
theorem k_I_isForest : comp PP (Tryz.f122.ntmps, pinOf 0 [none]) [0, 1, 2, 3, 4, 6, 7, 8, 9, 43] (Tryz.f122.body.getD .skip) = some c_I_isForest.erase := by kernel_rfl
theorem v_I_isForest {GG : GV} (rcs : List C) {cs : List C} {r : C} {os : List (Option C)} (hN : (cs.length == 1 && rcs.length == 1) = true) (hret : retOf rcs = r) (hW : WX GG [0, 1, 2, 3, 4, 6, 7, 8, 9, 43] Tryz.f122.ntmps [none] [(.give, 2, none)] c_I_isForest rcs cs os) : Valid PP GG F_I_isForest cs r os :=
  fn_valid_n 1 1 _ _ _ _ rcs Tryz.func122 rfl rfl (by kernel_rfl) k_I_isForest rfl rfl hN hret hW
def c_I_isBook_0 : ACode := .reg [o1 (.var 1) (.box (.var 0)),
  o1 (.var 2) (.mv (.const (.d (.bool false))))] false
def c_I_isBook_1 : ACode := .reg [o1 (.loc 5) (.fld 0 (.var 1)),
  o1 (.var 6) (.load false 1 (.loc 5)),
  o1 (.var 7) (.len false (.var 6)),
  o1 (.var 8) (.mv (.const (.d (.int .i64 0))))] false
def c_I_isBook_2 : ACode := .reg [o1 (.var 9) (.bin .int .lss (.var 8) (.var 7))] false
def c_I_isBook_3 : ACode := .reg [o1 (.loc 10) (.mv (.var 8)),
  o1 (.loc 11) (.idxA 6 (.var 6) (.var 8)),
  o1 (.loc 12) (.load true 6 (.loc 11)),
  o1 (.var 4) (.alloc [.d (.int .i64 0), .d (.int .i64 0), .d (.str []), .d (.int .i64 0), .d (.int .i64 0), .d (.int .i64 0)]),
  o1 (.var 3) (.mv (.loc 10)),
  o1 .none (.store 6 (.var 4) (.loc 12))] false
def c_I_isBook_4 : ACode := .reg [o1 (.loc 13) (.load true 6 (.var 4)),
  ⟨.loc 14, .call (.fn 192) [(.loc 13)] [.borrow], none, [0]⟩,
  ⟨.loc 15, .un .not (.loc 14), none, [1, 0]⟩,
  ⟨.loc 16, .split (.loc 15), none, [2, 1, 0]⟩,
  ⟨.loc 17, .mv (.var 3), some ((.loc 16), false), [3, 2, 1, 0]⟩,
  ⟨.loc 18, .bin .int .gtr (.loc 17) (.const (.d (.int .i64 0))), some ((.loc 16), false), [4, 3, 2, 1, 0]⟩,
  ⟨.loc 19, .split (.loc 18), some ((.loc 16), false), [5, 4, 3, 2, 1, 0]⟩,
  ⟨.loc 20, .fld 0 (.var 1), some ((.loc 19), true), [6, 5, 4, 3, 2, 1, 0]⟩,
  ⟨.loc 21, .load false 1 (.loc 20), some ((.loc 19), true), [7, 6, 5, 4, 3, 2, 1, 0]⟩,
  ⟨.loc 22, .mv (.var 3), some ((.loc 19), true), [6, 5, 4, 3, 2, 1, 0]⟩,
  ⟨.loc 23, .bin .int .sub (.loc 22) (.const (.d (.int .i64 1))), some ((.loc 19), true), [9, 6, 5, 4, 3, 2, 1, 0]⟩,
  ⟨.loc 24, .idxA 6 (.loc 21) (.loc 23), some ((.loc 19), true), [8, 7, 10, 9, 6, 5, 4, 3, 2, 1, 0]⟩,
  ⟨.loc 25, .fld 0 (.loc 24), some ((.loc 19), true), [11, 8, 7, 10, 9, 6, 5, 4, 3, 2, 1, 0]⟩,
  ⟨.loc 26, .load false 1 (.loc 25), some ((.loc 19), true), [12, 11, 8, 7, 10, 9, 6, 5, 4, 3, 2, 1, 0]⟩,
  ⟨.loc 27, .fld 0 (.var 4), some ((.loc 19), true), [6, 5, 4, 3, 2, 1, 0]⟩,
  ⟨.loc 28, .load false 1 (.loc 27), some ((.loc 19), true), [14, 6, 5, 4, 3, 2, 1, 0]⟩,
  ⟨.loc 29, .bin .int .geq (.loc 26) (.loc 28), some ((.loc 19), true), [13, 12, 11, 8, 7, 10, 9, 15, 14, 6, 5, 4, 3, 2, 1, 0]⟩,
  ⟨.loc 30, .pick (.loc 19) (.loc 29) (.const (.d (.bool false))), some ((.loc 16), false), [16, 13, 12, 11, 8, 7, 10, 9, 15, 14, 6, 5, 4, 3, 2, 1, 0]⟩,
  ⟨.var 31, .pick (.loc 16) (.const (.d (.bool true))) (.loc 30), none, [17, 16, 13, 12, 11, 8, 7, 10, 9, 15, 14, 6, 5, 4, 3, 2, 1, 0]⟩] true
def c_I_isBook_5 : ACode := .reg [o1 (.var 2) (.mv (.const (.d (.bool false))))] false
def c_I_isBook_6 : ACode := .reg [o1 (.loc 32) (.bin .int .add (.var 8) (.const (.d (.int .i64 1)))),
  o1 (.var 8) (.mv (.loc 32))] false
def c_I_isBook_7 : ACode := (.seq c_I_isBook_2 (.seq (.cond (.var 9) .skip (.exit 0)) (.seq (.block 1 (.seq c_I_isBook_3 (.seq c_I_isBook_4 (.cond (.var 31) (.seq c_I_isBook_5 .ret) .skip)))) c_I_isBook_6)))
def c_I_isBook_8 : ACode := .reg [o1 (.loc 33) (.fld 0 (.var 1)),
  o1 (.loc 34) (.load false 1 (.loc 33)),
  o1 (.loc 35) (.len false (.loc 34)),
  o1 (.loc 36) (.bin .int .leq (.loc 35) (.const (.d (.int .i64 150)))),
  o1 (.var 2) (.mv (.loc 36))] false
def c_I_isBook : ACode := (.seq c_I_isBook_0 (.seq (.seq c_I_isBook_1 (.block 0 (.loop [1, 6, 7, 8] c_I_isBook_7))) (.seq c_I_isBook_8 .ret)))
abbrev F_I_isBook : FuncId := 123
theorem k_I_isBook : comp PP (Tryz.f123.ntmps, pinOf 0 [none]) [0, 1, 2, 3, 4, 6, 7, 8, 9, 31] (Tryz.f123.body.getD .skip) = some c_I_isBook.erase := by kernel_rfl
theorem v_I_isBook {GG : GV} (rcs : List C) {cs : List C} {r : C} {os : List (Option C)} (hN : (cs.length == 1 && rcs.length == 1) = true) (hret : retOf rcs = r) (hW : WX GG [0, 1, 2, 3, 4, 6, 7, 8, 9, 31] Tryz.f123.ntmps [none] [(.give, 2, none)] c_I_isBook rcs cs os) : Valid PP GG F_I_isBook cs r os :=
  fn_valid_n 1 1 _ _ _ _ rcs Tryz.func123 rfl rfl (by kernel_rfl) k_I_isBook rfl rfl hN hret hW
def c_I_isFar_0 : ACode := .reg [o1 (.var 1) (.box (.var 0)),
  o1 (.var 2) (.mv (.const (.d (.bool false))))] false
def c_I_isFar_1 : ACode := .reg [o1 (.loc 5) (.fld 0 (.var 1)),
  o1 (.var 6) (.load false 1 (.loc 5)),
  o1 (.var 7) (.len false (.var 6)),
  o1 (.var 8) (.mv (.const (.d (.int .i64 0))))] false
def c_I_isFar_2 : ACode := .reg [o1 (.var 9) (.bin .int .lss (.var 8) (.var 7))] false
def c_I_isFar_3 : ACode := .reg [o1 (.loc 10) (.mv (.var 8)),
  o1 (.loc 11) (.idxA 2 (.var 6) (.var 8)),
  o1 (.loc 12) (.load true 2 (.loc 11)),
  o1 (.var 4) (.alloc [.d (.str []), .d (.str [])]),
  o1 (.var 3) (.mv (.loc 10)),
  o1 .none (.store 2 (.var 4) (.loc 12))] false
def c_I_isFar_4 : ACode := .reg [o1 (.loc 13) (.fld 0 (.var 4)),
  ⟨.loc 14, .load false 1 (.loc 13), none, [0]⟩,
  ⟨.loc 15, .call (.fn 126) [(.loc 14)] [.borrow], none, [1, 0]⟩,
  ⟨.loc 16, .un .not (.loc 15), none, [2, 1, 0]⟩,
  ⟨.loc 17, .split (.loc 16), none, [3, 2, 1, 0]⟩,
  ⟨.loc 18, .mv (.var 3), some ((.loc 17), false), [4, 3, 2, 1, 0]⟩,
  ⟨.loc 19, .bin .int .gtr (.loc 18) (.const (.d (.int .i64 0))), some ((.loc 17), false), [5, 4, 3, 2, 1, 0]⟩,
  ⟨.loc 20, .split (.loc 19), some ((.loc 17), false), [6, 5, 4, 3, 2, 1, 0]⟩,
  ⟨.loc 21, .fld 0 (.var 1), some ((.loc 20), true), [7, 6, 5, 4, 3, 2, 1, 0]⟩,
  ⟨.loc 22, .load false 1 (.loc 21), some ((.loc 20), true), [8, 7, 6, 5, 4, 3, 2, 1, 0]⟩,
  ⟨.loc 23, .mv (.var 3), some ((.loc 20), true), [7, 6, 5, 4, 3, 2, 1, 0]⟩,
  ⟨.loc 24, .bin .int .sub (.loc 23) (.const (.d (.int .i64 1))), some ((.loc 20), true), [10, 7, 6, 5, 4, 3, 2, 1, 0]⟩,
  ⟨.loc 25, .idxA 2 (.loc 22) (.loc 24), some ((.loc 20), true), [9, 8, 11, 10, 7, 6, 5, 4, 3, 2, 1, 0]⟩,
  ⟨.loc 26, .fld 0 (.loc 25), some ((.loc 20), true), [12, 9, 8, 11, 10, 7, 6, 5, 4, 3, 2, 1, 0]⟩,
  ⟨.loc 27, .load false 1 (.loc 26), some ((.loc 20), true), [13, 12, 9, 8, 11, 10, 7, 6, 5, 4, 3, 2, 1, 0]⟩,
  ⟨.loc 28, .fld 0 (.var 4), some ((.loc 20), true), [7, 6, 5, 4, 3, 2, 1, 0]⟩,
  ⟨.loc 29, .load false 1 (.loc 28), some ((.loc 20), true), [15, 7, 6, 5, 4, 3, 2, 1, 0]⟩,
  ⟨.loc 30, .bin .str .geq (.loc 27) (.loc 29), some ((.loc 20), true), [14, 13, 12, 9, 8, 11, 10, 16, 15, 7, 6, 5, 4, 3, 2, 1, 0]⟩,
  ⟨.loc 31, .pick (.loc 20) (.loc 30) (.const (.d (.bool false))), some ((.loc 17), false), [17, 14, 13, 12, 9, 8, 11, 10, 16, 15, 7, 6, 5, 4, 3, 2, 1, 0]⟩,
  ⟨.var 32, .pick (.loc 17) (.const (.d (.bool true))) (.loc 31), none, [18, 17, 14, 13, 12, 9, 8, 11, 10, 16, 15, 7, 6, 5, 4, 3, 2, 1, 0]⟩] true
def c_I_isFar_5 : ACode := .reg [o1 (.var 2) (.mv (.const (.d (.bool false))))] false
def c_I_isFar_6 : ACode := .reg [o1 (.loc 33) (.bin .int .add (.var 8) (.const (.d (.int .i64 1)))),
  o1 (.var 8) (.mv (.loc 33))] false
def c_I_isFar_7 : ACode := (.seq c_I_isFar_2 (.seq (.cond (.var 9) .skip (.exit 0)) (.seq (.block 1 (.seq c_I_isFar_3 (.seq c_I_isFar_4 (.cond (.var 32) (.seq c_I_isFar_5 .ret) .skip)))) c_I_isFar_6)))
def c_I_isFar_8 : ACode := .reg [o1 (.loc 34) (.fld 0 (.var 1)),
  o1 (.loc 35) (.load false 1 (.loc 34)),
  o1 (.loc 36) (.len false (.loc 35)),
  o1 (.loc 37) (.bin .int .leq (.loc 36) (.const (.d (.int .i64 120)))),
  o1 (.loc 38) (.split (.loc 37)),
  ⟨.loc 39, .fld 1 (.var 1), some ((.loc 38), true), []⟩,
  ⟨.loc 40, .load false 1 (.loc 39), some ((.loc 38), true), []⟩,
  ⟨.loc 41, .call (.fn 103) [(.loc 40), (.const (.d (.int .i64 0))), (.const (.d (.int .i64 1000)))] [.borrow, .borrow, .borrow], some ((.loc 38), true), []⟩,
  o1 (.loc 42) (.pick (.loc 38) (.loc 41) (.const (.d (.bool false)))),
  o1 (.loc 43) (.split (.loc 42)),
  ⟨.loc 44, .fld 2 (.var 1), some ((.loc 43), true), []⟩,
  ⟨.loc 45, .load false 1 (.loc 44), some ((.loc 43), true), []⟩,
  ⟨.loc 46, .call (.fn 103) [(.loc 45), (.const (.d (.int .i64 0))), (.const (.d (.int .i64 1000000000)))] [.borrow, .borrow, .borrow], some ((.loc 43), true), []⟩,
  o1 (.loc 47) (.pick (.loc 43) (.loc 46) (.const (.d (.bool false)))),
  o1 (.var 2) (.mv (.loc 47))] false
def c_I_isFar : ACode := (.seq c_I_isFar_0 (.seq (.seq c_I_isFar_1 (.block 0 (.loop [1, 6, 7, 8] c_I_isFar_7))) (.seq c_I_isFar_8 .ret)))
abbrev F_I_isFar : FuncId := 124
theorem k_I_isFar : comp PP (Tryz.f124.ntmps, pinOf 0 [none]) [0, 1, 2, 3, 4, 6, 7, 8, 9, 32] (Tryz.f124.body.getD .skip) = some c_I_isFar.erase := by kernel_rfl
theorem v_I_isFar {GG : GV} (rcs : List C) {cs : List C} {r : C} {os : List (Option C)} (hN : (cs.length == 1 && rcs.length == 1) = true) (hret : retOf rcs = r) (hW : WX GG [0, 1, 2, 3, 4, 6, 7, 8, 9, 32] Tryz.f124.ntmps [none] [(.give, 2, none)] c_I_isFar rcs cs os) : Valid PP GG F_I_isFar cs r os :=
  fn_valid_n 1 1 _ _ _ _ rcs Tryz.func124 rfl rfl (by kernel_rfl) k_I_isFar rfl rfl hN hret hW
def c_I_isQueue_0 : ACode := .reg [o1 (.var 1) (.box (.var 0)),
  o1 (.var 2) (.mv (.const (.d (.bool false))))] false
def c_I_isQueue_1 : ACode := .reg [o1 (.loc 5) (.fld 0 (.var 1)),
  o1 (.var 6) (.load false 1 (.loc 5)),
  o1 (.var 7) (.len false (.var 6)),
  o1 (.var 8) (.mv (.const (.d (.int .i64 0))))] false
def c_I_isQueue_2 : ACode := .reg [o1 (.var 9) (.bin .int .lss (.var 8) (.var 7))] false
def c_I_isQueue_3 : ACode := .reg [o1 (.loc 10) (.mv (.var 8)),
  o1 (.loc 11) (.idxA 3 (.var 6) (.var 8)),
  o1 (.loc 12) (.load true 3 (.loc 11)),
  o1 (.var 4) (.alloc [.d (.str []), .d (.int .i64 0), .d (.int .i64 0)]),
  o1 (.var 3) (.mv (.loc 10)),
  o1 .none (.store 3 (.var 4) (.loc 12))] false
def c_I_isQueue_4 : ACode := .reg [o1 (.loc 13) (.fld 0 (.var 4)),
  ⟨.loc 14, .load false 1 (.loc 13), none, [0]⟩,
  ⟨.loc 15, .call (.fn 126) [(.loc 14)] [.borrow], none, [1, 0]⟩,
  ⟨.loc 16, .un .not (.loc 15), none, [2, 1, 0]⟩,
  ⟨.loc 17, .split (.loc 16), none, [3, 2, 1, 0]⟩,
  ⟨.loc 18, .fld 1 (.var 4), some ((.loc 17), false), [4, 3, 2, 1, 0]⟩,
  ⟨.loc 19, .load false 1 (.loc 18), some ((.loc 17), false), [5, 4, 3, 2, 1, 0]⟩,
  ⟨.loc 20, .call (.fn 103) [(.loc 19), (.const (.d (.int .i64 0))), (.const (.d (.int .i64 2000000000)))] [.borrow, .borrow, .borrow], some ((.loc 17), false), [6, 5, 4, 3, 2, 1, 0]⟩,
  ⟨.loc 21, .un .not (.loc 20), some ((.loc 17), false), [7, 6, 5, 4, 3, 2, 1, 0]⟩,
  ⟨.loc 22, .pick (.loc 17) (.const (.d (.bool true))) (.loc 21), none, [8, 7, 6, 5, 4, 3, 2, 1, 0]⟩,
  ⟨.loc 23, .split (.loc 22), none, [9, 8, 7, 6, 5, 4, 3, 2, 1, 0]⟩,
  ⟨.loc 24, .fld 2 (.var 4), some ((.loc 23), false), [10, 9, 8, 7, 6, 5, 4, 3, 2, 1, 0]⟩,
  ⟨.loc 25, .load false 1 (.loc 24), some ((.loc 23), false), [11, 10, 9, 8, 7, 6, 5, 4, 3, 2, 1, 0]⟩,
  ⟨.loc 26, .call (.fn 103) [(.loc 25), (.const (.d (.int .i64 0))), (.const (.d (.int .i64 5)))] [.borrow, .borrow, .borrow], some ((.loc 23), false), [12, 11, 10, 9, 8, 7, 6, 5, 4, 3, 2, 1, 0]⟩,
  ⟨.loc 27, .un .not (.loc 26), some ((.loc 23), false), [13, 12, 11, 10, 9, 8, 7, 6, 5, 4, 3, 2, 1, 0]⟩,
  ⟨.loc 28, .pick (.loc 23) (.const (.d (.bool true))) (.loc 27), none, [14, 13, 12, 11, 10, 9, 8, 7, 6, 5, 4, 3, 2, 1, 0]⟩,
  ⟨.loc 29, .split (.loc 28), none, [15, 14, 13, 12, 11, 10, 9, 8, 7, 6, 5, 4, 3, 2, 1, 0]⟩,
  ⟨.loc 30, .fld 0 (.var 1), some ((.loc 29), false), [16, 15, 14, 13, 12, 11, 10, 9, 8, 7, 6, 5, 4, 3, 2, 1, 0]⟩,
  ⟨.loc 31, .load false 1 (.loc 30), some ((.loc 29), false), [17, 16, 15, 14, 13, 12, 11, 10, 9, 8, 7, 6, 5, 4, 3, 2, 1, 0]⟩,
  ⟨.loc 32, .mv (.var 3), some ((.loc 29), false), [16, 15, 14, 13, 12, 11, 10, 9, 8, 7, 6, 5, 4, 3, 2, 1, 0]⟩,
  ⟨.loc 33, .sliceA 3 (.loc 31) none (some (.loc 32)), some ((.loc 29), false), [18, 17, 19, 16, 15, 14, 13, 12, 11, 10, 9, 8, 7, 6, 5, 4, 3, 2, 1, 0]⟩,
  ⟨.loc 34, .build [.nil 0 3] [(0, 1, (.loc 33))], some ((.loc 29), false), [20, 18, 17, 19, 16, 15, 14, 13, 12, 11, 10, 9, 8, 7, 6, 5, 4, 3, 2, 1, 0]⟩,
  ⟨.loc 35, .fld 0 (.var 4), some ((.loc 29), false), [16, 15, 14, 13, 12, 11, 10, 9, 8, 7, 6, 5, 4, 3, 2, 1, 0]⟩,
  ⟨.loc 36, .load false 1 (.loc 35), some ((.loc 29), false), [22, 16, 15, 14, 13, 12, 11, 10, 9, 8, 7, 6, 5, 4, 3, 2, 1, 0]⟩,
  ⟨.loc 37, .call (.fn 67) [(.loc 34), (.loc 36)] [.borrow, .borrow], some ((.loc 29), false), [21, 20, 18, 17, 19, 23, 22, 16, 15, 14, 13, 12, 11, 10, 9, 8, 7, 6, 5, 4, 3, 2, 1, 0]⟩,
  ⟨.var 38, .pick (.loc 29) (.const (.d (.bool true))) (.loc 37), none, [24, 21, 20, 18, 17, 19, 23, 22, 16, 15, 14, 13, 12, 11, 10, 9, 8, 7, 6, 5, 4, 3, 2, 1, 0]⟩] true
def c_I_isQueue_5 : ACode := .reg [o1 (.var 2) (.mv (.const (.d (.bool false))))] false
def c_I_isQueue_6 : ACode := .reg [o1 (.loc 39) (.bin .int .add (.var 8) (.const (.d (.int .i64 1)))),
  o1 (.var 8) (.mv (.loc 39))] false
def c_I_isQueue_7 : ACode := (.seq c_I_isQueue_2 (.seq (.cond (.var 9) .skip (.exit 0)) (.seq (.block 1 (.seq c_I_isQueue_3 (.seq c_I_isQueue_4 (.cond (.var 38) (.seq c_I_isQueue_5 .ret) .skip)))) c_I_isQueue_6)))
def c_I_isQueue_8 : ACode := .reg [o1 (.loc 40) (.fld 0 (.var 1)),
  o1 (.loc 41) (.load false 1 (.loc 40)),
  o1 (.loc 42) (.len false (.loc 41)),
  o1 (.loc 43) (.bin .int .leq (.loc 42) (.const (.d (.int .i64 120)))),
  o1 (.var 2) (.mv (.loc 43))] false
def c_I_isQueue : ACode := (.seq c_I_isQueue_0 (.seq (.seq c_I_isQueue_1 (.block 0 (.loop [1, 6, 7, 8] c_I_isQueue_7))) (.seq c_I_isQueue_8 .ret)))
abbrev F_I_isQueue : FuncId := 125
theorem k_I_isQueue : comp PP (Tryz.f125.ntmps, pinOf 0 [none]) [0, 1, 2, 3, 4, 6, 7, 8, 9, 38] (Tryz.f125.body.getD .skip) = some c_I_isQueue.erase := by kernel_rfl
theorem v_I_isQueue {GG : GV} (rcs : List C) {cs : List C} {r : C} {os : List (Option C)} (hN : (cs.length == 1 && rcs.length == 1) = true) (hret : retOf rcs = r) (hW : WX GG [0, 1, 2, 3, 4, 6, 7, 8, 9, 38] Tryz.f125.ntmps [none] [(.give, 2, none)] c_I_isQueue rcs cs os) : Valid PP GG F_I_isQueue cs r os :=
  fn_valid_n 1 1 _ _ _ _ rcs Tryz.func125 rfl rfl (by kernel_rfl) k_I_isQueue rfl rfl hN hret hW
def c_I_isName_0 : ACode := .reg [o1 (.var 2) (.mv (.const (.d (.bool false))))] false
def c_I_isName_1 : ACode := .reg [o1 (.loc 3) (.mv (.var 0)),
  o1 (.loc 4) (.len true (.loc 3)),
  o1 (.loc 5) (.call (.fn 103) [(.loc 4), (.const (.d (.int .i64 1))), (.const (.d (.int .i64 12)))] [.borrow, .borrow, .borrow]),
  o1 (.loc 6) (.split (.loc 5)),
  ⟨.loc 7, .mv (.var 0), some ((.loc 6), true), []⟩,
  ⟨.loc 8, .call (.fn 193) [(.loc 7), (.const (.d (.str [97, 98, 99, 100, 101, 102, 103, 104, 105, 106, 107, 108, 109, 110, 111, 112, 113, 114, 115, 116, 117, 118, 119, 120, 121, 122, 48, 49, 50, 51, 52, 53, 54, 55, 56, 57])))] [.borrow, .borrow], some ((.loc 6), true), []⟩,
  o1 (.loc 9) (.pick (.loc 6) (.loc 8) (.const (.d (.bool false)))),
  o1 (.var 2) (.mv (.loc 9))] false
def c_I_isName : ACode := (.seq c_I_isName_0 (.seq c_I_isName_1 .ret))
abbrev F_I_isName : FuncId := 126
theorem k_I_isName : comp PP (Tryz.f126.ntmps, pinOf 0 [none]) [0, 2] (Tryz.f126.body.getD .skip) = some c_I_isName.erase := by kernel_rfl
theorem v_I_isName {GG : GV} (rcs : List C) {cs : List C} {r : C} {os : List (Option C)} (hN : (cs.length == 1 && rcs.length == 1) = true) (hret : retOf rcs = r) (hW : WX GG [0, 2] Tryz.f126.ntmps [none] [(.give, 2, none)] c_I_isName rcs cs os) : Valid PP GG F_I_isName cs r os :=
  fn_valid_n 1 1 _ _ _ _ rcs Tryz.func126 rfl rfl (by kernel_rfl) k_I_isName rfl rfl hN hret hW
def c_I_isWorld_c1_0 : ACode := .reg [o1 (.var 2) (.box (.var 0)),
  o1 (.var 3) (.mv (.const (.d (.bool false))))] false
def c_I_isWorld_c1_1 : ACode := .reg [o1 (.loc 4) (.fld 1 (.var 2)),
  o1 (.loc 5) (.load false 1 (.loc 4)),
  o1 (.loc 6) (.fld 1 (.var 1)),
  o1 (.loc 7) (.load false 1 (.loc 6)),
  o1 (.loc 8) (.bin .str .eql (.loc 5) (.loc 7)),
  o1 (.var 3) (.mv (.loc 8))] false
def c_I_isWorld_c1 : ACode := (.seq c_I_isWorld_c1_0 (.seq c_I_isWorld_c1_1 .ret))
abbrev F_I_isWorld_c1 : FuncId := 127
theorem k_I_isWorld_c1 : comp PP (Tryz.f127.ntmps, pinOf 0 [none]) [0, 1, 2, 3] (Tryz.f127.body.getD .skip) = some c_I_isWorld_c1.erase := by kernel_rfl
theorem v_I_isWorld_c1 {GG : GV} (rcs : List C) {cs : List C} {r : C} {os : List (Option C)} (hN : (cs.length == 2 && rcs.length == 1) = true) (hret : retOf rcs = r) (hW : WX GG [0, 1, 2, 3] Tryz.f127.ntmps [none] [(.give, 3, none)] c_I_isWorld_c1 rcs cs os) : Valid PP GG F_I_isWorld_c1 cs r os :=
  fn_valid_n 2 1 _ _ _ _ rcs Tryz.func127 rfl rfl (by kernel_rfl) k_I_isWorld_c1 rfl rfl hN hret hW
def c_L_eqTokenS_0 : ACode := .reg [o1 (.var 4) (.mv (.const (.d (.bool false))))] false
def c_L_eqTokenS_1 : ACode := .reg [o1 (.loc 6) (.mv (.var 0)),
  o1 (.loc 7) (.len false (.loc 6)),
  o1 (.loc 8) (.mv (.var 1)),
  o1 (.loc 9) (.len false (.loc 8)),
  o1 (.var 10) (.bin .int .neq (.loc 7) (.loc 9))] false
def c_L_eqTokenS_2 : ACode := .reg [o1 (.var 4) (.mv (.const (.d (.bool false))))] false
def c_L_eqTokenS_3 : ACode := .reg [o1 (.var 5) (.mv (.const (.d (.int .i64 0))))] false
def c_L_eqTokenS_4 : ACode := .reg [o1 (.loc 11) (.mv (.var 5)),
  o1 (.loc 12) (.mv (.var 0)),
  o1 (.loc 13) (.len false (.loc 12)),
  o1 (.var 14) (.bin .int .lss (.loc 11) (.loc 13))] false
def c_L_eqTokenS_5 : ACode := .reg [o1 (.loc 17) (.mv (.var 0)),
  o1 (.loc 18) (.mv (.var 5)),
  ⟨.loc 19, .idxA 7 (.loc 17) (.loc 18), none, [0, 1]⟩,
  ⟨.loc 20, .load true 7 (.loc 19), none, [2, 0, 1]⟩,
  o1 (.loc 21) (.mv (.var 1)),
  o1 (.loc 22) (.mv (.var 5)),
  ⟨.loc 23, .idxA 7 (.loc 21) (.loc 22), none, [4, 5]⟩,
  ⟨.loc 24, .load true 7 (.loc 23), none, [6, 4, 5]⟩,
  ⟨.loc 25, .call (.fn 194) [(.loc 20), (.loc 24)] [.borrow, .borrow], none, [3, 2, 0, 1, 7, 6, 4, 5]⟩,
  ⟨.var 26, .un .not (.loc 25), none, [8, 3, 2, 0, 1, 7, 6, 4, 5]⟩] true
def c_L_eqTokenS_6 : ACode := .reg [o1 (.var 4) (.mv (.const (.d (.bool false))))] false
def c_L_eqTokenS_7 : ACode := .reg [o1 (.loc 15) (.mv (.var 5)),
  o1 (.loc 16) (.bin .int .add (.loc 15) (.const (.d (.int .i64 1)))),
  o1 (.var 5) (.mv (.loc 16))] false
def c_L_eqTokenS_8 : ACode := (.seq (.seq c_L_eqTokenS_4 (.cond (.var 14) .skip (.exit 0))) (.seq (.block 1 (.seq c_L_eqTokenS_5 (.cond (.var 26) (.seq c_L_eqTokenS_6 .ret) .skip))) c_L_eqTokenS_7))
def c_L_eqTokenS_9 : ACode := .reg [o1 (.var 4) (.mv (.const (.d (.bool true))))] false
def c_L_eqTokenS : ACode := (.seq c_L_eqTokenS_0 (.seq (.seq c_L_eqTokenS_1 (.cond (.var 10) (.seq c_L_eqTokenS_2 .ret) .skip)) (.seq (.seq c_L_eqTokenS_3 (.block 0 (.loop [0, 1, 5] c_L_eqTokenS_8))) (.seq c_L_eqTokenS_9 .ret))))
abbrev F_L_eqTokenS : FuncId := 128
theorem k_L_eqTokenS : comp PP (Tryz.f128.ntmps, pinOf 0 [none, none]) [0, 1, 4, 5, 10, 14, 26] (Tryz.f128.body.getD .skip) = some c_L_eqTokenS.erase := by kernel_rfl
theorem v_L_eqTokenS {GG : GV} (rcs : List C) {cs : List C} {r : C} {os : List (Option C)} (hN : (cs.length == 2 && rcs.length == 1) = true) (hret : retOf rcs = r) (hW : WX GG [0, 1, 4, 5, 10, 14, 26] Tryz.f128.ntmps [none, none] [(.give, 4, none)] c_L_eqTokenS rcs cs os) : Valid PP GG F_L_eqTokenS cs r os :=
  fn_valid_n 2 1 _ _ _ _ rcs Tryz.func128 rfl rfl (by kernel_rfl) k_L_eqTokenS rfl rfl hN hret hW
def c_L_eqLeaseS_0 : ACode := .reg [o1 (.var 4) (.mv (.const (.d (.bool false))))] false
def c_L_eqLeaseS_1 : ACode := .reg [o1 (.loc 6) (.mv (.var 0)),
  o1 (.loc 7) (.len false (.loc 6)),
  o1 (.loc 8) (.mv (.var 1)),
  o1 (.loc 9) (.len false (.loc 8)),
  o1 (.var 10) (.bin .int .neq (.loc 7) (.loc 9))] false
def c_L_eqLeaseS_2 : ACode := .reg [o1 (.var 4) (.mv (.const (.d (.bool false))))] false
def c_L_eqLeaseS_3 : ACode := .reg [o1 (.var 5) (.mv (.const (.d (.int .i64 0))))] false
def c_L_eqLeaseS_4 : ACode := .reg [o1 (.loc 11) (.mv (.var 5)),
  o1 (.loc 12) (.mv (.var 0)),
  o1 (.loc 13) (.len false (.loc 12)),
  o1 (.var 14) (.bin .int .lss (.loc 11) (.loc 13))] false
def c_L_eqLeaseS_5 : ACode := .reg [o1 (.loc 17) (.mv (.var 0)),
  o1 (.loc 18) (.mv (.var 5)),
  ⟨.loc 19, .idxA 6 (.loc 17) (.loc 18), none, [0, 1]⟩,
  ⟨.loc 20, .load true 6 (.loc 19), none, [2, 0, 1]⟩,
  o1 (.loc 21) (.mv (.var 1)),
  o1 (.loc 22) (.mv (.var 5)),
  ⟨.loc 23, .idxA 6 (.loc 21) (.loc 22), none, [4, 5]⟩,
  ⟨.loc 24, .load true 6 (.loc 23), none, [6, 4, 5]⟩,
  ⟨.loc 25, .call (.fn 195) [(.loc 20), (.loc 24)] [.borrow, .borrow], none, [3, 2, 0, 1, 7, 6, 4, 5]⟩,
  ⟨.var 26, .un .not (.loc 25), none, [8, 3, 2, 0, 1, 7, 6, 4, 5]⟩] true
def c_L_eqLeaseS_6 : ACode := .reg [o1 (.var 4) (.mv (.const (.d (.bool false))))] false
def c_L_eqLeaseS_7 : ACode := .reg [o1 (.loc 15) (.mv (.var 5)),
  o1 (.loc 16) (.bin .int .add (.loc 15) (.const (.d (.int .i64 1)))),
  o1 (.var 5) (.mv (.loc 16))] false
def c_L_eqLeaseS_8 : ACode := (.seq (.seq c_L_eqLeaseS_4 (.cond (.var 14) .skip (.exit 0))) (.seq (.block 1 (.seq c_L_eqLeaseS_5 (.cond (.var 26) (.seq c_L_eqLeaseS_6 .ret) .skip))) c_L_eqLeaseS_7))
def c_L_eqLeaseS_9 : ACode := .reg [o1 (.var 4) (.mv (.const (.d (.bool true))))] false
def c_L_eqLeaseS : ACode := (.seq c_L_eqLeaseS_0 (.seq (.seq c_L_eqLeaseS_1 (.cond (.var 10) (.seq c_L_eqLeaseS_2 .ret) .skip)) (.seq (.seq c_L_eqLeaseS_3 (.block 0 (.loop [0, 1, 5] c_L_eqLeaseS_8))) (.seq c_L_eqLeaseS_9 .ret))))
abbrev F_L_eqLeaseS : FuncId := 129
theorem k_L_eqLeaseS : comp PP (Tryz.f129.ntmps, pinOf 0 [none, none]) [0, 1, 4, 5, 10, 14, 26] (Tryz.f129.body.getD .skip) = some c_L_eqLeaseS.erase := by kernel_rfl
theorem v_L_eqLeaseS {GG : GV} (rcs : List C) {cs : List C} {r : C} {os : List (Option C)} (hN : (cs.length == 2 && rcs.length == 1) = true) (hret : retOf rcs = r) (hW : WX GG [0, 1, 4, 5, 10, 14, 26] Tryz.f129.ntmps [none, none] [(.give, 4, none)] c_L_eqLeaseS rcs cs os) : Valid PP GG F_L_eqLeaseS cs r os :=
  fn_valid_n 2 1 _ _ _ _ rcs Tryz.func129 rfl rfl (by kernel_rfl) k_L_eqLeaseS rfl rfl hN hret hW
def c_L_eqUserS_0 : ACode := .reg [o1 (.var 4) (.mv (.const (.d (.bool false))))] false
def c_L_eqUserS_1 : ACode := .reg [o1 (.loc 6) (.mv (.var 0)),
  o1 (.loc 7) (.len false (.loc 6)),
  o1 (.loc 8) (.mv (.var 1)),
  o1 (.loc 9) (.len false (.loc 8)),
  o1 (.var 10) (.bin .int .neq (.loc 7) (.loc 9))] false
def c_L_eqUserS_2 : ACode := .reg [o1 (.var 4) (.mv (.const (.d (.bool false))))] false
def c_L_eqUserS_3 : ACode := .reg [o1 (.var 5) (.mv (.const (.d (.int .i64 0))))] false
def c_L_eqUserS_4 : ACode := .reg [o1 (.loc 11) (.mv (.var 5)),
  o1 (.loc 12) (.mv (.var 0)),
  o1 (.loc 13) (.len false (.loc 12)),
  o1 (.var 14) (.bin .int .lss (.loc 11) (.loc 13))] false
def c_L_eqUserS_5 : ACode := .reg [o1 (.loc 17) (.mv (.var 0)),
  o1 (.loc 18) (.mv (.var 5)),
  ⟨.loc 19, .idxA 2 (.loc 17) (.loc 18), none, [0, 1]⟩,
  ⟨.loc 20, .load true 2 (.loc 19), none, [2, 0, 1]⟩,
  o1 (.loc 21) (.mv (.var 1)),
  o1 (.loc 22) (.mv (.var 5)),
  ⟨.loc 23, .idxA 2 (.loc 21) (.loc 22), none, [4, 5]⟩,
  ⟨.loc 24, .load true 2 (.loc 23), none, [6, 4, 5]⟩,
  ⟨.loc 25, .call (.fn 43) [(.loc 20), (.loc 24)] [.borrow, .borrow], none, [3, 2, 0, 1, 7, 6, 4, 5]⟩,
  ⟨.var 26, .un .not (.loc 25), none, [8, 3, 2, 0, 1, 7, 6, 4, 5]⟩] true
def c_L_eqUserS_6 : ACode := .reg [o1 (.var 4) (.mv (.const (.d (.bool false))))] false
def c_L_eqUserS_7 : ACode := .reg [o1 (.loc 15) (.mv (.var 5)),
  o1 (.loc 16) (.bin .int .add (.loc 15) (.const (.d (.int .i64 1)))),
  o1 (.var 5) (.mv (.loc 16))] false
def c_L_eqUserS_8 : ACode := (.seq (.seq c_L_eqUserS_4 (.cond (.var 14) .skip (.exit 0))) (.seq (.block 1 (.seq c_L_eqUserS_5 (.cond (.var 26) (.seq c_L_eqUserS_6 .ret) .skip))) c_L_eqUserS_7))
def c_L_eqUserS_9 : ACode := .reg [o1 (.var 4) (.mv (.const (.d (.bool true))))] false
def c_L_eqUserS : ACode := (.seq c_L_eqUserS_0 (.seq (.seq c_L_eqUserS_1 (.cond (.var 10) (.seq c_L_eqUserS_2 .ret) .skip)) (.seq (.seq c_L_eqUserS_3 (.block 0 (.loop [0, 1, 5] c_L_eqUserS_8))) (.seq c_L_eqUserS_9 .ret))))
abbrev F_L_eqUserS : FuncId := 130
theorem k_L_eqUserS : comp PP (Tryz.f130.ntmps, pinOf 0 [none, none]) [0, 1, 4, 5, 10, 14, 26] (Tryz.f130.body.getD .skip) = some c_L_eqUserS.erase := by kernel_rfl
theorem v_L_eqUserS {GG : GV} (rcs : List C) {cs : List C} {r : C} {os : List (Option C)} (hN : (cs.length == 2 && rcs.length == 1) = true) (hret : retOf rcs = r) (hW : WX GG [0, 1, 4, 5, 10, 14, 26] Tryz.f130.ntmps [none, none] [(.give, 4, none)] c_L_eqUserS rcs cs os) : Valid PP GG F_L_eqUserS cs r os :=
  fn_valid_n 2 1 _ _ _ _ rcs Tryz.func130 rfl rfl (by kernel_rfl) k_L_eqUserS rfl rfl hN hret hW
def c_L_eqJobS_0 : ACode := .reg [o1 (.var 4) (.mv (.const (.d (.bool false))))] false
def c_L_eqJobS_1 : ACode := .reg [o1 (.loc 6) (.mv (.var 0)),
  o1 (.loc 7) (.len false (.loc 6)),
  o1 (.loc 8) (.mv (.var 1)),
  o1 (.loc 9) (.len false (.loc 8)),
  o1 (.var 10) (.bin .int .neq (.loc 7) (.loc 9))] false
def c_L_eqJobS_2 : ACode := .reg [o1 (.var 4) (.mv (.const (.d (.bool false))))] false
def c_L_eqJobS_3 : ACode := .reg [o1 (.var 5) (.mv (.const (.d (.int .i64 0))))] false
def c_L_eqJobS_4 : ACode := .reg [o1 (.loc 11) (.mv (.var 5)),
  o1 (.loc 12) (.mv (.var 0)),
  o1 (.loc 13) (.len false (.loc 12)),
  o1 (.var 14) (.bin .int .lss (.loc 11) (.loc 13))] false
def c_L_eqJobS_5 : ACode := .reg [o1 (.loc 17) (.mv (.var 0)),
  o1 (.loc 18) (.mv (.var 5)),
  ⟨.loc 19, .idxA 3 (.loc 17) (.loc 18), none, [0, 1]⟩,
  ⟨.loc 20, .load true 3 (.loc 19), none, [2, 0, 1]⟩,
  o1 (.loc 21) (.mv (.var 1)),
  o1 (.loc 22) (.mv (.var 5)),
  ⟨.loc 23, .idxA 3 (.loc 21) (.loc 22), none, [4, 5]⟩,
  ⟨.loc 24, .load true 3 (.loc 23), none, [6, 4, 5]⟩,
  ⟨.loc 25, .call (.fn 196) [(.loc 20), (.loc 24)] [.borrow, .borrow], none, [3, 2, 0, 1, 7, 6, 4, 5]⟩,
  ⟨.var 26, .un .not (.loc 25), none, [8, 3, 2, 0, 1, 7, 6, 4, 5]⟩] true
def c_L_eqJobS_6 : ACode := .reg [o1 (.var 4) (.mv (.const (.d (.bool false))))] false
def c_L_eqJobS_7 : ACode := .reg [o1 (.loc 15) (.mv (.var 5)),
  o1 (.loc 16) (.bin .int .add (.loc 15) (.const (.d (.int .i64 1)))),
  o1 (.var 5) (.mv (.loc 16))] false
def c_L_eqJobS_8 : ACode := (.seq (.seq c_L_eqJobS_4 (.cond (.var 14) .skip (.exit 0))) (.seq (.block 1 (.seq c_L_eqJobS_5 (.cond (.var 26) (.seq c_L_eqJobS_6 .ret) .skip))) c_L_eqJobS_7))
def c_L_eqJobS_9 : ACode := .reg [o1 (.var 4) (.mv (.const (.d (.bool true))))] false
def c_L_eqJobS : ACode := (.seq c_L_eqJobS_0 (.seq (.seq c_L_eqJobS_1 (.cond (.var 10) (.seq c_L_eqJobS_2 .ret) .skip)) (.seq (.seq c_L_eqJobS_3 (.block 0 (.loop [0, 1, 5] c_L_eqJobS_8))) (.seq c_L_eqJobS_9 .ret))))
abbrev F_L_eqJobS : FuncId := 131
theorem k_L_eqJobS : comp PP (Tryz.f131.ntmps, pinOf 0 [none, none]) [0, 1, 4, 5, 10, 14, 26] (Tryz.f131.body.getD .skip) = some c_L_eqJobS.erase := by kernel_rfl
theorem v_L_eqJobS {GG : GV} (rcs : List C) {cs : List C} {r : C} {os : List (Option C)} (hN : (cs.length == 2 && rcs.length == 1) = true) (hret : retOf rcs = r) (hW : WX GG [0, 1, 4, 5, 10, 14, 26] Tryz.f131.ntmps [none, none] [(.give, 4, none)] c_L_eqJobS rcs cs os) : Valid PP GG F_L_eqJobS cs r os :=
  fn_valid_n 2 1 _ _ _ _ rcs Tryz.func131 rfl rfl (by kernel_rfl) k_L_eqJobS rfl rfl hN hret hW
def c_L_eqOwned_0 : ACode := .reg [o1 (.var 2) (.box (.var 0)),
  o1 (.var 3) (.box (.var 1)),
  o1 (.var 4) (.mv (.const (.d (.bool false))))] false
def c_L_eqOwned_1 : ACode := .reg [o1 (.loc 5) (.fld 0 (.var 2)),
  o1 (.loc 6) (.load false 1 (.loc 5)),
  o1 (.loc 7) (.fld 0 (.var 3)),
  o1 (.loc 8) (.load false 1 (.loc 7)),
  o1 (.var 9) (.bin .int .neq (.loc 6) (.loc 8))] false
def c_L_eqOwned_2 : ACode := .reg [o1 (.var 4) (.mv (.const (.d (.bool false))))] false
def c_L_eqOwned_3 : ACode := .reg [o1 (.loc 10) (.fld 1 (.var 2)),
  o1 (.loc 11) (.load false 1 (.loc 10)),
  o1 (.loc 12) (.fld 1 (.var 3)),
  o1 (.loc 13) (.load false 1 (.loc 12)),
  o1 (.var 14) (.bin .str .neq (.loc 11) (.loc 13))] false
def c_L_eqOwned_4 : ACode := .reg [o1 (.var 4) (.mv (.const (.d (.bool false))))] false
def c_L_eqOwned_5 : ACode := .reg [o1 (.var 4) (.mv (.const (.d (.bool true))))] false
def c_L_eqOwned : ACode := (.seq c_L_eqOwned_0 (.seq (.seq c_L_eqOwned_1 (.cond (.var 9) (.seq c_L_eqOwned_2 .ret) .skip)) (.seq (.seq c_L_eqOwned_3 (.cond (.var 14) (.seq c_L_eqOwned_4 .ret) .skip)) (.seq c_L_eqOwned_5 .ret))))
abbrev F_L_eqOwned : FuncId := 132
theorem k_L_eqOwned : comp PP (Tryz.f132.ntmps, pinOf 0 [none, none]) [0, 1, 2, 3, 4, 9, 14] (Tryz.f132.body.getD .skip) = some c_L_eqOwned.erase := by kernel_rfl
theorem v_L_eqOwned {GG : GV} (rcs : List C) {cs : List C} {r : C} {os : List (Option C)} (hN : (cs.length == 2 && rcs.length == 1) = true) (hret : retOf rcs = r) (hW : WX GG [0, 1, 2, 3, 4, 9, 14] Tryz.f132.ntmps [none, none] [(.give, 4, none)] c_L_eqOwned rcs cs os) : Valid PP GG F_L_eqOwned cs r os :=
  fn_valid_n 2 1 _ _ _ _ rcs Tryz.func132 rfl rfl (by kernel_rfl) k_L_eqOwned rfl rfl hN hret hW
def c_slices_ContainsFunc___impl_Job_impl_Job__0 : ACode := .reg [o1 (.var 4) (.mv (.const (.d (.bool false))))] false
def c_slices_ContainsFunc___impl_Job_impl_Job__1 : ACode := .reg [o1 (.loc 5) (.mv (.var 0)),
  o1 (.loc 6) (.mv (.var 1)),
  o1 (.loc 7) (.call (.fn 197) [(.loc 5), (.loc 6)] [.borrow, .borrow]),
  o1 (.loc 8) (.bin .int .geq (.loc 7) (.const (.d (.int .i64 0)))),
  o1 (.var 4) (.mv (.loc 8))] false
def c_slices_ContainsFunc___impl_Job_impl_Job_ : ACode := (.seq c_slices_ContainsFunc___impl_Job_impl_Job__0 (.seq c_slices_ContainsFunc___impl_Job_impl_Job__1 .ret))
abbrev F_slices_ContainsFunc___impl_Job_impl_Job_ : FuncId := 133
theorem k_slices_ContainsFunc___impl_Job_impl_Job_ : comp PP (Tryz.f133.ntmps, pinOf 0 [none, none]) [0, 1, 4] (Tryz.f133.body.getD .skip) = some c_slices_ContainsFunc___impl_Job_impl_Job_.erase := by kernel_rfl
theorem v_slices_ContainsFunc___impl_Job_impl_Job_ {GG : GV} (rcs : List C) {cs : List C} {r : C} {os : List (Option C)} (hN : (cs.length == 2 && rcs.length == 1) = true) (hret : retOf rcs = r) (hW : WX GG [0, 1, 4] Tryz.f133.ntmps [none, none] [(.give, 4, none)] c_slices_ContainsFunc___impl_Job_impl_Job_ rcs cs os) : Valid PP GG F_slices_ContainsFunc___impl_Job_impl_Job_ cs r os :=
  fn_valid_n 2 1 _ _ _ _ rcs Tryz.func133 rfl rfl (by kernel_rfl) k_slices_ContainsFunc___impl_Job_impl_Job_ rfl rfl hN hret hW
def c_I_hasJob_c1_0 : ACode := .reg [o1 (.var 2) (.box (.var 0)),
  o1 (.var 3) (.mv (.const (.d (.bool false))))] false
def c_I_hasJob_c1_1 : ACode := .reg [o1 (.loc 4) (.fld 0 (.var 2)),
  o1 (.loc 5) (.load false 1 (.loc 4)),
  o1 (.loc 6) (.load false 1 (.var 1)),
  o1 (.loc 7) (.bin .str .eql (.loc 5) (.loc 6)),
  o1 (.var 3) (.mv (.loc 7))] false
def c_I_hasJob_c1 : ACode := (.seq c_I_hasJob_c1_0 (.seq c_I_hasJob_c1_1 .ret))
abbrev F_I_hasJob_c1 : FuncId := 134
theorem k_I_hasJob_c1 : comp PP (Tryz.f134.ntmps, pinOf 0 [none]) [0, 1, 2, 3] (Tryz.f134.body.getD .skip) = some c_I_hasJob_c1.erase := by kernel_rfl
theorem v_I_hasJob_c1 {GG : GV} (rcs : List C) {cs : List C} {r : C} {os : List (Option C)} (hN : (cs.length == 2 && rcs.length == 1) = true) (hret : retOf rcs = r) (hW : WX GG [0, 1, 2, 3] Tryz.f134.ntmps [none] [(.give, 3, none)] c_I_hasJob_c1 rcs cs os) : Valid PP GG F_I_hasJob_c1 cs r os :=
  fn_valid_n 2 1 _ _ _ _ rcs Tryz.func134 rfl rfl (by kernel_rfl) k_I_hasJob_c1 rfl rfl hN hret hW
def c_slices_IndexFunc___impl_Owned_impl_Owned__0 : ACode := .reg [o1 (.var 4) (.mv (.const (.d (.int .i64 0))))] false
def c_slices_IndexFunc___impl_Owned_impl_Owned__1 : ACode := .reg [o1 (.loc 6) (.mv (.var 0)),
  o1 (.var 7) (.len false (.loc 6)),
  o1 (.var 8) (.mv (.const (.d (.int .i64 0))))] false
def c_slices_IndexFunc___impl_Owned_impl_Owned__2 : ACode := .reg [o1 (.var 9) (.bin .int .lss (.var 8) (.var 7))] false
def c_slices_IndexFunc___impl_Owned_impl_Owned__3 : ACode := .reg [o1 (.loc 10) (.mv (.var 8)),
  o1 (.var 5) (.mv (.loc 10))] false
def c_slices_IndexFunc___impl_Owned_impl_Owned__4 : ACode := .reg [o1 (.loc 11) (.mv (.var 1)),
  o1 (.loc 12) (.mv (.var 0)),
  o1 (.loc 13) (.mv (.var 5)),
  o1 (.loc 14) (.idxA 2 (.loc 12) (.loc 13)),
  o1 (.loc 15) (.load true 2 (.loc 14)),
  o1 (.var 16) (.call (.loc 11) [(.loc 15)] [.borrow])] false
def c_slices_IndexFunc___impl_Owned_impl_Owned__5 : ACode := .reg [o1 (.loc 17) (.mv (.var 5)),
  o1 (.var 4) (.mv (.loc 17))] false
def c_slices_IndexFunc___impl_Owned_impl_Owned__6 : ACode := .reg [o1 (.loc 18) (.bin .int .add (.var 8) (.const (.d (.int .i64 1)))),
  o1 (.var 8) (.mv (.loc 18))] false
def c_slices_IndexFunc___impl_Owned_impl_Owned__7 : ACode := (.seq c_slices_IndexFunc___impl_Owned_impl_Owned__2 (.seq (.cond (.var 9) .skip (.exit 0)) (.seq (.block 1 (.seq c_slices_IndexFunc___impl_Owned_impl_Owned__3 (.seq c_slices_IndexFunc___impl_Owned_impl_Owned__4 (.cond (.var 16) (.seq c_slices_IndexFunc___impl_Owned_impl_Owned__5 .ret) .skip)))) c_slices_IndexFunc___impl_Owned_impl_Owned__6)))
def c_slices_IndexFunc___impl_Owned_impl_Owned__8 : ACode := .reg [o1 (.var 4) (.mv (.const (.d (.int .i64 (-1)))))] false
def c_slices_IndexFunc___impl_Owned_impl_Owned_ : ACode := (.seq c_slices_IndexFunc___impl_Owned_impl_Owned__0 (.seq (.seq c_slices_IndexFunc___impl_Owned_impl_Owned__1 (.block 0 (.loop [0, 1, 7, 8] c_slices_IndexFunc___impl_Owned_impl_Owned__7))) (.seq c_slices_IndexFunc___impl_Owned_impl_Owned__8 .ret)))
abbrev F_slices_IndexFunc___impl_Owned_impl_Owned_ : FuncId := 135
theorem k_slices_IndexFunc___impl_Owned_impl_Owned_ : comp PP (Tryz.f135.ntmps, pinOf 0 [none, none]) [0, 1, 4, 5, 7, 8, 9, 16] (Tryz.f135.body.getD .skip) = some c_slices_IndexFunc___impl_Owned_impl_Owned_.erase := by kernel_rfl
theorem v_slices_IndexFunc___impl_Owned_impl_Owned_ {GG : GV} (rcs : List C) {cs : List C} {r : C} {os : List (Option C)} (hN : (cs.length == 2 && rcs.length == 1) = true) (hret : retOf rcs = r) (hW : WX GG [0, 1, 4, 5, 7, 8, 9, 16] Tryz.f135.ntmps [none, none] [(.give, 4, none)] c_slices_IndexFunc___impl_Owned_impl_Owned_ rcs cs os) : Valid PP GG F_slices_IndexFunc___impl_Owned_impl_Owned_ cs r os :=
  fn_valid_n 2 1 _ _ _ _ rcs Tryz.func135 rfl rfl (by kernel_rfl) k_slices_IndexFunc___impl_Owned_impl_Owned_ rfl rfl hN hret hW
def c_L_markTokenS_0 : ACode := .reg [o1 (.var 4) (.mv (.const (.d (.int .i64 0))))] false
def c_L_markTokenS_1 : ACode := .reg [o1 (.var 5) (.mv (.const (.d (.int .i64 0))))] false
def c_L_markTokenS_2 : ACode := .reg [o1 (.loc 6) (.mv (.var 5)),
  o1 (.loc 7) (.mv (.var 0)),
  o1 (.loc 8) (.len false (.loc 7)),
  o1 (.var 9) (.bin .int .lss (.loc 6) (.loc 8))] false
def c_L_markTokenS_3 : ACode := .reg [o1 (.loc 12) (.mv (.var 0)),
  o1 (.loc 13) (.mv (.var 5)),
  o1 (.loc 14) (.mv (.var 1)),
  o1 (.loc 15) (.idxA 7 (.loc 12) (.loc 13)),
  o1 (.loc 16) (.fld 0 (.loc 15)),
  o1 .none (.store 1 (.loc 16) (.loc 14))] false
def c_L_markTokenS_4 : ACode := .reg [o1 (.loc 17) (.mv (.var 1)),
  o1 (.loc 18) (.bin .int .add (.loc 17) (.const (.d (.int .i64 1)))),
  o1 (.var 1) (.mv (.loc 18))] false
def c_L_markTokenS_5 : ACode := .reg [o1 (.loc 19) (.mv (.var 0)),
  o1 (.loc 20) (.mv (.var 5)),
  o1 (.loc 21) (.mv (.var 1)),
  o1 (.loc 22) (.idxA 7 (.loc 19) (.loc 20)),
  o1 (.loc 23) (.fld 1 (.loc 22)),
  o1 .none (.store 1 (.loc 23) (.loc 21))] false
def c_L_markTokenS_6 : ACode := .reg [o1 (.loc 24) (.mv (.var 1)),
  o1 (.loc 25) (.bin .int .add (.loc 24) (.const (.d (.int .i64 1)))),
  o1 (.var 1) (.mv (.loc 25))] false
def c_L_markTokenS_7 : ACode := .reg [o1 (.loc 26) (.mv (.var 0)),
  o1 (.loc 27) (.mv (.var 5)),
  o1 (.loc 28) (.idxA 7 (.loc 26) (.loc 27)),
  o1 (.loc 29) (.fld 2 (.loc 28)),
  o1 (.loc 30) (.load false 1 (.loc 29)),
  o1 (.loc 31) (.mv (.var 1)),
  o1 (.loc 32) (.call (.fn 20) [(.loc 30), (.loc 31)] [.lend, .borrow]),
  o1 (.var 1) (.mv (.loc 32))] false
def c_L_markTokenS_8 : ACode := .reg [o1 (.loc 33) (.mv (.var 0)),
  o1 (.loc 34) (.mv (.var 5)),
  o1 (.loc 35) (.mv (.var 1)),
  o1 (.loc 36) (.idxA 7 (.loc 33) (.loc 34)),
  o1 (.loc 37) (.fld 3 (.loc 36)),
  o1 .none (.store 1 (.loc 37) (.loc 35))] false
def c_L_markTokenS_9 : ACode := .reg [o1 (.loc 38) (.mv (.var 1)),
  o1 (.loc 39) (.bin .int .add (.loc 38) (.const (.d (.int .i64 1)))),
  o1 (.var 1) (.mv (.loc 39))] false
def c_L_markTokenS_10 : ACode := .reg [o1 (.loc 40) (.mv (.var 0)),
  o1 (.loc 41) (.mv (.var 5)),
  o1 (.loc 42) (.mv (.var 1)),
  o1 (.loc 43) (.idxA 7 (.loc 40) (.loc 41)),
  o1 (.loc 44) (.fld 4 (.loc 43)),
  o1 .none (.store 1 (.loc 44) (.loc 42))] false
def c_L_markTokenS_11 : ACode := .reg [o1 (.loc 45) (.mv (.var 1)),
  o1 (.loc 46) (.bin .int .add (.loc 45) (.const (.d (.int .i64 1)))),
  o1 (.var 1) (.mv (.loc 46))] false
def c_L_markTokenS_12 : ACode := .reg [o1 (.loc 47) (.mv (.var 0)),
  o1 (.loc 48) (.mv (.var 5)),
  o1 (.loc 49) (.mv (.var 1)),
  o1 (.loc 50) (.idxA 7 (.loc 47) (.loc 48)),
  o1 (.loc 51) (.fld 5 (.loc 50)),
  o1 .none (.store 1 (.loc 51) (.loc 49))] false
def c_L_markTokenS_13 : ACode := .reg [o1 (.loc 52) (.mv (.var 1)),
  o1 (.loc 53) (.bin .int .add (.loc 52) (.const (.d (.int .i64 1)))),
  o1 (.var 1) (.mv (.loc 53))] false
def c_L_markTokenS_14 : ACode := .reg [o1 (.loc 54) (.mv (.var 0)),
  o1 (.loc 55) (.mv (.var 5)),
  o1 (.loc 56) (.mv (.var 1)),
  o1 (.loc 57) (.idxA 7 (.loc 54) (.loc 55)),
  o1 (.loc 58) (.fld 6 (.loc 57)),
  o1 .none (.store 1 (.loc 58) (.loc 56))] false
def c_L_markTokenS_15 : ACode := .reg [o1 (.loc 59) (.mv (.var 1)),
  o1 (.loc 60) (.bin .int .add (.loc 59) (.const (.d (.int .i64 1)))),
  o1 (.var 1) (.mv (.loc 60))] false
def c_L_markTokenS_16 : ACode := .reg [o1 (.loc 10) (.mv (.var 5)),
  o1 (.loc 11) (.bin .int .add (.loc 10) (.const (.d (.int .i64 1)))),
  o1 (.var 5) (.mv (.loc 11))] false
def c_L_markTokenS_17 : ACode := (.seq (.seq c_L_markTokenS_2 (.cond (.var 9) .skip (.exit 0))) (.seq (.block 1 (.seq c_L_markTokenS_3 (.seq c_L_markTokenS_4 (.seq c_L_markTokenS_5 (.seq c_L_markTokenS_6 (.seq c_L_markTokenS_7 (.seq c_L_markTokenS_8 (.seq c_L_markTokenS_9 (.seq c_L_markTokenS_10 (.seq c_L_markTokenS_11 (.seq c_L_markTokenS_12 (.seq c_L_markTokenS_13 (.seq c_L_markTokenS_14 c_L_markTokenS_15))))))))))))) c_L_markTokenS_16))
def c_L_markTokenS_18 : ACode := .reg [o1 (.loc 61) (.mv (.var 1)),
  o1 (.var 4) (.mv (.loc 61))] false
def c_L_markTokenS : ACode := (.seq c_L_markTokenS_0 (.seq (.seq c_L_markTokenS_1 (.block 0 (.loop [0, 1, 5] c_L_markTokenS_17))) (.seq c_L_markTokenS_18 .ret)))
abbrev F_L_markTokenS : FuncId := 136
theorem k_L_markTokenS : comp PP (Tryz.f136.ntmps, pinOf 0 [some .give, none]) [0, 1, 4, 5, 9] (Tryz.f136.body.getD .skip) = some c_L_markTokenS.erase := by kernel_rfl
theorem v_L_markTokenS {GG : GV} (rcs : List C) {cs : List C} {r : C} {os : List (Option C)} (hN : (cs.length == 2 && rcs.length == 1) = true) (hret : retOf rcs = r) (hW : WX GG [0, 1, 4, 5, 9] Tryz.f136.ntmps [some .give, none] [(.give, 4, none)] c_L_markTokenS rcs cs os) : Valid PP GG F_L_markTokenS cs r os :=
  fn_valid_n 2 1 _ _ _ _ rcs Tryz.func136 rfl rfl (by kernel_rfl) k_L_markTokenS rfl rfl hN hret hW
def c_L_markLeaseS_0 : ACode := .reg [o1 (.var 4) (.mv (.const (.d (.int .i64 0))))] false
def c_L_markLeaseS_1 : ACode := .reg [o1 (.var 5) (.mv (.const (.d (.int .i64 0))))] false
def c_L_markLeaseS_2 : ACode := .reg [o1 (.loc 6) (.mv (.var 5)),
  o1 (.loc 7) (.mv (.var 0)),
  o1 (.loc 8) (.len false (.loc 7)),
  o1 (.var 9) (.bin .int .lss (.loc 6) (.loc 8))] false
def c_L_markLeaseS_3 : ACode := .reg [o1 (.loc 12) (.mv (.var 0)),
  o1 (.loc 13) (.mv (.var 5)),
  o1 (.loc 14) (.mv (.var 1)),
  o1 (.loc 15) (.idxA 6 (.loc 12) (.loc 13)),
  o1 (.loc 16) (.fld 0 (.loc 15)),
  o1 .none (.store 1 (.loc 16) (.loc 14))] false
def c_L_markLeaseS_4 : ACode := .reg [o1 (.loc 17) (.mv (.var 1)),
  o1 (.loc 18) (.bin .int .add (.loc 17) (.const (.d (.int .i64 1)))),
  o1 (.var 1) (.mv (.loc 18))] false
def c_L_markLeaseS_5 : ACode := .reg [o1 (.loc 19) (.mv (.var 0)),
  o1 (.loc 20) (.mv (.var 5)),
  o1 (.loc 21) (.mv (.var 1)),
  o1 (.loc 22) (.idxA 6 (.loc 19) (.loc 20)),
  o1 (.loc 23) (.fld 1 (.loc 22)),
  o1 .none (.store 1 (.loc 23) (.loc 21))] false
def c_L_markLeaseS_6 : ACode := .reg [o1 (.loc 24) (.mv (.var 1)),
  o1 (.loc 25) (.bin .int .add (.loc 24) (.const (.d (.int .i64 1)))),
  o1 (.var 1) (.mv (.loc 25))] false
def c_L_markLeaseS_7 : ACode := .reg [o1 (.loc 26) (.mv (.var 0)),
  o1 (.loc 27) (.mv (.var 5)),
  o1 (.loc 28) (.mv (.var 1)),
  o1 (.loc 29) (.call (.fn 75) [(.loc 28)] [.borrow]),
  o1 (.loc 30) (.idxA 6 (.loc 26) (.loc 27)),
  o1 (.loc 31) (.fld 2 (.loc 30)),
  o1 .none (.store 1 (.loc 31) (.loc 29))] false
def c_L_markLeaseS_8 : ACode := .reg [o1 (.loc 32) (.mv (.var 1)),
  o1 (.loc 33) (.bin .int .add (.loc 32) (.const (.d (.int .i64 1)))),
  o1 (.var 1) (.mv (.loc 33))] false
def c_L_markLeaseS_9 : ACode := .reg [o1 (.loc 34) (.mv (.var 0)),
  o1 (.loc 35) (.mv (.var 5)),
  o1 (.loc 36) (.mv (.var 1)),
  o1 (.loc 37) (.idxA 6 (.loc 34) (.loc 35)),
  o1 (.loc 38) (.fld 3 (.loc 37)),
  o1 .none (.store 1 (.loc 38) (.loc 36))] false
def c_L_markLeaseS_10 : ACode := .reg [o1 (.loc 39) (.mv (.var 1)),
  o1 (.loc 40) (.bin .int .add (.loc 39) (.const (.d (.int .i64 1)))),
  o1 (.var 1) (.mv (.loc 40))] false
def c_L_markLeaseS_11 : ACode := .reg [o1 (.loc 41) (.mv (.var 0)),
  o1 (.loc 42) (.mv (.var 5)),
  o1 (.loc 43) (.mv (.var 1)),
  o1 (.loc 44) (.idxA 6 (.loc 41) (.loc 42)),
  o1 (.loc 45) (.fld 4 (.loc 44)),
  o1 .none (.store 1 (.loc 45) (.loc 43))] false
def c_L_markLeaseS_12 : ACode := .reg [o1 (.loc 46) (.mv (.var 1)),
  o1 (.loc 47) (.bin .int .add (.loc 46) (.const (.d (.int .i64 1)))),
  o1 (.var 1) (.mv (.loc 47))] false
def c_L_markLeaseS_13 : ACode := .reg [o1 (.loc 48) (.mv (.var 0)),
  o1 (.loc 49) (.mv (.var 5)),
  o1 (.loc 50) (.mv (.var 1)),
  o1 (.loc 51) (.idxA 6 (.loc 48) (.loc 49)),
  o1 (.loc 52) (.fld 5 (.loc 51)),
  o1 .none (.store 1 (.loc 52) (.loc 50))] false
def c_L_markLeaseS_14 : ACode := .reg [o1 (.loc 53) (.mv (.var 1)),
  o1 (.loc 54) (.bin .int .add (.loc 53) (.const (.d (.int .i64 1)))),
  o1 (.var 1) (.mv (.loc 54))] false
def c_L_markLeaseS_15 : ACode := .reg [o1 (.loc 10) (.mv (.var 5)),
  o1 (.loc 11) (.bin .int .add (.loc 10) (.const (.d (.int .i64 1)))),
  o1 (.var 5) (.mv (.loc 11))] false
def c_L_markLeaseS_16 : ACode := (.seq (.seq c_L_markLeaseS_2 (.cond (.var 9) .skip (.exit 0))) (.seq (.block 1 (.seq c_L_markLeaseS_3 (.seq c_L_markLeaseS_4 (.seq c_L_markLeaseS_5 (.seq c_L_markLeaseS_6 (.seq c_L_markLeaseS_7 (.seq c_L_markLeaseS_8 (.seq c_L_markLeaseS_9 (.seq c_L_markLeaseS_10 (.seq c_L_markLeaseS_11 (.seq c_L_markLeaseS_12 (.seq c_L_markLeaseS_13 c_L_markLeaseS_14)))))))))))) c_L_markLeaseS_15))
def c_L_markLeaseS_17 : ACode := .reg [o1 (.loc 55) (.mv (.var 1)),
  o1 (.var 4) (.mv (.loc 55))] false
def c_L_markLeaseS : ACode := (.seq c_L_markLeaseS_0 (.seq (.seq c_L_markLeaseS_1 (.block 0 (.loop [0, 1, 5] c_L_markLeaseS_16))) (.seq c_L_markLeaseS_17 .ret)))
abbrev F_L_markLeaseS : FuncId := 137
theorem k_L_markLeaseS : comp PP (Tryz.f137.ntmps, pinOf 0 [some .give, none]) [0, 1, 4, 5, 9] (Tryz.f137.body.getD .skip) = some c_L_markLeaseS.erase := by kernel_rfl
theorem v_L_markLeaseS {GG : GV} (rcs : List C) {cs : List C} {r : C} {os : List (Option C)} (hN : (cs.length == 2 && rcs.length == 1) = true) (hret : retOf rcs = r) (hW : WX GG [0, 1, 4, 5, 9] Tryz.f137.ntmps [some .give, none] [(.give, 4, none)] c_L_markLeaseS rcs cs os) : Valid PP GG F_L_markLeaseS cs r os :=
  fn_valid_n 2 1 _ _ _ _ rcs Tryz.func137 rfl rfl (by kernel_rfl) k_L_markLeaseS rfl rfl hN hret hW
def c_L_markUserS_0 : ACode := .reg [o1 (.var 4) (.mv (.const (.d (.int .i64 0))))] false
def c_L_markUserS_1 : ACode := .reg [o1 (.var 5) (.mv (.const (.d (.int .i64 0))))] false
def c_L_markUserS_2 : ACode := .reg [o1 (.loc 6) (.mv (.var 5)),
  o1 (.loc 7) (.mv (.var 0)),
  o1 (.loc 8) (.len false (.loc 7)),
  o1 (.var 9) (.bin .int .lss (.loc 6) (.loc 8))] false
def c_L_markUserS_3 : ACode := .reg [o1 (.loc 12) (.mv (.var 0)),
  o1 (.loc 13) (.mv (.var 5)),
  o1 (.loc 14) (.mv (.var 1)),
  o1 (.loc 15) (.call (.fn 75) [(.loc 14)] [.borrow]),
  o1 (.loc 16) (.idxA 2 (.loc 12) (.loc 13)),
  o1 (.loc 17) (.fld 0 (.loc 16)),
  o1 .none (.store 1 (.loc 17) (.loc 15))] false
def c_L_markUserS_4 : ACode := .reg [o1 (.loc 18) (.mv (.var 1)),
  o1 (.loc 19) (.bin .int .add (.loc 18) (.const (.d (.int .i64 1)))),
  o1 (.var 1) (.mv (.loc 19))] false
def c_L_markUserS_5 : ACode := .reg [o1 (.loc 20) (.mv (.var 0)),
  o1 (.loc 21) (.mv (.var 5)),
  o1 (.loc 22) (.mv (.var 1)),
  o1 (.loc 23) (.call (.fn 75) [(.loc 22)] [.borrow]),
  o1 (.loc 24) (.idxA 2 (.loc 20) (.loc 21)),
  o1 (.loc 25) (.fld 1 (.loc 24)),
  o1 .none (.store 1 (.loc 25) (.loc 23))] false
def c_L_markUserS_6 : ACode := .reg [o1 (.loc 26) (.mv (.var 1)),
  o1 (.loc 27) (.bin .int .add (.loc 26) (.const (.d (.int .i64 1)))),
  o1 (.var 1) (.mv (.loc 27))] false
def c_L_markUserS_7 : ACode := .reg [o1 (.loc 10) (.mv (.var 5)),
  o1 (.loc 11) (.bin .int .add (.loc 10) (.const (.d (.int .i64 1)))),
  o1 (.var 5) (.mv (.loc 11))] false
def c_L_markUserS_8 : ACode := (.seq (.seq c_L_markUserS_2 (.cond (.var 9) .skip (.exit 0))) (.seq (.block 1 (.seq c_L_markUserS_3 (.seq c_L_markUserS_4 (.seq c_L_markUserS_5 c_L_markUserS_6)))) c_L_markUserS_7))
def c_L_markUserS_9 : ACode := .reg [o1 (.loc 28) (.mv (.var 1)),
  o1 (.var 4) (.mv (.loc 28))] false
def c_L_markUserS : ACode := (.seq c_L_markUserS_0 (.seq (.seq c_L_markUserS_1 (.block 0 (.loop [0, 1, 5] c_L_markUserS_8))) (.seq c_L_markUserS_9 .ret)))
abbrev F_L_markUserS : FuncId := 138
theorem k_L_markUserS : comp PP (Tryz.f138.ntmps, pinOf 0 [some .give, none]) [0, 1, 4, 5, 9] (Tryz.f138.body.getD .skip) = some c_L_markUserS.erase := by kernel_rfl
theorem v_L_markUserS {GG : GV} (rcs : List C) {cs : List C} {r : C} {os : List (Option C)} (hN : (cs.length == 2 && rcs.length == 1) = true) (hret : retOf rcs = r) (hW : WX GG [0, 1, 4, 5, 9] Tryz.f138.ntmps [some .give, none] [(.give, 4, none)] c_L_markUserS rcs cs os) : Valid PP GG F_L_markUserS cs r os :=
  fn_valid_n 2 1 _ _ _ _ rcs Tryz.func138 rfl rfl (by kernel_rfl) k_L_markUserS rfl rfl hN hret hW
def c_L_markJobS_0 : ACode := .reg [o1 (.var 4) (.mv (.const (.d (.int .i64 0))))] false
def c_L_markJobS_1 : ACode := .reg [o1 (.var 5) (.mv (.const (.d (.int .i64 0))))] false
def c_L_markJobS_2 : ACode := .reg [o1 (.loc 6) (.mv (.var 5)),
  o1 (.loc 7) (.mv (.var 0)),
  o1 (.loc 8) (.len false (.loc 7)),
  o1 (.var 9) (.bin .int .lss (.loc 6) (.loc 8))] false
def c_L_markJobS_3 : ACode := .reg [o1 (.loc 12) (.mv (.var 0)),
  o1 (.loc 13) (.mv (.var 5)),
  o1 (.loc 14) (.mv (.var 1)),
  o1 (.loc 15) (.call (.fn 75) [(.loc 14)] [.borrow]),
  o1 (.loc 16) (.idxA 3 (.loc 12) (.loc 13)),
  o1 (.loc 17) (.fld 0 (.loc 16)),
  o1 .none (.store 1 (.loc 17) (.loc 15))] false
def c_L_markJobS_4 : ACode := .reg [o1 (.loc 18) (.mv (.var 1)),
  o1 (.loc 19) (.bin .int .add (.loc 18) (.const (.d (.int .i64 1)))),
  o1 (.var 1) (.mv (.loc 19))] false
def c_L_markJobS_5 : ACode := .reg [o1 (.loc 20) (.mv (.var 0)),
  o1 (.loc 21) (.mv (.var 5)),
  o1 (.loc 22) (.mv (.var 1)),
  o1 (.loc 23) (.idxA 3 (.loc 20) (.loc 21)),
  o1 (.loc 24) (.fld 1 (.loc 23)),
  o1 .none (.store 1 (.loc 24) (.loc 22))] false
def c_L_markJobS_6 : ACode := .reg [o1 (.loc 25) (.mv (.var 1)),
  o1 (.loc 26) (.bin .int .add (.loc 25) (.const (.d (.int .i64 1)))),
  o1 (.var 1) (.mv (.loc 26))] false
def c_L_markJobS_7 : ACode := .reg [o1 (.loc 27) (.mv (.var 0)),
  o1 (.loc 28) (.mv (.var 5)),
  o1 (.loc 29) (.mv (.var 1)),
  o1 (.loc 30) (.idxA 3 (.loc 27) (.loc 28)),
  o1 (.loc 31) (.fld 2 (.loc 30)),
  o1 .none (.store 1 (.loc 31) (.loc 29))] false
def c_L_markJobS_8 : ACode := .reg [o1 (.loc 32) (.mv (.var 1)),
  o1 (.loc 33) (.bin .int .add (.loc 32) (.const (.d (.int .i64 1)))),
  o1 (.var 1) (.mv (.loc 33))] false
def c_L_markJobS_9 : ACode := .reg [o1 (.loc 10) (.mv (.var 5)),
  o1 (.loc 11) (.bin .int .add (.loc 10) (.const (.d (.int .i64 1)))),
  o1 (.var 5) (.mv (.loc 11))] false
def c_L_markJobS_10 : ACode := (.seq (.seq c_L_markJobS_2 (.cond (.var 9) .skip (.exit 0))) (.seq (.block 1 (.seq c_L_markJobS_3 (.seq c_L_markJobS_4 (.seq c_L_markJobS_5 (.seq c_L_markJobS_6 (.seq c_L_markJobS_7 c_L_markJobS_8)))))) c_L_markJobS_9))
def c_L_markJobS_11 : ACode := .reg [o1 (.loc 34) (.mv (.var 1)),
  o1 (.var 4) (.mv (.loc 34))] false
def c_L_markJobS : ACode := (.seq c_L_markJobS_0 (.seq (.seq c_L_markJobS_1 (.block 0 (.loop [0, 1, 5] c_L_markJobS_10))) (.seq c_L_markJobS_11 .ret)))
abbrev F_L_markJobS : FuncId := 139
theorem k_L_markJobS : comp PP (Tryz.f139.ntmps, pinOf 0 [some .give, none]) [0, 1, 4, 5, 9] (Tryz.f139.body.getD .skip) = some c_L_markJobS.erase := by kernel_rfl
theorem v_L_markJobS {GG : GV} (rcs : List C) {cs : List C} {r : C} {os : List (Option C)} (hN : (cs.length == 2 && rcs.length == 1) = true) (hret : retOf rcs = r) (hW : WX GG [0, 1, 4, 5, 9] Tryz.f139.ntmps [some .give, none] [(.give, 4, none)] c_L_markJobS rcs cs os) : Valid PP GG F_L_markJobS cs r os :=
  fn_valid_n 2 1 _ _ _ _ rcs Tryz.func139 rfl rfl (by kernel_rfl) k_L_markJobS rfl rfl hN hret hW
def c_S_l08Under_0 : ACode := .reg [o1 (.var 3) (.box (.var 0)),
  o1 (.var 6) (.mv (.const (.d (.bool false))))] false
def c_S_l08Under_1 : ACode := .reg [o1 (.loc 7) (.mv (.var 1)),
  o1 (.var 8) (.bin .int .neq (.loc 7) (.const (.d (.int .i64 0))))] false
end Go.Proofs.YtdckkojgnkoabaaGreatDoor.Ab
