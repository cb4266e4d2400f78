/-
  A part of a proof about the given program; what is proved is said where each theorem stands.
-/
import Derived.Test.YtmihpclfdicfkaaDoorFrameA
import Derived.Test.YtmihpclfdicfkaaDoorFrameB
import Derived.Test.YtmihpclfdicfkaaDoorFrameC
import Derived.Test.YtmihpclfdicfkaaDoorFrameD
import Derived.Test.YtmihpclfdicfkaaDoorFrameE
import Derived.Test.YtmihpclfdicfkaaDoorShelf
import Derived.Test.YtmihpclfdicfkaaDoorCodesA
import Derived.Test.YtmihpclfdicfkaaDoorCodesB
set_option maxRecDepth 100000
namespace Go.Proofs.YtmihpclfdicfkaaDoor.Ab
open Go.Proofs
def c_I_putWide_1 : ACode := .reg [⟨.loc 5, .mkslice 0 1 1 [.int .u8 0] (.const (.d (.int .i64 8))) (.const (.d (.int .i64 8))), none, []⟩,
  ⟨.var 3, .mv (.loc 5), none, []⟩] false
def c_I_putWide_2 : ACode := .reg [⟨.loc 6, .mv (.var 3), none, []⟩,
  ⟨.var 7, .len false (.loc 6), none, []⟩,
  ⟨.var 8, .mv (.const (.d (.int .i64 0))), none, []⟩] false
def c_I_putWide_3 : ACode := .reg [⟨.var 9, .bin .int .lss (.var 8) (.var 7), none, []⟩] false
def c_I_putWide_4 : ACode := .reg [⟨.loc 10, .mv (.var 8), none, []⟩,
  ⟨.var 4, .mv (.loc 10), none, []⟩] false
def c_I_putWide_5 : ACode := .reg [⟨.loc 11, .mv (.var 3), none, []⟩,
  ⟨.loc 12, .mv (.var 4), none, []⟩,
  ⟨.loc 13, .mv (.var 0), none, []⟩,
  ⟨.loc 14, .mv (.var 4), none, []⟩,
  ⟨.loc 15, .bin .int .mul (.const (.d (.int .i64 8))) (.loc 14), none, []⟩,
  ⟨.loc 16, .bin .int .shr (.loc 13) (.loc 15), none, []⟩,
  ⟨.loc 17, .conv .u8 (.loc 16), none, []⟩,
  ⟨.loc 18, .idxA 1 (.loc 11) (.loc 12), none, []⟩,
  ⟨.none, .store 1 (.loc 18) (.loc 17), none, []⟩] false
def c_I_putWide_6 : ACode := .reg [⟨.loc 19, .bin .int .add (.var 8) (.const (.d (.int .i64 1))), none, []⟩,
  ⟨.var 8, .mv (.loc 19), none, []⟩] false
def c_I_putWide_7 : ACode := (.seq c_I_putWide_3 (.seq (.cond (.var 9) .skip (.exit 0)) (.seq (.block 1 (.seq c_I_putWide_4 c_I_putWide_5)) c_I_putWide_6)))
def c_I_putWide_8 : ACode := .reg [⟨.loc 20, .mv (.var 3), none, []⟩,
  ⟨.var 2, .mv (.loc 20), none, []⟩] false
def c_I_putWide : ACode := (.seq c_I_putWide_0 (.seq c_I_putWide_1 (.seq (.seq c_I_putWide_2 (.block 0 (.loop [0, 3, 7, 8] c_I_putWide_7))) (.seq c_I_putWide_8 .ret))))
abbrev F_I_putWide : FuncId := 94
theorem k_I_putWide : comp PP (Tryd.f94.ntmps, pinOf 0 [none]) [0, 2, 3, 4, 7, 8, 9] (Tryd.f94.body.getD .skip) = some c_I_putWide.erase := by kernel_rfl
theorem v_I_putWide {GG : GV} (rcs : List C) {cs : List C} {r : C} {os : List (Option C)} (hN : (cs.length == 1 && rcs.length == 1) = true) (hret : retOf rcs = r)
    (hW : W PP [0, 2, 3, 4, 7, 8, 9] (Tryd.f94.ntmps, pinOf 0 [none]) (Valid PP GG) c_I_putWide (entry cs) (Fin (Valid PP GG) [(.give, 2, none)] [none] rcs os) (fun _ _ => False) (Fin (Valid PP GG) [(.give, 2, none)] [none] rcs os)) : Valid PP GG F_I_putWide cs r os :=
  fn_valid_n 1 1 [0, 2, 3, 4, 7, 8, 9] c_I_putWide [(.give, 2, none)] [none] rcs Tryd.func94 rfl rfl (by kernel_rfl) k_I_putWide rfl rfl hN hret hW
def c_I_stream_0 : ACode := .reg [⟨.var 6, .mv (.const (.nil 0 1)), none, []⟩] false
def c_I_stream_1 : ACode := .reg [⟨.loc 10, .mv (.var 2), none, []⟩,
  ⟨.loc 11, .mkslice 0 1 1 [.int .u8 0] (.loc 10) (.loc 10), none, []⟩,
  ⟨.var 7, .mv (.loc 11), none, []⟩] false
def c_I_stream_2 : ACode := .reg [⟨.loc 12, .mv (.var 0), none, []⟩,
  ⟨.loc 13, .bin .int .rem (.loc 12) (.const (.d (.int .i64 2147483629))), none, []⟩,
  ⟨.loc 14, .mv (.var 1), none, []⟩,
  ⟨.loc 15, .bin .int .rem (.loc 14) (.const (.d (.int .i64 2147483629))), none, []⟩,
  ⟨.loc 16, .bin .int .mul (.const (.d (.int .i64 2))) (.loc 15), none, []⟩,
  ⟨.loc 17, .bin .int .add (.loc 13) (.loc 16), none, []⟩,
  ⟨.loc 18, .bin .int .add (.loc 17) (.const (.d (.int .i64 1))), none, []⟩,
  ⟨.loc 19, .bin .int .rem (.loc 18) (.const (.d (.int .i64 2147483629))), none, []⟩,
  ⟨.var 8, .mv (.loc 19), none, []⟩] false
def c_I_stream_3 : ACode := .reg [⟨.loc 20, .mv (.var 7), none, []⟩,
  ⟨.var 21, .len false (.loc 20), none, []⟩,
  ⟨.var 22, .mv (.const (.d (.int .i64 0))), none, []⟩] false
def c_I_stream_4 : ACode := .reg [⟨.var 23, .bin .int .lss (.var 22) (.var 21), none, []⟩] false
def c_I_stream_5 : ACode := .reg [⟨.loc 24, .mv (.var 22), none, []⟩,
  ⟨.var 9, .mv (.loc 24), none, []⟩] false
def c_I_stream_6 : ACode := .reg [⟨.loc 25, .mv (.var 8), none, []⟩,
  ⟨.loc 26, .bin .int .mul (.const (.d (.int .i64 48271))) (.loc 25), none, []⟩,
  ⟨.loc 27, .mv (.var 0), none, []⟩,
  ⟨.loc 28, .bin .int .rem (.loc 27) (.const (.d (.int .i64 65521))), none, []⟩,
  ⟨.loc 29, .bin .int .add (.loc 26) (.loc 28), none, []⟩,
  ⟨.loc 30, .bin .int .add (.loc 29) (.const (.d (.int .i64 1))), none, []⟩,
  ⟨.loc 31, .bin .int .rem (.loc 30) (.const (.d (.int .i64 2147483629))), none, []⟩,
  ⟨.var 8, .mv (.loc 31), none, []⟩] false
def c_I_stream_7 : ACode := .reg [⟨.loc 32, .mv (.var 7), none, []⟩,
  ⟨.loc 33, .mv (.var 9), none, []⟩,
  ⟨.loc 34, .mv (.var 8), none, []⟩,
  ⟨.loc 35, .bin .int .quo (.loc 34) (.const (.d (.int .i64 1024))), none, []⟩,
  ⟨.loc 36, .conv .u8 (.loc 35), none, []⟩,
  ⟨.loc 37, .idxA 1 (.loc 32) (.loc 33), none, []⟩,
  ⟨.none, .store 1 (.loc 37) (.loc 36), none, []⟩] false
def c_I_stream_8 : ACode := .reg [⟨.loc 38, .bin .int .add (.var 22) (.const (.d (.int .i64 1))), none, []⟩,
  ⟨.var 22, .mv (.loc 38), none, []⟩] false
def c_I_stream_9 : ACode := (.seq c_I_stream_4 (.seq (.cond (.var 23) .skip (.exit 0)) (.seq (.block 1 (.seq c_I_stream_5 (.seq c_I_stream_6 c_I_stream_7))) c_I_stream_8)))
def c_I_stream_10 : ACode := .reg [⟨.loc 39, .mv (.var 7), none, []⟩,
  ⟨.var 6, .mv (.loc 39), none, []⟩] false
def c_I_stream : ACode := (.seq c_I_stream_0 (.seq c_I_stream_1 (.seq c_I_stream_2 (.seq (.seq c_I_stream_3 (.block 0 (.loop [0, 7, 8, 21, 22] c_I_stream_9))) (.seq c_I_stream_10 .ret)))))
abbrev F_I_stream : FuncId := 95
theorem k_I_stream : comp PP (Tryd.f95.ntmps, pinOf 0 [none, none, none]) [0, 1, 2, 6, 7, 8, 9, 21, 22, 23] (Tryd.f95.body.getD .skip) = some c_I_stream.erase := by kernel_rfl
theorem v_I_stream {GG : GV} (rcs : List C) {cs : List C} {r : C} {os : List (Option C)} (hN : (cs.length == 3 && rcs.length == 1) = true) (hret : retOf rcs = r)
    (hW : W PP [0, 1, 2, 6, 7, 8, 9, 21, 22, 23] (Tryd.f95.ntmps, pinOf 0 [none, none, none]) (Valid PP GG) c_I_stream (entry cs) (Fin (Valid PP GG) [(.give, 6, none)] [none, none, none] rcs os) (fun _ _ => False) (Fin (Valid PP GG) [(.give, 6, none)] [none, none, none] rcs os)) : Valid PP GG F_I_stream cs r os :=
  fn_valid_n 3 1 [0, 1, 2, 6, 7, 8, 9, 21, 22, 23] c_I_stream [(.give, 6, none)] [none, none, none] rcs Tryd.func95 rfl rfl (by kernel_rfl) k_I_stream rfl rfl hN hret hW
def c_I_onlyOf_0 : ACode := .reg [⟨.var 4, .mv (.const (.d (.bool false))), none, []⟩] false
def c_I_onlyOf_1 : ACode := .reg [⟨.loc 6, .mv (.var 0), none, []⟩,
  ⟨.var 7, .len true (.loc 6), none, []⟩,
  ⟨.var 8, .mv (.const (.d (.int .i64 0))), none, []⟩] false
def c_I_onlyOf_2 : ACode := .reg [⟨.var 9, .bin .int .lss (.var 8) (.var 7), none, []⟩] false
def c_I_onlyOf_3 : ACode := .reg [⟨.loc 10, .mv (.var 8), none, []⟩,
  ⟨.var 5, .mv (.loc 10), none, []⟩] false
def c_I_onlyOf_4 : ACode := .reg [⟨.loc 11, .mv (.var 1), none, []⟩,
  ⟨.loc 12, .mv (.var 0), none, []⟩,
  ⟨.loc 13, .mv (.var 5), none, []⟩,
  ⟨.loc 14, .idxS (.loc 12) (.loc 13), none, []⟩,
  ⟨.loc 15, .call (.fn 105) [(.loc 11), (.loc 14)] [.borrow, .borrow], none, []⟩,
  ⟨.var 16, .bin .int .lss (.loc 15) (.const (.d (.int .i64 0))), none, []⟩] false
def c_I_onlyOf_5 : ACode := .reg [⟨.var 4, .mv (.const (.d (.bool false))), none, []⟩] false
def c_I_onlyOf_6 : ACode := .reg [⟨.loc 17, .bin .int .add (.var 8) (.const (.d (.int .i64 1))), none, []⟩,
  ⟨.var 8, .mv (.loc 17), none, []⟩] false
def c_I_onlyOf_7 : ACode := (.seq c_I_onlyOf_2 (.seq (.cond (.var 9) .skip (.exit 0)) (.seq (.block 1 (.seq c_I_onlyOf_3 (.seq c_I_onlyOf_4 (.cond (.var 16) (.seq c_I_onlyOf_5 .ret) .skip)))) c_I_onlyOf_6)))
def c_I_onlyOf_8 : ACode := .reg [⟨.var 4, .mv (.const (.d (.bool true))), none, []⟩] false
def c_I_onlyOf : ACode := (.seq c_I_onlyOf_0 (.seq (.seq c_I_onlyOf_1 (.block 0 (.loop [0, 1, 7, 8] c_I_onlyOf_7))) (.seq c_I_onlyOf_8 .ret)))
abbrev F_I_onlyOf : FuncId := 99
theorem k_I_onlyOf : comp PP (Tryd.f99.ntmps, pinOf 0 [none, none]) [0, 1, 4, 5, 7, 8, 9, 16] (Tryd.f99.body.getD .skip) = some c_I_onlyOf.erase := by kernel_rfl
theorem v_I_onlyOf {GG : GV} (rcs : List C) {cs : List C} {r : C} {os : List (Option C)} (hN : (cs.length == 2 && rcs.length == 1) = true) (hret : retOf rcs = r)
    (hW : W PP [0, 1, 4, 5, 7, 8, 9, 16] (Tryd.f99.ntmps, pinOf 0 [none, none]) (Valid PP GG) c_I_onlyOf (entry cs) (Fin (Valid PP GG) [(.give, 4, none)] [none, none] rcs os) (fun _ _ => False) (Fin (Valid PP GG) [(.give, 4, none)] [none, none] rcs os)) : Valid PP GG F_I_onlyOf cs r os :=
  fn_valid_n 2 1 [0, 1, 4, 5, 7, 8, 9, 16] c_I_onlyOf [(.give, 4, none)] [none, none] rcs Tryd.func99 rfl rfl (by kernel_rfl) k_I_onlyOf rfl rfl hN hret hW
def c_S_l01DrawSegment_0 : ACode := .reg [⟨.var 2, .mv (.const (.d (.str []))), none, []⟩] false
def c_S_l01DrawSegment_1 : ACode := .reg [⟨.loc 3, .mv (.var 0), none, []⟩,
  ⟨.var 4, .call (.fn 42) [(.loc 3), (.const (.d (.int .i64 25)))] [.box 3, .borrow], none, []⟩] false
def c_S_l01DrawSegment_2 : ACode := .reg [⟨.loc 5, .mv (.var 0), none, []⟩,
  ⟨.loc 6, .lit 0 1 9 [.str []] [(0, (.const (.d (.str [])))), (1, (.const (.d (.str [65])))), (2, (.const (.d (.str [97, 47, 98])))), (3, (.const (.d (.str [97, 98, 99, 100, 101, 102, 103, 104, 105, 106, 107, 108, 109, 110, 111, 112])))), (4, (.const (.d (.str [97, 98, 99, 100, 101, 102, 103, 104, 105, 106, 107, 108, 109, 110, 111, 112, 113])))), (5, (.const (.d (.str [45])))), (6, (.const (.d (.str [97, 32, 98])))), (7, (.const (.d (.str [43, 97])))), (8, (.const (.d (.str [42, 42]))))], none, []⟩,
  ⟨.loc 7, .call (.fn 43) [(.loc 5), (.loc 6)] [.box 3, .give], none, []⟩,
  ⟨.var 2, .mv (.loc 7), none, []⟩] false
def c_S_l01DrawSegment_3 : ACode := .reg [⟨.loc 8, .mv (.var 0), none, []⟩,
  ⟨.loc 9, .lit 0 1 7 [.str []] [(0, (.const (.d (.str [97])))), (1, (.const (.d (.str [98])))), (2, (.const (.d (.str [99])))), (3, (.const (.d (.str [107, 118])))), (4, (.const (.d (.str [100, 98])))), (5, (.const (.d (.str [120, 45, 49])))), (6, (.const (.d (.str [57]))))], none, []⟩,
  ⟨.loc 10, .call (.fn 43) [(.loc 8), (.loc 9)] [.box 3, .give], none, []⟩,
  ⟨.var 2, .mv (.loc 10), none, []⟩] false
def c_S_l01DrawSegment : ACode := (.seq c_S_l01DrawSegment_0 (.seq (.seq c_S_l01DrawSegment_1 (.cond (.var 4) (.seq c_S_l01DrawSegment_2 .ret) .skip)) (.seq c_S_l01DrawSegment_3 .ret)))
abbrev F_S_l01DrawSegment : FuncId := 102
theorem k_S_l01DrawSegment : comp PP (Tryd.f102.ntmps, pinOf 0 [some (.box 3)]) [0, 2, 4] (Tryd.f102.body.getD .skip) = some c_S_l01DrawSegment.erase := by kernel_rfl
theorem v_S_l01DrawSegment {GG : GV} (rcs : List C) {cs : List C} {r : C} {os : List (Option C)} (hN : (cs.length == 1 && rcs.length == 1) = true) (hret : retOf rcs = r)
    (hW : W PP [0, 2, 4] (Tryd.f102.ntmps, pinOf 0 [some (.box 3)]) (Valid PP GG) c_S_l01DrawSegment (entry cs) (Fin (Valid PP GG) [(.give, 2, none)] [some (.box 3)] rcs os) (fun _ _ => False) (Fin (Valid PP GG) [(.give, 2, none)] [some (.box 3)] rcs os)) : Valid PP GG F_S_l01DrawSegment cs r os :=
  fn_valid_n 1 1 [0, 2, 4] c_S_l01DrawSegment [(.give, 2, none)] [some (.box 3)] rcs Tryd.func102 rfl rfl (by kernel_rfl) k_S_l01DrawSegment rfl rfl hN hret hW
end Go.Proofs.YtmihpclfdicfkaaDoor.Ab
