/-
  A part of a proof about the given program; what is proved is said where each theorem stands.
-/
import Derived.Lib.LaidTab
import Derived.Lib.ItoaLen
import Derived.Shelf.Strconv.Itoa3
import Derived.KernelRfl
import Derived.Test.YtmihpclfdicfkaaDoorProg
import Derived.Test.YtmihpclfdicfkaaDoorFrameA
import Derived.Test.YtmihpclfdicfkaaDoorFrameB
import Derived.Test.YtmihpclfdicfkaaDoorFrameC
import Derived.Test.YtmihpclfdicfkaaDoorFrameD
import Derived.Test.YtmihpclfdicfkaaDoorFrameE
import Derived.Test.YtmihpclfdicfkaaDoorShelf
namespace Go.Proofs.YtmihpclfdicfkaaDoor.Ab
open Go.Proofs
noncomputable abbrev PP : Program := Tryd.prog
def intCell : Obj → Prop
  | .cells cs _ _ => ∃ m : Int, cs[0]? = some (.int .i64 m)
  | _ => False
class MaxL (GG : GV) : Prop where
  h : GG 0 = some intCell
def c_L_FnWraps_0 : ACode := .reg [⟨.var 2, .mv (.const (.d (.bool false))), none, []⟩] false
def c_L_FnWraps_1 : ACode := .reg [⟨.loc 40, .mv (.var 0), none, []⟩,
  ⟨.var 41, .call (.fn 15) [(.loc 40)] [.borrow], none, []⟩] false
def c_L_FnWraps_2 : ACode := .reg [⟨.var 2, .mv (.const (.d (.bool true))), none, []⟩] false
def c_L_FnWraps_3 : ACode := .reg [⟨.loc 43, .mv (.var 0), none, []⟩,
  ⟨.loc 44, .call (.fn 16) [(.loc 43)] [.borrow], none, []⟩,
  ⟨.loc 42, .mv (.loc 44), none, []⟩,
  ⟨.loc 45, .ext (.loc 42) 0, none, []⟩,
  ⟨.loc 46, .ext (.loc 42) 1, none, []⟩,
  ⟨.loc 47, .ext (.loc 42) 2, none, []⟩,
  ⟨.loc 48, .ext (.loc 42) 3, none, []⟩,
  ⟨.loc 49, .ext (.loc 42) 4, none, []⟩,
  ⟨.var 3, .alloc [.d (.int .i64 0), .d (.int .i64 0), .nil 1 6], none, []⟩,
  ⟨.none, .store 3 (.var 3) (.loc 45), none, []⟩,
  ⟨.var 4, .mv (.loc 46), none, []⟩,
  ⟨.var 5, .mv (.loc 47), none, []⟩,
  ⟨.var 6, .mv (.loc 48), none, []⟩,
  ⟨.var 7, .mv (.loc 49), none, []⟩] false
def c_L_FnWraps_4 : ACode := .reg [⟨.loc 51, .load true 3 (.var 3), none, []⟩,
  ⟨.loc 52, .mv (.var 4), none, []⟩,
  ⟨.loc 53, .mv (.var 5), none, []⟩,
  ⟨.loc 54, .mv (.var 6), none, []⟩,
  ⟨.loc 55, .mv (.var 7), none, []⟩,
  ⟨.loc 56, .call (.fn 17) [(.loc 51), (.loc 52), (.loc 53), (.loc 54), (.loc 55)] [.borrow, .borrow, .borrow, .borrow, .borrow], none, []⟩,
  ⟨.loc 50, .mv (.loc 56), none, []⟩,
  ⟨.loc 57, .ext (.loc 50) 0, none, []⟩,
  ⟨.loc 58, .ext (.loc 50) 1, none, []⟩,
  ⟨.loc 59, .ext (.loc 50) 2, none, []⟩,
  ⟨.loc 8, .alloc [.d (.int .i64 0), .d (.int .i64 0), .nil 1 6], none, []⟩,
  ⟨.none, .store 3 (.loc 8) (.loc 57), none, []⟩,
  ⟨.var 9, .mv (.loc 58), none, []⟩,
  ⟨.var 10, .mv (.loc 59), none, []⟩] false
def c_L_FnWraps_5 : ACode := .reg [⟨.loc 61, .load true 3 (.var 3), none, []⟩,
  ⟨.loc 62, .mv (.var 4), none, []⟩,
  ⟨.loc 63, .mv (.var 5), none, []⟩,
  ⟨.loc 64, .call (.fn 19) [(.loc 63)] [.borrow], none, [2]⟩,
  ⟨.loc 65, .mv (.var 6), none, []⟩,
  ⟨.loc 66, .mv (.var 7), none, []⟩,
  ⟨.loc 67, .call (.fn 18) [(.loc 61), (.loc 62), (.loc 64), (.loc 65), (.loc 66)] [.borrow, .borrow, .borrow, .borrow, .borrow], none, [0, 1, 4, 5, 3, 2]⟩,
  ⟨.loc 60, .mv (.loc 67), none, [6, 0, 1, 4, 5, 3, 2]⟩,
  ⟨.loc 68, .ext (.loc 60) 0, none, [7, 6, 0, 1, 4, 5, 3, 2]⟩,
  ⟨.loc 69, .ext (.loc 60) 1, none, [7, 6, 0, 1, 4, 5, 3, 2]⟩,
  ⟨.loc 70, .ext (.loc 60) 2, none, [7, 6, 0, 1, 4, 5, 3, 2]⟩,
  ⟨.var 11, .alloc [.d (.int .i64 0), .d (.int .i64 0), .nil 1 6], none, []⟩,
  ⟨.none, .store 3 (.var 11) (.loc 68), none, [8, 7, 6, 0, 1, 4, 5, 3, 2, 11]⟩,
  ⟨.var 12, .mv (.loc 69), none, [9, 12, 8, 7, 6, 0, 1, 4, 5, 3, 2, 11]⟩,
  ⟨.var 13, .mv (.loc 70), none, [10, 13, 9, 12, 8, 7, 6, 0, 1, 4, 5, 3, 2, 11]⟩] true
def c_L_FnWraps_6 : ACode := .reg [⟨.loc 71, .mv (.var 13), none, []⟩,
  ⟨.loc 72, .mv (.var 10), none, []⟩,
  ⟨.loc 73, .bin .int .neq (.loc 71) (.loc 72), none, []⟩,
  ⟨.loc 74, .split (.loc 73), none, []⟩,
  ⟨.loc 75, .mv (.var 12), some ((.loc 74), false), []⟩,
  ⟨.loc 76, .mv (.var 9), some ((.loc 74), false), []⟩,
  ⟨.loc 77, .bin .int .neq (.loc 75) (.loc 76), some ((.loc 74), false), []⟩,
  ⟨.var 78, .pick (.loc 74) (.const (.d (.bool true))) (.loc 77), none, []⟩] false
def c_L_FnWraps_7 : ACode := .reg [⟨.var 2, .mv (.const (.d (.bool false))), none, []⟩] false
def c_L_FnWraps_8 : ACode := .reg [⟨.loc 79, .mv (.var 10), none, []⟩,
  ⟨.var 80, .bin .int .neq (.loc 79) (.const (.d (.int .i64 0))), none, []⟩] false
def c_L_FnWraps_9 : ACode := .reg [⟨.var 2, .mv (.const (.d (.bool true))), none, []⟩] false
def c_L_FnWraps_10 : ACode := .reg [⟨.loc 82, .load true 3 (.var 11), none, []⟩,
  ⟨.loc 83, .mv (.var 12), none, []⟩,
  ⟨.loc 84, .call (.fn 20) [(.loc 82), (.loc 83)] [.borrow, .borrow], none, []⟩,
  ⟨.loc 81, .mv (.loc 84), none, []⟩,
  ⟨.loc 85, .ext (.loc 81) 0, none, []⟩,
  ⟨.loc 86, .ext (.loc 81) 1, none, []⟩,
  ⟨.loc 87, .ext (.loc 81) 2, none, []⟩,
  ⟨.var 14, .mv (.loc 85), none, []⟩,
  ⟨.var 15, .mv (.loc 86), none, []⟩,
  ⟨.var 16, .mv (.loc 87), none, []⟩] false
def c_L_FnWraps_11 : ACode := .reg [⟨.loc 89, .load true 3 (.var 11), none, []⟩,
  ⟨.loc 90, .mv (.var 12), none, []⟩,
  ⟨.loc 91, .mv (.var 6), none, []⟩,
  ⟨.loc 92, .call (.fn 21) [(.loc 89), (.loc 90), (.loc 91)] [.borrow, .borrow, .borrow], none, []⟩,
  ⟨.loc 88, .mv (.loc 92), none, []⟩,
  ⟨.loc 93, .ext (.loc 88) 0, none, []⟩,
  ⟨.loc 94, .ext (.loc 88) 1, none, []⟩,
  ⟨.loc 95, .ext (.loc 88) 2, none, []⟩,
  ⟨.var 17, .alloc [.d (.int .i64 0), .d (.int .i64 0), .nil 1 6], none, []⟩,
  ⟨.none, .store 3 (.var 17) (.loc 93), none, []⟩,
  ⟨.var 18, .mv (.loc 94), none, []⟩,
  ⟨.var 19, .mv (.loc 95), none, []⟩] false
def c_L_FnWraps_12 : ACode := .reg [⟨.loc 97, .load true 3 (.var 17), none, []⟩,
  ⟨.loc 98, .mv (.var 12), none, []⟩,
  ⟨.loc 99, .mv (.var 6), none, []⟩,
  ⟨.loc 100, .call (.fn 21) [(.loc 97), (.loc 98), (.loc 99)] [.borrow, .borrow, .borrow], none, []⟩,
  ⟨.loc 96, .mv (.loc 100), none, []⟩,
  ⟨.loc 101, .ext (.loc 96) 0, none, []⟩,
  ⟨.loc 102, .ext (.loc 96) 1, none, []⟩,
  ⟨.loc 103, .ext (.loc 96) 2, none, []⟩,
  ⟨.loc 20, .alloc [.d (.int .i64 0), .d (.int .i64 0), .nil 1 6], none, []⟩,
  ⟨.none, .store 3 (.loc 20) (.loc 101), none, []⟩,
  ⟨.loc 21, .mv (.loc 102), none, []⟩,
  ⟨.var 22, .mv (.loc 103), none, []⟩] false
def c_L_FnWraps_13 : ACode := .reg [⟨.loc 104, .mv (.var 16), none, []⟩,
  ⟨.loc 105, .bin .int .neq (.loc 104) (.const (.d (.int .i64 0))), none, []⟩,
  ⟨.loc 106, .split (.loc 105), none, []⟩,
  ⟨.loc 107, .mv (.var 14), some ((.loc 106), false), []⟩,
  ⟨.loc 108, .mv (.var 4), some ((.loc 106), false), []⟩,
  ⟨.loc 109, .bin .str .neq (.loc 107) (.loc 108), some ((.loc 106), false), []⟩,
  ⟨.loc 110, .pick (.loc 106) (.const (.d (.bool true))) (.loc 109), none, []⟩,
  ⟨.loc 111, .split (.loc 110), none, []⟩,
  ⟨.loc 112, .mv (.var 15), some ((.loc 111), false), []⟩,
  ⟨.loc 113, .mv (.var 6), some ((.loc 111), false), []⟩,
  ⟨.loc 114, .mv (.var 7), some ((.loc 111), false), []⟩,
  ⟨.loc 115, .bin .int .add (.loc 113) (.loc 114), some ((.loc 111), false), []⟩,
  ⟨.loc 116, .bin .int .neq (.loc 112) (.loc 115), some ((.loc 111), false), []⟩,
  ⟨.loc 117, .pick (.loc 111) (.const (.d (.bool true))) (.loc 116), none, []⟩,
  ⟨.loc 118, .split (.loc 117), none, []⟩,
  ⟨.loc 119, .mv (.var 19), some ((.loc 118), false), []⟩,
  ⟨.loc 120, .bin .int .neq (.loc 119) (.const (.d (.int .i64 0))), some ((.loc 118), false), []⟩,
  ⟨.loc 121, .pick (.loc 118) (.const (.d (.bool true))) (.loc 120), none, []⟩,
  ⟨.loc 122, .split (.loc 121), none, []⟩,
  ⟨.loc 123, .mv (.var 18), some ((.loc 122), false), []⟩,
  ⟨.loc 124, .mv (.var 5), some ((.loc 122), false), []⟩,
  ⟨.loc 125, .call (.fn 22) [(.loc 123), (.loc 124)] [.borrow, .borrow], some ((.loc 122), false), []⟩,
  ⟨.loc 126, .un .not (.loc 125), some ((.loc 122), false), []⟩,
  ⟨.loc 127, .pick (.loc 122) (.const (.d (.bool true))) (.loc 126), none, []⟩,
  ⟨.loc 128, .split (.loc 127), none, []⟩,
  ⟨.loc 129, .mv (.var 22), some ((.loc 128), false), []⟩,
  ⟨.loc 130, .bin .int .neq (.loc 129) (.const (.d (.int .i64 2))), some ((.loc 128), false), []⟩,
  ⟨.var 131, .pick (.loc 128) (.const (.d (.bool true))) (.loc 130), none, []⟩] false
def c_L_FnWraps_14 : ACode := .reg [⟨.var 2, .mv (.const (.d (.bool false))), none, []⟩] false
def c_L_FnWraps_15 : ACode := .reg [⟨.loc 132, .mv (.var 0), none, []⟩,
  ⟨.loc 133, .call (.fn 23) [(.loc 132), (.const (.d (.int .i64 1)))] [.borrow, .borrow], none, []⟩,
  ⟨.loc 134, .bin .int .mul (.loc 133) (.const (.d (.int .i64 4096))), none, []⟩,
  ⟨.loc 135, .mv (.var 0), none, []⟩,
  ⟨.loc 136, .call (.fn 23) [(.loc 135), (.const (.d (.int .i64 2)))] [.borrow, .borrow], none, []⟩,
  ⟨.loc 137, .bin .int .add (.loc 134) (.loc 136), none, []⟩,
  ⟨.var 23, .mv (.loc 137), none, []⟩] false
def c_L_FnWraps_16 : ACode := .reg [⟨.loc 139, .load true 3 (.var 11), none, []⟩,
  ⟨.loc 140, .mv (.var 23), none, []⟩,
  ⟨.loc 141, .call (.fn 24) [(.loc 139), (.loc 140)] [.borrow, .borrow], none, []⟩,
  ⟨.loc 138, .mv (.loc 141), none, []⟩,
  ⟨.loc 142, .ext (.loc 138) 0, none, []⟩,
  ⟨.loc 143, .ext (.loc 138) 1, none, []⟩,
  ⟨.var 24, .alloc [.d (.int .i64 0), .d (.int .i64 0), .nil 1 6], none, []⟩,
  ⟨.none, .store 3 (.var 24) (.loc 142), none, []⟩,
  ⟨.var 25, .mv (.loc 143), none, []⟩] false
def c_L_FnWraps_17 : ACode := .reg [⟨.loc 145, .load true 3 (.var 24), none, []⟩,
  ⟨.loc 146, .mv (.var 12), none, []⟩,
  ⟨.loc 147, .mv (.var 6), none, []⟩,
  ⟨.loc 148, .call (.fn 25) [(.loc 145), (.loc 146), (.loc 147)] [.borrow, .borrow, .borrow], none, []⟩,
  ⟨.loc 144, .mv (.loc 148), none, []⟩,
  ⟨.loc 149, .ext (.loc 144) 0, none, []⟩,
  ⟨.loc 150, .ext (.loc 144) 1, none, []⟩,
  ⟨.loc 151, .ext (.loc 144) 2, none, []⟩,
  ⟨.var 26, .alloc [.d (.int .i64 0), .d (.int .i64 0), .nil 1 6], none, []⟩,
  ⟨.none, .store 3 (.var 26) (.loc 149), none, []⟩,
  ⟨.var 27, .mv (.loc 150), none, []⟩,
  ⟨.var 28, .mv (.loc 151), none, []⟩] false
def c_L_FnWraps_18 : ACode := .reg [⟨.loc 152, .mv (.var 25), none, []⟩,
  ⟨.loc 153, .un .not (.loc 152), none, []⟩,
  ⟨.loc 154, .split (.loc 153), none, []⟩,
  ⟨.loc 155, .mv (.var 28), some ((.loc 154), false), []⟩,
  ⟨.loc 156, .bin .int .eql (.loc 155) (.const (.d (.int .i64 1))), some ((.loc 154), false), []⟩,
  ⟨.loc 157, .split (.loc 156), some ((.loc 154), false), []⟩,
  ⟨.loc 158, .mv (.var 9), some ((.loc 157), true), []⟩,
  ⟨.loc 159, .bin .int .add (.loc 158) (.const (.d (.int .i64 1))), some ((.loc 157), true), []⟩,
  ⟨.loc 160, .bin .int .lss (.loc 159) (.const (.d (.int .i64 1000000000))), some ((.loc 157), true), []⟩,
  ⟨.loc 161, .pick (.loc 157) (.loc 160) (.const (.d (.bool false))), some ((.loc 154), false), []⟩,
  ⟨.var 162, .pick (.loc 154) (.const (.d (.bool true))) (.loc 161), none, []⟩] false
def c_L_FnWraps_19 : ACode := .reg [⟨.var 2, .mv (.const (.d (.bool false))), none, []⟩] false
def c_L_FnWraps_20 : ACode := .reg [⟨.loc 163, .mv (.var 28), none, []⟩,
  ⟨.var 164, .bin .int .eql (.loc 163) (.const (.d (.int .i64 0))), none, []⟩] false
def c_L_FnWraps_21 : ACode := .reg [⟨.loc 166, .load true 3 (.var 26), none, []⟩,
  ⟨.loc 167, .mv (.var 27), none, []⟩,
  ⟨.loc 168, .mv (.var 6), none, []⟩,
  ⟨.loc 169, .call (.fn 21) [(.loc 166), (.loc 167), (.loc 168)] [.borrow, .borrow, .borrow], none, []⟩,
  ⟨.loc 165, .mv (.loc 169), none, []⟩,
  ⟨.loc 170, .ext (.loc 165) 0, none, []⟩,
  ⟨.loc 171, .ext (.loc 165) 1, none, []⟩,
  ⟨.loc 172, .ext (.loc 165) 2, none, []⟩,
  ⟨.loc 29, .alloc [.d (.int .i64 0), .d (.int .i64 0), .nil 1 6], none, []⟩,
  ⟨.none, .store 3 (.loc 29) (.loc 170), none, []⟩,
  ⟨.var 30, .mv (.loc 171), none, []⟩,
  ⟨.var 31, .mv (.loc 172), none, []⟩] false
def c_L_FnWraps_22 : ACode := .reg [⟨.loc 173, .mv (.var 27), none, []⟩,
  ⟨.loc 174, .mv (.var 12), none, []⟩,
  ⟨.loc 175, .bin .int .leq (.loc 173) (.loc 174), none, []⟩,
  ⟨.loc 176, .split (.loc 175), none, []⟩,
  ⟨.loc 177, .mv (.var 31), some ((.loc 176), false), []⟩,
  ⟨.loc 178, .bin .int .neq (.loc 177) (.const (.d (.int .i64 0))), some ((.loc 176), false), []⟩,
  ⟨.loc 179, .pick (.loc 176) (.const (.d (.bool true))) (.loc 178), none, []⟩,
  ⟨.loc 180, .split (.loc 179), none, []⟩,
  ⟨.loc 181, .mv (.var 30), some ((.loc 180), false), []⟩,
  ⟨.loc 182, .mv (.var 5), some ((.loc 180), false), []⟩,
  ⟨.loc 183, .call (.fn 22) [(.loc 181), (.loc 182)] [.borrow, .borrow], some ((.loc 180), false), []⟩,
  ⟨.loc 184, .un .not (.loc 183), some ((.loc 180), false), []⟩,
  ⟨.var 185, .pick (.loc 180) (.const (.d (.bool true))) (.loc 184), none, []⟩] false
def c_L_FnWraps_23 : ACode := .reg [⟨.var 2, .mv (.const (.d (.bool false))), none, []⟩] false
def c_L_FnWraps_24 : ACode := .reg [⟨.loc 186, .mv (.var 6), none, []⟩,
  ⟨.loc 187, .mv (.var 7), none, []⟩,
  ⟨.loc 188, .bin .int .add (.loc 186) (.loc 187), none, []⟩,
  ⟨.var 189, .bin .int .gtr (.loc 188) (.const (.d (.int .i64 1000000000))), none, []⟩] false
def c_L_FnWraps_25 : ACode := .reg [⟨.var 2, .mv (.const (.d (.bool true))), none, []⟩] false
def c_L_FnWraps_26 : ACode := .reg [⟨.loc 191, .load true 3 (.var 11), none, []⟩,
  ⟨.loc 192, .mv (.var 12), none, []⟩,
  ⟨.loc 193, .mv (.var 6), none, []⟩,
  ⟨.loc 194, .mv (.var 7), none, []⟩,
  ⟨.loc 195, .bin .int .add (.loc 193) (.loc 194), none, []⟩,
  ⟨.loc 196, .call (.fn 21) [(.loc 191), (.loc 192), (.loc 195)] [.borrow, .borrow, .borrow], none, []⟩,
  ⟨.loc 190, .mv (.loc 196), none, []⟩,
  ⟨.loc 197, .ext (.loc 190) 0, none, []⟩,
  ⟨.loc 198, .ext (.loc 190) 1, none, []⟩,
  ⟨.loc 199, .ext (.loc 190) 2, none, []⟩,
  ⟨.loc 32, .alloc [.d (.int .i64 0), .d (.int .i64 0), .nil 1 6], none, []⟩,
  ⟨.none, .store 3 (.loc 32) (.loc 197), none, []⟩,
  ⟨.loc 33, .mv (.loc 198), none, []⟩,
  ⟨.var 34, .mv (.loc 199), none, []⟩] false
def c_L_FnWraps_27 : ACode := .reg [⟨.loc 201, .load true 3 (.var 11), none, []⟩,
  ⟨.loc 202, .mv (.var 6), none, []⟩,
  ⟨.loc 203, .mv (.var 7), none, []⟩,
  ⟨.loc 204, .bin .int .add (.loc 202) (.loc 203), none, []⟩,
  ⟨.loc 205, .call (.fn 8) [(.loc 201), (.loc 204)] [.borrow, .borrow], none, []⟩,
  ⟨.loc 200, .mv (.loc 205), none, []⟩,
  ⟨.loc 206, .ext (.loc 200) 0, none, []⟩,
  ⟨.loc 207, .ext (.loc 200) 1, none, []⟩,
  ⟨.var 35, .alloc [.d (.int .i64 0), .d (.int .i64 0), .nil 1 6], none, []⟩,
  ⟨.none, .store 3 (.var 35) (.loc 206), none, []⟩,
  ⟨.var 36, .mv (.loc 207), none, []⟩] false
def c_L_FnWraps_28 : ACode := .reg [⟨.loc 209, .load true 3 (.var 35), none, []⟩,
  ⟨.loc 210, .mv (.var 12), none, []⟩,
  ⟨.loc 211, .mv (.var 6), none, []⟩,
  ⟨.loc 212, .call (.fn 21) [(.loc 209), (.loc 210), (.loc 211)] [.borrow, .borrow, .borrow], none, []⟩,
  ⟨.loc 208, .mv (.loc 212), none, []⟩,
  ⟨.loc 213, .ext (.loc 208) 0, none, []⟩,
  ⟨.loc 214, .ext (.loc 208) 1, none, []⟩,
  ⟨.loc 215, .ext (.loc 208) 2, none, []⟩,
  ⟨.loc 37, .alloc [.d (.int .i64 0), .d (.int .i64 0), .nil 1 6], none, []⟩,
  ⟨.none, .store 3 (.loc 37) (.loc 213), none, []⟩,
  ⟨.loc 38, .mv (.loc 214), none, []⟩,
  ⟨.var 39, .mv (.loc 215), none, []⟩] false
def c_L_FnWraps_29 : ACode := .reg [⟨.loc 216, .mv (.var 34), none, []⟩,
  ⟨.loc 217, .bin .int .eql (.loc 216) (.const (.d (.int .i64 3))), none, []⟩,
  ⟨.loc 218, .split (.loc 217), none, []⟩,
  ⟨.loc 219, .mv (.var 36), some ((.loc 218), true), []⟩,
  ⟨.loc 220, .mv (.var 12), some ((.loc 218), true), []⟩,
  ⟨.loc 221, .call (.fn 26) [(.loc 219), (.loc 220)] [.borrow, .borrow], some ((.loc 218), true), []⟩,
  ⟨.loc 222, .pick (.loc 218) (.loc 221) (.const (.d (.bool false))), none, []⟩,
  ⟨.loc 223, .split (.loc 222), none, []⟩,
  ⟨.loc 224, .mv (.var 39), some ((.loc 223), true), []⟩,
  ⟨.loc 225, .bin .int .eql (.loc 224) (.const (.d (.int .i64 2))), some ((.loc 223), true), []⟩,
  ⟨.loc 226, .pick (.loc 223) (.loc 225) (.const (.d (.bool false))), none, []⟩,
  ⟨.var 2, .mv (.loc 226), none, []⟩] false
def c_L_FnWraps : ACode := (.seq c_L_FnWraps_0 (.seq (.seq c_L_FnWraps_1 (.cond (.var 41) (.seq c_L_FnWraps_2 .ret) .skip)) (.seq c_L_FnWraps_3 (.seq c_L_FnWraps_4 (.seq c_L_FnWraps_5 (.seq (.seq c_L_FnWraps_6 (.cond (.var 78) (.seq c_L_FnWraps_7 .ret) .skip)) (.seq (.seq c_L_FnWraps_8 (.cond (.var 80) (.seq c_L_FnWraps_9 .ret) .skip)) (.seq c_L_FnWraps_10 (.seq c_L_FnWraps_11 (.seq c_L_FnWraps_12 (.seq (.seq c_L_FnWraps_13 (.cond (.var 131) (.seq c_L_FnWraps_14 .ret) .skip)) (.seq c_L_FnWraps_15 (.seq c_L_FnWraps_16 (.seq c_L_FnWraps_17 (.seq (.seq c_L_FnWraps_18 (.cond (.var 162) (.seq c_L_FnWraps_19 .ret) .skip)) (.seq (.seq c_L_FnWraps_20 (.cond (.var 164) (.seq c_L_FnWraps_21 (.seq c_L_FnWraps_22 (.cond (.var 185) (.seq c_L_FnWraps_23 .ret) .skip))) .skip)) (.seq (.seq c_L_FnWraps_24 (.cond (.var 189) (.seq c_L_FnWraps_25 .ret) .skip)) (.seq c_L_FnWraps_26 (.seq c_L_FnWraps_27 (.seq c_L_FnWraps_28 (.seq c_L_FnWraps_29 .ret)))))))))))))))))))))
abbrev F_L_FnWraps : FuncId := 4
theorem k_L_FnWraps : comp PP (Tryd.f4.ntmps, pinOf 0 [none]) [0, 2, 3, 4, 5, 6, 7, 9, 10, 11, 12, 13, 14, 15, 16, 17, 18, 19, 22, 23, 24, 25, 26, 27, 28, 30, 31, 34, 35, 36, 39, 41, 78, 80, 131, 162, 164, 185, 189] (Tryd.f4.body.getD .skip) = some c_L_FnWraps.erase := by kernel_rfl
theorem v_L_FnWraps {GG : GV} (rcs : List C) {cs : List C} {r : C} {os : List (Option C)} (hN : (cs.length == 1 && rcs.length == 1) = true) (hret : retOf rcs = r)
    (hW : W PP [0, 2, 3, 4, 5, 6, 7, 9, 10, 11, 12, 13, 14, 15, 16, 17, 18, 19, 22, 23, 24, 25, 26, 27, 28, 30, 31, 34, 35, 36, 39, 41, 78, 80, 131, 162, 164, 185, 189] (Tryd.f4.ntmps, pinOf 0 [none]) (Valid PP GG) c_L_FnWraps (entry cs) (Fin (Valid PP GG) [(.give, 2, none)] [none] rcs os) (fun _ _ => False) (Fin (Valid PP GG) [(.give, 2, none)] [none] rcs os)) : Valid PP GG F_L_FnWraps cs r os :=
  fn_valid_n 1 1 [0, 2, 3, 4, 5, 6, 7, 9, 10, 11, 12, 13, 14, 15, 16, 17, 18, 19, 22, 23, 24, 25, 26, 27, 28, 30, 31, 34, 35, 36, 39, 41, 78, 80, 131, 162, 164, 185, 189] c_L_FnWraps [(.give, 2, none)] [none] rcs Tryd.func4 rfl rfl (by kernel_rfl) k_L_FnWraps rfl rfl hN hret hW
def c_I_SweepWraps_0 : ACode := .reg [⟨.var 2, .box (.var 0), none, []⟩,
  ⟨.var 4, .alloc [.d (.int .i64 0), .d (.int .i64 0), .nil 1 6], none, []⟩,
  ⟨.var 5, .mv (.const (.nil 0 1)), none, []⟩] false
def c_I_SweepWraps_1 : ACode := .reg [⟨.loc 6, .load true 3 (.var 2), none, []⟩,
  ⟨.loc 7, .call (.fn 32) [(.loc 6)] [.borrow], none, []⟩,
  ⟨.var 8, .un .not (.loc 7), none, []⟩] false
def c_I_SweepWraps_2 : ACode := .reg [⟨.loc 9, .load true 3 (.var 2), none, []⟩,
  ⟨.loc 10, .call (.fn 33) [(.loc 9)] [.borrow], none, []⟩,
  ⟨.none, .store 3 (.var 4) (.loc 10), none, []⟩,
  ⟨.var 5, .mv (.const (.nil 0 1)), none, []⟩] false
def c_I_SweepWraps_3 : ACode := .reg [⟨.loc 11, .load true 3 (.var 2), none, []⟩,
  ⟨.loc 12, .mv (.var 1), none, []⟩,
  ⟨.loc 13, .call (.fn 34) [(.loc 11), (.loc 12)] [.borrow, .borrow], none, []⟩,
  ⟨.loc 14, .ext (.loc 13) 0, none, []⟩,
  ⟨.loc 15, .ext (.loc 13) 1, none, []⟩,
  ⟨.none, .store 3 (.var 4) (.loc 14), none, []⟩,
  ⟨.var 5, .mv (.loc 15), none, []⟩] false
def c_I_SweepWraps : ACode := (.seq c_I_SweepWraps_0 (.seq (.seq c_I_SweepWraps_1 (.cond (.var 8) (.seq c_I_SweepWraps_2 .ret) .skip)) (.seq c_I_SweepWraps_3 .ret)))
abbrev F_I_SweepWraps : FuncId := 8
theorem k_I_SweepWraps : comp PP (Tryd.f8.ntmps, pinOf 0 [none, none]) [0, 1, 2, 4, 5, 8] (Tryd.f8.body.getD .skip) = some c_I_SweepWraps.erase := by kernel_rfl
theorem v_I_SweepWraps {GG : GV} (rcs : List C) {cs : List C} {r : C} {os : List (Option C)} (hN : (cs.length == 2 && rcs.length == 2) = true) (hret : retOf rcs = r)
    (hW : W PP [0, 1, 2, 4, 5, 8] (Tryd.f8.ntmps, pinOf 0 [none, none]) (Valid PP GG) c_I_SweepWraps (entry cs) (Fin (Valid PP GG) [(.give, 4, some (true, 3)), (.give, 5, none)] [none, none] rcs os) (fun _ _ => False) (Fin (Valid PP GG) [(.give, 4, some (true, 3)), (.give, 5, none)] [none, none] rcs os)) : Valid PP GG F_I_SweepWraps cs r os :=
  fn_valid_n 2 2 [0, 1, 2, 4, 5, 8] c_I_SweepWraps [(.give, 4, some (true, 3)), (.give, 5, none)] [none, none] rcs Tryd.func8 rfl rfl (by kernel_rfl) k_I_SweepWraps rfl rfl hN hret hW
def c_L_big_0 : ACode := .reg [⟨.var 2, .mv (.const (.d (.bool false))), none, []⟩] false
def c_L_big_1 : ACode := .reg [⟨.loc 3, .mv (.var 0), none, []⟩,
  ⟨.loc 4, .len false (.loc 3), none, []⟩,
  ⟨.loc 5, .bin .int .gtr (.loc 4) (.const (.d (.int .i64 1048576))), none, []⟩,
  ⟨.var 2, .mv (.loc 5), none, []⟩] false
def c_L_big : ACode := (.seq c_L_big_0 (.seq c_L_big_1 .ret))
abbrev F_L_big : FuncId := 15
theorem k_L_big : comp PP (Tryd.f15.ntmps, pinOf 0 [none]) [0, 2] (Tryd.f15.body.getD .skip) = some c_L_big.erase := by kernel_rfl
theorem v_L_big {GG : GV} (rcs : List C) {cs : List C} {r : C} {os : List (Option C)} (hN : (cs.length == 1 && rcs.length == 1) = true) (hret : retOf rcs = r)
    (hW : W PP [0, 2] (Tryd.f15.ntmps, pinOf 0 [none]) (Valid PP GG) c_L_big (entry cs) (Fin (Valid PP GG) [(.give, 2, none)] [none] rcs os) (fun _ _ => False) (Fin (Valid PP GG) [(.give, 2, none)] [none] rcs os)) : Valid PP GG F_L_big cs r os :=
  fn_valid_n 1 1 [0, 2] c_L_big [(.give, 2, none)] [none] rcs Tryd.func15 rfl rfl (by kernel_rfl) k_L_big rfl rfl hN hret hW
def c_S_DrawPutWrap_0 : ACode := .reg [⟨.var 2, .alloc [.d (.int .i64 0), .d (.int .i64 0), .nil 1 6], none, []⟩,
  ⟨.var 3, .mv (.const (.d (.str []))), none, []⟩,
  ⟨.var 4, .mv (.const (.nil 0 1)), none, []⟩,
  ⟨.var 5, .mv (.const (.d (.int .i64 0))), none, []⟩,
  ⟨.var 6, .mv (.const (.d (.int .i64 0))), none, []⟩] false
def c_S_DrawPutWrap_1 : ACode := .reg [⟨.loc 11, .mv (.var 0), none, []⟩,
  ⟨.loc 12, .call (.fn 38) [(.loc 11)] [.borrow], none, []⟩,
  ⟨.loc 10, .mv (.loc 12), none, []⟩,
  ⟨.loc 13, .ext (.loc 10) 0, none, []⟩,
  ⟨.loc 14, .ext (.loc 10) 1, none, []⟩,
  ⟨.var 8, .alloc [.d (.int .i64 0), .d (.int .i64 0), .nil 1 6], none, []⟩,
  ⟨.var 7, .mv (.loc 13), none, []⟩,
  ⟨.none, .store 3 (.var 8) (.loc 14), none, []⟩] false
def c_S_DrawPutWrap_2 : ACode := .reg [⟨.loc 15, .mv (.var 7), none, []⟩,
  ⟨.loc 16, .mv (.var 7), none, []⟩,
  ⟨.loc 17, .mv (.var 0), none, []⟩,
  ⟨.loc 18, .call (.fn 41) [(.loc 17), (.const (.d (.int .i64 30)))] [.borrow, .borrow], none, []⟩,
  ⟨.loc 19, .call (.fn 40) [(.loc 16), (.loc 18)] [.box 3, .borrow], none, []⟩,
  ⟨.loc 20, .call (.fn 39) [(.loc 15), (.loc 19)] [.box 3, .borrow], none, []⟩,
  ⟨.var 9, .mv (.loc 20), none, []⟩] false
def c_S_DrawPutWrap_3 : ACode := .reg [⟨.loc 21, .mv (.var 7), none, []⟩,
  ⟨.var 22, .call (.fn 42) [(.loc 21), (.const (.d (.int .i64 30)))] [.box 3, .borrow], none, []⟩] false
def c_S_DrawPutWrap_4 : ACode := .reg [⟨.loc 23, .mv (.var 7), none, []⟩,
  ⟨.loc 24, .mv (.var 7), none, []⟩,
  ⟨.loc 25, .call (.fn 40) [(.loc 24), (.const (.d (.int .i64 2)))] [.box 3, .borrow], none, []⟩,
  ⟨.loc 26, .bin .int .add (.const (.d (.int .i64 2000))) (.loc 25), none, []⟩,
  ⟨.loc 27, .call (.fn 39) [(.loc 23), (.loc 26)] [.box 3, .borrow], none, []⟩,
  ⟨.var 9, .mv (.loc 27), none, []⟩] false
def c_S_DrawPutWrap_5 : ACode := .reg [⟨.loc 28, .load true 3 (.var 8), none, []⟩,
  ⟨.loc 29, .mv (.var 7), none, []⟩,
  ⟨.loc 30, .lit 0 1 6 [.str []] [(0, (.const (.d (.str [97])))), (1, (.const (.d (.str [107, 118, 47, 98])))), (2, (.const (.d (.str [100, 98])))), (3, (.const (.d (.str [100, 98, 47, 99, 47, 100])))), (4, (.const (.d (.str [])))), (5, (.const (.d (.str [97, 47, 42]))))], none, []⟩,
  ⟨.loc 31, .call (.fn 43) [(.loc 29), (.loc 30)] [.box 3, .give], none, [1, 2]⟩,
  ⟨.loc 32, .mv (.var 9), none, []⟩,
  ⟨.loc 33, .mv (.var 7), none, []⟩,
  ⟨.loc 34, .call (.fn 44) [(.loc 33)] [.box 3], none, [5, 3, 1, 2]⟩,
  ⟨.loc 35, .mv (.var 7), none, []⟩,
  ⟨.loc 36, .mv (.var 7), none, []⟩,
  ⟨.loc 37, .call (.fn 40) [(.loc 36), (.const (.d (.int .i64 60)))] [.box 3, .borrow], none, [8, 6, 5, 3, 1, 2]⟩,
  ⟨.loc 38, .bin .int .add (.const (.d (.int .i64 1))) (.loc 37), none, [9, 8, 6, 5, 3, 1, 2]⟩,
  ⟨.loc 39, .mv (.var 7), none, []⟩,
  ⟨.loc 40, .call (.fn 40) [(.loc 39), (.const (.d (.int .i64 60)))] [.box 3, .borrow], none, [11, 9, 8, 6, 5, 3, 1, 2]⟩,
  ⟨.loc 41, .bin .int .add (.const (.d (.int .i64 1))) (.loc 40), none, [12, 11, 9, 8, 6, 5, 3, 1, 2]⟩,
  ⟨.loc 42, .lit 0 1 6 [.int .i64 0] [(0, (.const (.d (.int .i64 1)))), (1, (.loc 38)), (2, (.loc 41)), (3, (.const (.d (.int .i64 0)))), (4, (.const (.d (.int .i64 1000000000)))), (5, (.const (.d (.int .i64 1000000001))))], none, [10, 13, 12, 11, 9, 8, 6, 5, 3, 1, 2]⟩,
  ⟨.loc 43, .call (.fn 45) [(.loc 35), (.loc 42)] [.box 3, .give], none, [7, 14, 10, 13, 12, 11, 9, 8, 6, 5, 3, 1, 2]⟩,
  ⟨.none, .store 3 (.var 2) (.loc 28), none, [15, 7, 14, 10, 13, 12, 11, 9, 8, 6, 5, 3, 1, 2, 0]⟩,
  ⟨.var 3, .mv (.loc 31), none, [16, 15, 7, 14, 10, 13, 12, 11, 9, 8, 6, 5, 3, 1, 2, 0]⟩,
  ⟨.var 4, .mv (.loc 32), none, [4, 17, 16, 15, 7, 14, 10, 13, 12, 11, 9, 8, 6, 5, 3, 1, 2, 0]⟩,
  ⟨.var 5, .mv (.loc 34), none, [18, 4, 17, 16, 15, 7, 14, 10, 13, 12, 11, 9, 8, 6, 5, 3, 1, 2, 0]⟩,
  ⟨.var 6, .mv (.loc 43), none, [19, 18, 4, 17, 16, 15, 7, 14, 10, 13, 12, 11, 9, 8, 6, 5, 3, 1, 2, 0]⟩] true
def c_S_DrawPutWrap : ACode := (.seq c_S_DrawPutWrap_0 (.seq c_S_DrawPutWrap_1 (.seq c_S_DrawPutWrap_2 (.seq (.seq c_S_DrawPutWrap_3 (.cond (.var 22) c_S_DrawPutWrap_4 .skip)) (.seq c_S_DrawPutWrap_5 .ret)))))
abbrev F_S_DrawPutWrap : FuncId := 16
theorem k_S_DrawPutWrap : comp PP (Tryd.f16.ntmps, pinOf 0 [none]) [0, 2, 3, 4, 5, 6, 7, 8, 9, 22] (Tryd.f16.body.getD .skip) = some c_S_DrawPutWrap.erase := by kernel_rfl
theorem v_S_DrawPutWrap {GG : GV} (rcs : List C) {cs : List C} {r : C} {os : List (Option C)} (hN : (cs.length == 1 && rcs.length == 5) = true) (hret : retOf rcs = r)
    (hW : W PP [0, 2, 3, 4, 5, 6, 7, 8, 9, 22] (Tryd.f16.ntmps, pinOf 0 [none]) (Valid PP GG) c_S_DrawPutWrap (entry cs) (Fin (Valid PP GG) [(.give, 2, some (true, 3)), (.give, 3, none), (.give, 4, none), (.give, 5, none), (.give, 6, none)] [none] rcs os) (fun _ _ => False) (Fin (Valid PP GG) [(.give, 2, some (true, 3)), (.give, 3, none), (.give, 4, none), (.give, 5, none), (.give, 6, none)] [none] rcs os)) : Valid PP GG F_S_DrawPutWrap cs r os :=
  fn_valid_n 1 5 [0, 2, 3, 4, 5, 6, 7, 8, 9, 22] c_S_DrawPutWrap [(.give, 2, some (true, 3)), (.give, 3, none), (.give, 4, none), (.give, 5, none), (.give, 6, none)] [none] rcs Tryd.func16 rfl rfl (by kernel_rfl) k_S_DrawPutWrap rfl rfl hN hret hW
def c_S_PutWrap_0 : ACode := .reg [⟨.var 5, .box (.var 0), none, []⟩,
  ⟨.var 10, .alloc [.d (.int .i64 0), .d (.int .i64 0), .nil 1 6], none, []⟩,
  ⟨.var 11, .mv (.const (.d (.int .i64 0))), none, []⟩,
  ⟨.var 12, .mv (.const (.d (.int .i64 0))), none, []⟩] false
def c_S_PutWrap_1 : ACode := .reg [⟨.loc 16, .load true 3 (.var 5), none, []⟩,
  ⟨.loc 17, .call (.fn 28) [(.loc 16)] [.borrow], none, []⟩,
  ⟨.loc 18, .un .not (.loc 17), none, []⟩,
  ⟨.loc 19, .split (.loc 18), none, []⟩,
  ⟨.loc 20, .mv (.var 1), some ((.loc 19), false), []⟩,
  ⟨.loc 21, .call (.fn 46) [(.loc 20)] [.borrow], some ((.loc 19), false), []⟩,
  ⟨.loc 22, .un .not (.loc 21), some ((.loc 19), false), []⟩,
  ⟨.loc 23, .pick (.loc 19) (.const (.d (.bool true))) (.loc 22), none, []⟩,
  ⟨.loc 24, .split (.loc 23), none, []⟩,
  ⟨.loc 25, .mv (.var 2), some ((.loc 24), false), []⟩,
  ⟨.loc 26, .len false (.loc 25), some ((.loc 24), false), []⟩,
  ⟨.loc 27, .bin .int .gtr (.loc 26) (.const (.d (.int .i64 2000))), some ((.loc 24), false), []⟩,
  ⟨.loc 28, .pick (.loc 24) (.const (.d (.bool true))) (.loc 27), none, []⟩,
  ⟨.loc 29, .split (.loc 28), none, []⟩,
  ⟨.loc 30, .mv (.var 3), some ((.loc 29), false), []⟩,
  ⟨.loc 31, .call (.fn 47) [(.loc 30), (.const (.d (.int .i64 0))), (.const (.d (.int .i64 1000000000)))] [.borrow, .borrow, .borrow], some ((.loc 29), false), []⟩,
  ⟨.loc 32, .un .not (.loc 31), some ((.loc 29), false), []⟩,
  ⟨.loc 33, .pick (.loc 29) (.const (.d (.bool true))) (.loc 32), none, []⟩,
  ⟨.loc 34, .split (.loc 33), none, []⟩,
  ⟨.loc 35, .mv (.var 4), some ((.loc 34), false), []⟩,
  ⟨.loc 36, .call (.fn 47) [(.loc 35), (.const (.d (.int .i64 1))), (.const (.d (.int .i64 1000000000)))] [.borrow, .borrow, .borrow], some ((.loc 34), false), []⟩,
  ⟨.loc 37, .un .not (.loc 36), some ((.loc 34), false), []⟩,
  ⟨.loc 38, .pick (.loc 34) (.const (.d (.bool true))) (.loc 37), none, []⟩,
  ⟨.loc 39, .split (.loc 38), none, []⟩,
  ⟨.loc 40, .mv (.var 3), some ((.loc 39), false), []⟩,
  ⟨.loc 41, .mv (.var 4), some ((.loc 39), false), []⟩,
  ⟨.loc 42, .bin .int .add (.loc 40) (.loc 41), some ((.loc 39), false), []⟩,
  ⟨.loc 43, .bin .int .gtr (.loc 42) (.const (.d (.int .i64 1000000000))), some ((.loc 39), false), []⟩,
  ⟨.loc 44, .pick (.loc 39) (.const (.d (.bool true))) (.loc 43), none, []⟩,
  ⟨.loc 45, .split (.loc 44), none, []⟩,
  ⟨.loc 46, .fld 1 (.var 5), some ((.loc 45), false), []⟩,
  ⟨.loc 47, .load false 1 (.loc 46), some ((.loc 45), false), []⟩,
  ⟨.loc 48, .bin .int .eql (.loc 47) (.const (.d (.int .i64 1000000000))), some ((.loc 45), false), []⟩,
  ⟨.var 49, .pick (.loc 45) (.const (.d (.bool true))) (.loc 48), none, []⟩] false
def c_S_PutWrap_2 : ACode := .reg [⟨.loc 50, .load true 3 (.var 5), none, []⟩,
  ⟨.loc 51, .call (.fn 29) [(.loc 50)] [.borrow], none, []⟩,
  ⟨.none, .store 3 (.var 10) (.loc 51), none, []⟩,
  ⟨.var 11, .mv (.const (.d (.int .i64 0))), none, []⟩,
  ⟨.var 12, .mv (.const (.d (.int .i64 1))), none, []⟩] false
def c_S_PutWrap_3 : ACode := .reg [⟨.loc 52, .fld 2 (.var 5), none, []⟩,
  ⟨.loc 53, .load false 1 (.loc 52), none, []⟩,
  ⟨.loc 54, .len false (.loc 53), none, []⟩,
  ⟨.var 55, .bin .int .eql (.loc 54) (.const (.d (.int .i64 60))), none, []⟩] false
def c_S_PutWrap_4 : ACode := .reg [⟨.loc 56, .load true 3 (.var 5), none, []⟩,
  ⟨.loc 57, .call (.fn 29) [(.loc 56)] [.borrow], none, []⟩,
  ⟨.none, .store 3 (.var 10) (.loc 57), none, []⟩,
  ⟨.var 11, .mv (.const (.d (.int .i64 0))), none, []⟩,
  ⟨.var 12, .mv (.const (.d (.int .i64 5))), none, []⟩] false
def c_S_PutWrap_5 : ACode := .reg [⟨.loc 58, .load true 3 (.var 5), none, []⟩,
  ⟨.loc 59, .call (.fn 29) [(.loc 58)] [.borrow], none, []⟩,
  ⟨.var 13, .alloc [.d (.int .i64 0), .d (.int .i64 0), .nil 1 6], none, []⟩,
  ⟨.none, .store 3 (.var 13) (.loc 59), none, []⟩] false
def c_S_PutWrap_6 : ACode := .reg [⟨.loc 61, .fld 0 (.var 5), none, []⟩,
  ⟨.loc 62, .load false 1 (.loc 61), none, []⟩,
  ⟨.loc 63, .fld 1 (.var 5), none, []⟩,
  ⟨.loc 64, .load false 1 (.loc 63), none, []⟩,
  ⟨.loc 65, .mv (.var 2), none, []⟩,
  ⟨.loc 66, .call (.fn 48) [(.loc 62), (.loc 64), (.loc 65)] [.borrow, .borrow, .borrow], none, []⟩,
  ⟨.loc 60, .mv (.loc 66), none, []⟩,
  ⟨.loc 67, .ext (.loc 60) 0, none, []⟩,
  ⟨.loc 68, .ext (.loc 60) 1, none, []⟩,
  ⟨.var 14, .alloc [.d (.int .i64 0), .nil 0 1, .d (.int .i64 0)], none, []⟩,
  ⟨.none, .store 3 (.var 14) (.loc 67), none, []⟩,
  ⟨.loc 15, .mv (.loc 68), none, []⟩] false
def c_S_PutWrap_7 : ACode := .reg [⟨.loc 69, .fld 2 (.var 13), none, []⟩,
  ⟨.loc 70, .load false 1 (.loc 69), none, []⟩,
  ⟨.loc 71, .fld 1 (.var 5), none, []⟩,
  ⟨.loc 72, .load false 1 (.loc 71), none, []⟩,
  ⟨.loc 73, .mv (.var 3), none, []⟩,
  ⟨.loc 74, .mv (.var 4), none, []⟩,
  ⟨.loc 75, .bin .int .add (.loc 73) (.loc 74), none, []⟩,
  ⟨.loc 76, .mv (.var 1), none, []⟩,
  ⟨.loc 77, .load true 3 (.var 14), none, []⟩,
  ⟨.loc 78, .build [.d (.int .i64 0), .d (.int .i64 0), .d (.str []), .d (.int .i64 0), .nil 0 1, .d (.int .i64 0)] [(0, 1, (.loc 72)), (1, 1, (.loc 75)), (2, 1, (.loc 76)), (3, 3, (.loc 77))], none, []⟩,
  ⟨.loc 79, .lit 1 6 1 [.int .i64 0, .int .i64 0, .str [], .int .i64 0, .slc 1 [], .int .i64 0] [(0, (.loc 78))], none, []⟩,
  ⟨.loc 80, .app 6 72 (.loc 70) (.loc 79), none, []⟩,
  ⟨.loc 81, .fld 2 (.var 13), none, []⟩,
  ⟨.none, .store 1 (.loc 81) (.loc 80), none, []⟩] false
def c_S_PutWrap_8 : ACode := .reg [⟨.loc 82, .fld 1 (.var 5), none, []⟩,
  ⟨.loc 83, .load false 1 (.loc 82), none, []⟩,
  ⟨.loc 84, .bin .int .add (.loc 83) (.const (.d (.int .i64 1))), none, []⟩,
  ⟨.loc 85, .fld 1 (.var 13), none, []⟩,
  ⟨.none, .store 1 (.loc 85) (.loc 84), none, []⟩] false
def c_S_PutWrap_9 : ACode := .reg [⟨.loc 86, .load true 3 (.var 13), none, []⟩,
  ⟨.loc 87, .fld 1 (.var 5), none, []⟩,
  ⟨.loc 88, .load false 1 (.loc 87), none, [1]⟩,
  ⟨.none, .store 3 (.var 10) (.loc 86), none, [0]⟩,
  ⟨.var 11, .mv (.loc 88), none, [2, 1, 3, 0]⟩,
  ⟨.var 12, .mv (.const (.d (.int .i64 0))), none, [4, 2, 1, 3, 0]⟩] true
def c_S_PutWrap : ACode := (.seq c_S_PutWrap_0 (.seq (.seq c_S_PutWrap_1 (.cond (.var 49) (.seq c_S_PutWrap_2 .ret) .skip)) (.seq (.seq c_S_PutWrap_3 (.cond (.var 55) (.seq c_S_PutWrap_4 .ret) .skip)) (.seq c_S_PutWrap_5 (.seq c_S_PutWrap_6 (.seq c_S_PutWrap_7 (.seq c_S_PutWrap_8 (.seq c_S_PutWrap_9 .ret))))))))
abbrev F_S_PutWrap : FuncId := 17
theorem k_S_PutWrap : comp PP (Tryd.f17.ntmps, pinOf 0 [none, none, none, none, none]) [0, 1, 2, 3, 4, 5, 10, 11, 12, 13, 14, 49, 55] (Tryd.f17.body.getD .skip) = some c_S_PutWrap.erase := by kernel_rfl
theorem v_S_PutWrap {GG : GV} (rcs : List C) {cs : List C} {r : C} {os : List (Option C)} (hN : (cs.length == 5 && rcs.length == 3) = true) (hret : retOf rcs = r)
    (hW : W PP [0, 1, 2, 3, 4, 5, 10, 11, 12, 13, 14, 49, 55] (Tryd.f17.ntmps, pinOf 0 [none, none, none, none, none]) (Valid PP GG) c_S_PutWrap (entry cs) (Fin (Valid PP GG) [(.give, 10, some (true, 3)), (.give, 11, none), (.give, 12, none)] [none, none, none, none, none] rcs os) (fun _ _ => False) (Fin (Valid PP GG) [(.give, 10, some (true, 3)), (.give, 11, none), (.give, 12, none)] [none, none, none, none, none] rcs os)) : Valid PP GG F_S_PutWrap cs r os :=
  fn_valid_n 5 3 [0, 1, 2, 3, 4, 5, 10, 11, 12, 13, 14, 49, 55] c_S_PutWrap [(.give, 10, some (true, 3)), (.give, 11, none), (.give, 12, none)] [none, none, none, none, none] rcs Tryd.func17 rfl rfl (by kernel_rfl) k_S_PutWrap rfl rfl hN hret hW
def c_I_PutWrap_0 : ACode := .reg [⟨.var 5, .box (.var 0), none, []⟩,
  ⟨.var 10, .alloc [.d (.int .i64 0), .d (.int .i64 0), .nil 1 6], none, []⟩,
  ⟨.var 11, .mv (.const (.d (.int .i64 0))), none, []⟩,
  ⟨.var 12, .mv (.const (.d (.int .i64 0))), none, []⟩] false
def c_I_PutWrap_1 : ACode := .reg [⟨.loc 13, .load true 3 (.var 5), none, []⟩,
  ⟨.loc 14, .call (.fn 32) [(.loc 13)] [.borrow], none, []⟩,
  ⟨.var 15, .un .not (.loc 14), none, []⟩] false
def c_I_PutWrap_2 : ACode := .reg [⟨.loc 16, .load true 3 (.var 5), none, []⟩,
  ⟨.loc 17, .call (.fn 33) [(.loc 16)] [.borrow], none, []⟩,
  ⟨.none, .store 3 (.var 10) (.loc 17), none, []⟩,
  ⟨.var 11, .mv (.const (.d (.int .i64 0))), none, []⟩,
  ⟨.var 12, .mv (.const (.d (.int .i64 1))), none, []⟩] false
def c_I_PutWrap_3 : ACode := .reg [⟨.loc 18, .load true 3 (.var 5), none, []⟩,
  ⟨.loc 19, .mv (.var 1), none, []⟩,
  ⟨.loc 20, .mv (.var 2), none, []⟩,
  ⟨.loc 21, .mv (.var 3), none, []⟩,
  ⟨.loc 22, .mv (.var 4), none, []⟩,
  ⟨.loc 23, .call (.fn 49) [(.loc 18), (.loc 19), (.loc 20), (.loc 21), (.loc 22)] [.borrow, .borrow, .borrow, .borrow, .borrow], none, []⟩,
  ⟨.loc 24, .ext (.loc 23) 0, none, []⟩,
  ⟨.loc 25, .ext (.loc 23) 1, none, []⟩,
  ⟨.loc 26, .ext (.loc 23) 2, none, []⟩,
  ⟨.none, .store 3 (.var 10) (.loc 24), none, []⟩,
  ⟨.var 11, .mv (.loc 25), none, []⟩,
  ⟨.var 12, .mv (.loc 26), none, []⟩] false
def c_I_PutWrap : ACode := (.seq c_I_PutWrap_0 (.seq (.seq c_I_PutWrap_1 (.cond (.var 15) (.seq c_I_PutWrap_2 .ret) .skip)) (.seq c_I_PutWrap_3 .ret)))
abbrev F_I_PutWrap : FuncId := 18
theorem k_I_PutWrap : comp PP (Tryd.f18.ntmps, pinOf 0 [none, none, none, none, none]) [0, 1, 2, 3, 4, 5, 10, 11, 12, 15] (Tryd.f18.body.getD .skip) = some c_I_PutWrap.erase := by kernel_rfl
theorem v_I_PutWrap {GG : GV} (rcs : List C) {cs : List C} {r : C} {os : List (Option C)} (hN : (cs.length == 5 && rcs.length == 3) = true) (hret : retOf rcs = r)
    (hW : W PP [0, 1, 2, 3, 4, 5, 10, 11, 12, 15] (Tryd.f18.ntmps, pinOf 0 [none, none, none, none, none]) (Valid PP GG) c_I_PutWrap (entry cs) (Fin (Valid PP GG) [(.give, 10, some (true, 3)), (.give, 11, none), (.give, 12, none)] [none, none, none, none, none] rcs os) (fun _ _ => False) (Fin (Valid PP GG) [(.give, 10, some (true, 3)), (.give, 11, none), (.give, 12, none)] [none, none, none, none, none] rcs os)) : Valid PP GG F_I_PutWrap cs r os :=
  fn_valid_n 5 3 [0, 1, 2, 3, 4, 5, 10, 11, 12, 15] c_I_PutWrap [(.give, 10, some (true, 3)), (.give, 11, none), (.give, 12, none)] [none, none, none, none, none] rcs Tryd.func18 rfl rfl (by kernel_rfl) k_I_PutWrap rfl rfl hN hret hW
def c_L_cpBytes_0 : ACode := .reg [⟨.var 2, .mv (.const (.nil 0 1)), none, []⟩] false
def c_L_cpBytes_1 : ACode := .reg [⟨.loc 5, .lit 0 1 0 [.int .u8 0] [], none, []⟩,
  ⟨.var 3, .mv (.loc 5), none, []⟩] false
def c_L_cpBytes_2 : ACode := .reg [⟨.var 4, .mv (.const (.d (.int .i64 0))), none, []⟩] false
def c_L_cpBytes_3 : ACode := .reg [⟨.loc 6, .mv (.var 4), none, []⟩,
  ⟨.loc 7, .mv (.var 0), none, []⟩,
  ⟨.loc 8, .len false (.loc 7), none, []⟩,
  ⟨.var 9, .bin .int .lss (.loc 6) (.loc 8), none, []⟩] false
def c_L_cpBytes_4 : ACode := .reg [⟨.loc 12, .mv (.var 3), none, []⟩,
  ⟨.loc 13, .mv (.var 0), none, []⟩,
  ⟨.loc 14, .mv (.var 4), none, []⟩,
  ⟨.loc 15, .idxA 1 (.loc 13) (.loc 14), none, []⟩,
  ⟨.loc 16, .load false 1 (.loc 15), none, []⟩,
  ⟨.loc 17, .lit 0 1 1 [.int .u8 0] [(0, (.loc 16))], none, []⟩,
  ⟨.loc 18, .app 1 1 (.loc 12) (.loc 17), none, []⟩,
  ⟨.var 3, .mv (.loc 18), none, []⟩] false
def c_L_cpBytes_5 : ACode := .reg [⟨.loc 10, .mv (.var 4), none, []⟩,
  ⟨.loc 11, .bin .int .add (.loc 10) (.const (.d (.int .i64 1))), none, []⟩,
  ⟨.var 4, .mv (.loc 11), none, []⟩] false
def c_L_cpBytes_6 : ACode := (.seq (.seq c_L_cpBytes_3 (.cond (.var 9) .skip (.exit 0))) (.seq (.block 1 c_L_cpBytes_4) c_L_cpBytes_5))
def c_L_cpBytes_7 : ACode := .reg [⟨.loc 19, .mv (.var 3), none, []⟩,
  ⟨.var 2, .mv (.loc 19), none, []⟩] false
def c_L_cpBytes : ACode := (.seq c_L_cpBytes_0 (.seq c_L_cpBytes_1 (.seq (.seq c_L_cpBytes_2 (.block 0 (.loop [0, 3, 4] c_L_cpBytes_6))) (.seq c_L_cpBytes_7 .ret))))
abbrev F_L_cpBytes : FuncId := 19
theorem k_L_cpBytes : comp PP (Tryd.f19.ntmps, pinOf 0 [none]) [0, 2, 3, 4, 9] (Tryd.f19.body.getD .skip) = some c_L_cpBytes.erase := by kernel_rfl
theorem v_L_cpBytes {GG : GV} (rcs : List C) {cs : List C} {r : C} {os : List (Option C)} (hN : (cs.length == 1 && rcs.length == 1) = true) (hret : retOf rcs = r)
    (hW : W PP [0, 2, 3, 4, 9] (Tryd.f19.ntmps, pinOf 0 [none]) (Valid PP GG) c_L_cpBytes (entry cs) (Fin (Valid PP GG) [(.give, 2, none)] [none] rcs os) (fun _ _ => False) (Fin (Valid PP GG) [(.give, 2, none)] [none] rcs os)) : Valid PP GG F_L_cpBytes cs r os :=
  fn_valid_n 1 1 [0, 2, 3, 4, 9] c_L_cpBytes [(.give, 2, none)] [none] rcs Tryd.func19 rfl rfl (by kernel_rfl) k_L_cpBytes rfl rfl hN hret hW
def c_I_PeekWrap_0 : ACode := .reg [⟨.var 2, .box (.var 0), none, []⟩,
  ⟨.var 4, .mv (.const (.d (.str []))), none, []⟩,
  ⟨.var 5, .mv (.const (.d (.int .i64 0))), none, []⟩,
  ⟨.var 6, .mv (.const (.d (.int .i64 0))), none, []⟩] false
def c_I_PeekWrap_1 : ACode := .reg [⟨.loc 8, .load true 3 (.var 2), none, []⟩,
  ⟨.loc 9, .call (.fn 32) [(.loc 8)] [.borrow], none, []⟩,
  ⟨.var 10, .un .not (.loc 9), none, []⟩] false
def c_I_PeekWrap_2 : ACode := .reg [⟨.var 4, .mv (.const (.d (.str []))), none, []⟩,
  ⟨.var 5, .mv (.const (.d (.int .i64 0))), none, []⟩,
  ⟨.var 6, .mv (.const (.d (.int .i64 1))), none, []⟩] false
def c_I_PeekWrap_3 : ACode := .reg [⟨.loc 11, .load true 3 (.var 2), none, []⟩,
  ⟨.loc 12, .mv (.var 1), none, []⟩,
  ⟨.loc 13, .call (.fn 50) [(.loc 11), (.loc 12)] [.borrow, .borrow], none, []⟩,
  ⟨.var 7, .mv (.loc 13), none, []⟩] false
def c_I_PeekWrap_4 : ACode := .reg [⟨.loc 14, .mv (.var 7), none, []⟩,
  ⟨.var 15, .bin .int .lss (.loc 14) (.const (.d (.int .i64 0))), none, []⟩] false
def c_I_PeekWrap_5 : ACode := .reg [⟨.var 4, .mv (.const (.d (.str []))), none, []⟩,
  ⟨.var 5, .mv (.const (.d (.int .i64 0))), none, []⟩,
  ⟨.var 6, .mv (.const (.d (.int .i64 2))), none, []⟩] false
def c_I_PeekWrap_6 : ACode := .reg [⟨.loc 16, .fld 2 (.var 2), none, []⟩,
  ⟨.loc 17, .load false 1 (.loc 16), none, [0]⟩,
  ⟨.loc 18, .mv (.var 7), none, []⟩,
  ⟨.loc 19, .idxA 6 (.loc 17) (.loc 18), none, [1, 0, 2]⟩,
  ⟨.loc 20, .fld 2 (.loc 19), none, [3, 1, 0, 2]⟩,
  ⟨.loc 21, .load false 1 (.loc 20), none, [4, 3, 1, 0, 2]⟩,
  ⟨.loc 22, .fld 2 (.var 2), none, []⟩,
  ⟨.loc 23, .load false 1 (.loc 22), none, [6]⟩,
  ⟨.loc 24, .mv (.var 7), none, []⟩,
  ⟨.loc 25, .idxA 6 (.loc 23) (.loc 24), none, [7, 6, 8]⟩,
  ⟨.loc 26, .fld 1 (.loc 25), none, [9, 7, 6, 8]⟩,
  ⟨.loc 27, .load false 1 (.loc 26), none, [10, 9, 7, 6, 8]⟩,
  ⟨.var 4, .mv (.loc 21), none, [5, 4, 3, 1, 0, 2]⟩,
  ⟨.var 5, .mv (.loc 27), none, [11, 10, 9, 7, 6, 8, 12, 5, 4, 3, 1, 0, 2]⟩,
  ⟨.var 6, .mv (.const (.d (.int .i64 0))), none, [13, 11, 10, 9, 7, 6, 8, 12, 5, 4, 3, 1, 0, 2]⟩] true
def c_I_PeekWrap : ACode := (.seq c_I_PeekWrap_0 (.seq (.seq c_I_PeekWrap_1 (.cond (.var 10) (.seq c_I_PeekWrap_2 .ret) .skip)) (.seq c_I_PeekWrap_3 (.seq (.seq c_I_PeekWrap_4 (.cond (.var 15) (.seq c_I_PeekWrap_5 .ret) .skip)) (.seq c_I_PeekWrap_6 .ret)))))
abbrev F_I_PeekWrap : FuncId := 20
theorem k_I_PeekWrap : comp PP (Tryd.f20.ntmps, pinOf 0 [none, none]) [0, 1, 2, 4, 5, 6, 7, 10, 15] (Tryd.f20.body.getD .skip) = some c_I_PeekWrap.erase := by kernel_rfl
theorem v_I_PeekWrap {GG : GV} (rcs : List C) {cs : List C} {r : C} {os : List (Option C)} (hN : (cs.length == 2 && rcs.length == 3) = true) (hret : retOf rcs = r)
    (hW : W PP [0, 1, 2, 4, 5, 6, 7, 10, 15] (Tryd.f20.ntmps, pinOf 0 [none, none]) (Valid PP GG) c_I_PeekWrap (entry cs) (Fin (Valid PP GG) [(.give, 4, none), (.give, 5, none), (.give, 6, none)] [none, none] rcs os) (fun _ _ => False) (Fin (Valid PP GG) [(.give, 4, none), (.give, 5, none), (.give, 6, none)] [none, none] rcs os)) : Valid PP GG F_I_PeekWrap cs r os :=
  fn_valid_n 2 3 [0, 1, 2, 4, 5, 6, 7, 10, 15] c_I_PeekWrap [(.give, 4, none), (.give, 5, none), (.give, 6, none)] [none, none] rcs Tryd.func20 rfl rfl (by kernel_rfl) k_I_PeekWrap rfl rfl hN hret hW
def c_I_OpenWrap_0 : ACode := .reg [⟨.var 3, .box (.var 0), none, []⟩,
  ⟨.var 6, .alloc [.d (.int .i64 0), .d (.int .i64 0), .nil 1 6], none, []⟩,
  ⟨.var 7, .mv (.const (.nil 0 1)), none, []⟩,
  ⟨.var 8, .mv (.const (.d (.int .i64 0))), none, []⟩] false
def c_I_OpenWrap_1 : ACode := .reg [⟨.loc 9, .load true 3 (.var 3), none, []⟩,
  ⟨.loc 10, .call (.fn 32) [(.loc 9)] [.borrow], none, []⟩,
  ⟨.loc 11, .un .not (.loc 10), none, []⟩,
  ⟨.loc 12, .split (.loc 11), none, []⟩,
  ⟨.loc 13, .mv (.var 2), some ((.loc 12), false), []⟩,
  ⟨.loc 14, .call (.fn 51) [(.loc 13), (.const (.d (.int .i64 0))), (.const (.d (.int .i64 1000000000)))] [.borrow, .borrow, .borrow], some ((.loc 12), false), []⟩,
  ⟨.loc 15, .un .not (.loc 14), some ((.loc 12), false), []⟩,
  ⟨.var 16, .pick (.loc 12) (.const (.d (.bool true))) (.loc 15), none, []⟩] false
def c_I_OpenWrap_2 : ACode := .reg [⟨.loc 17, .load true 3 (.var 3), none, []⟩,
  ⟨.loc 18, .call (.fn 33) [(.loc 17)] [.borrow], none, []⟩,
  ⟨.none, .store 3 (.var 6) (.loc 18), none, []⟩,
  ⟨.var 7, .mv (.const (.nil 0 1)), none, []⟩,
  ⟨.var 8, .mv (.const (.d (.int .i64 1))), none, []⟩] false
def c_I_OpenWrap_3 : ACode := .reg [⟨.loc 19, .load true 3 (.var 3), none, []⟩,
  ⟨.loc 20, .mv (.var 1), none, []⟩,
  ⟨.loc 21, .mv (.var 2), none, []⟩,
  ⟨.loc 22, .call (.fn 52) [(.loc 19), (.loc 20), (.loc 21)] [.borrow, .borrow, .borrow], none, []⟩,
  ⟨.loc 23, .ext (.loc 22) 0, none, []⟩,
  ⟨.loc 24, .ext (.loc 22) 1, none, []⟩,
  ⟨.loc 25, .ext (.loc 22) 2, none, []⟩,
  ⟨.none, .store 3 (.var 6) (.loc 23), none, []⟩,
  ⟨.var 7, .mv (.loc 24), none, []⟩,
  ⟨.var 8, .mv (.loc 25), none, []⟩] false
def c_I_OpenWrap : ACode := (.seq c_I_OpenWrap_0 (.seq (.seq c_I_OpenWrap_1 (.cond (.var 16) (.seq c_I_OpenWrap_2 .ret) .skip)) (.seq c_I_OpenWrap_3 .ret)))
abbrev F_I_OpenWrap : FuncId := 21
theorem k_I_OpenWrap : comp PP (Tryd.f21.ntmps, pinOf 0 [none, none, none]) [0, 1, 2, 3, 6, 7, 8, 16] (Tryd.f21.body.getD .skip) = some c_I_OpenWrap.erase := by kernel_rfl
theorem v_I_OpenWrap {GG : GV} (rcs : List C) {cs : List C} {r : C} {os : List (Option C)} (hN : (cs.length == 3 && rcs.length == 3) = true) (hret : retOf rcs = r)
    (hW : W PP [0, 1, 2, 3, 6, 7, 8, 16] (Tryd.f21.ntmps, pinOf 0 [none, none, none]) (Valid PP GG) c_I_OpenWrap (entry cs) (Fin (Valid PP GG) [(.give, 6, some (true, 3)), (.give, 7, none), (.give, 8, none)] [none, none, none] rcs os) (fun _ _ => False) (Fin (Valid PP GG) [(.give, 6, some (true, 3)), (.give, 7, none), (.give, 8, none)] [none, none, none] rcs os)) : Valid PP GG F_I_OpenWrap cs r os :=
  fn_valid_n 3 3 [0, 1, 2, 3, 6, 7, 8, 16] c_I_OpenWrap [(.give, 6, some (true, 3)), (.give, 7, none), (.give, 8, none)] [none, none, none] rcs Tryd.func21 rfl rfl (by kernel_rfl) k_I_OpenWrap rfl rfl hN hret hW
def c_L_sameBytes_0 : ACode := .reg [⟨.var 4, .mv (.const (.d (.bool false))), none, []⟩] false
def c_L_sameBytes_1 : ACode := .reg [⟨.loc 6, .mv (.var 0), none, []⟩,
  ⟨.loc 7, .len false (.loc 6), none, []⟩,
  ⟨.loc 8, .mv (.var 1), none, []⟩,
  ⟨.loc 9, .len false (.loc 8), none, []⟩,
  ⟨.var 10, .bin .int .neq (.loc 7) (.loc 9), none, []⟩] false
def c_L_sameBytes_2 : ACode := .reg [⟨.var 4, .mv (.const (.d (.bool false))), none, []⟩] false
def c_L_sameBytes_3 : ACode := .reg [⟨.var 5, .mv (.const (.d (.int .i64 0))), none, []⟩] false
def c_L_sameBytes_4 : ACode := .reg [⟨.loc 11, .mv (.var 5), none, []⟩,
  ⟨.loc 12, .mv (.var 0), none, []⟩,
  ⟨.loc 13, .len false (.loc 12), none, []⟩,
  ⟨.var 14, .bin .int .lss (.loc 11) (.loc 13), none, []⟩] false
def c_L_sameBytes_5 : ACode := .reg [⟨.loc 17, .mv (.var 0), none, []⟩,
  ⟨.loc 18, .mv (.var 5), none, []⟩,
  ⟨.loc 19, .idxA 1 (.loc 17) (.loc 18), none, [0, 1]⟩,
  ⟨.loc 20, .load false 1 (.loc 19), none, [2, 0, 1]⟩,
  ⟨.loc 21, .mv (.var 1), none, []⟩,
  ⟨.loc 22, .mv (.var 5), none, []⟩,
  ⟨.loc 23, .idxA 1 (.loc 21) (.loc 22), none, [4, 5]⟩,
  ⟨.loc 24, .load false 1 (.loc 23), none, [6, 4, 5]⟩,
  ⟨.var 25, .bin .int .neq (.loc 20) (.loc 24), none, [3, 2, 0, 1, 7, 6, 4, 5]⟩] true
def c_L_sameBytes_6 : ACode := .reg [⟨.var 4, .mv (.const (.d (.bool false))), none, []⟩] false
def c_L_sameBytes_7 : ACode := .reg [⟨.loc 15, .mv (.var 5), none, []⟩,
  ⟨.loc 16, .bin .int .add (.loc 15) (.const (.d (.int .i64 1))), none, []⟩,
  ⟨.var 5, .mv (.loc 16), none, []⟩] false
def c_L_sameBytes_8 : ACode := (.seq (.seq c_L_sameBytes_4 (.cond (.var 14) .skip (.exit 0))) (.seq (.block 1 (.seq c_L_sameBytes_5 (.cond (.var 25) (.seq c_L_sameBytes_6 .ret) .skip))) c_L_sameBytes_7))
def c_L_sameBytes_9 : ACode := .reg [⟨.var 4, .mv (.const (.d (.bool true))), none, []⟩] false
def c_L_sameBytes : ACode := (.seq c_L_sameBytes_0 (.seq (.seq c_L_sameBytes_1 (.cond (.var 10) (.seq c_L_sameBytes_2 .ret) .skip)) (.seq (.seq c_L_sameBytes_3 (.block 0 (.loop [0, 1, 5] c_L_sameBytes_8))) (.seq c_L_sameBytes_9 .ret))))
abbrev F_L_sameBytes : FuncId := 22
theorem k_L_sameBytes : comp PP (Tryd.f22.ntmps, pinOf 0 [none, none]) [0, 1, 4, 5, 10, 14, 25] (Tryd.f22.body.getD .skip) = some c_L_sameBytes.erase := by kernel_rfl
theorem v_L_sameBytes {GG : GV} (rcs : List C) {cs : List C} {r : C} {os : List (Option C)} (hN : (cs.length == 2 && rcs.length == 1) = true) (hret : retOf rcs = r)
    (hW : W PP [0, 1, 4, 5, 10, 14, 25] (Tryd.f22.ntmps, pinOf 0 [none, none]) (Valid PP GG) c_L_sameBytes (entry cs) (Fin (Valid PP GG) [(.give, 4, none)] [none, none] rcs os) (fun _ _ => False) (Fin (Valid PP GG) [(.give, 4, none)] [none, none] rcs os)) : Valid PP GG F_L_sameBytes cs r os :=
  fn_valid_n 2 1 [0, 1, 4, 5, 10, 14, 25] c_L_sameBytes [(.give, 4, none)] [none, none] rcs Tryd.func22 rfl rfl (by kernel_rfl) k_L_sameBytes rfl rfl hN hret hW
def c_L_at_0 : ACode := .reg [⟨.var 4, .mv (.const (.d (.int .i64 0))), none, []⟩] false
def c_L_at_1 : ACode := .reg [⟨.loc 5, .mv (.var 1), none, []⟩,
  ⟨.loc 6, .mv (.var 0), none, []⟩,
  ⟨.loc 7, .len false (.loc 6), none, []⟩,
  ⟨.var 8, .bin .int .lss (.loc 5) (.loc 7), none, []⟩] false
def c_L_at_2 : ACode := .reg [⟨.loc 9, .mv (.var 0), none, []⟩,
  ⟨.loc 10, .mv (.var 1), none, []⟩,
  ⟨.loc 11, .idxA 1 (.loc 9) (.loc 10), none, []⟩,
  ⟨.loc 12, .load false 1 (.loc 11), none, []⟩,
  ⟨.loc 13, .conv .i64 (.loc 12), none, []⟩,
  ⟨.var 4, .mv (.loc 13), none, []⟩] false
def c_L_at_3 : ACode := .reg [⟨.loc 14, .mv (.var 1), none, []⟩,
  ⟨.loc 15, .bin .int .mul (.loc 14) (.const (.d (.int .i64 13))), none, []⟩,
  ⟨.loc 16, .mv (.var 0), none, []⟩,
  ⟨.loc 17, .len false (.loc 16), none, []⟩,
  ⟨.loc 18, .bin .int .mul (.loc 17) (.const (.d (.int .i64 5))), none, []⟩,
  ⟨.loc 19, .bin .int .add (.loc 15) (.loc 18), none, []⟩,
  ⟨.loc 20, .bin .int .rem (.loc 19) (.const (.d (.int .i64 256))), none, []⟩,
  ⟨.var 4, .mv (.loc 20), none, []⟩] false
def c_L_at : ACode := (.seq c_L_at_0 (.seq (.seq c_L_at_1 (.cond (.var 8) (.seq c_L_at_2 .ret) .skip)) (.seq c_L_at_3 .ret)))
abbrev F_L_at : FuncId := 23
theorem k_L_at : comp PP (Tryd.f23.ntmps, pinOf 0 [none, none]) [0, 1, 4, 8] (Tryd.f23.body.getD .skip) = some c_L_at.erase := by kernel_rfl
theorem v_L_at {GG : GV} (rcs : List C) {cs : List C} {r : C} {os : List (Option C)} (hN : (cs.length == 2 && rcs.length == 1) = true) (hret : retOf rcs = r)
    (hW : W PP [0, 1, 4, 8] (Tryd.f23.ntmps, pinOf 0 [none, none]) (Valid PP GG) c_L_at (entry cs) (Fin (Valid PP GG) [(.give, 4, none)] [none, none] rcs os) (fun _ _ => False) (Fin (Valid PP GG) [(.give, 4, none)] [none, none] rcs os)) : Valid PP GG F_L_at cs r os :=
  fn_valid_n 2 1 [0, 1, 4, 8] c_L_at [(.give, 4, none)] [none, none] rcs Tryd.func23 rfl rfl (by kernel_rfl) k_L_at rfl rfl hN hret hW
def c_I_RekeyRack_0 : ACode := .reg [⟨.var 2, .box (.var 0), none, []⟩,
  ⟨.var 4, .alloc [.d (.int .i64 0), .d (.int .i64 0), .nil 1 6], none, []⟩,
  ⟨.var 5, .mv (.const (.d (.bool false))), none, []⟩] false
def c_I_RekeyRack_1 : ACode := .reg [⟨.loc 11, .load true 3 (.var 2), none, []⟩,
  ⟨.loc 12, .call (.fn 32) [(.loc 11)] [.borrow], none, []⟩,
  ⟨.loc 13, .un .not (.loc 12), none, []⟩,
  ⟨.loc 14, .split (.loc 13), none, []⟩,
  ⟨.loc 15, .mv (.var 1), some ((.loc 14), false), []⟩,
  ⟨.loc 16, .call (.fn 53) [(.loc 15)] [.borrow], some ((.loc 14), false), []⟩,
  ⟨.loc 17, .un .not (.loc 16), some ((.loc 14), false), []⟩,
  ⟨.var 18, .pick (.loc 14) (.const (.d (.bool true))) (.loc 17), none, []⟩] false
def c_I_RekeyRack_2 : ACode := .reg [⟨.loc 19, .load true 3 (.var 2), none, []⟩,
  ⟨.loc 20, .call (.fn 33) [(.loc 19)] [.borrow], none, []⟩,
  ⟨.none, .store 3 (.var 4) (.loc 20), none, []⟩,
  ⟨.var 5, .mv (.const (.d (.bool false))), none, []⟩] false
def c_I_RekeyRack_3 : ACode := .reg [⟨.loc 21, .mv (.var 1), none, []⟩,
  ⟨.loc 22, .fld 1 (.var 2), none, []⟩,
  ⟨.loc 23, .load false 1 (.loc 22), none, []⟩,
  ⟨.loc 24, .build [.d (.int .i64 0), .d (.int .i64 0), .nil 1 6] [(0, 1, (.loc 21)), (1, 1, (.loc 23))], none, []⟩,
  ⟨.var 6, .alloc [.d (.int .i64 0), .d (.int .i64 0), .nil 1 6], none, []⟩,
  ⟨.none, .store 3 (.var 6) (.loc 24), none, []⟩] false
def c_I_RekeyRack_4 : ACode := .reg [⟨.loc 25, .fld 2 (.var 2), none, []⟩,
  ⟨.var 26, .load false 1 (.loc 25), none, []⟩,
  ⟨.var 27, .len false (.var 26), none, []⟩,
  ⟨.var 28, .mv (.const (.d (.int .i64 0))), none, []⟩] false
def c_I_RekeyRack_5 : ACode := .reg [⟨.var 29, .bin .int .lss (.var 28) (.var 27), none, []⟩] false
def c_I_RekeyRack_6 : ACode := .reg [⟨.loc 30, .idxA 6 (.var 26) (.var 28), none, []⟩,
  ⟨.loc 31, .load true 6 (.loc 30), none, []⟩,
  ⟨.var 8, .alloc [.d (.int .i64 0), .d (.int .i64 0), .d (.str []), .d (.int .i64 0), .nil 0 1, .d (.int .i64 0)], none, []⟩,
  ⟨.none, .store 6 (.var 8) (.loc 31), none, []⟩] false
def c_I_RekeyRack_7 : ACode := .reg [⟨.loc 33, .fld 0 (.var 2), none, []⟩,
  ⟨.loc 34, .load false 1 (.loc 33), none, []⟩,
  ⟨.loc 35, .fld 3 (.var 8), none, []⟩,
  ⟨.loc 36, .load true 3 (.loc 35), none, []⟩,
  ⟨.loc 37, .call (.fn 54) [(.loc 34), (.loc 36)] [.borrow, .borrow], none, []⟩,
  ⟨.loc 32, .mv (.loc 37), none, []⟩,
  ⟨.loc 38, .ext (.loc 32) 0, none, []⟩,
  ⟨.loc 39, .ext (.loc 32) 1, none, []⟩,
  ⟨.var 9, .mv (.loc 38), none, []⟩,
  ⟨.var 10, .mv (.loc 39), none, []⟩] false
def c_I_RekeyRack_8 : ACode := .reg [⟨.var 40, .mv (.var 10), none, []⟩] false
def c_I_RekeyRack_9 : ACode := .reg [⟨.loc 41, .mv (.var 1), none, []⟩,
  ⟨.loc 42, .fld 3 (.var 8), none, []⟩,
  ⟨.loc 43, .fld 0 (.loc 42), none, []⟩,
  ⟨.loc 44, .load false 1 (.loc 43), none, []⟩,
  ⟨.loc 45, .mv (.var 9), none, []⟩,
  ⟨.loc 46, .call (.fn 55) [(.loc 41), (.loc 44), (.loc 45)] [.borrow, .borrow, .borrow], none, []⟩,
  ⟨.loc 47, .fld 3 (.var 8), none, []⟩,
  ⟨.none, .store 3 (.loc 47) (.loc 46), none, []⟩] false
def c_I_RekeyRack_10 : ACode := .reg [⟨.loc 48, .fld 2 (.var 6), none, []⟩,
  ⟨.loc 49, .load false 1 (.loc 48), none, []⟩,
  ⟨.loc 50, .load true 6 (.var 8), none, []⟩,
  ⟨.loc 51, .lit 1 6 1 [.int .i64 0, .int .i64 0, .str [], .int .i64 0, .slc 1 [], .int .i64 0] [(0, (.loc 50))], none, []⟩,
  ⟨.loc 52, .app 6 72 (.loc 49) (.loc 51), none, []⟩,
  ⟨.loc 53, .fld 2 (.var 6), none, []⟩,
  ⟨.none, .store 1 (.loc 53) (.loc 52), none, []⟩] false
def c_I_RekeyRack_11 : ACode := .reg [⟨.loc 54, .bin .int .add (.var 28) (.const (.d (.int .i64 1))), none, []⟩,
  ⟨.var 28, .mv (.loc 54), none, []⟩] false
def c_I_RekeyRack_12 : ACode := (.seq c_I_RekeyRack_5 (.seq (.cond (.var 29) .skip (.exit 0)) (.seq (.block 1 (.seq c_I_RekeyRack_6 (.seq c_I_RekeyRack_7 (.seq c_I_RekeyRack_8 (.cond (.var 40) (.seq c_I_RekeyRack_9 c_I_RekeyRack_10) .skip))))) c_I_RekeyRack_11)))
def c_I_RekeyRack_13 : ACode := .reg [⟨.loc 55, .load true 3 (.var 6), none, []⟩,
  ⟨.none, .store 3 (.var 4) (.loc 55), none, []⟩,
  ⟨.var 5, .mv (.const (.d (.bool true))), none, []⟩] false
def c_I_RekeyRack : ACode := (.seq c_I_RekeyRack_0 (.seq (.seq c_I_RekeyRack_1 (.cond (.var 18) (.seq c_I_RekeyRack_2 .ret) .skip)) (.seq c_I_RekeyRack_3 (.seq (.seq c_I_RekeyRack_4 (.block 0 (.loop [1, 2, 4, 6, 26, 27, 28] c_I_RekeyRack_12))) (.seq c_I_RekeyRack_13 .ret)))))
abbrev F_I_RekeyRack : FuncId := 24
theorem k_I_RekeyRack : comp PP (Tryd.f24.ntmps, pinOf 0 [none, none]) [0, 1, 2, 4, 5, 6, 8, 9, 10, 18, 26, 27, 28, 29, 40] (Tryd.f24.body.getD .skip) = some c_I_RekeyRack.erase := by kernel_rfl
theorem v_I_RekeyRack {GG : GV} (rcs : List C) {cs : List C} {r : C} {os : List (Option C)} (hN : (cs.length == 2 && rcs.length == 2) = true) (hret : retOf rcs = r)
    (hW : W PP [0, 1, 2, 4, 5, 6, 8, 9, 10, 18, 26, 27, 28, 29, 40] (Tryd.f24.ntmps, pinOf 0 [none, none]) (Valid PP GG) c_I_RekeyRack (entry cs) (Fin (Valid PP GG) [(.give, 4, some (true, 3)), (.give, 5, none)] [none, none] rcs os) (fun _ _ => False) (Fin (Valid PP GG) [(.give, 4, some (true, 3)), (.give, 5, none)] [none, none] rcs os)) : Valid PP GG F_I_RekeyRack cs r os :=
  fn_valid_n 2 2 [0, 1, 2, 4, 5, 6, 8, 9, 10, 18, 26, 27, 28, 29, 40] c_I_RekeyRack [(.give, 4, some (true, 3)), (.give, 5, none)] [none, none] rcs Tryd.func24 rfl rfl (by kernel_rfl) k_I_RekeyRack rfl rfl hN hret hW
def c_I_AgainWrap_0 : ACode := .reg [⟨.var 3, .box (.var 0), none, []⟩,
  ⟨.var 6, .alloc [.d (.int .i64 0), .d (.int .i64 0), .nil 1 6], none, []⟩,
  ⟨.var 7, .mv (.const (.d (.int .i64 0))), none, []⟩,
  ⟨.var 8, .mv (.const (.d (.int .i64 0))), none, []⟩] false
def c_I_AgainWrap_1 : ACode := .reg [⟨.loc 13, .load true 3 (.var 3), none, []⟩,
  ⟨.loc 14, .call (.fn 32) [(.loc 13)] [.borrow], none, []⟩,
  ⟨.loc 15, .un .not (.loc 14), none, []⟩,
  ⟨.loc 16, .split (.loc 15), none, []⟩,
  ⟨.loc 17, .mv (.var 2), some ((.loc 16), false), []⟩,
  ⟨.loc 18, .call (.fn 51) [(.loc 17), (.const (.d (.int .i64 0))), (.const (.d (.int .i64 1000000000)))] [.borrow, .borrow, .borrow], some ((.loc 16), false), []⟩,
  ⟨.loc 19, .un .not (.loc 18), some ((.loc 16), false), []⟩,
  ⟨.var 20, .pick (.loc 16) (.const (.d (.bool true))) (.loc 19), none, []⟩] false
def c_I_AgainWrap_2 : ACode := .reg [⟨.loc 21, .load true 3 (.var 3), none, []⟩,
  ⟨.loc 22, .call (.fn 33) [(.loc 21)] [.borrow], none, []⟩,
  ⟨.none, .store 3 (.var 6) (.loc 22), none, []⟩,
  ⟨.var 7, .mv (.const (.d (.int .i64 0))), none, []⟩,
  ⟨.var 8, .mv (.const (.d (.int .i64 1))), none, []⟩] false
def c_I_AgainWrap_3 : ACode := .reg [⟨.loc 24, .load true 3 (.var 3), none, []⟩,
  ⟨.loc 25, .mv (.var 1), none, []⟩,
  ⟨.loc 26, .mv (.var 2), none, []⟩,
  ⟨.loc 27, .call (.fn 52) [(.loc 24), (.loc 25), (.loc 26)] [.borrow, .borrow, .borrow], none, []⟩,
  ⟨.loc 23, .mv (.loc 27), none, []⟩,
  ⟨.loc 28, .ext (.loc 23) 0, none, []⟩,
  ⟨.loc 29, .ext (.loc 23) 1, none, []⟩,
  ⟨.loc 30, .ext (.loc 23) 2, none, []⟩,
  ⟨.var 9, .alloc [.d (.int .i64 0), .d (.int .i64 0), .nil 1 6], none, []⟩,
  ⟨.none, .store 3 (.var 9) (.loc 28), none, []⟩,
  ⟨.var 10, .mv (.loc 29), none, []⟩,
  ⟨.var 11, .mv (.loc 30), none, []⟩] false
def c_I_AgainWrap_4 : ACode := .reg [⟨.loc 31, .mv (.var 11), none, []⟩,
  ⟨.var 32, .bin .int .neq (.loc 31) (.const (.d (.int .i64 0))), none, []⟩] false
def c_I_AgainWrap_5 : ACode := .reg [⟨.loc 33, .load true 3 (.var 9), none, []⟩,
  ⟨.loc 34, .mv (.var 11), none, []⟩,
  ⟨.none, .store 3 (.var 6) (.loc 33), none, []⟩,
  ⟨.var 7, .mv (.const (.d (.int .i64 0))), none, []⟩,
  ⟨.var 8, .mv (.loc 34), none, []⟩] false
def c_I_AgainWrap_6 : ACode := .reg [⟨.loc 35, .fld 2 (.var 3), none, []⟩,
  ⟨.loc 36, .load false 1 (.loc 35), none, [0]⟩,
  ⟨.loc 37, .load true 3 (.var 3), none, []⟩,
  ⟨.loc 38, .mv (.var 1), none, []⟩,
  ⟨.loc 39, .call (.fn 50) [(.loc 37), (.loc 38)] [.borrow, .borrow], none, [2, 3]⟩,
  ⟨.loc 40, .idxA 6 (.loc 36) (.loc 39), none, [1, 0, 4, 2, 3]⟩,
  ⟨.loc 41, .load true 6 (.loc 40), none, [5, 1, 0, 4, 2, 3]⟩,
  ⟨.var 12, .alloc [.d (.int .i64 0), .d (.int .i64 0), .d (.str []), .d (.int .i64 0), .nil 0 1, .d (.int .i64 0)], none, []⟩,
  ⟨.none, .store 6 (.var 12) (.loc 41), none, [6, 5, 1, 0, 4, 2, 3, 7]⟩] true
def c_I_AgainWrap_7 : ACode := .reg [⟨.loc 42, .load true 3 (.var 9), none, []⟩,
  ⟨.loc 43, .fld 2 (.var 12), none, []⟩,
  ⟨.loc 44, .load false 1 (.loc 43), none, []⟩,
  ⟨.loc 45, .mv (.var 10), none, []⟩,
  ⟨.loc 46, .mv (.var 2), none, []⟩,
  ⟨.loc 47, .fld 1 (.var 12), none, []⟩,
  ⟨.loc 48, .load false 1 (.loc 47), none, []⟩,
  ⟨.loc 49, .mv (.var 2), none, []⟩,
  ⟨.loc 50, .bin .int .sub (.loc 48) (.loc 49), none, []⟩,
  ⟨.loc 51, .call (.fn 49) [(.loc 42), (.loc 44), (.loc 45), (.loc 46), (.loc 50)] [.borrow, .borrow, .borrow, .borrow, .borrow], none, []⟩,
  ⟨.loc 52, .ext (.loc 51) 0, none, []⟩,
  ⟨.loc 53, .ext (.loc 51) 1, none, []⟩,
  ⟨.loc 54, .ext (.loc 51) 2, none, []⟩,
  ⟨.none, .store 3 (.var 6) (.loc 52), none, []⟩,
  ⟨.var 7, .mv (.loc 53), none, []⟩,
  ⟨.var 8, .mv (.loc 54), none, []⟩] false
def c_I_AgainWrap : ACode := (.seq c_I_AgainWrap_0 (.seq (.seq c_I_AgainWrap_1 (.cond (.var 20) (.seq c_I_AgainWrap_2 .ret) .skip)) (.seq c_I_AgainWrap_3 (.seq (.seq c_I_AgainWrap_4 (.cond (.var 32) (.seq c_I_AgainWrap_5 .ret) .skip)) (.seq c_I_AgainWrap_6 (.seq c_I_AgainWrap_7 .ret))))))
abbrev F_I_AgainWrap : FuncId := 25
theorem k_I_AgainWrap : comp PP (Tryd.f25.ntmps, pinOf 0 [none, none, none]) [0, 1, 2, 3, 6, 7, 8, 9, 10, 11, 12, 20, 32] (Tryd.f25.body.getD .skip) = some c_I_AgainWrap.erase := by kernel_rfl
theorem v_I_AgainWrap {GG : GV} (rcs : List C) {cs : List C} {r : C} {os : List (Option C)} (hN : (cs.length == 3 && rcs.length == 3) = true) (hret : retOf rcs = r)
    (hW : W PP [0, 1, 2, 3, 6, 7, 8, 9, 10, 11, 12, 20, 32] (Tryd.f25.ntmps, pinOf 0 [none, none, none]) (Valid PP GG) c_I_AgainWrap (entry cs) (Fin (Valid PP GG) [(.give, 6, some (true, 3)), (.give, 7, none), (.give, 8, none)] [none, none, none] rcs os) (fun _ _ => False) (Fin (Valid PP GG) [(.give, 6, some (true, 3)), (.give, 7, none), (.give, 8, none)] [none, none, none] rcs os)) : Valid PP GG F_I_AgainWrap cs r os :=
  fn_valid_n 3 3 [0, 1, 2, 3, 6, 7, 8, 9, 10, 11, 12, 20, 32] c_I_AgainWrap [(.give, 6, some (true, 3)), (.give, 7, none), (.give, 8, none)] [none, none, none] rcs Tryd.func25 rfl rfl (by kernel_rfl) k_I_AgainWrap rfl rfl hN hret hW
def c_L_within_0 : ACode := .reg [⟨.var 4, .mv (.const (.d (.bool false))), none, []⟩] false
def c_L_within_1 : ACode := .reg [⟨.var 5, .mv (.const (.d (.int .i64 0))), none, []⟩] false
def c_L_within_2 : ACode := .reg [⟨.loc 6, .mv (.var 5), none, []⟩,
  ⟨.loc 7, .mv (.var 0), none, []⟩,
  ⟨.loc 8, .len false (.loc 7), none, []⟩,
  ⟨.var 9, .bin .int .lss (.loc 6) (.loc 8), none, []⟩] false
def c_L_within_3 : ACode := .reg [⟨.loc 12, .mv (.var 0), none, []⟩,
  ⟨.loc 13, .mv (.var 5), none, []⟩,
  ⟨.loc 14, .idxA 1 (.loc 12) (.loc 13), none, []⟩,
  ⟨.loc 15, .load false 1 (.loc 14), none, []⟩,
  ⟨.loc 16, .mv (.var 1), none, []⟩,
  ⟨.var 17, .bin .int .eql (.loc 15) (.loc 16), none, []⟩] false
def c_L_within_4 : ACode := .reg [⟨.var 4, .mv (.const (.d (.bool true))), none, []⟩] false
def c_L_within_5 : ACode := .reg [⟨.loc 10, .mv (.var 5), none, []⟩,
  ⟨.loc 11, .bin .int .add (.loc 10) (.const (.d (.int .i64 1))), none, []⟩,
  ⟨.var 5, .mv (.loc 11), none, []⟩] false
def c_L_within_6 : ACode := (.seq (.seq c_L_within_2 (.cond (.var 9) .skip (.exit 0))) (.seq (.block 1 (.seq c_L_within_3 (.cond (.var 17) (.seq c_L_within_4 .ret) .skip))) c_L_within_5))
def c_L_within_7 : ACode := .reg [⟨.var 4, .mv (.const (.d (.bool false))), none, []⟩] false
def c_L_within : ACode := (.seq c_L_within_0 (.seq (.seq c_L_within_1 (.block 0 (.loop [0, 1, 5] c_L_within_6))) (.seq c_L_within_7 .ret)))
abbrev F_L_within : FuncId := 26
theorem k_L_within : comp PP (Tryd.f26.ntmps, pinOf 0 [none, none]) [0, 1, 4, 5, 9, 17] (Tryd.f26.body.getD .skip) = some c_L_within.erase := by kernel_rfl
theorem v_L_within {GG : GV} (rcs : List C) {cs : List C} {r : C} {os : List (Option C)} (hN : (cs.length == 2 && rcs.length == 1) = true) (hret : retOf rcs = r)
    (hW : W PP [0, 1, 4, 5, 9, 17] (Tryd.f26.ntmps, pinOf 0 [none, none]) (Valid PP GG) c_L_within (entry cs) (Fin (Valid PP GG) [(.give, 4, none)] [none, none] rcs os) (fun _ _ => False) (Fin (Valid PP GG) [(.give, 4, none)] [none, none] rcs os)) : Valid PP GG F_L_within cs r os :=
  fn_valid_n 2 1 [0, 1, 4, 5, 9, 17] c_L_within [(.give, 4, none)] [none, none] rcs Tryd.func26 rfl rfl (by kernel_rfl) k_L_within rfl rfl hN hret hW
def c_S_RackOk_0 : ACode := .reg [⟨.var 1, .box (.var 0), none, []⟩,
  ⟨.var 2, .mv (.const (.d (.bool false))), none, []⟩] false
def c_S_RackOk_1 : ACode := .reg [⟨.loc 5, .fld 0 (.var 1), none, []⟩,
  ⟨.loc 6, .load false 1 (.loc 5), none, []⟩,
  ⟨.loc 7, .call (.fn 57) [(.loc 6)] [.borrow], none, []⟩,
  ⟨.loc 8, .un .not (.loc 7), none, []⟩,
  ⟨.loc 9, .split (.loc 8), none, []⟩,
  ⟨.loc 10, .fld 1 (.var 1), some ((.loc 9), false), []⟩,
  ⟨.loc 11, .load false 1 (.loc 10), some ((.loc 9), false), []⟩,
  ⟨.loc 12, .call (.fn 47) [(.loc 11), (.const (.d (.int .i64 1))), (.const (.d (.int .i64 1000000000)))] [.borrow, .borrow, .borrow], some ((.loc 9), false), []⟩,
  ⟨.loc 13, .un .not (.loc 12), some ((.loc 9), false), []⟩,
  ⟨.loc 14, .pick (.loc 9) (.const (.d (.bool true))) (.loc 13), none, []⟩,
  ⟨.loc 15, .split (.loc 14), none, []⟩,
  ⟨.loc 16, .fld 2 (.var 1), some ((.loc 15), false), []⟩,
  ⟨.loc 17, .load false 1 (.loc 16), some ((.loc 15), false), []⟩,
  ⟨.loc 18, .len false (.loc 17), some ((.loc 15), false), []⟩,
  ⟨.loc 19, .bin .int .gtr (.loc 18) (.const (.d (.int .i64 60))), some ((.loc 15), false), []⟩,
  ⟨.var 20, .pick (.loc 15) (.const (.d (.bool true))) (.loc 19), none, []⟩] false
def c_S_RackOk_2 : ACode := .reg [⟨.var 2, .mv (.const (.d (.bool false))), none, []⟩] false
def c_S_RackOk_3 : ACode := .reg [⟨.var 3, .mv (.const (.d (.int .i64 0))), none, []⟩] false
def c_S_RackOk_4 : ACode := .reg [⟨.loc 21, .mv (.var 3), none, []⟩,
  ⟨.loc 22, .fld 2 (.var 1), none, []⟩,
  ⟨.loc 23, .load false 1 (.loc 22), none, []⟩,
  ⟨.loc 24, .len false (.loc 23), none, []⟩,
  ⟨.var 25, .bin .int .lss (.loc 21) (.loc 24), none, []⟩] false
def c_S_RackOk_5 : ACode := .reg [⟨.loc 28, .fld 2 (.var 1), none, []⟩,
  ⟨.loc 29, .load false 1 (.loc 28), none, []⟩,
  ⟨.loc 30, .mv (.var 3), none, []⟩,
  ⟨.loc 31, .idxA 6 (.loc 29) (.loc 30), none, []⟩,
  ⟨.loc 32, .load true 6 (.loc 31), none, []⟩,
  ⟨.var 4, .alloc [.d (.int .i64 0), .d (.int .i64 0), .d (.str []), .d (.int .i64 0), .nil 0 1, .d (.int .i64 0)], none, []⟩,
  ⟨.none, .store 6 (.var 4) (.loc 32), none, []⟩] false
def c_S_RackOk_6 : ACode := .reg [⟨.loc 33, .fld 0 (.var 4), none, []⟩,
  ⟨.loc 34, .load false 1 (.loc 33), none, [0]⟩,
  ⟨.loc 35, .fld 1 (.var 1), none, []⟩,
  ⟨.loc 36, .load false 1 (.loc 35), none, [2]⟩,
  ⟨.loc 37, .bin .int .sub (.loc 36) (.const (.d (.int .i64 1))), none, [3, 2]⟩,
  ⟨.loc 38, .call (.fn 47) [(.loc 34), (.const (.d (.int .i64 1))), (.loc 37)] [.borrow, .borrow, .borrow], none, [1, 0, 4, 3, 2]⟩,
  ⟨.loc 39, .un .not (.loc 38), none, [5, 1, 0, 4, 3, 2]⟩,
  ⟨.loc 40, .split (.loc 39), none, [6, 5, 1, 0, 4, 3, 2]⟩,
  ⟨.loc 41, .fld 1 (.var 4), some ((.loc 40), false), [7, 6, 5, 1, 0, 4, 3, 2]⟩,
  ⟨.loc 42, .load false 1 (.loc 41), some ((.loc 40), false), [8, 7, 6, 5, 1, 0, 4, 3, 2]⟩,
  ⟨.loc 43, .call (.fn 47) [(.loc 42), (.const (.d (.int .i64 1))), (.const (.d (.int .i64 1000000000)))] [.borrow, .borrow, .borrow], some ((.loc 40), false), [9, 8, 7, 6, 5, 1, 0, 4, 3, 2]⟩,
  ⟨.loc 44, .un .not (.loc 43), some ((.loc 40), false), [10, 9, 8, 7, 6, 5, 1, 0, 4, 3, 2]⟩,
  ⟨.loc 45, .pick (.loc 40) (.const (.d (.bool true))) (.loc 44), none, [11, 10, 9, 8, 7, 6, 5, 1, 0, 4, 3, 2]⟩,
  ⟨.loc 46, .split (.loc 45), none, [12, 11, 10, 9, 8, 7, 6, 5, 1, 0, 4, 3, 2]⟩,
  ⟨.loc 47, .fld 2 (.var 4), some ((.loc 46), false), [13, 12, 11, 10, 9, 8, 7, 6, 5, 1, 0, 4, 3, 2]⟩,
  ⟨.loc 48, .load false 1 (.loc 47), some ((.loc 46), false), [14, 13, 12, 11, 10, 9, 8, 7, 6, 5, 1, 0, 4, 3, 2]⟩,
  ⟨.loc 49, .call (.fn 46) [(.loc 48)] [.borrow], some ((.loc 46), false), [15, 14, 13, 12, 11, 10, 9, 8, 7, 6, 5, 1, 0, 4, 3, 2]⟩,
  ⟨.loc 50, .un .not (.loc 49), some ((.loc 46), false), [16, 15, 14, 13, 12, 11, 10, 9, 8, 7, 6, 5, 1, 0, 4, 3, 2]⟩,
  ⟨.loc 51, .pick (.loc 46) (.const (.d (.bool true))) (.loc 50), none, [17, 16, 15, 14, 13, 12, 11, 10, 9, 8, 7, 6, 5, 1, 0, 4, 3, 2]⟩,
  ⟨.loc 52, .split (.loc 51), none, [18, 17, 16, 15, 14, 13, 12, 11, 10, 9, 8, 7, 6, 5, 1, 0, 4, 3, 2]⟩,
  ⟨.loc 53, .mv (.var 3), some ((.loc 52), false), [19, 18, 17, 16, 15, 14, 13, 12, 11, 10, 9, 8, 7, 6, 5, 1, 0, 4, 3, 2]⟩,
  ⟨.loc 54, .bin .int .gtr (.loc 53) (.const (.d (.int .i64 0))), some ((.loc 52), false), [20, 19, 18, 17, 16, 15, 14, 13, 12, 11, 10, 9, 8, 7, 6, 5, 1, 0, 4, 3, 2]⟩,
  ⟨.loc 55, .split (.loc 54), some ((.loc 52), false), [21, 20, 19, 18, 17, 16, 15, 14, 13, 12, 11, 10, 9, 8, 7, 6, 5, 1, 0, 4, 3, 2]⟩,
  ⟨.loc 56, .fld 2 (.var 1), some ((.loc 55), true), [22, 21, 20, 19, 18, 17, 16, 15, 14, 13, 12, 11, 10, 9, 8, 7, 6, 5, 1, 0, 4, 3, 2]⟩,
  ⟨.loc 57, .load false 1 (.loc 56), some ((.loc 55), true), [23, 22, 21, 20, 19, 18, 17, 16, 15, 14, 13, 12, 11, 10, 9, 8, 7, 6, 5, 1, 0, 4, 3, 2]⟩,
  ⟨.loc 58, .mv (.var 3), some ((.loc 55), true), [22, 21, 20, 19, 18, 17, 16, 15, 14, 13, 12, 11, 10, 9, 8, 7, 6, 5, 1, 0, 4, 3, 2]⟩,
  ⟨.loc 59, .bin .int .sub (.loc 58) (.const (.d (.int .i64 1))), some ((.loc 55), true), [25, 22, 21, 20, 19, 18, 17, 16, 15, 14, 13, 12, 11, 10, 9, 8, 7, 6, 5, 1, 0, 4, 3, 2]⟩,
  ⟨.loc 60, .idxA 6 (.loc 57) (.loc 59), some ((.loc 55), true), [24, 23, 26, 25, 22, 21, 20, 19, 18, 17, 16, 15, 14, 13, 12, 11, 10, 9, 8, 7, 6, 5, 1, 0, 4, 3, 2]⟩,
  ⟨.loc 61, .fld 0 (.loc 60), some ((.loc 55), true), [27, 24, 23, 26, 25, 22, 21, 20, 19, 18, 17, 16, 15, 14, 13, 12, 11, 10, 9, 8, 7, 6, 5, 1, 0, 4, 3, 2]⟩,
  ⟨.loc 62, .load false 1 (.loc 61), some ((.loc 55), true), [28, 27, 24, 23, 26, 25, 22, 21, 20, 19, 18, 17, 16, 15, 14, 13, 12, 11, 10, 9, 8, 7, 6, 5, 1, 0, 4, 3, 2]⟩,
  ⟨.loc 63, .fld 0 (.var 4), some ((.loc 55), true), [22, 21, 20, 19, 18, 17, 16, 15, 14, 13, 12, 11, 10, 9, 8, 7, 6, 5, 1, 0, 4, 3, 2]⟩,
  ⟨.loc 64, .load false 1 (.loc 63), some ((.loc 55), true), [30, 22, 21, 20, 19, 18, 17, 16, 15, 14, 13, 12, 11, 10, 9, 8, 7, 6, 5, 1, 0, 4, 3, 2]⟩,
  ⟨.loc 65, .bin .int .geq (.loc 62) (.loc 64), some ((.loc 55), true), [29, 28, 27, 24, 23, 26, 25, 31, 30, 22, 21, 20, 19, 18, 17, 16, 15, 14, 13, 12, 11, 10, 9, 8, 7, 6, 5, 1, 0, 4, 3, 2]⟩,
  ⟨.loc 66, .pick (.loc 55) (.loc 65) (.const (.d (.bool false))), some ((.loc 52), false), [32, 29, 28, 27, 24, 23, 26, 25, 31, 30, 22, 21, 20, 19, 18, 17, 16, 15, 14, 13, 12, 11, 10, 9, 8, 7, 6, 5, 1, 0, 4, 3, 2]⟩,
  ⟨.var 67, .pick (.loc 52) (.const (.d (.bool true))) (.loc 66), none, [33, 32, 29, 28, 27, 24, 23, 26, 25, 31, 30, 22, 21, 20, 19, 18, 17, 16, 15, 14, 13, 12, 11, 10, 9, 8, 7, 6, 5, 1, 0, 4, 3, 2]⟩] true
def c_S_RackOk_7 : ACode := .reg [⟨.var 2, .mv (.const (.d (.bool false))), none, []⟩] false
def c_S_RackOk_8 : ACode := .reg [⟨.loc 26, .mv (.var 3), none, []⟩,
  ⟨.loc 27, .bin .int .add (.loc 26) (.const (.d (.int .i64 1))), none, []⟩,
  ⟨.var 3, .mv (.loc 27), none, []⟩] false
def c_S_RackOk_9 : ACode := (.seq (.seq c_S_RackOk_4 (.cond (.var 25) .skip (.exit 0))) (.seq (.block 1 (.seq c_S_RackOk_5 (.seq c_S_RackOk_6 (.cond (.var 67) (.seq c_S_RackOk_7 .ret) .skip)))) c_S_RackOk_8))
def c_S_RackOk_10 : ACode := .reg [⟨.var 2, .mv (.const (.d (.bool true))), none, []⟩] false
def c_S_RackOk : ACode := (.seq c_S_RackOk_0 (.seq (.seq c_S_RackOk_1 (.cond (.var 20) (.seq c_S_RackOk_2 .ret) .skip)) (.seq (.seq c_S_RackOk_3 (.block 0 (.loop [1, 3] c_S_RackOk_9))) (.seq c_S_RackOk_10 .ret))))
abbrev F_S_RackOk : FuncId := 28
theorem k_S_RackOk : comp PP (Tryd.f28.ntmps, pinOf 0 [none]) [0, 1, 2, 3, 4, 20, 25, 67] (Tryd.f28.body.getD .skip) = some c_S_RackOk.erase := by kernel_rfl
theorem v_S_RackOk {GG : GV} (rcs : List C) {cs : List C} {r : C} {os : List (Option C)} (hN : (cs.length == 1 && rcs.length == 1) = true) (hret : retOf rcs = r)
    (hW : W PP [0, 1, 2, 3, 4, 20, 25, 67] (Tryd.f28.ntmps, pinOf 0 [none]) (Valid PP GG) c_S_RackOk (entry cs) (Fin (Valid PP GG) [(.give, 2, none)] [none] rcs os) (fun _ _ => False) (Fin (Valid PP GG) [(.give, 2, none)] [none] rcs os)) : Valid PP GG F_S_RackOk cs r os :=
  fn_valid_n 1 1 [0, 1, 2, 3, 4, 20, 25, 67] c_S_RackOk [(.give, 2, none)] [none] rcs Tryd.func28 rfl rfl (by kernel_rfl) k_S_RackOk rfl rfl hN hret hW
def c_S_l14Copy_0 : ACode := .reg [⟨.var 1, .box (.var 0), none, []⟩,
  ⟨.var 2, .alloc [.d (.int .i64 0), .d (.int .i64 0), .nil 1 6], none, []⟩] false
def c_S_l14Copy_1 : ACode := .reg [⟨.loc 5, .fld 0 (.var 1), none, []⟩,
  ⟨.loc 6, .load false 1 (.loc 5), none, []⟩,
  ⟨.loc 7, .fld 1 (.var 1), none, []⟩,
  ⟨.loc 8, .load false 1 (.loc 7), none, []⟩,
  ⟨.loc 9, .build [.d (.int .i64 0), .d (.int .i64 0), .nil 1 6] [(0, 1, (.loc 6)), (1, 1, (.loc 8))], none, []⟩,
  ⟨.var 3, .alloc [.d (.int .i64 0), .d (.int .i64 0), .nil 1 6], none, []⟩,
  ⟨.none, .store 3 (.var 3) (.loc 9), none, []⟩] false
def c_S_l14Copy_2 : ACode := .reg [⟨.var 4, .mv (.const (.d (.int .i64 0))), none, []⟩] false
def c_S_l14Copy_3 : ACode := .reg [⟨.loc 10, .mv (.var 4), none, []⟩,
  ⟨.loc 11, .fld 2 (.var 1), none, []⟩,
  ⟨.loc 12, .load false 1 (.loc 11), none, []⟩,
  ⟨.loc 13, .len false (.loc 12), none, []⟩,
  ⟨.var 14, .bin .int .lss (.loc 10) (.loc 13), none, []⟩] false
def c_S_l14Copy_4 : ACode := .reg [⟨.loc 17, .fld 2 (.var 3), none, []⟩,
  ⟨.loc 18, .load false 1 (.loc 17), none, [0]⟩,
  ⟨.loc 19, .fld 2 (.var 1), none, []⟩,
  ⟨.loc 20, .load false 1 (.loc 19), none, [2]⟩,
  ⟨.loc 21, .mv (.var 4), none, []⟩,
  ⟨.loc 22, .idxA 6 (.loc 20) (.loc 21), none, [3, 2, 4]⟩,
  ⟨.loc 23, .load true 6 (.loc 22), none, [5, 3, 2, 4]⟩,
  ⟨.loc 24, .call (.fn 30) [(.loc 23)] [.borrow], none, [6, 5, 3, 2, 4]⟩,
  ⟨.loc 25, .lit 1 6 1 [.int .i64 0, .int .i64 0, .str [], .int .i64 0, .slc 1 [], .int .i64 0] [(0, (.loc 24))], none, [7, 6, 5, 3, 2, 4]⟩,
  ⟨.loc 26, .app 6 72 (.loc 18) (.loc 25), none, [1, 0, 8, 7, 6, 5, 3, 2, 4]⟩,
  ⟨.loc 27, .fld 2 (.var 3), none, [9, 1, 0, 8, 7, 6, 5, 3, 2, 4]⟩,
  ⟨.none, .store 1 (.loc 27) (.loc 26), none, [10, 9, 1, 0, 8, 7, 6, 5, 3, 2, 4]⟩] true
def c_S_l14Copy_5 : ACode := .reg [⟨.loc 15, .mv (.var 4), none, []⟩,
  ⟨.loc 16, .bin .int .add (.loc 15) (.const (.d (.int .i64 1))), none, []⟩,
  ⟨.var 4, .mv (.loc 16), none, []⟩] false
def c_S_l14Copy_6 : ACode := (.seq (.seq c_S_l14Copy_3 (.cond (.var 14) .skip (.exit 0))) (.seq (.block 1 c_S_l14Copy_4) c_S_l14Copy_5))
def c_S_l14Copy_7 : ACode := .reg [⟨.loc 28, .load true 3 (.var 3), none, []⟩,
  ⟨.none, .store 3 (.var 2) (.loc 28), none, []⟩] false
def c_S_l14Copy : ACode := (.seq c_S_l14Copy_0 (.seq c_S_l14Copy_1 (.seq (.seq c_S_l14Copy_2 (.block 0 (.loop [1, 2, 3, 4] c_S_l14Copy_6))) (.seq c_S_l14Copy_7 .ret))))
abbrev F_S_l14Copy : FuncId := 29
theorem k_S_l14Copy : comp PP (Tryd.f29.ntmps, pinOf 0 [none]) [0, 1, 2, 3, 4, 14] (Tryd.f29.body.getD .skip) = some c_S_l14Copy.erase := by kernel_rfl
theorem v_S_l14Copy {GG : GV} (rcs : List C) {cs : List C} {r : C} {os : List (Option C)} (hN : (cs.length == 1 && rcs.length == 1) = true) (hret : retOf rcs = r)
    (hW : W PP [0, 1, 2, 3, 4, 14] (Tryd.f29.ntmps, pinOf 0 [none]) (Valid PP GG) c_S_l14Copy (entry cs) (Fin (Valid PP GG) [(.give, 2, some (true, 3))] [none] rcs os) (fun _ _ => False) (Fin (Valid PP GG) [(.give, 2, some (true, 3))] [none] rcs os)) : Valid PP GG F_S_l14Copy cs r os :=
  fn_valid_n 1 1 [0, 1, 2, 3, 4, 14] c_S_l14Copy [(.give, 2, some (true, 3))] [none] rcs Tryd.func29 rfl rfl (by kernel_rfl) k_S_l14Copy rfl rfl hN hret hW
def c_S_l14CopyWrap_0 : ACode := .reg [⟨.var 1, .box (.var 0), none, []⟩,
  ⟨.var 2, .alloc [.d (.int .i64 0), .d (.int .i64 0), .d (.str []), .d (.int .i64 0), .nil 0 1, .d (.int .i64 0)], none, []⟩] false
def c_S_l14CopyWrap_1 : ACode := .reg [⟨.loc 3, .fld 3 (.var 1), none, []⟩,
  ⟨.loc 4, .fld 1 (.loc 3), none, []⟩,
  ⟨.loc 5, .load false 1 (.loc 4), none, []⟩,
  ⟨.loc 6, .call (.fn 58) [(.loc 5)] [.borrow], none, []⟩,
  ⟨.loc 7, .fld 3 (.var 1), none, []⟩,
  ⟨.loc 8, .fld 1 (.loc 7), none, []⟩,
  ⟨.none, .store 1 (.loc 8) (.loc 6), none, []⟩] false
def c_S_l14CopyWrap_2 : ACode := .reg [⟨.loc 9, .load true 6 (.var 1), none, []⟩,
  ⟨.none, .store 6 (.var 2) (.loc 9), none, []⟩] false
def c_S_l14CopyWrap : ACode := (.seq c_S_l14CopyWrap_0 (.seq c_S_l14CopyWrap_1 (.seq c_S_l14CopyWrap_2 .ret)))
abbrev F_S_l14CopyWrap : FuncId := 30
theorem k_S_l14CopyWrap : comp PP (Tryd.f30.ntmps, pinOf 0 [none]) [0, 1, 2] (Tryd.f30.body.getD .skip) = some c_S_l14CopyWrap.erase := by kernel_rfl
theorem v_S_l14CopyWrap {GG : GV} (rcs : List C) {cs : List C} {r : C} {os : List (Option C)} (hN : (cs.length == 1 && rcs.length == 1) = true) (hret : retOf rcs = r)
    (hW : W PP [0, 1, 2] (Tryd.f30.ntmps, pinOf 0 [none]) (Valid PP GG) c_S_l14CopyWrap (entry cs) (Fin (Valid PP GG) [(.give, 2, some (true, 6))] [none] rcs os) (fun _ _ => False) (Fin (Valid PP GG) [(.give, 2, some (true, 6))] [none] rcs os)) : Valid PP GG F_S_l14CopyWrap cs r os :=
  fn_valid_n 1 1 [0, 1, 2] c_S_l14CopyWrap [(.give, 2, some (true, 6))] [none] rcs Tryd.func30 rfl rfl (by kernel_rfl) k_S_l14CopyWrap rfl rfl hN hret hW
def c_I_isRack_0 : ACode := .reg [⟨.var 1, .box (.var 0), none, []⟩,
  ⟨.var 2, .mv (.const (.d (.bool false))), none, []⟩] false
def c_I_isRack_1 : ACode := .reg [⟨.loc 5, .fld 0 (.var 1), none, []⟩,
  ⟨.loc 6, .load false 1 (.loc 5), none, []⟩,
  ⟨.loc 7, .call (.fn 53) [(.loc 6)] [.borrow], none, []⟩,
  ⟨.loc 8, .un .not (.loc 7), none, []⟩,
  ⟨.loc 9, .split (.loc 8), none, []⟩,
  ⟨.loc 10, .fld 1 (.var 1), some ((.loc 9), false), []⟩,
  ⟨.loc 11, .load false 1 (.loc 10), some ((.loc 9), false), []⟩,
  ⟨.loc 12, .call (.fn 51) [(.loc 11), (.const (.d (.int .i64 1))), (.const (.d (.int .i64 1000000000)))] [.borrow, .borrow, .borrow], some ((.loc 9), false), []⟩,
  ⟨.loc 13, .un .not (.loc 12), some ((.loc 9), false), []⟩,
  ⟨.loc 14, .pick (.loc 9) (.const (.d (.bool true))) (.loc 13), none, []⟩,
  ⟨.loc 15, .split (.loc 14), none, []⟩,
  ⟨.loc 16, .fld 2 (.var 1), some ((.loc 15), false), []⟩,
  ⟨.loc 17, .load false 1 (.loc 16), some ((.loc 15), false), []⟩,
  ⟨.loc 18, .len false (.loc 17), some ((.loc 15), false), []⟩,
  ⟨.loc 19, .bin .int .gtr (.loc 18) (.const (.d (.int .i64 60))), some ((.loc 15), false), []⟩,
  ⟨.var 20, .pick (.loc 15) (.const (.d (.bool true))) (.loc 19), none, []⟩] false
def c_I_isRack_2 : ACode := .reg [⟨.var 2, .mv (.const (.d (.bool false))), none, []⟩] false
def c_I_isRack_3 : ACode := .reg [⟨.loc 21, .fld 2 (.var 1), none, []⟩,
  ⟨.var 22, .load false 1 (.loc 21), none, []⟩,
  ⟨.var 23, .len false (.var 22), none, []⟩,
  ⟨.var 24, .mv (.const (.d (.int .i64 0))), none, []⟩] false
def c_I_isRack_4 : ACode := .reg [⟨.var 25, .bin .int .lss (.var 24) (.var 23), none, []⟩] false
def c_I_isRack_5 : ACode := .reg [⟨.loc 26, .mv (.var 24), none, []⟩,
  ⟨.loc 27, .idxA 6 (.var 22) (.var 24), none, []⟩,
  ⟨.loc 28, .load true 6 (.loc 27), none, []⟩,
  ⟨.var 4, .alloc [.d (.int .i64 0), .d (.int .i64 0), .d (.str []), .d (.int .i64 0), .nil 0 1, .d (.int .i64 0)], none, []⟩,
  ⟨.var 3, .mv (.loc 26), none, []⟩,
  ⟨.none, .store 6 (.var 4) (.loc 28), none, []⟩] false
def c_I_isRack_6 : ACode := .reg [⟨.loc 29, .fld 0 (.var 4), none, []⟩,
  ⟨.loc 30, .load false 1 (.loc 29), none, [0]⟩,
  ⟨.loc 31, .fld 1 (.var 1), none, []⟩,
  ⟨.loc 32, .load false 1 (.loc 31), none, [2]⟩,
  ⟨.loc 33, .bin .int .sub (.loc 32) (.const (.d (.int .i64 1))), none, [3, 2]⟩,
  ⟨.loc 34, .call (.fn 51) [(.loc 30), (.const (.d (.int .i64 1))), (.loc 33)] [.borrow, .borrow, .borrow], none, [1, 0, 4, 3, 2]⟩,
  ⟨.loc 35, .un .not (.loc 34), none, [5, 1, 0, 4, 3, 2]⟩,
  ⟨.loc 36, .split (.loc 35), none, [6, 5, 1, 0, 4, 3, 2]⟩,
  ⟨.loc 37, .fld 1 (.var 4), some ((.loc 36), false), [7, 6, 5, 1, 0, 4, 3, 2]⟩,
  ⟨.loc 38, .load false 1 (.loc 37), some ((.loc 36), false), [8, 7, 6, 5, 1, 0, 4, 3, 2]⟩,
  ⟨.loc 39, .call (.fn 51) [(.loc 38), (.const (.d (.int .i64 1))), (.const (.d (.int .i64 1000000000)))] [.borrow, .borrow, .borrow], some ((.loc 36), false), [9, 8, 7, 6, 5, 1, 0, 4, 3, 2]⟩,
  ⟨.loc 40, .un .not (.loc 39), some ((.loc 36), false), [10, 9, 8, 7, 6, 5, 1, 0, 4, 3, 2]⟩,
  ⟨.loc 41, .pick (.loc 36) (.const (.d (.bool true))) (.loc 40), none, [11, 10, 9, 8, 7, 6, 5, 1, 0, 4, 3, 2]⟩,
  ⟨.loc 42, .split (.loc 41), none, [12, 11, 10, 9, 8, 7, 6, 5, 1, 0, 4, 3, 2]⟩,
  ⟨.loc 43, .fld 2 (.var 4), some ((.loc 42), false), [13, 12, 11, 10, 9, 8, 7, 6, 5, 1, 0, 4, 3, 2]⟩,
  ⟨.loc 44, .load false 1 (.loc 43), some ((.loc 42), false), [14, 13, 12, 11, 10, 9, 8, 7, 6, 5, 1, 0, 4, 3, 2]⟩,
  ⟨.loc 45, .call (.fn 60) [(.loc 44)] [.borrow], some ((.loc 42), false), [15, 14, 13, 12, 11, 10, 9, 8, 7, 6, 5, 1, 0, 4, 3, 2]⟩,
  ⟨.loc 46, .un .not (.loc 45), some ((.loc 42), false), [16, 15, 14, 13, 12, 11, 10, 9, 8, 7, 6, 5, 1, 0, 4, 3, 2]⟩,
  ⟨.loc 47, .pick (.loc 42) (.const (.d (.bool true))) (.loc 46), none, [17, 16, 15, 14, 13, 12, 11, 10, 9, 8, 7, 6, 5, 1, 0, 4, 3, 2]⟩,
  ⟨.loc 48, .split (.loc 47), none, [18, 17, 16, 15, 14, 13, 12, 11, 10, 9, 8, 7, 6, 5, 1, 0, 4, 3, 2]⟩,
  ⟨.loc 49, .mv (.var 3), some ((.loc 48), false), [19, 18, 17, 16, 15, 14, 13, 12, 11, 10, 9, 8, 7, 6, 5, 1, 0, 4, 3, 2]⟩,
  ⟨.loc 50, .bin .int .gtr (.loc 49) (.const (.d (.int .i64 0))), some ((.loc 48), false), [20, 19, 18, 17, 16, 15, 14, 13, 12, 11, 10, 9, 8, 7, 6, 5, 1, 0, 4, 3, 2]⟩,
  ⟨.loc 51, .split (.loc 50), some ((.loc 48), false), [21, 20, 19, 18, 17, 16, 15, 14, 13, 12, 11, 10, 9, 8, 7, 6, 5, 1, 0, 4, 3, 2]⟩,
  ⟨.loc 52, .fld 2 (.var 1), some ((.loc 51), true), [22, 21, 20, 19, 18, 17, 16, 15, 14, 13, 12, 11, 10, 9, 8, 7, 6, 5, 1, 0, 4, 3, 2]⟩,
  ⟨.loc 53, .load false 1 (.loc 52), some ((.loc 51), true), [23, 22, 21, 20, 19, 18, 17, 16, 15, 14, 13, 12, 11, 10, 9, 8, 7, 6, 5, 1, 0, 4, 3, 2]⟩,
  ⟨.loc 54, .mv (.var 3), some ((.loc 51), true), [22, 21, 20, 19, 18, 17, 16, 15, 14, 13, 12, 11, 10, 9, 8, 7, 6, 5, 1, 0, 4, 3, 2]⟩,
  ⟨.loc 55, .bin .int .sub (.loc 54) (.const (.d (.int .i64 1))), some ((.loc 51), true), [25, 22, 21, 20, 19, 18, 17, 16, 15, 14, 13, 12, 11, 10, 9, 8, 7, 6, 5, 1, 0, 4, 3, 2]⟩,
  ⟨.loc 56, .idxA 6 (.loc 53) (.loc 55), some ((.loc 51), true), [24, 23, 26, 25, 22, 21, 20, 19, 18, 17, 16, 15, 14, 13, 12, 11, 10, 9, 8, 7, 6, 5, 1, 0, 4, 3, 2]⟩,
  ⟨.loc 57, .fld 0 (.loc 56), some ((.loc 51), true), [27, 24, 23, 26, 25, 22, 21, 20, 19, 18, 17, 16, 15, 14, 13, 12, 11, 10, 9, 8, 7, 6, 5, 1, 0, 4, 3, 2]⟩,
  ⟨.loc 58, .load false 1 (.loc 57), some ((.loc 51), true), [28, 27, 24, 23, 26, 25, 22, 21, 20, 19, 18, 17, 16, 15, 14, 13, 12, 11, 10, 9, 8, 7, 6, 5, 1, 0, 4, 3, 2]⟩,
  ⟨.loc 59, .fld 0 (.var 4), some ((.loc 51), true), [22, 21, 20, 19, 18, 17, 16, 15, 14, 13, 12, 11, 10, 9, 8, 7, 6, 5, 1, 0, 4, 3, 2]⟩,
  ⟨.loc 60, .load false 1 (.loc 59), some ((.loc 51), true), [30, 22, 21, 20, 19, 18, 17, 16, 15, 14, 13, 12, 11, 10, 9, 8, 7, 6, 5, 1, 0, 4, 3, 2]⟩,
  ⟨.loc 61, .bin .int .geq (.loc 58) (.loc 60), some ((.loc 51), true), [29, 28, 27, 24, 23, 26, 25, 31, 30, 22, 21, 20, 19, 18, 17, 16, 15, 14, 13, 12, 11, 10, 9, 8, 7, 6, 5, 1, 0, 4, 3, 2]⟩,
  ⟨.loc 62, .pick (.loc 51) (.loc 61) (.const (.d (.bool false))), some ((.loc 48), false), [32, 29, 28, 27, 24, 23, 26, 25, 31, 30, 22, 21, 20, 19, 18, 17, 16, 15, 14, 13, 12, 11, 10, 9, 8, 7, 6, 5, 1, 0, 4, 3, 2]⟩,
  ⟨.var 63, .pick (.loc 48) (.const (.d (.bool true))) (.loc 62), none, [33, 32, 29, 28, 27, 24, 23, 26, 25, 31, 30, 22, 21, 20, 19, 18, 17, 16, 15, 14, 13, 12, 11, 10, 9, 8, 7, 6, 5, 1, 0, 4, 3, 2]⟩] true
def c_I_isRack_7 : ACode := .reg [⟨.var 2, .mv (.const (.d (.bool false))), none, []⟩] false
def c_I_isRack_8 : ACode := .reg [⟨.loc 64, .bin .int .add (.var 24) (.const (.d (.int .i64 1))), none, []⟩,
  ⟨.var 24, .mv (.loc 64), none, []⟩] false
def c_I_isRack_9 : ACode := (.seq c_I_isRack_4 (.seq (.cond (.var 25) .skip (.exit 0)) (.seq (.block 1 (.seq c_I_isRack_5 (.seq c_I_isRack_6 (.cond (.var 63) (.seq c_I_isRack_7 .ret) .skip)))) c_I_isRack_8)))
def c_I_isRack_10 : ACode := .reg [⟨.var 2, .mv (.const (.d (.bool true))), none, []⟩] false
def c_I_isRack : ACode := (.seq c_I_isRack_0 (.seq (.seq c_I_isRack_1 (.cond (.var 20) (.seq c_I_isRack_2 .ret) .skip)) (.seq (.seq c_I_isRack_3 (.block 0 (.loop [1, 22, 23, 24] c_I_isRack_9))) (.seq c_I_isRack_10 .ret))))
abbrev F_I_isRack : FuncId := 32
theorem k_I_isRack : comp PP (Tryd.f32.ntmps, pinOf 0 [none]) [0, 1, 2, 3, 4, 20, 22, 23, 24, 25, 63] (Tryd.f32.body.getD .skip) = some c_I_isRack.erase := by kernel_rfl
theorem v_I_isRack {GG : GV} (rcs : List C) {cs : List C} {r : C} {os : List (Option C)} (hN : (cs.length == 1 && rcs.length == 1) = true) (hret : retOf rcs = r)
    (hW : W PP [0, 1, 2, 3, 4, 20, 22, 23, 24, 25, 63] (Tryd.f32.ntmps, pinOf 0 [none]) (Valid PP GG) c_I_isRack (entry cs) (Fin (Valid PP GG) [(.give, 2, none)] [none] rcs os) (fun _ _ => False) (Fin (Valid PP GG) [(.give, 2, none)] [none] rcs os)) : Valid PP GG F_I_isRack cs r os :=
  fn_valid_n 1 1 [0, 1, 2, 3, 4, 20, 22, 23, 24, 25, 63] c_I_isRack [(.give, 2, none)] [none] rcs Tryd.func32 rfl rfl (by kernel_rfl) k_I_isRack rfl rfl hN hret hW
def c_I_cloneRack_0 : ACode := .reg [⟨.var 1, .box (.var 0), none, []⟩,
  ⟨.var 2, .alloc [.d (.int .i64 0), .d (.int .i64 0), .nil 1 6], none, []⟩] false
def c_I_cloneRack_1 : ACode := .reg [⟨.loc 6, .fld 0 (.var 1), none, []⟩,
  ⟨.loc 7, .load false 1 (.loc 6), none, []⟩,
  ⟨.loc 8, .fld 1 (.var 1), none, []⟩,
  ⟨.loc 9, .load false 1 (.loc 8), none, []⟩,
  ⟨.loc 10, .build [.d (.int .i64 0), .d (.int .i64 0), .nil 1 6] [(0, 1, (.loc 7)), (1, 1, (.loc 9))], none, []⟩,
  ⟨.var 3, .alloc [.d (.int .i64 0), .d (.int .i64 0), .nil 1 6], none, []⟩,
  ⟨.none, .store 3 (.var 3) (.loc 10), none, []⟩] false
def c_I_cloneRack_2 : ACode := .reg [⟨.loc 11, .fld 2 (.var 1), none, []⟩,
  ⟨.var 12, .load false 1 (.loc 11), none, []⟩,
  ⟨.var 13, .len false (.var 12), none, []⟩,
  ⟨.var 14, .mv (.const (.d (.int .i64 0))), none, []⟩] false
def c_I_cloneRack_3 : ACode := .reg [⟨.var 15, .bin .int .lss (.var 14) (.var 13), none, []⟩] false
def c_I_cloneRack_4 : ACode := .reg [⟨.loc 16, .idxA 6 (.var 12) (.var 14), none, []⟩,
  ⟨.loc 17, .load true 6 (.loc 16), none, []⟩,
  ⟨.var 5, .alloc [.d (.int .i64 0), .d (.int .i64 0), .d (.str []), .d (.int .i64 0), .nil 0 1, .d (.int .i64 0)], none, []⟩,
  ⟨.none, .store 6 (.var 5) (.loc 17), none, []⟩] false
def c_I_cloneRack_5 : ACode := .reg [⟨.loc 18, .fld 3 (.var 5), none, []⟩,
  ⟨.loc 19, .fld 1 (.loc 18), none, []⟩,
  ⟨.loc 20, .load false 1 (.loc 19), none, []⟩,
  ⟨.loc 21, .call (.fn 61) [(.loc 20)] [.borrow], none, []⟩,
  ⟨.loc 22, .fld 3 (.var 5), none, []⟩,
  ⟨.loc 23, .fld 1 (.loc 22), none, []⟩,
  ⟨.none, .store 1 (.loc 23) (.loc 21), none, []⟩] false
def c_I_cloneRack_6 : ACode := .reg [⟨.loc 24, .fld 2 (.var 3), none, []⟩,
  ⟨.loc 25, .load false 1 (.loc 24), none, []⟩,
  ⟨.loc 26, .load true 6 (.var 5), none, []⟩,
  ⟨.loc 27, .lit 1 6 1 [.int .i64 0, .int .i64 0, .str [], .int .i64 0, .slc 1 [], .int .i64 0] [(0, (.loc 26))], none, []⟩,
  ⟨.loc 28, .app 6 72 (.loc 25) (.loc 27), none, []⟩,
  ⟨.loc 29, .fld 2 (.var 3), none, []⟩,
  ⟨.none, .store 1 (.loc 29) (.loc 28), none, []⟩] false
def c_I_cloneRack_7 : ACode := .reg [⟨.loc 30, .bin .int .add (.var 14) (.const (.d (.int .i64 1))), none, []⟩,
  ⟨.var 14, .mv (.loc 30), none, []⟩] false
def c_I_cloneRack_8 : ACode := (.seq c_I_cloneRack_3 (.seq (.cond (.var 15) .skip (.exit 0)) (.seq (.block 1 (.seq c_I_cloneRack_4 (.seq c_I_cloneRack_5 c_I_cloneRack_6))) c_I_cloneRack_7)))
def c_I_cloneRack_9 : ACode := .reg [⟨.loc 31, .load true 3 (.var 3), none, []⟩,
  ⟨.none, .store 3 (.var 2) (.loc 31), none, []⟩] false
def c_I_cloneRack : ACode := (.seq c_I_cloneRack_0 (.seq c_I_cloneRack_1 (.seq (.seq c_I_cloneRack_2 (.block 0 (.loop [2, 3, 12, 13, 14] c_I_cloneRack_8))) (.seq c_I_cloneRack_9 .ret))))
abbrev F_I_cloneRack : FuncId := 33
theorem k_I_cloneRack : comp PP (Tryd.f33.ntmps, pinOf 0 [none]) [0, 1, 2, 3, 5, 12, 13, 14, 15] (Tryd.f33.body.getD .skip) = some c_I_cloneRack.erase := by kernel_rfl
theorem v_I_cloneRack {GG : GV} (rcs : List C) {cs : List C} {r : C} {os : List (Option C)} (hN : (cs.length == 1 && rcs.length == 1) = true) (hret : retOf rcs = r)
    (hW : W PP [0, 1, 2, 3, 5, 12, 13, 14, 15] (Tryd.f33.ntmps, pinOf 0 [none]) (Valid PP GG) c_I_cloneRack (entry cs) (Fin (Valid PP GG) [(.give, 2, some (true, 3))] [none] rcs os) (fun _ _ => False) (Fin (Valid PP GG) [(.give, 2, some (true, 3))] [none] rcs os)) : Valid PP GG F_I_cloneRack cs r os :=
  fn_valid_n 1 1 [0, 1, 2, 3, 5, 12, 13, 14, 15] c_I_cloneRack [(.give, 2, some (true, 3))] [none] rcs Tryd.func33 rfl rfl (by kernel_rfl) k_I_cloneRack rfl rfl hN hret hW
def c_S_l14DrawOne_0 : ACode := .reg [⟨.var 2, .mv (.const (.undef)), none, []⟩,
  ⟨.var 3, .alloc [.d (.int .i64 0), .d (.int .i64 0), .nil 1 6], none, []⟩] false
def c_S_l14DrawOne_1 : ACode := .reg [⟨.loc 6, .mv (.var 0), none, []⟩,
  ⟨.loc 7, .call (.fn 68) [(.loc 6)] [.borrow], none, []⟩,
  ⟨.var 4, .mv (.loc 7), none, []⟩] false
def c_S_l14DrawOne_2 : ACode := .reg [⟨.loc 8, .mv (.var 4), none, []⟩,
  ⟨.loc 9, .mv (.var 0), none, []⟩,
  ⟨.loc 10, .call (.fn 41) [(.loc 9), (.const (.d (.int .i64 12)))] [.borrow, .borrow], none, []⟩,
  ⟨.loc 11, .call (.fn 40) [(.loc 8), (.loc 10)] [.box 3, .borrow], none, []⟩,
  ⟨.var 5, .mv (.loc 11), none, []⟩] false
def c_S_l14DrawOne_3 : ACode := .reg [⟨.loc 12, .mv (.var 4), none, []⟩,
  ⟨.var 13, .call (.fn 42) [(.loc 12), (.const (.d (.int .i64 30)))] [.box 3, .borrow], none, []⟩] false
def c_S_l14DrawOne_4 : ACode := .reg [⟨.var 5, .mv (.const (.d (.int .i64 60))), none, []⟩] false
def c_S_l14DrawOne_5 : ACode := .reg [⟨.loc 14, .mv (.var 4), none, []⟩,
  ⟨.loc 15, .mv (.var 4), none, []⟩,
  ⟨.loc 16, .mv (.var 5), none, []⟩,
  ⟨.loc 17, .call (.fn 69) [(.loc 15), (.loc 16)] [.box 3, .borrow], none, []⟩,
  ⟨.var 2, .mv (.loc 14), none, []⟩,
  ⟨.none, .store 3 (.var 3) (.loc 17), none, []⟩] false
def c_S_l14DrawOne : ACode := (.seq c_S_l14DrawOne_0 (.seq c_S_l14DrawOne_1 (.seq c_S_l14DrawOne_2 (.seq (.seq c_S_l14DrawOne_3 (.cond (.var 13) c_S_l14DrawOne_4 .skip)) (.seq c_S_l14DrawOne_5 .ret)))))
abbrev F_S_l14DrawOne : FuncId := 38
theorem k_S_l14DrawOne : comp PP (Tryd.f38.ntmps, pinOf 0 [none]) [0, 2, 3, 4, 5, 13] (Tryd.f38.body.getD .skip) = some c_S_l14DrawOne.erase := by kernel_rfl
theorem v_S_l14DrawOne {GG : GV} (rcs : List C) {cs : List C} {r : C} {os : List (Option C)} (hN : (cs.length == 1 && rcs.length == 2) = true) (hret : retOf rcs = r)
    (hW : W PP [0, 2, 3, 4, 5, 13] (Tryd.f38.ntmps, pinOf 0 [none]) (Valid PP GG) c_S_l14DrawOne (entry cs) (Fin (Valid PP GG) [(.box 3, 2, none), (.give, 3, some (true, 3))] [none] rcs os) (fun _ _ => False) (Fin (Valid PP GG) [(.box 3, 2, none), (.give, 3, some (true, 3))] [none] rcs os)) : Valid PP GG F_S_l14DrawOne cs r os :=
  fn_valid_n 1 2 [0, 2, 3, 4, 5, 13] c_S_l14DrawOne [(.box 3, 2, none), (.give, 3, some (true, 3))] [none] rcs Tryd.func38 rfl rfl (by kernel_rfl) k_S_l14DrawOne rfl rfl hN hret hW
def c_S_l01DrawBytes_0 : ACode := .reg [⟨.var 4, .mv (.const (.nil 0 1)), none, []⟩] false
def c_S_l01DrawBytes_1 : ACode := .reg [⟨.loc 7, .lit 0 1 0 [.int .u8 0] [], none, []⟩,
  ⟨.var 5, .mv (.loc 7), none, []⟩] false
def c_S_l01DrawBytes_2 : ACode := .reg [⟨.var 6, .mv (.const (.d (.int .i64 0))), none, []⟩] false
def c_S_l01DrawBytes_3 : ACode := .reg [⟨.loc 8, .mv (.var 6), none, []⟩,
  ⟨.loc 9, .mv (.var 1), none, []⟩,
  ⟨.var 10, .bin .int .lss (.loc 8) (.loc 9), none, []⟩] false
def c_S_l01DrawBytes_4 : ACode := .reg [⟨.loc 13, .mv (.var 5), none, []⟩,
  ⟨.loc 14, .mv (.var 0), none, []⟩,
  ⟨.loc 15, .mv (.var 0), none, []⟩,
  ⟨.loc 16, .call (.fn 40) [(.loc 15), (.const (.d (.int .i64 256)))] [.box 3, .borrow], none, []⟩,
  ⟨.loc 17, .mv (.var 0), none, []⟩,
  ⟨.loc 18, .call (.fn 40) [(.loc 17), (.const (.d (.int .i64 256)))] [.box 3, .borrow], none, []⟩,
  ⟨.loc 19, .lit 0 1 6 [.int .i64 0] [(0, (.const (.d (.int .i64 0)))), (1, (.const (.d (.int .i64 1)))), (2, (.const (.d (.int .i64 255)))), (3, (.const (.d (.int .i64 128)))), (4, (.loc 16)), (5, (.loc 18))], none, []⟩,
  ⟨.loc 20, .call (.fn 45) [(.loc 14), (.loc 19)] [.box 3, .give], none, []⟩,
  ⟨.loc 21, .conv .u8 (.loc 20), none, []⟩,
  ⟨.loc 22, .lit 0 1 1 [.int .u8 0] [(0, (.loc 21))], none, []⟩,
  ⟨.loc 23, .app 1 1 (.loc 13) (.loc 22), none, []⟩,
  ⟨.var 5, .mv (.loc 23), none, []⟩] false
def c_S_l01DrawBytes_5 : ACode := .reg [⟨.loc 11, .mv (.var 6), none, []⟩,
  ⟨.loc 12, .bin .int .add (.loc 11) (.const (.d (.int .i64 1))), none, []⟩,
  ⟨.var 6, .mv (.loc 12), none, []⟩] false
def c_S_l01DrawBytes_6 : ACode := (.seq (.seq c_S_l01DrawBytes_3 (.cond (.var 10) .skip (.exit 0))) (.seq (.block 1 c_S_l01DrawBytes_4) c_S_l01DrawBytes_5))
def c_S_l01DrawBytes_7 : ACode := .reg [⟨.loc 24, .mv (.var 5), none, []⟩,
  ⟨.var 4, .mv (.loc 24), none, []⟩] false
def c_S_l01DrawBytes : ACode := (.seq c_S_l01DrawBytes_0 (.seq c_S_l01DrawBytes_1 (.seq (.seq c_S_l01DrawBytes_2 (.block 0 (.loop [0, 1, 5, 6] c_S_l01DrawBytes_6))) (.seq c_S_l01DrawBytes_7 .ret))))
abbrev F_S_l01DrawBytes : FuncId := 39
theorem k_S_l01DrawBytes : comp PP (Tryd.f39.ntmps, pinOf 0 [some (.box 3), none]) [0, 1, 4, 5, 6, 10] (Tryd.f39.body.getD .skip) = some c_S_l01DrawBytes.erase := by kernel_rfl
theorem v_S_l01DrawBytes {GG : GV} (rcs : List C) {cs : List C} {r : C} {os : List (Option C)} (hN : (cs.length == 2 && rcs.length == 1) = true) (hret : retOf rcs = r)
    (hW : W PP [0, 1, 4, 5, 6, 10] (Tryd.f39.ntmps, pinOf 0 [some (.box 3), none]) (Valid PP GG) c_S_l01DrawBytes (entry cs) (Fin (Valid PP GG) [(.give, 4, none)] [some (.box 3), none] rcs os) (fun _ _ => False) (Fin (Valid PP GG) [(.give, 4, none)] [some (.box 3), none] rcs os)) : Valid PP GG F_S_l01DrawBytes cs r os :=
  fn_valid_n 2 1 [0, 1, 4, 5, 6, 10] c_S_l01DrawBytes [(.give, 4, none)] [some (.box 3), none] rcs Tryd.func39 rfl rfl (by kernel_rfl) k_S_l01DrawBytes rfl rfl hN hret hW
def c_S_l01Below_0 : ACode := .reg [⟨.var 4, .mv (.const (.d (.int .i64 0))), none, []⟩] false
def c_S_l01Below_1 : ACode := .reg [⟨.loc 8, .mv (.var 1), none, []⟩,
  ⟨.var 9, .bin .int .leq (.loc 8) (.const (.d (.int .i64 0))), none, []⟩] false
def c_S_l01Below_2 : ACode := .reg [⟨.var 4, .mv (.const (.d (.int .i64 0))), none, []⟩] false
def c_S_l01Below_3 : ACode := .reg [⟨.loc 10, .mv (.var 1), none, []⟩,
  ⟨.var 11, .bin .int .leq (.loc 10) (.const (.d (.int .i64 256))), none, []⟩] false
def c_S_l01Below_4 : ACode := .reg [⟨.loc 12, .mv (.var 0), none, []⟩,
  ⟨.loc 13, .call (.fn 70) [(.loc 12)] [.box 3], none, []⟩,
  ⟨.loc 14, .mv (.var 1), none, []⟩,
  ⟨.loc 15, .bin .int .rem (.loc 13) (.loc 14), none, []⟩,
  ⟨.var 4, .mv (.loc 15), none, []⟩] false
def c_S_l01Below_5 : ACode := .reg [⟨.loc 16, .mv (.var 0), none, []⟩,
  ⟨.loc 17, .call (.fn 70) [(.loc 16)] [.box 3], none, []⟩,
  ⟨.var 5, .mv (.loc 17), none, []⟩] false
def c_S_l01Below_6 : ACode := .reg [⟨.loc 18, .mv (.var 0), none, []⟩,
  ⟨.loc 19, .call (.fn 70) [(.loc 18)] [.box 3], none, []⟩,
  ⟨.var 6, .mv (.loc 19), none, []⟩] false
def c_S_l01Below_7 : ACode := .reg [⟨.loc 20, .mv (.var 0), none, []⟩,
  ⟨.loc 21, .call (.fn 70) [(.loc 20)] [.box 3], none, []⟩,
  ⟨.var 7, .mv (.loc 21), none, []⟩] false
def c_S_l01Below_8 : ACode := .reg [⟨.loc 22, .mv (.var 5), none, []⟩,
  ⟨.loc 23, .bin .int .mul (.loc 22) (.const (.d (.int .i64 65536))), none, []⟩,
  ⟨.loc 24, .mv (.var 6), none, []⟩,
  ⟨.loc 25, .bin .int .mul (.loc 24) (.const (.d (.int .i64 256))), none, []⟩,
  ⟨.loc 26, .bin .int .add (.loc 23) (.loc 25), none, []⟩,
  ⟨.loc 27, .mv (.var 7), none, []⟩,
  ⟨.loc 28, .bin .int .add (.loc 26) (.loc 27), none, []⟩,
  ⟨.loc 29, .mv (.var 1), none, []⟩,
  ⟨.loc 30, .bin .int .rem (.loc 28) (.loc 29), none, []⟩,
  ⟨.var 4, .mv (.loc 30), none, []⟩] false
def c_S_l01Below : ACode := (.seq c_S_l01Below_0 (.seq (.seq c_S_l01Below_1 (.cond (.var 9) (.seq c_S_l01Below_2 .ret) .skip)) (.seq (.seq c_S_l01Below_3 (.cond (.var 11) (.seq c_S_l01Below_4 .ret) .skip)) (.seq c_S_l01Below_5 (.seq c_S_l01Below_6 (.seq c_S_l01Below_7 (.seq c_S_l01Below_8 .ret)))))))
abbrev F_S_l01Below : FuncId := 40
theorem k_S_l01Below : comp PP (Tryd.f40.ntmps, pinOf 0 [some (.box 3), none]) [0, 1, 4, 5, 6, 7, 9, 11] (Tryd.f40.body.getD .skip) = some c_S_l01Below.erase := by kernel_rfl
theorem v_S_l01Below {GG : GV} (rcs : List C) {cs : List C} {r : C} {os : List (Option C)} (hN : (cs.length == 2 && rcs.length == 1) = true) (hret : retOf rcs = r)
    (hW : W PP [0, 1, 4, 5, 6, 7, 9, 11] (Tryd.f40.ntmps, pinOf 0 [some (.box 3), none]) (Valid PP GG) c_S_l01Below (entry cs) (Fin (Valid PP GG) [(.give, 4, none)] [some (.box 3), none] rcs os) (fun _ _ => False) (Fin (Valid PP GG) [(.give, 4, none)] [some (.box 3), none] rcs os)) : Valid PP GG F_S_l01Below cs r os :=
  fn_valid_n 2 1 [0, 1, 4, 5, 6, 7, 9, 11] c_S_l01Below [(.give, 4, none)] [some (.box 3), none] rcs Tryd.func40 rfl rfl (by kernel_rfl) k_S_l01Below rfl rfl hN hret hW
def c_S_l01Size_0 : ACode := .reg [⟨.var 4, .mv (.const (.d (.int .i64 0))), none, []⟩] false
def c_S_l01Size_1 : ACode := .reg [⟨.loc 6, .mv (.var 0), none, []⟩,
  ⟨.loc 7, .len false (.loc 6), none, []⟩,
  ⟨.loc 8, .bin .int .quo (.loc 7) (.const (.d (.int .i64 16))), none, []⟩,
  ⟨.loc 9, .bin .int .add (.const (.d (.int .i64 2))) (.loc 8), none, []⟩,
  ⟨.var 5, .mv (.loc 9), none, []⟩] false
def c_S_l01Size_2 : ACode := .reg [⟨.loc 10, .mv (.var 5), none, []⟩,
  ⟨.loc 11, .mv (.var 1), none, []⟩,
  ⟨.var 12, .bin .int .gtr (.loc 10) (.loc 11), none, []⟩] false
def c_S_l01Size_3 : ACode := .reg [⟨.loc 13, .mv (.var 1), none, []⟩,
  ⟨.var 4, .mv (.loc 13), none, []⟩] false
def c_S_l01Size_4 : ACode := .reg [⟨.loc 14, .mv (.var 5), none, []⟩,
  ⟨.var 4, .mv (.loc 14), none, []⟩] false
def c_S_l01Size : ACode := (.seq c_S_l01Size_0 (.seq c_S_l01Size_1 (.seq (.seq c_S_l01Size_2 (.cond (.var 12) (.seq c_S_l01Size_3 .ret) .skip)) (.seq c_S_l01Size_4 .ret))))
abbrev F_S_l01Size : FuncId := 41
theorem k_S_l01Size : comp PP (Tryd.f41.ntmps, pinOf 0 [none, none]) [0, 1, 4, 5, 12] (Tryd.f41.body.getD .skip) = some c_S_l01Size.erase := by kernel_rfl
theorem v_S_l01Size {GG : GV} (rcs : List C) {cs : List C} {r : C} {os : List (Option C)} (hN : (cs.length == 2 && rcs.length == 1) = true) (hret : retOf rcs = r)
    (hW : W PP [0, 1, 4, 5, 12] (Tryd.f41.ntmps, pinOf 0 [none, none]) (Valid PP GG) c_S_l01Size (entry cs) (Fin (Valid PP GG) [(.give, 4, none)] [none, none] rcs os) (fun _ _ => False) (Fin (Valid PP GG) [(.give, 4, none)] [none, none] rcs os)) : Valid PP GG F_S_l01Size cs r os :=
  fn_valid_n 2 1 [0, 1, 4, 5, 12] c_S_l01Size [(.give, 4, none)] [none, none] rcs Tryd.func41 rfl rfl (by kernel_rfl) k_S_l01Size rfl rfl hN hret hW
def c_S_l01Once_0 : ACode := .reg [⟨.var 4, .mv (.const (.d (.bool false))), none, []⟩] false
def c_S_l01Once_1 : ACode := .reg [⟨.loc 5, .mv (.var 0), none, []⟩,
  ⟨.loc 6, .mv (.var 1), none, []⟩,
  ⟨.loc 7, .call (.fn 40) [(.loc 5), (.loc 6)] [.box 3, .borrow], none, []⟩,
  ⟨.loc 8, .bin .int .eql (.loc 7) (.const (.d (.int .i64 0))), none, []⟩,
  ⟨.var 4, .mv (.loc 8), none, []⟩] false
def c_S_l01Once : ACode := (.seq c_S_l01Once_0 (.seq c_S_l01Once_1 .ret))
abbrev F_S_l01Once : FuncId := 42
theorem k_S_l01Once : comp PP (Tryd.f42.ntmps, pinOf 0 [some (.box 3), none]) [0, 1, 4] (Tryd.f42.body.getD .skip) = some c_S_l01Once.erase := by kernel_rfl
theorem v_S_l01Once {GG : GV} (rcs : List C) {cs : List C} {r : C} {os : List (Option C)} (hN : (cs.length == 2 && rcs.length == 1) = true) (hret : retOf rcs = r)
    (hW : W PP [0, 1, 4] (Tryd.f42.ntmps, pinOf 0 [some (.box 3), none]) (Valid PP GG) c_S_l01Once (entry cs) (Fin (Valid PP GG) [(.give, 4, none)] [some (.box 3), none] rcs os) (fun _ _ => False) (Fin (Valid PP GG) [(.give, 4, none)] [some (.box 3), none] rcs os)) : Valid PP GG F_S_l01Once cs r os :=
  fn_valid_n 2 1 [0, 1, 4] c_S_l01Once [(.give, 4, none)] [some (.box 3), none] rcs Tryd.func42 rfl rfl (by kernel_rfl) k_S_l01Once rfl rfl hN hret hW
def c_S_l01PickText_0 : ACode := .reg [⟨.var 4, .mv (.const (.d (.str []))), none, []⟩] false
def c_S_l01PickText_1 : ACode := .reg [⟨.loc 5, .mv (.var 1), none, []⟩,
  ⟨.loc 6, .mv (.var 0), none, []⟩,
  ⟨.loc 7, .mv (.var 1), none, []⟩,
  ⟨.loc 8, .len false (.loc 7), none, []⟩,
  ⟨.loc 9, .call (.fn 40) [(.loc 6), (.loc 8)] [.box 3, .borrow], none, []⟩,
  ⟨.loc 10, .idxA 1 (.loc 5) (.loc 9), none, []⟩,
  ⟨.loc 11, .load false 1 (.loc 10), none, []⟩,
  ⟨.var 4, .mv (.loc 11), none, []⟩] false
def c_S_l01PickText : ACode := (.seq c_S_l01PickText_0 (.seq c_S_l01PickText_1 .ret))
abbrev F_S_l01PickText : FuncId := 43
theorem k_S_l01PickText : comp PP (Tryd.f43.ntmps, pinOf 0 [some (.box 3), none]) [0, 1, 4] (Tryd.f43.body.getD .skip) = some c_S_l01PickText.erase := by kernel_rfl
theorem v_S_l01PickText {GG : GV} (rcs : List C) {cs : List C} {r : C} {os : List (Option C)} (hN : (cs.length == 2 && rcs.length == 1) = true) (hret : retOf rcs = r)
    (hW : W PP [0, 1, 4] (Tryd.f43.ntmps, pinOf 0 [some (.box 3), none]) (Valid PP GG) c_S_l01PickText (entry cs) (Fin (Valid PP GG) [(.give, 4, none)] [some (.box 3), none] rcs os) (fun _ _ => False) (Fin (Valid PP GG) [(.give, 4, none)] [some (.box 3), none] rcs os)) : Valid PP GG F_S_l01PickText cs r os :=
  fn_valid_n 2 1 [0, 1, 4] c_S_l01PickText [(.give, 4, none)] [some (.box 3), none] rcs Tryd.func43 rfl rfl (by kernel_rfl) k_S_l01PickText rfl rfl hN hret hW
def c_S_l14DrawNow_0 : ACode := .reg [⟨.var 2, .mv (.const (.d (.int .i64 0))), none, []⟩] false
def c_S_l14DrawNow_1 : ACode := .reg [⟨.loc 3, .mv (.var 0), none, []⟩,
  ⟨.loc 4, .mv (.var 0), none, []⟩,
  ⟨.loc 5, .call (.fn 40) [(.loc 4), (.const (.d (.int .i64 40)))] [.box 3, .borrow], none, []⟩,
  ⟨.loc 6, .mv (.var 0), none, []⟩,
  ⟨.loc 7, .call (.fn 40) [(.loc 6), (.const (.d (.int .i64 40)))] [.box 3, .borrow], none, []⟩,
  ⟨.loc 8, .mv (.var 0), none, []⟩,
  ⟨.loc 9, .call (.fn 40) [(.loc 8), (.const (.d (.int .i64 100)))] [.box 3, .borrow], none, []⟩,
  ⟨.loc 10, .lit 0 1 7 [.int .i64 0] [(0, (.const (.d (.int .i64 0)))), (1, (.loc 5)), (2, (.loc 7)), (3, (.loc 9)), (4, (.const (.d (.int .i64 1000000000)))), (5, (.const (.d (.int .i64 1000000001)))), (6, (.const (.d (.int .i64 (-1)))))], none, []⟩,
  ⟨.loc 11, .call (.fn 45) [(.loc 3), (.loc 10)] [.box 3, .give], none, []⟩,
  ⟨.var 2, .mv (.loc 11), none, []⟩] false
def c_S_l14DrawNow : ACode := (.seq c_S_l14DrawNow_0 (.seq c_S_l14DrawNow_1 .ret))
abbrev F_S_l14DrawNow : FuncId := 44
theorem k_S_l14DrawNow : comp PP (Tryd.f44.ntmps, pinOf 0 [some (.box 3)]) [0, 2] (Tryd.f44.body.getD .skip) = some c_S_l14DrawNow.erase := by kernel_rfl
theorem v_S_l14DrawNow {GG : GV} (rcs : List C) {cs : List C} {r : C} {os : List (Option C)} (hN : (cs.length == 1 && rcs.length == 1) = true) (hret : retOf rcs = r)
    (hW : W PP [0, 2] (Tryd.f44.ntmps, pinOf 0 [some (.box 3)]) (Valid PP GG) c_S_l14DrawNow (entry cs) (Fin (Valid PP GG) [(.give, 2, none)] [some (.box 3)] rcs os) (fun _ _ => False) (Fin (Valid PP GG) [(.give, 2, none)] [some (.box 3)] rcs os)) : Valid PP GG F_S_l14DrawNow cs r os :=
  fn_valid_n 1 1 [0, 2] c_S_l14DrawNow [(.give, 2, none)] [some (.box 3)] rcs Tryd.func44 rfl rfl (by kernel_rfl) k_S_l14DrawNow rfl rfl hN hret hW
def c_S_l01PickInt_0 : ACode := .reg [⟨.var 4, .mv (.const (.d (.int .i64 0))), none, []⟩] false
def c_S_l01PickInt_1 : ACode := .reg [⟨.loc 5, .mv (.var 1), none, []⟩,
  ⟨.loc 6, .mv (.var 0), none, []⟩,
  ⟨.loc 7, .mv (.var 1), none, []⟩,
  ⟨.loc 8, .len false (.loc 7), none, []⟩,
  ⟨.loc 9, .call (.fn 40) [(.loc 6), (.loc 8)] [.box 3, .borrow], none, []⟩,
  ⟨.loc 10, .idxA 1 (.loc 5) (.loc 9), none, []⟩,
  ⟨.loc 11, .load false 1 (.loc 10), none, []⟩,
  ⟨.var 4, .mv (.loc 11), none, []⟩] false
def c_S_l01PickInt : ACode := (.seq c_S_l01PickInt_0 (.seq c_S_l01PickInt_1 .ret))
abbrev F_S_l01PickInt : FuncId := 45
theorem k_S_l01PickInt : comp PP (Tryd.f45.ntmps, pinOf 0 [some (.box 3), none]) [0, 1, 4] (Tryd.f45.body.getD .skip) = some c_S_l01PickInt.erase := by kernel_rfl
theorem v_S_l01PickInt {GG : GV} (rcs : List C) {cs : List C} {r : C} {os : List (Option C)} (hN : (cs.length == 2 && rcs.length == 1) = true) (hret : retOf rcs = r)
    (hW : W PP [0, 1, 4] (Tryd.f45.ntmps, pinOf 0 [some (.box 3), none]) (Valid PP GG) c_S_l01PickInt (entry cs) (Fin (Valid PP GG) [(.give, 4, none)] [some (.box 3), none] rcs os) (fun _ _ => False) (Fin (Valid PP GG) [(.give, 4, none)] [some (.box 3), none] rcs os)) : Valid PP GG F_S_l01PickInt cs r os :=
  fn_valid_n 2 1 [0, 1, 4] c_S_l01PickInt [(.give, 4, none)] [some (.box 3), none] rcs Tryd.func45 rfl rfl (by kernel_rfl) k_S_l01PickInt rfl rfl hN hret hW
def c_S_PathOk_0 : ACode := .reg [⟨.var 2, .mv (.const (.d (.bool false))), none, []⟩] false
def c_S_PathOk_1 : ACode := .reg [⟨.loc 4, .mv (.var 0), none, []⟩,
  ⟨.loc 5, .call (.fn 71) [(.loc 4)] [.borrow], none, []⟩,
  ⟨.var 6, .un .not (.loc 5), none, []⟩] false
def c_S_PathOk_2 : ACode := .reg [⟨.var 2, .mv (.const (.d (.bool false))), none, []⟩] false
def c_S_PathOk_3 : ACode := .reg [⟨.var 3, .mv (.const (.d (.int .i64 0))), none, []⟩] false
def c_S_PathOk_4 : ACode := .reg [⟨.loc 7, .mv (.var 3), none, []⟩,
  ⟨.loc 8, .mv (.var 0), none, []⟩,
  ⟨.loc 9, .len true (.loc 8), none, []⟩,
  ⟨.var 10, .bin .int .lss (.loc 7) (.loc 9), none, []⟩] false
def c_S_PathOk_5 : ACode := .reg [⟨.loc 13, .mv (.var 0), none, []⟩,
  ⟨.loc 14, .mv (.var 3), none, []⟩,
  ⟨.loc 15, .idxS (.loc 13) (.loc 14), none, []⟩,
  ⟨.loc 16, .bin .int .eql (.loc 15) (.const (.d (.int .u8 43))), none, []⟩,
  ⟨.loc 17, .split (.loc 16), none, []⟩,
  ⟨.loc 18, .mv (.var 0), some ((.loc 17), false), []⟩,
  ⟨.loc 19, .mv (.var 3), some ((.loc 17), false), []⟩,
  ⟨.loc 20, .idxS (.loc 18) (.loc 19), some ((.loc 17), false), []⟩,
  ⟨.loc 21, .bin .int .eql (.loc 20) (.const (.d (.int .u8 42))), some ((.loc 17), false), []⟩,
  ⟨.var 22, .pick (.loc 17) (.const (.d (.bool true))) (.loc 21), none, []⟩] false
def c_S_PathOk_6 : ACode := .reg [⟨.var 2, .mv (.const (.d (.bool false))), none, []⟩] false
def c_S_PathOk_7 : ACode := .reg [⟨.loc 11, .mv (.var 3), none, []⟩,
  ⟨.loc 12, .bin .int .add (.loc 11) (.const (.d (.int .i64 1))), none, []⟩,
  ⟨.var 3, .mv (.loc 12), none, []⟩] false
def c_S_PathOk_8 : ACode := (.seq (.seq c_S_PathOk_4 (.cond (.var 10) .skip (.exit 0))) (.seq (.block 1 (.seq c_S_PathOk_5 (.cond (.var 22) (.seq c_S_PathOk_6 .ret) .skip))) c_S_PathOk_7))
def c_S_PathOk_9 : ACode := .reg [⟨.var 2, .mv (.const (.d (.bool true))), none, []⟩] false
def c_S_PathOk : ACode := (.seq c_S_PathOk_0 (.seq (.seq c_S_PathOk_1 (.cond (.var 6) (.seq c_S_PathOk_2 .ret) .skip)) (.seq (.seq c_S_PathOk_3 (.block 0 (.loop [0, 3] c_S_PathOk_8))) (.seq c_S_PathOk_9 .ret))))
abbrev F_S_PathOk : FuncId := 46
theorem k_S_PathOk : comp PP (Tryd.f46.ntmps, pinOf 0 [none]) [0, 2, 3, 6, 10, 22] (Tryd.f46.body.getD .skip) = some c_S_PathOk.erase := by kernel_rfl
theorem v_S_PathOk {GG : GV} (rcs : List C) {cs : List C} {r : C} {os : List (Option C)} (hN : (cs.length == 1 && rcs.length == 1) = true) (hret : retOf rcs = r)
    (hW : W PP [0, 2, 3, 6, 10, 22] (Tryd.f46.ntmps, pinOf 0 [none]) (Valid PP GG) c_S_PathOk (entry cs) (Fin (Valid PP GG) [(.give, 2, none)] [none] rcs os) (fun _ _ => False) (Fin (Valid PP GG) [(.give, 2, none)] [none] rcs os)) : Valid PP GG F_S_PathOk cs r os :=
  fn_valid_n 1 1 [0, 2, 3, 6, 10, 22] c_S_PathOk [(.give, 2, none)] [none] rcs Tryd.func46 rfl rfl (by kernel_rfl) k_S_PathOk rfl rfl hN hret hW
def c_S_l01In_0 : ACode := .reg [⟨.var 6, .mv (.const (.d (.bool false))), none, []⟩] false
def c_S_l01In_1 : ACode := .reg [⟨.loc 7, .mv (.var 1), none, []⟩,
  ⟨.loc 8, .mv (.var 0), none, []⟩,
  ⟨.loc 9, .bin .int .leq (.loc 7) (.loc 8), none, []⟩,
  ⟨.loc 10, .split (.loc 9), none, []⟩,
  ⟨.loc 11, .mv (.var 0), some ((.loc 10), true), []⟩,
  ⟨.loc 12, .mv (.var 2), some ((.loc 10), true), []⟩,
  ⟨.loc 13, .bin .int .leq (.loc 11) (.loc 12), some ((.loc 10), true), []⟩,
  ⟨.loc 14, .pick (.loc 10) (.loc 13) (.const (.d (.bool false))), none, []⟩,
  ⟨.var 6, .mv (.loc 14), none, []⟩] false
def c_S_l01In : ACode := (.seq c_S_l01In_0 (.seq c_S_l01In_1 .ret))
abbrev F_S_l01In : FuncId := 47
theorem k_S_l01In : comp PP (Tryd.f47.ntmps, pinOf 0 [none, none, none]) [0, 1, 2, 6] (Tryd.f47.body.getD .skip) = some c_S_l01In.erase := by kernel_rfl
theorem v_S_l01In {GG : GV} (rcs : List C) {cs : List C} {r : C} {os : List (Option C)} (hN : (cs.length == 3 && rcs.length == 1) = true) (hret : retOf rcs = r)
    (hW : W PP [0, 1, 2, 6] (Tryd.f47.ntmps, pinOf 0 [none, none, none]) (Valid PP GG) c_S_l01In (entry cs) (Fin (Valid PP GG) [(.give, 6, none)] [none, none, none] rcs os) (fun _ _ => False) (Fin (Valid PP GG) [(.give, 6, none)] [none, none, none] rcs os)) : Valid PP GG F_S_l01In cs r os :=
  fn_valid_n 3 1 [0, 1, 2, 6] c_S_l01In [(.give, 6, none)] [none, none, none] rcs Tryd.func47 rfl rfl (by kernel_rfl) k_S_l01In rfl rfl hN hret hW
end Go.Proofs.YtmihpclfdicfkaaDoor.Ab
