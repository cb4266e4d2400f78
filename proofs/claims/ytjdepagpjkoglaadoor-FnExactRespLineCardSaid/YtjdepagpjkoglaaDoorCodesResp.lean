/-
  A part of a proof about the given program; what is proved is said where each theorem stands.
-/
import Derived.Lib.LaidTab
import Derived.Lib.ItoaLen
import Derived.Shelf.Strconv.Itoa3
import Derived.KernelRfl
import Derived.Test.YtjdepagpjkoglaaDoorProg
import Derived.Test.YtjdepagpjkoglaaDoorFrameA
import Derived.Test.YtjdepagpjkoglaaDoorFrameB
import Derived.Test.YtjdepagpjkoglaaDoorFrameC
import Derived.Test.YtjdepagpjkoglaaDoorFrameD
import Derived.Test.YtjdepagpjkoglaaDoorFrameE
import Derived.Test.YtjdepagpjkoglaaDoorShelf
namespace Go.Proofs.YtjdepagpjkoglaaDoor.Ab
open Go.Proofs
noncomputable abbrev PP : Program := Tryd.prog
/-- The table of powers of ten that the library's number texts lean on. -/
def pow10Cells : Obj → Prop
  | .cells cs _ _ => cs = (Lib.pow10Tab.map fun z => Value.int .u64 z).toArray
  | _ => False
def GG : GV := fun b => if b = 0 then some pow10Cells else none

/-
loop.example/g00705/laws.FnExactNoteText  params 1+0 results [2]
  seq  mid=[1]
    c_L_FnExactNoteText_0
    seq  mid=[1, 3]
      c_L_FnExactNoteText_1
      seq  mid=[1, 3]
        c_L_FnExactNoteText_2
        seq  mid=[1]
          seq  mid=[1, 10]
            c_L_FnExactNoteText_3
            cond (.var 10)
              seq  mid=[2]
                c_L_FnExactNoteText_4
                ret
              skip
          seq  mid=[1, 4]
            c_L_FnExactNoteText_5
            seq  mid=[4, 5]
              c_L_FnExactNoteText_6
              seq  mid=[]
                seq  mid=[19]
                  c_L_FnExactNoteText_7
                  cond (.var 19)
                    seq  mid=[2]
                      c_L_FnExactNoteText_8
                      ret
                    skip
                seq  mid=[2]
                  c_L_FnExactNoteText_9
                  ret
-/
def c_L_FnExactNoteText_0 : ACode := .reg [⟨.var 1, .box (.var 0), none, []⟩,
  ⟨.var 2, .mv (.const (.d (.bool false))), none, []⟩] false
def c_L_FnExactNoteText_1 : ACode := .reg [⟨.var 3, .mv (.const (.d (.int .i64 1048576))), none, []⟩] false
def c_L_FnExactNoteText_2 : ACode := .reg [⟨.loc 6, .load true 7 (.var 1), none, []⟩,
  ⟨.loc 7, .mv (.var 3), none, []⟩,
  ⟨.loc 8, .call (.fn 6) [(.loc 6), (.loc 7)] [.borrow, .borrow], none, []⟩,
  ⟨.var 3, .mv (.loc 8), none, []⟩] false
def c_L_FnExactNoteText_3 : ACode := .reg [⟨.loc 9, .mv (.var 3), none, []⟩,
  ⟨.var 10, .bin .int .lss (.loc 9) (.const (.d (.int .i64 0))), none, []⟩] false
def c_L_FnExactNoteText_4 : ACode := .reg [⟨.var 2, .mv (.const (.d (.bool true))), none, []⟩] false
def c_L_FnExactNoteText_5 : ACode := .reg [⟨.loc 11, .load true 7 (.var 1), none, []⟩,
  ⟨.loc 12, .call (.fn 8) [(.loc 11)] [.borrow], none, []⟩,
  ⟨.loc 13, .call (.fn 7) [(.loc 12)] [.borrow], none, []⟩,
  ⟨.var 4, .mv (.loc 13), none, []⟩] false
def c_L_FnExactNoteText_6 : ACode := .reg [⟨.loc 14, .load true 7 (.var 1), none, []⟩,
  ⟨.loc 15, .call (.fn 8) [(.loc 14)] [.borrow], none, []⟩,
  ⟨.loc 16, .call (.fn 9) [(.loc 15)] [.borrow], none, []⟩,
  ⟨.var 5, .mv (.loc 16), none, []⟩] false
def c_L_FnExactNoteText_7 : ACode := .reg [⟨.loc 17, .mv (.var 5), none, []⟩,
  ⟨.loc 18, .mv (.var 4), none, []⟩,
  ⟨.var 19, .bin .str .neq (.loc 17) (.loc 18), none, []⟩] false
def c_L_FnExactNoteText_8 : ACode := .reg [⟨.var 2, .mv (.const (.d (.bool false))), none, []⟩] false
def c_L_FnExactNoteText_9 : ACode := .reg [⟨.var 2, .mv (.const (.d (.bool true))), none, []⟩] false
def c_L_FnExactNoteText : ACode := (.seq c_L_FnExactNoteText_0 (.seq c_L_FnExactNoteText_1 (.seq c_L_FnExactNoteText_2 (.seq (.seq c_L_FnExactNoteText_3 (.cond (.var 10) (.seq c_L_FnExactNoteText_4 .ret) .skip)) (.seq c_L_FnExactNoteText_5 (.seq c_L_FnExactNoteText_6 (.seq (.seq c_L_FnExactNoteText_7 (.cond (.var 19) (.seq c_L_FnExactNoteText_8 .ret) .skip)) (.seq c_L_FnExactNoteText_9 .ret))))))))

abbrev F_L_FnExactNoteText : FuncId := 3

theorem k_L_FnExactNoteText : comp PP (Tryd.f3.ntmps, pinOf 0 [none]) [0, 1, 2, 3, 4, 5, 10, 19] (Tryd.f3.body.getD .skip) = some c_L_FnExactNoteText.erase := by kernel_rfl

theorem v_L_FnExactNoteText (rcs : List C) {cs : List C} {r : C} {os : List (Option C)} (hN : (cs.length == 1 && rcs.length == 1) = true) (hret : retOf rcs = r)
    (hW : W PP [0, 1, 2, 3, 4, 5, 10, 19] (Tryd.f3.ntmps, pinOf 0 [none]) (Valid PP GG) c_L_FnExactNoteText (entry cs) (Fin (Valid PP GG) [(.give, 2, none)] [none] rcs os) (fun _ _ => False) (Fin (Valid PP GG) [(.give, 2, none)] [none] rcs os)) : Valid PP GG F_L_FnExactNoteText cs r os :=
  fn_valid_n 1 1 [0, 1, 2, 3, 4, 5, 10, 19] c_L_FnExactNoteText [(.give, 2, none)] [none] rcs Tryd.func3 rfl rfl (by kernel_rfl) k_L_FnExactNoteText rfl rfl hN hret hW


/-
loop.example/g00705/laws.szNote  params 2+0 results [4]
  seq  mid=[1, 2]
    c_L_szNote_0
    seq  mid=[1, 2]
      c_L_szNote_1
      seq  mid=[1, 2]
        seq  mid=[1, 2, 11]
          c_L_szNote_2
          cond (.var 11)
            seq  mid=[4]
              c_L_szNote_3
              ret
            skip
        seq  mid=[1]
          c_L_szNote_4
          seq  mid=[1]
            seq  mid=[1, 18]
              c_L_szNote_5
              cond (.var 18)
                seq  mid=[4]
                  c_L_szNote_6
                  ret
                skip
            seq  mid=[4]
              c_L_szNote_7
              ret
-/
def c_L_szNote_0 : ACode := .reg [⟨.var 2, .box (.var 0), none, []⟩,
  ⟨.var 4, .mv (.const (.d (.int .i64 0))), none, []⟩] false
def c_L_szNote_1 : ACode := .reg [⟨.loc 5, .mv (.var 1), none, []⟩,
  ⟨.loc 6, .fld 3 (.var 2), none, []⟩,
  ⟨.loc 7, .load false 1 (.loc 6), none, []⟩,
  ⟨.loc 8, .len true (.loc 7), none, []⟩,
  ⟨.loc 9, .bin .int .sub (.loc 5) (.loc 8), none, []⟩,
  ⟨.var 1, .mv (.loc 9), none, []⟩] false
def c_L_szNote_2 : ACode := .reg [⟨.loc 10, .mv (.var 1), none, []⟩,
  ⟨.var 11, .bin .int .lss (.loc 10) (.const (.d (.int .i64 0))), none, []⟩] false
def c_L_szNote_3 : ACode := .reg [⟨.var 4, .mv (.const (.d (.int .i64 (-1)))), none, []⟩] false
def c_L_szNote_4 : ACode := .reg [⟨.loc 12, .mv (.var 1), none, []⟩,
  ⟨.loc 13, .fld 4 (.var 2), none, []⟩,
  ⟨.loc 14, .load false 1 (.loc 13), none, []⟩,
  ⟨.loc 15, .len true (.loc 14), none, []⟩,
  ⟨.loc 16, .bin .int .sub (.loc 12) (.loc 15), none, []⟩,
  ⟨.var 1, .mv (.loc 16), none, []⟩] false
def c_L_szNote_5 : ACode := .reg [⟨.loc 17, .mv (.var 1), none, []⟩,
  ⟨.var 18, .bin .int .lss (.loc 17) (.const (.d (.int .i64 0))), none, []⟩] false
def c_L_szNote_6 : ACode := .reg [⟨.var 4, .mv (.const (.d (.int .i64 (-1)))), none, []⟩] false
def c_L_szNote_7 : ACode := .reg [⟨.loc 19, .mv (.var 1), none, []⟩,
  ⟨.var 4, .mv (.loc 19), none, []⟩] false
def c_L_szNote : ACode := (.seq c_L_szNote_0 (.seq c_L_szNote_1 (.seq (.seq c_L_szNote_2 (.cond (.var 11) (.seq c_L_szNote_3 .ret) .skip)) (.seq c_L_szNote_4 (.seq (.seq c_L_szNote_5 (.cond (.var 18) (.seq c_L_szNote_6 .ret) .skip)) (.seq c_L_szNote_7 .ret))))))

abbrev F_L_szNote : FuncId := 6

theorem k_L_szNote : comp PP (Tryd.f6.ntmps, pinOf 0 [none, none]) [0, 1, 2, 4, 11, 18] (Tryd.f6.body.getD .skip) = some c_L_szNote.erase := by kernel_rfl

theorem v_L_szNote (rcs : List C) {cs : List C} {r : C} {os : List (Option C)} (hN : (cs.length == 2 && rcs.length == 1) = true) (hret : retOf rcs = r)
    (hW : W PP [0, 1, 2, 4, 11, 18] (Tryd.f6.ntmps, pinOf 0 [none, none]) (Valid PP GG) c_L_szNote (entry cs) (Fin (Valid PP GG) [(.give, 4, none)] [none, none] rcs os) (fun _ _ => False) (Fin (Valid PP GG) [(.give, 4, none)] [none, none] rcs os)) : Valid PP GG F_L_szNote cs r os :=
  fn_valid_n 2 1 [0, 1, 2, 4, 11, 18] c_L_szNote [(.give, 4, none)] [none, none] rcs Tryd.func6 rfl rfl (by kernel_rfl) k_L_szNote rfl rfl hN hret hW


/-
loop.example/g00705/spec.NoteText  params 1+0 results [2]
  seq  mid=[1]
    c_S_NoteText_0
    seq  mid=[2]
      c_S_NoteText_1 DRAW
      ret
-/
def c_S_NoteText_0 : ACode := .reg [⟨.var 1, .box (.var 0), none, []⟩,
  ⟨.var 2, .mv (.const (.d (.str []))), none, []⟩] false
def c_S_NoteText_1 : ACode := .reg [⟨.loc 3, .fld 0 (.var 1), none, []⟩,
  ⟨.loc 4, .load false 1 (.loc 3), none, [0]⟩,
  ⟨.loc 5, .call (.fn 17) [(.loc 4)] [.borrow], none, [1, 0]⟩,
  ⟨.loc 6, .bin .str .add (.loc 5) (.const (.d (.str [32]))), none, [2, 1, 0]⟩,
  ⟨.loc 7, .fld 1 (.var 1), none, []⟩,
  ⟨.loc 8, .load false 1 (.loc 7), none, [4]⟩,
  ⟨.loc 9, .call (.fn 17) [(.loc 8)] [.borrow], none, [5, 4, 2, 1, 0]⟩,
  ⟨.loc 10, .bin .str .add (.loc 6) (.loc 9), none, [3, 6, 5, 4, 2, 1, 0]⟩,
  ⟨.loc 11, .bin .str .add (.loc 10) (.const (.d (.str [32]))), none, [7, 3, 6, 5, 4, 2, 1, 0]⟩,
  ⟨.loc 12, .fld 2 (.var 1), none, []⟩,
  ⟨.loc 13, .load false 1 (.loc 12), none, [9]⟩,
  ⟨.loc 14, .call (.fn 17) [(.loc 13)] [.borrow], none, [10, 9, 6, 5, 4, 2, 1, 0]⟩,
  ⟨.loc 15, .bin .str .add (.loc 11) (.loc 14), none, [8, 7, 3, 11, 10, 9, 6, 5, 4, 2, 1, 0]⟩,
  ⟨.loc 16, .bin .str .add (.loc 15) (.const (.d (.str [32]))), none, [12, 8, 7, 3, 11, 10, 9, 6, 5, 4, 2, 1, 0]⟩,
  ⟨.loc 17, .fld 3 (.var 1), none, []⟩,
  ⟨.loc 18, .load false 1 (.loc 17), none, [14]⟩,
  ⟨.loc 19, .bin .str .add (.loc 16) (.loc 18), none, [13, 12, 8, 7, 3, 11, 10, 9, 6, 5, 4, 2, 1, 0, 15, 14]⟩,
  ⟨.loc 20, .bin .str .add (.loc 19) (.const (.d (.str [32]))), none, [16, 13, 12, 8, 7, 3, 11, 10, 9, 6, 5, 4, 2, 1, 0, 15, 14]⟩,
  ⟨.loc 21, .fld 4 (.var 1), none, []⟩,
  ⟨.loc 22, .load false 1 (.loc 21), none, [18]⟩,
  ⟨.loc 23, .bin .str .add (.loc 20) (.loc 22), none, [17, 16, 13, 12, 8, 7, 3, 11, 10, 9, 6, 5, 4, 2, 1, 0, 15, 14, 19, 18]⟩,
  ⟨.loc 24, .bin .str .add (.loc 23) (.const (.d (.str [32]))), none, [20, 17, 16, 13, 12, 8, 7, 3, 11, 10, 9, 6, 5, 4, 2, 1, 0, 15, 14, 19, 18]⟩,
  ⟨.loc 25, .fld 5 (.var 1), none, []⟩,
  ⟨.loc 26, .load false 1 (.loc 25), none, [22]⟩,
  ⟨.loc 27, .call (.fn 17) [(.loc 26)] [.borrow], none, [23, 22, 11, 10, 9, 6, 5, 4, 2, 1, 0]⟩,
  ⟨.loc 28, .bin .str .add (.loc 24) (.loc 27), none, [21, 20, 17, 16, 13, 12, 8, 7, 3, 15, 14, 19, 18, 24, 23, 22, 11, 10, 9, 6, 5, 4, 2, 1, 0]⟩,
  ⟨.loc 29, .bin .str .add (.loc 28) (.const (.d (.str [32]))), none, [25, 21, 20, 17, 16, 13, 12, 8, 7, 3, 15, 14, 19, 18, 24, 23, 22, 11, 10, 9, 6, 5, 4, 2, 1, 0]⟩,
  ⟨.loc 30, .fld 6 (.var 1), none, []⟩,
  ⟨.loc 31, .load false 1 (.loc 30), none, [27]⟩,
  ⟨.loc 32, .call (.fn 17) [(.loc 31)] [.borrow], none, [28, 27, 24, 23, 22, 11, 10, 9, 6, 5, 4, 2, 1, 0]⟩,
  ⟨.loc 33, .bin .str .add (.loc 29) (.loc 32), none, [26, 25, 21, 20, 17, 16, 13, 12, 8, 7, 3, 15, 14, 19, 18, 29, 28, 27, 24, 23, 22, 11, 10, 9, 6, 5, 4, 2, 1, 0]⟩,
  ⟨.var 2, .mv (.loc 33), none, [30, 26, 25, 21, 20, 17, 16, 13, 12, 8, 7, 3, 15, 14, 19, 18, 29, 28, 27, 24, 23, 22, 11, 10, 9, 6, 5, 4, 2, 1, 0]⟩] true
def c_S_NoteText : ACode := (.seq c_S_NoteText_0 (.seq c_S_NoteText_1 .ret))

abbrev F_S_NoteText : FuncId := 7

theorem k_S_NoteText : comp PP (Tryd.f7.ntmps, pinOf 0 [none]) [0, 1, 2] (Tryd.f7.body.getD .skip) = some c_S_NoteText.erase := by kernel_rfl

theorem v_S_NoteText (rcs : List C) {cs : List C} {r : C} {os : List (Option C)} (hN : (cs.length == 1 && rcs.length == 1) = true) (hret : retOf rcs = r)
    (hW : W PP [0, 1, 2] (Tryd.f7.ntmps, pinOf 0 [none]) (Valid PP GG) c_S_NoteText (entry cs) (Fin (Valid PP GG) [(.give, 2, none)] [none] rcs os) (fun _ _ => False) (Fin (Valid PP GG) [(.give, 2, none)] [none] rcs os)) : Valid PP GG F_S_NoteText cs r os :=
  fn_valid_n 1 1 [0, 1, 2] c_S_NoteText [(.give, 2, none)] [none] rcs Tryd.func7 rfl rfl (by kernel_rfl) k_S_NoteText rfl rfl hN hret hW


/-
loop.example/g00705/laws.toNote  params 1+0 results [2]
  seq  mid=[1, 2]
    c_L_toNote_0
    seq  mid=[1, 2, 3]
      c_L_toNote_1
      seq  mid=[1, 2, 3]
        c_L_toNote_2
        seq  mid=[1, 2, 3]
          c_L_toNote_3
          seq  mid=[1, 2, 3]
            c_L_toNote_4
            seq  mid=[1, 2, 3]
              c_L_toNote_5
              seq  mid=[1, 2, 3]
                c_L_toNote_6
                seq  mid=[1, 2, 3]
                  c_L_toNote_7
                  seq  mid=[2, 3]
                    c_L_toNote_8
                    seq  mid=[2]
                      c_L_toNote_9
                      ret
-/
def c_L_toNote_0 : ACode := .reg [⟨.var 1, .box (.var 0), none, []⟩,
  ⟨.var 2, .alloc [.d (.int .i64 0), .d (.int .i64 0), .d (.int .i64 0), .d (.str []), .d (.str []), .d (.int .i64 0), .d (.int .i64 0)], none, []⟩] false
def c_L_toNote_1 : ACode := .reg [⟨.var 3, .alloc [.d (.int .i64 0), .d (.int .i64 0), .d (.int .i64 0), .d (.str []), .d (.str []), .d (.int .i64 0), .d (.int .i64 0)], none, []⟩] false
def c_L_toNote_2 : ACode := .reg [⟨.loc 4, .fld 0 (.var 1), none, []⟩,
  ⟨.loc 5, .load false 1 (.loc 4), none, []⟩,
  ⟨.loc 6, .fld 0 (.var 3), none, []⟩,
  ⟨.none, .store 1 (.loc 6) (.loc 5), none, []⟩] false
def c_L_toNote_3 : ACode := .reg [⟨.loc 7, .fld 1 (.var 1), none, []⟩,
  ⟨.loc 8, .load false 1 (.loc 7), none, []⟩,
  ⟨.loc 9, .fld 1 (.var 3), none, []⟩,
  ⟨.none, .store 1 (.loc 9) (.loc 8), none, []⟩] false
def c_L_toNote_4 : ACode := .reg [⟨.loc 10, .fld 2 (.var 1), none, []⟩,
  ⟨.loc 11, .load false 1 (.loc 10), none, []⟩,
  ⟨.loc 12, .fld 2 (.var 3), none, []⟩,
  ⟨.none, .store 1 (.loc 12) (.loc 11), none, []⟩] false
def c_L_toNote_5 : ACode := .reg [⟨.loc 13, .fld 3 (.var 1), none, []⟩,
  ⟨.loc 14, .load false 1 (.loc 13), none, []⟩,
  ⟨.loc 15, .fld 3 (.var 3), none, []⟩,
  ⟨.none, .store 1 (.loc 15) (.loc 14), none, []⟩] false
def c_L_toNote_6 : ACode := .reg [⟨.loc 16, .fld 4 (.var 1), none, []⟩,
  ⟨.loc 17, .load false 1 (.loc 16), none, []⟩,
  ⟨.loc 18, .fld 4 (.var 3), none, []⟩,
  ⟨.none, .store 1 (.loc 18) (.loc 17), none, []⟩] false
def c_L_toNote_7 : ACode := .reg [⟨.loc 19, .fld 5 (.var 1), none, []⟩,
  ⟨.loc 20, .load false 1 (.loc 19), none, []⟩,
  ⟨.loc 21, .fld 5 (.var 3), none, []⟩,
  ⟨.none, .store 1 (.loc 21) (.loc 20), none, []⟩] false
def c_L_toNote_8 : ACode := .reg [⟨.loc 22, .fld 6 (.var 1), none, []⟩,
  ⟨.loc 23, .load false 1 (.loc 22), none, []⟩,
  ⟨.loc 24, .fld 6 (.var 3), none, []⟩,
  ⟨.none, .store 1 (.loc 24) (.loc 23), none, []⟩] false
def c_L_toNote_9 : ACode := .reg [⟨.loc 25, .load true 7 (.var 3), none, []⟩,
  ⟨.none, .store 7 (.var 2) (.loc 25), none, []⟩] false
def c_L_toNote : ACode := (.seq c_L_toNote_0 (.seq c_L_toNote_1 (.seq c_L_toNote_2 (.seq c_L_toNote_3 (.seq c_L_toNote_4 (.seq c_L_toNote_5 (.seq c_L_toNote_6 (.seq c_L_toNote_7 (.seq c_L_toNote_8 (.seq c_L_toNote_9 .ret))))))))))

abbrev F_L_toNote : FuncId := 8

theorem k_L_toNote : comp PP (Tryd.f8.ntmps, pinOf 0 [none]) [0, 1, 2, 3] (Tryd.f8.body.getD .skip) = some c_L_toNote.erase := by kernel_rfl

theorem v_L_toNote (rcs : List C) {cs : List C} {r : C} {os : List (Option C)} (hN : (cs.length == 1 && rcs.length == 1) = true) (hret : retOf rcs = r)
    (hW : W PP [0, 1, 2, 3] (Tryd.f8.ntmps, pinOf 0 [none]) (Valid PP GG) c_L_toNote (entry cs) (Fin (Valid PP GG) [(.give, 2, some (true, 7))] [none] rcs os) (fun _ _ => False) (Fin (Valid PP GG) [(.give, 2, some (true, 7))] [none] rcs os)) : Valid PP GG F_L_toNote cs r os :=
  fn_valid_n 1 1 [0, 1, 2, 3] c_L_toNote [(.give, 2, some (true, 7))] [none] rcs Tryd.func8 rfl rfl (by kernel_rfl) k_L_toNote rfl rfl hN hret hW


/-
loop.example/g00705/impl.NoteText  params 1+0 results [2]
  seq  mid=[1]
    c_I_NoteText_0
    seq  mid=[2]
      c_I_NoteText_1 DRAW
      ret
-/
def c_I_NoteText_0 : ACode := .reg [⟨.var 1, .box (.var 0), none, []⟩,
  ⟨.var 2, .mv (.const (.d (.str []))), none, []⟩] false
def c_I_NoteText_1 : ACode := .reg [⟨.loc 3, .fld 0 (.var 1), none, []⟩,
  ⟨.loc 4, .load false 1 (.loc 3), none, [0]⟩,
  ⟨.loc 5, .call (.fn 18) [(.loc 4)] [.borrow], none, [1, 0]⟩,
  ⟨.loc 6, .bin .str .add (.loc 5) (.const (.d (.str [32]))), none, [2, 1, 0]⟩,
  ⟨.loc 7, .fld 1 (.var 1), none, []⟩,
  ⟨.loc 8, .load false 1 (.loc 7), none, [4]⟩,
  ⟨.loc 9, .call (.fn 18) [(.loc 8)] [.borrow], none, [5, 4, 2, 1, 0]⟩,
  ⟨.loc 10, .bin .str .add (.loc 6) (.loc 9), none, [3, 6, 5, 4, 2, 1, 0]⟩,
  ⟨.loc 11, .bin .str .add (.loc 10) (.const (.d (.str [32]))), none, [7, 3, 6, 5, 4, 2, 1, 0]⟩,
  ⟨.loc 12, .fld 2 (.var 1), none, []⟩,
  ⟨.loc 13, .load false 1 (.loc 12), none, [9]⟩,
  ⟨.loc 14, .call (.fn 18) [(.loc 13)] [.borrow], none, [10, 9, 6, 5, 4, 2, 1, 0]⟩,
  ⟨.loc 15, .bin .str .add (.loc 11) (.loc 14), none, [8, 7, 3, 11, 10, 9, 6, 5, 4, 2, 1, 0]⟩,
  ⟨.loc 16, .bin .str .add (.loc 15) (.const (.d (.str [32]))), none, [12, 8, 7, 3, 11, 10, 9, 6, 5, 4, 2, 1, 0]⟩,
  ⟨.loc 17, .fld 3 (.var 1), none, []⟩,
  ⟨.loc 18, .load false 1 (.loc 17), none, [14]⟩,
  ⟨.loc 19, .bin .str .add (.loc 16) (.loc 18), none, [13, 12, 8, 7, 3, 11, 10, 9, 6, 5, 4, 2, 1, 0, 15, 14]⟩,
  ⟨.loc 20, .bin .str .add (.loc 19) (.const (.d (.str [32]))), none, [16, 13, 12, 8, 7, 3, 11, 10, 9, 6, 5, 4, 2, 1, 0, 15, 14]⟩,
  ⟨.loc 21, .fld 4 (.var 1), none, []⟩,
  ⟨.loc 22, .load false 1 (.loc 21), none, [18]⟩,
  ⟨.loc 23, .bin .str .add (.loc 20) (.loc 22), none, [17, 16, 13, 12, 8, 7, 3, 11, 10, 9, 6, 5, 4, 2, 1, 0, 15, 14, 19, 18]⟩,
  ⟨.loc 24, .bin .str .add (.loc 23) (.const (.d (.str [32]))), none, [20, 17, 16, 13, 12, 8, 7, 3, 11, 10, 9, 6, 5, 4, 2, 1, 0, 15, 14, 19, 18]⟩,
  ⟨.loc 25, .fld 5 (.var 1), none, []⟩,
  ⟨.loc 26, .load false 1 (.loc 25), none, [22]⟩,
  ⟨.loc 27, .call (.fn 18) [(.loc 26)] [.borrow], none, [23, 22, 11, 10, 9, 6, 5, 4, 2, 1, 0]⟩,
  ⟨.loc 28, .bin .str .add (.loc 24) (.loc 27), none, [21, 20, 17, 16, 13, 12, 8, 7, 3, 15, 14, 19, 18, 24, 23, 22, 11, 10, 9, 6, 5, 4, 2, 1, 0]⟩,
  ⟨.loc 29, .bin .str .add (.loc 28) (.const (.d (.str [32]))), none, [25, 21, 20, 17, 16, 13, 12, 8, 7, 3, 15, 14, 19, 18, 24, 23, 22, 11, 10, 9, 6, 5, 4, 2, 1, 0]⟩,
  ⟨.loc 30, .fld 6 (.var 1), none, []⟩,
  ⟨.loc 31, .load false 1 (.loc 30), none, [27]⟩,
  ⟨.loc 32, .call (.fn 18) [(.loc 31)] [.borrow], none, [28, 27, 24, 23, 22, 11, 10, 9, 6, 5, 4, 2, 1, 0]⟩,
  ⟨.loc 33, .bin .str .add (.loc 29) (.loc 32), none, [26, 25, 21, 20, 17, 16, 13, 12, 8, 7, 3, 15, 14, 19, 18, 29, 28, 27, 24, 23, 22, 11, 10, 9, 6, 5, 4, 2, 1, 0]⟩,
  ⟨.var 2, .mv (.loc 33), none, [30, 26, 25, 21, 20, 17, 16, 13, 12, 8, 7, 3, 15, 14, 19, 18, 29, 28, 27, 24, 23, 22, 11, 10, 9, 6, 5, 4, 2, 1, 0]⟩] true
def c_I_NoteText : ACode := (.seq c_I_NoteText_0 (.seq c_I_NoteText_1 .ret))

abbrev F_I_NoteText : FuncId := 9

theorem k_I_NoteText : comp PP (Tryd.f9.ntmps, pinOf 0 [none]) [0, 1, 2] (Tryd.f9.body.getD .skip) = some c_I_NoteText.erase := by kernel_rfl

theorem v_I_NoteText (rcs : List C) {cs : List C} {r : C} {os : List (Option C)} (hN : (cs.length == 1 && rcs.length == 1) = true) (hret : retOf rcs = r)
    (hW : W PP [0, 1, 2] (Tryd.f9.ntmps, pinOf 0 [none]) (Valid PP GG) c_I_NoteText (entry cs) (Fin (Valid PP GG) [(.give, 2, none)] [none] rcs os) (fun _ _ => False) (Fin (Valid PP GG) [(.give, 2, none)] [none] rcs os)) : Valid PP GG F_I_NoteText cs r os :=
  fn_valid_n 1 1 [0, 1, 2] c_I_NoteText [(.give, 2, none)] [none] rcs Tryd.func9 rfl rfl (by kernel_rfl) k_I_NoteText rfl rfl hN hret hW


/-
loop.example/g00705/spec.l01Num  params 1+0 results [2]
  seq  mid=[0]
    c_S_l01Num_0
    seq  mid=[0]
      seq  mid=[0, 7]
        c_S_l01Num_1
        cond (.var 7)
          seq  mid=[2]
            c_S_l01Num_2
            ret
          skip
      seq  mid=[0, 3]
        c_S_l01Num_3
        seq  mid=[0, 3, 4]
          c_S_l01Num_4
          seq  mid=[3, 4]
            block 0
              loop live=[0, 3, 4]
                seq  mid=[0, 3, 4]
                  seq  mid=[0, 3, 4, 11]
                    c_S_l01Num_5
                    cond (.var 11)
                      skip
                      exit 0
                  block 1
                    seq  mid=[0, 3, 4, 5]
                      c_S_l01Num_6
                      seq  mid=[0, 3, 4, 5]
                        seq  mid=[0, 3, 4, 5, 15]
                          c_S_l01Num_7
                          cond (.var 15)
                            c_S_l01Num_8
                            skip
                        seq  mid=[0, 3, 4]
                          c_S_l01Num_9
                          c_S_l01Num_10
            seq  mid=[3]
              seq  mid=[3, 27]
                c_S_l01Num_12
                cond (.var 27)
                  seq  mid=[2]
                    c_S_l01Num_13
                    ret
                  skip
              seq  mid=[2]
                c_S_l01Num_14
                ret
-/
def c_S_l01Num_0 : ACode := .reg [⟨.var 2, .mv (.const (.d (.str []))), none, []⟩] false
def c_S_l01Num_1 : ACode := .reg [⟨.loc 6, .mv (.var 0), none, []⟩,
  ⟨.var 7, .bin .int .eql (.loc 6) (.const (.d (.int .i64 0))), none, []⟩] false
def c_S_l01Num_2 : ACode := .reg [⟨.var 2, .mv (.const (.d (.str [48]))), none, []⟩] false
def c_S_l01Num_3 : ACode := .reg [⟨.var 3, .mv (.const (.d (.str []))), none, []⟩] false
def c_S_l01Num_4 : ACode := .reg [⟨.loc 8, .mv (.var 0), none, []⟩,
  ⟨.loc 9, .bin .int .lss (.loc 8) (.const (.d (.int .i64 0))), none, []⟩,
  ⟨.var 4, .mv (.loc 9), none, []⟩] false
def c_S_l01Num_5 : ACode := .reg [⟨.loc 10, .mv (.var 0), none, []⟩,
  ⟨.var 11, .bin .int .neq (.loc 10) (.const (.d (.int .i64 0))), none, []⟩] false
def c_S_l01Num_6 : ACode := .reg [⟨.loc 12, .mv (.var 0), none, []⟩,
  ⟨.loc 13, .bin .int .rem (.loc 12) (.const (.d (.int .i64 10))), none, []⟩,
  ⟨.var 5, .mv (.loc 13), none, []⟩] false
def c_S_l01Num_7 : ACode := .reg [⟨.loc 14, .mv (.var 5), none, []⟩,
  ⟨.var 15, .bin .int .lss (.loc 14) (.const (.d (.int .i64 0))), none, []⟩] false
def c_S_l01Num_8 : ACode := .reg [⟨.loc 16, .mv (.var 5), none, []⟩,
  ⟨.loc 17, .un .neg (.loc 16), none, []⟩,
  ⟨.var 5, .mv (.loc 17), none, []⟩] false
def c_S_l01Num_9 : ACode := .reg [⟨.loc 18, .mv (.var 5), none, []⟩,
  ⟨.loc 19, .bin .int .add (.const (.d (.int .i64 48))) (.loc 18), none, []⟩,
  ⟨.loc 20, .conv .u8 (.loc 19), none, []⟩,
  ⟨.loc 21, .lit 0 1 1 [.int .u8 0] [(0, (.loc 20))], none, []⟩,
  ⟨.loc 22, .b2s (.loc 21), none, []⟩,
  ⟨.loc 23, .mv (.var 3), none, []⟩,
  ⟨.loc 24, .bin .str .add (.loc 22) (.loc 23), none, []⟩,
  ⟨.var 3, .mv (.loc 24), none, []⟩] false
def c_S_l01Num_10 : ACode := .reg [⟨.loc 25, .mv (.var 0), none, []⟩,
  ⟨.loc 26, .bin .int .quo (.loc 25) (.const (.d (.int .i64 10))), none, []⟩,
  ⟨.var 0, .mv (.loc 26), none, []⟩] false
def c_S_l01Num_11 : ACode := (.seq (.seq c_S_l01Num_5 (.cond (.var 11) .skip (.exit 0))) (.block 1 (.seq c_S_l01Num_6 (.seq (.seq c_S_l01Num_7 (.cond (.var 15) c_S_l01Num_8 .skip)) (.seq c_S_l01Num_9 c_S_l01Num_10)))))
def c_S_l01Num_12 : ACode := .reg [⟨.var 27, .mv (.var 4), none, []⟩] false
def c_S_l01Num_13 : ACode := .reg [⟨.loc 28, .mv (.var 3), none, []⟩,
  ⟨.loc 29, .bin .str .add (.const (.d (.str [45]))) (.loc 28), none, []⟩,
  ⟨.var 2, .mv (.loc 29), none, []⟩] false
def c_S_l01Num_14 : ACode := .reg [⟨.loc 30, .mv (.var 3), none, []⟩,
  ⟨.var 2, .mv (.loc 30), none, []⟩] false
def c_S_l01Num : ACode := (.seq c_S_l01Num_0 (.seq (.seq c_S_l01Num_1 (.cond (.var 7) (.seq c_S_l01Num_2 .ret) .skip)) (.seq c_S_l01Num_3 (.seq c_S_l01Num_4 (.seq (.block 0 (.loop [0, 3, 4] c_S_l01Num_11)) (.seq (.seq c_S_l01Num_12 (.cond (.var 27) (.seq c_S_l01Num_13 .ret) .skip)) (.seq c_S_l01Num_14 .ret)))))))

abbrev F_S_l01Num : FuncId := 17

theorem k_S_l01Num : comp PP (Tryd.f17.ntmps, pinOf 0 [none]) [0, 2, 3, 4, 5, 7, 11, 15, 27] (Tryd.f17.body.getD .skip) = some c_S_l01Num.erase := by kernel_rfl

theorem v_S_l01Num (rcs : List C) {cs : List C} {r : C} {os : List (Option C)} (hN : (cs.length == 1 && rcs.length == 1) = true) (hret : retOf rcs = r)
    (hW : W PP [0, 2, 3, 4, 5, 7, 11, 15, 27] (Tryd.f17.ntmps, pinOf 0 [none]) (Valid PP GG) c_S_l01Num (entry cs) (Fin (Valid PP GG) [(.give, 2, none)] [none] rcs os) (fun _ _ => False) (Fin (Valid PP GG) [(.give, 2, none)] [none] rcs os)) : Valid PP GG F_S_l01Num cs r os :=
  fn_valid_n 1 1 [0, 2, 3, 4, 5, 7, 11, 15, 27] c_S_l01Num [(.give, 2, none)] [none] rcs Tryd.func17 rfl rfl (by kernel_rfl) k_S_l01Num rfl rfl hN hret hW


/-
loop.example/g00705/laws.FnExactSumOf  params 2+0 results [4]
  seq  mid=[0, 3]
    c_L_FnExactSumOf_0
    seq  mid=[0, 3, 5]
      c_L_FnExactSumOf_1
      seq  mid=[0, 3, 5]
        c_L_FnExactSumOf_2
        seq  mid=[0, 3]
          seq  mid=[0, 3, 12]
            c_L_FnExactSumOf_3
            cond (.var 12)
              seq  mid=[4]
                c_L_FnExactSumOf_4
                ret
              skip
          seq  mid=[0, 3, 6]
            c_L_FnExactSumOf_5
            seq  mid=[6, 7]
              c_L_FnExactSumOf_6
              seq  mid=[]
                seq  mid=[23]
                  c_L_FnExactSumOf_7
                  cond (.var 23)
                    seq  mid=[4]
                      c_L_FnExactSumOf_8
                      ret
                    skip
                seq  mid=[4]
                  c_L_FnExactSumOf_9
                  ret
-/
def c_L_FnExactSumOf_0 : ACode := .reg [⟨.var 3, .box (.var 1), none, []⟩,
  ⟨.var 4, .mv (.const (.d (.bool false))), none, []⟩] false
def c_L_FnExactSumOf_1 : ACode := .reg [⟨.var 5, .mv (.const (.d (.int .i64 1048576))), none, []⟩] false
def c_L_FnExactSumOf_2 : ACode := .reg [⟨.loc 8, .load true 7 (.var 3), none, []⟩,
  ⟨.loc 9, .mv (.var 5), none, []⟩,
  ⟨.loc 10, .call (.fn 6) [(.loc 8), (.loc 9)] [.borrow, .borrow], none, []⟩,
  ⟨.var 5, .mv (.loc 10), none, []⟩] false
def c_L_FnExactSumOf_3 : ACode := .reg [⟨.loc 11, .mv (.var 5), none, []⟩,
  ⟨.var 12, .bin .int .lss (.loc 11) (.const (.d (.int .i64 0))), none, []⟩] false
def c_L_FnExactSumOf_4 : ACode := .reg [⟨.var 4, .mv (.const (.d (.bool true))), none, []⟩] false
def c_L_FnExactSumOf_5 : ACode := .reg [⟨.loc 13, .mv (.var 0), none, []⟩,
  ⟨.loc 14, .load true 7 (.var 3), none, []⟩,
  ⟨.loc 15, .call (.fn 8) [(.loc 14)] [.borrow], none, []⟩,
  ⟨.loc 16, .call (.fn 10) [(.loc 13), (.loc 15)] [.borrow, .borrow], none, []⟩,
  ⟨.var 6, .mv (.loc 16), none, []⟩] false
def c_L_FnExactSumOf_6 : ACode := .reg [⟨.loc 17, .mv (.var 0), none, []⟩,
  ⟨.loc 18, .load true 7 (.var 3), none, []⟩,
  ⟨.loc 19, .call (.fn 8) [(.loc 18)] [.borrow], none, []⟩,
  ⟨.loc 20, .call (.fn 11) [(.loc 17), (.loc 19)] [.borrow, .borrow], none, []⟩,
  ⟨.var 7, .mv (.loc 20), none, []⟩] false
def c_L_FnExactSumOf_7 : ACode := .reg [⟨.loc 21, .mv (.var 7), none, []⟩,
  ⟨.loc 22, .mv (.var 6), none, []⟩,
  ⟨.var 23, .bin .int .neq (.loc 21) (.loc 22), none, []⟩] false
def c_L_FnExactSumOf_8 : ACode := .reg [⟨.var 4, .mv (.const (.d (.bool false))), none, []⟩] false
def c_L_FnExactSumOf_9 : ACode := .reg [⟨.var 4, .mv (.const (.d (.bool true))), none, []⟩] false
def c_L_FnExactSumOf : ACode := (.seq c_L_FnExactSumOf_0 (.seq c_L_FnExactSumOf_1 (.seq c_L_FnExactSumOf_2 (.seq (.seq c_L_FnExactSumOf_3 (.cond (.var 12) (.seq c_L_FnExactSumOf_4 .ret) .skip)) (.seq c_L_FnExactSumOf_5 (.seq c_L_FnExactSumOf_6 (.seq (.seq c_L_FnExactSumOf_7 (.cond (.var 23) (.seq c_L_FnExactSumOf_8 .ret) .skip)) (.seq c_L_FnExactSumOf_9 .ret))))))))

abbrev F_L_FnExactSumOf : FuncId := 4

theorem k_L_FnExactSumOf : comp PP (Tryd.f4.ntmps, pinOf 0 [none, none]) [0, 1, 3, 4, 5, 6, 7, 12, 23] (Tryd.f4.body.getD .skip) = some c_L_FnExactSumOf.erase := by kernel_rfl

theorem v_L_FnExactSumOf (rcs : List C) {cs : List C} {r : C} {os : List (Option C)} (hN : (cs.length == 2 && rcs.length == 1) = true) (hret : retOf rcs = r)
    (hW : W PP [0, 1, 3, 4, 5, 6, 7, 12, 23] (Tryd.f4.ntmps, pinOf 0 [none, none]) (Valid PP GG) c_L_FnExactSumOf (entry cs) (Fin (Valid PP GG) [(.give, 4, none)] [none, none] rcs os) (fun _ _ => False) (Fin (Valid PP GG) [(.give, 4, none)] [none, none] rcs os)) : Valid PP GG F_L_FnExactSumOf cs r os :=
  fn_valid_n 2 1 [0, 1, 3, 4, 5, 6, 7, 12, 23] c_L_FnExactSumOf [(.give, 4, none)] [none, none] rcs Tryd.func4 rfl rfl (by kernel_rfl) k_L_FnExactSumOf rfl rfl hN hret hW


/-
loop.example/g00705/spec.SumOf  params 2+0 results [4]
  seq  mid=[0, 3]
    c_S_SumOf_0
    seq  mid=[5]
      c_S_SumOf_1 DRAW
      seq  mid=[4]
        c_S_SumOf_2
        ret
-/
def c_S_SumOf_0 : ACode := .reg [⟨.var 3, .box (.var 1), none, []⟩,
  ⟨.var 4, .mv (.const (.d (.int .i64 0))), none, []⟩] false
def c_S_SumOf_1 : ACode := .reg [⟨.loc 6, .mv (.var 0), none, []⟩,
  ⟨.loc 7, .call (.fn 17) [(.loc 6)] [.borrow], none, [0]⟩,
  ⟨.loc 8, .bin .str .add (.loc 7) (.const (.d (.str [10]))), none, [1, 0]⟩,
  ⟨.loc 9, .fld 0 (.var 3), none, []⟩,
  ⟨.loc 10, .load false 1 (.loc 9), none, [3]⟩,
  ⟨.loc 11, .call (.fn 17) [(.loc 10)] [.borrow], none, [4, 3, 1, 0]⟩,
  ⟨.loc 12, .bin .str .add (.loc 8) (.loc 11), none, [2, 5, 4, 3, 1, 0]⟩,
  ⟨.loc 13, .bin .str .add (.loc 12) (.const (.d (.str [10]))), none, [6, 2, 5, 4, 3, 1, 0]⟩,
  ⟨.loc 14, .fld 1 (.var 3), none, []⟩,
  ⟨.loc 15, .load false 1 (.loc 14), none, [8]⟩,
  ⟨.loc 16, .call (.fn 17) [(.loc 15)] [.borrow], none, [9, 8, 5, 4, 3, 1, 0]⟩,
  ⟨.loc 17, .bin .str .add (.loc 13) (.loc 16), none, [7, 6, 2, 10, 9, 8, 5, 4, 3, 1, 0]⟩,
  ⟨.loc 18, .bin .str .add (.loc 17) (.const (.d (.str [10]))), none, [11, 7, 6, 2, 10, 9, 8, 5, 4, 3, 1, 0]⟩,
  ⟨.loc 19, .fld 2 (.var 3), none, []⟩,
  ⟨.loc 20, .load false 1 (.loc 19), none, [13]⟩,
  ⟨.loc 21, .call (.fn 17) [(.loc 20)] [.borrow], none, [14, 13, 10, 9, 8, 5, 4, 3, 1, 0]⟩,
  ⟨.loc 22, .bin .str .add (.loc 18) (.loc 21), none, [12, 11, 7, 6, 2, 15, 14, 13, 10, 9, 8, 5, 4, 3, 1, 0]⟩,
  ⟨.loc 23, .bin .str .add (.loc 22) (.const (.d (.str [10]))), none, [16, 12, 11, 7, 6, 2, 15, 14, 13, 10, 9, 8, 5, 4, 3, 1, 0]⟩,
  ⟨.loc 24, .fld 3 (.var 3), none, []⟩,
  ⟨.loc 25, .load false 1 (.loc 24), none, [18]⟩,
  ⟨.loc 26, .bin .str .add (.loc 23) (.loc 25), none, [17, 16, 12, 11, 7, 6, 2, 15, 14, 13, 10, 9, 8, 5, 4, 3, 1, 0, 19, 18]⟩,
  ⟨.loc 27, .bin .str .add (.loc 26) (.const (.d (.str [10]))), none, [20, 17, 16, 12, 11, 7, 6, 2, 15, 14, 13, 10, 9, 8, 5, 4, 3, 1, 0, 19, 18]⟩,
  ⟨.loc 28, .fld 4 (.var 3), none, []⟩,
  ⟨.loc 29, .load false 1 (.loc 28), none, [22]⟩,
  ⟨.loc 30, .bin .str .add (.loc 27) (.loc 29), none, [21, 20, 17, 16, 12, 11, 7, 6, 2, 15, 14, 13, 10, 9, 8, 5, 4, 3, 1, 0, 19, 18, 23, 22]⟩,
  ⟨.loc 31, .bin .str .add (.loc 30) (.const (.d (.str [10]))), none, [24, 21, 20, 17, 16, 12, 11, 7, 6, 2, 15, 14, 13, 10, 9, 8, 5, 4, 3, 1, 0, 19, 18, 23, 22]⟩,
  ⟨.loc 32, .fld 5 (.var 3), none, []⟩,
  ⟨.loc 33, .load false 1 (.loc 32), none, [26]⟩,
  ⟨.loc 34, .call (.fn 17) [(.loc 33)] [.borrow], none, [27, 26, 15, 14, 13, 10, 9, 8, 5, 4, 3, 1, 0]⟩,
  ⟨.loc 35, .bin .str .add (.loc 31) (.loc 34), none, [25, 24, 21, 20, 17, 16, 12, 11, 7, 6, 2, 19, 18, 23, 22, 28, 27, 26, 15, 14, 13, 10, 9, 8, 5, 4, 3, 1, 0]⟩,
  ⟨.var 5, .mv (.loc 35), none, [29, 25, 24, 21, 20, 17, 16, 12, 11, 7, 6, 2, 19, 18, 23, 22, 28, 27, 26, 15, 14, 13, 10, 9, 8, 5, 4, 3, 1, 0]⟩] true
def c_S_SumOf_2 : ACode := .reg [⟨.loc 36, .mv (.var 5), none, []⟩,
  ⟨.loc 37, .s2b (.loc 36), none, []⟩,
  ⟨.loc 38, .call (.fn 19) [(.loc 37)] [.borrow], none, []⟩,
  ⟨.var 4, .mv (.loc 38), none, []⟩] false
def c_S_SumOf : ACode := (.seq c_S_SumOf_0 (.seq c_S_SumOf_1 (.seq c_S_SumOf_2 .ret)))

abbrev F_S_SumOf : FuncId := 10

theorem k_S_SumOf : comp PP (Tryd.f10.ntmps, pinOf 0 [none, none]) [0, 1, 3, 4, 5] (Tryd.f10.body.getD .skip) = some c_S_SumOf.erase := by kernel_rfl

theorem v_S_SumOf (rcs : List C) {cs : List C} {r : C} {os : List (Option C)} (hN : (cs.length == 2 && rcs.length == 1) = true) (hret : retOf rcs = r)
    (hW : W PP [0, 1, 3, 4, 5] (Tryd.f10.ntmps, pinOf 0 [none, none]) (Valid PP GG) c_S_SumOf (entry cs) (Fin (Valid PP GG) [(.give, 4, none)] [none, none] rcs os) (fun _ _ => False) (Fin (Valid PP GG) [(.give, 4, none)] [none, none] rcs os)) : Valid PP GG F_S_SumOf cs r os :=
  fn_valid_n 2 1 [0, 1, 3, 4, 5] c_S_SumOf [(.give, 4, none)] [none, none] rcs Tryd.func10 rfl rfl (by kernel_rfl) k_S_SumOf rfl rfl hN hret hW


/-
loop.example/g00705/impl.SumOf  params 2+0 results [4]
  seq  mid=[0, 3]
    c_I_SumOf_0
    seq  mid=[4]
      c_I_SumOf_1
      ret
-/
def c_I_SumOf_0 : ACode := .reg [⟨.var 3, .box (.var 1), none, []⟩,
  ⟨.var 4, .mv (.const (.d (.int .i64 0))), none, []⟩] false
def c_I_SumOf_1 : ACode := .reg [⟨.loc 5, .mv (.var 0), none, []⟩,
  ⟨.loc 6, .load true 7 (.var 3), none, []⟩,
  ⟨.loc 7, .call (.fn 20) [(.loc 5), (.loc 6)] [.borrow, .borrow], none, []⟩,
  ⟨.var 4, .mv (.loc 7), none, []⟩] false
def c_I_SumOf : ACode := (.seq c_I_SumOf_0 (.seq c_I_SumOf_1 .ret))

abbrev F_I_SumOf : FuncId := 11

theorem k_I_SumOf : comp PP (Tryd.f11.ntmps, pinOf 0 [none, none]) [0, 1, 3, 4] (Tryd.f11.body.getD .skip) = some c_I_SumOf.erase := by kernel_rfl

theorem v_I_SumOf (rcs : List C) {cs : List C} {r : C} {os : List (Option C)} (hN : (cs.length == 2 && rcs.length == 1) = true) (hret : retOf rcs = r)
    (hW : W PP [0, 1, 3, 4] (Tryd.f11.ntmps, pinOf 0 [none, none]) (Valid PP GG) c_I_SumOf (entry cs) (Fin (Valid PP GG) [(.give, 4, none)] [none, none] rcs os) (fun _ _ => False) (Fin (Valid PP GG) [(.give, 4, none)] [none, none] rcs os)) : Valid PP GG F_I_SumOf cs r os :=
  fn_valid_n 2 1 [0, 1, 3, 4] c_I_SumOf [(.give, 4, none)] [none, none] rcs Tryd.func11 rfl rfl (by kernel_rfl) k_I_SumOf rfl rfl hN hret hW


/-
loop.example/g00705/spec.Digest  params 1+0 results [2]
  seq  mid=[0]
    c_S_Digest_0
    seq  mid=[0, 3]
      c_S_Digest_1
      seq  mid=[0, 3, 4]
        c_S_Digest_2
        seq  mid=[3, 4]
          seq  mid=[0, 3, 4, 5]
            c_S_Digest_3
            block 0
              loop live=[0, 3, 4, 5]
                seq  mid=[0, 3, 4, 5]
                  seq  mid=[0, 3, 4, 5, 9]
                    c_S_Digest_4
                    cond (.var 9)
                      skip
                      exit 0
                  seq  mid=[0, 3, 4, 5]
                    block 1
                      seq  mid=[0, 3, 4, 5]
                        c_S_Digest_5
                        c_S_Digest_6
                    c_S_Digest_7
          seq  mid=[2]
            c_S_Digest_9
            ret
-/
def c_S_Digest_0 : ACode := .reg [⟨.var 2, .mv (.const (.d (.int .i64 0))), none, []⟩] false
def c_S_Digest_1 : ACode := .reg [⟨.var 3, .mv (.const (.d (.int .i64 7))), none, []⟩] false
def c_S_Digest_2 : ACode := .reg [⟨.var 4, .mv (.const (.d (.int .i64 11))), none, []⟩] false
def c_S_Digest_3 : ACode := .reg [⟨.var 5, .mv (.const (.d (.int .i64 0))), none, []⟩] false
def c_S_Digest_4 : ACode := .reg [⟨.loc 6, .mv (.var 5), none, []⟩,
  ⟨.loc 7, .mv (.var 0), none, []⟩,
  ⟨.loc 8, .len false (.loc 7), none, []⟩,
  ⟨.var 9, .bin .int .lss (.loc 6) (.loc 8), none, []⟩] false
def c_S_Digest_5 : ACode := .reg [⟨.loc 12, .mv (.var 3), none, []⟩,
  ⟨.loc 13, .bin .int .mul (.const (.d (.int .i64 131))) (.loc 12), none, []⟩,
  ⟨.loc 14, .mv (.var 0), none, []⟩,
  ⟨.loc 15, .mv (.var 5), none, []⟩,
  ⟨.loc 16, .idxA 1 (.loc 14) (.loc 15), none, []⟩,
  ⟨.loc 17, .load false 1 (.loc 16), none, []⟩,
  ⟨.loc 18, .conv .i64 (.loc 17), none, []⟩,
  ⟨.loc 19, .bin .int .add (.loc 13) (.loc 18), none, []⟩,
  ⟨.loc 20, .bin .int .add (.loc 19) (.const (.d (.int .i64 1))), none, []⟩,
  ⟨.loc 21, .bin .int .rem (.loc 20) (.const (.d (.int .i64 2147483647))), none, []⟩,
  ⟨.var 3, .mv (.loc 21), none, []⟩] false
def c_S_Digest_6 : ACode := .reg [⟨.loc 22, .mv (.var 4), none, []⟩,
  ⟨.loc 23, .bin .int .mul (.const (.d (.int .i64 137))) (.loc 22), none, []⟩,
  ⟨.loc 24, .mv (.var 0), none, []⟩,
  ⟨.loc 25, .mv (.var 5), none, []⟩,
  ⟨.loc 26, .idxA 1 (.loc 24) (.loc 25), none, []⟩,
  ⟨.loc 27, .load false 1 (.loc 26), none, []⟩,
  ⟨.loc 28, .conv .i64 (.loc 27), none, []⟩,
  ⟨.loc 29, .bin .int .add (.loc 23) (.loc 28), none, []⟩,
  ⟨.loc 30, .bin .int .add (.loc 29) (.const (.d (.int .i64 3))), none, []⟩,
  ⟨.loc 31, .bin .int .rem (.loc 30) (.const (.d (.int .i64 2147483629))), none, []⟩,
  ⟨.var 4, .mv (.loc 31), none, []⟩] false
def c_S_Digest_7 : ACode := .reg [⟨.loc 10, .mv (.var 5), none, []⟩,
  ⟨.loc 11, .bin .int .add (.loc 10) (.const (.d (.int .i64 1))), none, []⟩,
  ⟨.var 5, .mv (.loc 11), none, []⟩] false
def c_S_Digest_8 : ACode := (.seq (.seq c_S_Digest_4 (.cond (.var 9) .skip (.exit 0))) (.seq (.block 1 (.seq c_S_Digest_5 c_S_Digest_6)) c_S_Digest_7))
def c_S_Digest_9 : ACode := .reg [⟨.loc 32, .mv (.var 3), none, []⟩,
  ⟨.loc 33, .bin .int .mul (.const (.d (.int .i64 2147483648))) (.loc 32), none, []⟩,
  ⟨.loc 34, .mv (.var 4), none, []⟩,
  ⟨.loc 35, .bin .int .add (.loc 33) (.loc 34), none, []⟩,
  ⟨.var 2, .mv (.loc 35), none, []⟩] false
def c_S_Digest : ACode := (.seq c_S_Digest_0 (.seq c_S_Digest_1 (.seq c_S_Digest_2 (.seq (.seq c_S_Digest_3 (.block 0 (.loop [0, 3, 4, 5] c_S_Digest_8))) (.seq c_S_Digest_9 .ret)))))

abbrev F_S_Digest : FuncId := 19

theorem k_S_Digest : comp PP (Tryd.f19.ntmps, pinOf 0 [none]) [0, 2, 3, 4, 5, 9] (Tryd.f19.body.getD .skip) = some c_S_Digest.erase := by kernel_rfl

theorem v_S_Digest (rcs : List C) {cs : List C} {r : C} {os : List (Option C)} (hN : (cs.length == 1 && rcs.length == 1) = true) (hret : retOf rcs = r)
    (hW : W PP [0, 2, 3, 4, 5, 9] (Tryd.f19.ntmps, pinOf 0 [none]) (Valid PP GG) c_S_Digest (entry cs) (Fin (Valid PP GG) [(.give, 2, none)] [none] rcs os) (fun _ _ => False) (Fin (Valid PP GG) [(.give, 2, none)] [none] rcs os)) : Valid PP GG F_S_Digest cs r os :=
  fn_valid_n 1 1 [0, 2, 3, 4, 5, 9] c_S_Digest [(.give, 2, none)] [none] rcs Tryd.func19 rfl rfl (by kernel_rfl) k_S_Digest rfl rfl hN hret hW


/-
loop.example/g00705/impl.sumOf  params 2+0 results [4]
  seq  mid=[0, 3]
    c_I_sumOf_0
    seq  mid=[5]
      c_I_sumOf_1 DRAW
      seq  mid=[4]
        c_I_sumOf_2
        ret
-/
def c_I_sumOf_0 : ACode := .reg [⟨.var 3, .box (.var 1), none, []⟩,
  ⟨.var 4, .mv (.const (.d (.int .i64 0))), none, []⟩] false
def c_I_sumOf_1 : ACode := .reg [⟨.loc 6, .mv (.var 0), none, []⟩,
  ⟨.loc 7, .call (.fn 18) [(.loc 6)] [.borrow], none, [0]⟩,
  ⟨.loc 8, .fld 0 (.var 3), none, []⟩,
  ⟨.loc 9, .load false 1 (.loc 8), none, [2]⟩,
  ⟨.loc 10, .call (.fn 18) [(.loc 9)] [.borrow], none, [3, 2, 1, 0]⟩,
  ⟨.loc 11, .fld 1 (.var 3), none, []⟩,
  ⟨.loc 12, .load false 1 (.loc 11), none, [5]⟩,
  ⟨.loc 13, .call (.fn 18) [(.loc 12)] [.borrow], none, [6, 5, 4, 3, 2, 1, 0]⟩,
  ⟨.loc 14, .fld 2 (.var 3), none, []⟩,
  ⟨.loc 15, .load false 1 (.loc 14), none, [8]⟩,
  ⟨.loc 16, .call (.fn 18) [(.loc 15)] [.borrow], none, [9, 8, 7, 6, 5, 4, 3, 2, 1, 0]⟩,
  ⟨.loc 17, .fld 3 (.var 3), none, []⟩,
  ⟨.loc 18, .load false 1 (.loc 17), none, [11]⟩,
  ⟨.loc 19, .fld 4 (.var 3), none, []⟩,
  ⟨.loc 20, .load false 1 (.loc 19), none, [13]⟩,
  ⟨.loc 21, .fld 5 (.var 3), none, []⟩,
  ⟨.loc 22, .load false 1 (.loc 21), none, [15]⟩,
  ⟨.loc 23, .call (.fn 18) [(.loc 22)] [.borrow], none, [16, 15, 10, 9, 8, 7, 6, 5, 4, 3, 2, 1, 0]⟩,
  ⟨.loc 24, .lit 0 1 7 [.str []] [(0, (.loc 7)), (1, (.loc 10)), (2, (.loc 13)), (3, (.loc 16)), (4, (.loc 18)), (5, (.loc 20)), (6, (.loc 23))], none, [12, 11, 14, 13, 17, 16, 15, 10, 9, 8, 7, 6, 5, 4, 3, 2, 1, 0]⟩,
  ⟨.var 5, .mv (.loc 24), none, [18, 12, 11, 14, 13, 17, 16, 15, 10, 9, 8, 7, 6, 5, 4, 3, 2, 1, 0]⟩] true
def c_I_sumOf_2 : ACode := .reg [⟨.loc 25, .mv (.var 5), none, []⟩,
  ⟨.loc 26, .call (.fn 27) [(.loc 25), (.const (.d (.str [10])))] [.borrow, .borrow], none, []⟩,
  ⟨.loc 27, .s2b (.loc 26), none, []⟩,
  ⟨.loc 28, .call (.fn 26) [(.loc 27)] [.borrow], none, []⟩,
  ⟨.var 4, .mv (.loc 28), none, []⟩] false
def c_I_sumOf : ACode := (.seq c_I_sumOf_0 (.seq c_I_sumOf_1 (.seq c_I_sumOf_2 .ret)))

abbrev F_I_sumOf : FuncId := 20

theorem k_I_sumOf : comp PP (Tryd.f20.ntmps, pinOf 0 [none, none]) [0, 1, 3, 4, 5] (Tryd.f20.body.getD .skip) = some c_I_sumOf.erase := by kernel_rfl

theorem v_I_sumOf (rcs : List C) {cs : List C} {r : C} {os : List (Option C)} (hN : (cs.length == 2 && rcs.length == 1) = true) (hret : retOf rcs = r)
    (hW : W PP [0, 1, 3, 4, 5] (Tryd.f20.ntmps, pinOf 0 [none, none]) (Valid PP GG) c_I_sumOf (entry cs) (Fin (Valid PP GG) [(.give, 4, none)] [none, none] rcs os) (fun _ _ => False) (Fin (Valid PP GG) [(.give, 4, none)] [none, none] rcs os)) : Valid PP GG F_I_sumOf cs r os :=
  fn_valid_n 2 1 [0, 1, 3, 4, 5] c_I_sumOf [(.give, 4, none)] [none, none] rcs Tryd.func20 rfl rfl (by kernel_rfl) k_I_sumOf rfl rfl hN hret hW


/-
loop.example/g00705/impl.digest  params 1+0 results [2]
  seq  mid=[0]
    c_I_digest_0
    seq  mid=[0, 3, 4]
      c_I_digest_1
      seq  mid=[3, 4]
        seq  mid=[3, 4, 7, 8, 9]
          c_I_digest_2
          block 0
            loop live=[3, 4, 7, 8, 9]
              seq  mid=[3, 4, 7, 8, 9, 10]
                c_I_digest_3
                seq  mid=[3, 4, 7, 8, 9]
                  cond (.var 10)
                    skip
                    exit 0
                  seq  mid=[3, 4, 7, 8, 9]
                    block 1
                      seq  mid=[3, 4, 6, 7, 8, 9]
                        c_I_digest_4
                        seq  mid=[3, 4, 6, 7, 8, 9]
                          c_I_digest_5
                          c_I_digest_6
                    c_I_digest_7
        seq  mid=[2]
          c_I_digest_9
          ret
-/
def c_I_digest_0 : ACode := .reg [⟨.var 2, .mv (.const (.d (.int .i64 0))), none, []⟩] false
def c_I_digest_1 : ACode := .reg [⟨.var 3, .mv (.const (.d (.int .i64 7))), none, []⟩,
  ⟨.var 4, .mv (.const (.d (.int .i64 11))), none, []⟩] false
def c_I_digest_2 : ACode := .reg [⟨.var 7, .mv (.var 0), none, []⟩,
  ⟨.var 8, .len false (.var 7), none, []⟩,
  ⟨.var 9, .mv (.const (.d (.int .i64 0))), none, []⟩] false
def c_I_digest_3 : ACode := .reg [⟨.var 10, .bin .int .lss (.var 9) (.var 8), none, []⟩] false
def c_I_digest_4 : ACode := .reg [⟨.loc 11, .idxA 1 (.var 7) (.var 9), none, []⟩,
  ⟨.loc 12, .load false 1 (.loc 11), none, []⟩,
  ⟨.var 6, .mv (.loc 12), none, []⟩] false
def c_I_digest_5 : ACode := .reg [⟨.loc 13, .mv (.var 3), none, []⟩,
  ⟨.loc 14, .bin .int .mul (.const (.d (.int .i64 131))) (.loc 13), none, []⟩,
  ⟨.loc 15, .mv (.var 6), none, []⟩,
  ⟨.loc 16, .conv .i64 (.loc 15), none, []⟩,
  ⟨.loc 17, .bin .int .add (.loc 14) (.loc 16), none, []⟩,
  ⟨.loc 18, .bin .int .add (.loc 17) (.const (.d (.int .i64 1))), none, []⟩,
  ⟨.loc 19, .bin .int .rem (.loc 18) (.const (.d (.int .i64 2147483647))), none, []⟩,
  ⟨.var 3, .mv (.loc 19), none, []⟩] false
def c_I_digest_6 : ACode := .reg [⟨.loc 20, .mv (.var 4), none, []⟩,
  ⟨.loc 21, .bin .int .mul (.const (.d (.int .i64 137))) (.loc 20), none, []⟩,
  ⟨.loc 22, .mv (.var 6), none, []⟩,
  ⟨.loc 23, .conv .i64 (.loc 22), none, []⟩,
  ⟨.loc 24, .bin .int .add (.loc 21) (.loc 23), none, []⟩,
  ⟨.loc 25, .bin .int .add (.loc 24) (.const (.d (.int .i64 3))), none, []⟩,
  ⟨.loc 26, .bin .int .rem (.loc 25) (.const (.d (.int .i64 2147483629))), none, []⟩,
  ⟨.var 4, .mv (.loc 26), none, []⟩] false
def c_I_digest_7 : ACode := .reg [⟨.loc 27, .bin .int .add (.var 9) (.const (.d (.int .i64 1))), none, []⟩,
  ⟨.var 9, .mv (.loc 27), none, []⟩] false
def c_I_digest_8 : ACode := (.seq c_I_digest_3 (.seq (.cond (.var 10) .skip (.exit 0)) (.seq (.block 1 (.seq c_I_digest_4 (.seq c_I_digest_5 c_I_digest_6))) c_I_digest_7)))
def c_I_digest_9 : ACode := .reg [⟨.loc 28, .mv (.var 3), none, []⟩,
  ⟨.loc 29, .bin .int .mul (.const (.d (.int .i64 2147483648))) (.loc 28), none, []⟩,
  ⟨.loc 30, .mv (.var 4), none, []⟩,
  ⟨.loc 31, .bin .int .add (.loc 29) (.loc 30), none, []⟩,
  ⟨.var 2, .mv (.loc 31), none, []⟩] false
def c_I_digest : ACode := (.seq c_I_digest_0 (.seq c_I_digest_1 (.seq (.seq c_I_digest_2 (.block 0 (.loop [3, 4, 7, 8, 9] c_I_digest_8))) (.seq c_I_digest_9 .ret))))

abbrev F_I_digest : FuncId := 26

theorem k_I_digest : comp PP (Tryd.f26.ntmps, pinOf 0 [none]) [0, 2, 3, 4, 6, 7, 8, 9, 10] (Tryd.f26.body.getD .skip) = some c_I_digest.erase := by kernel_rfl

theorem v_I_digest (rcs : List C) {cs : List C} {r : C} {os : List (Option C)} (hN : (cs.length == 1 && rcs.length == 1) = true) (hret : retOf rcs = r)
    (hW : W PP [0, 2, 3, 4, 6, 7, 8, 9, 10] (Tryd.f26.ntmps, pinOf 0 [none]) (Valid PP GG) c_I_digest (entry cs) (Fin (Valid PP GG) [(.give, 2, none)] [none] rcs os) (fun _ _ => False) (Fin (Valid PP GG) [(.give, 2, none)] [none] rcs os)) : Valid PP GG F_I_digest cs r os :=
  fn_valid_n 1 1 [0, 2, 3, 4, 6, 7, 8, 9, 10] c_I_digest [(.give, 2, none)] [none] rcs Tryd.func26 rfl rfl (by kernel_rfl) k_I_digest rfl rfl hN hret hW


end Go.Proofs.YtjdepagpjkoglaaDoor.Ab

namespace Go.Proofs.YtjdepagpjkoglaaDoor.Ab
open Go.Proofs

/-
loop.example/g00705/laws.FnExactRespLine  params 1+0 results [2]
  seq  mid=[1]
    c_L_FnExactRespLine_0
    seq  mid=[1, 3]
      c_L_FnExactRespLine_1
      seq  mid=[1, 3]
        c_L_FnExactRespLine_2
        seq  mid=[1]
          seq  mid=[1, 11]
            c_L_FnExactRespLine_3
            cond (.var 11)
              seq  mid=[2]
                c_L_FnExactRespLine_4
                ret
              skip
          seq  mid=[1, 4]
            c_L_FnExactRespLine_5
            seq  mid=[1, 4, 5]
              c_L_FnExactRespLine_6
              seq  mid=[1, 4, 5, 6]
                c_L_FnExactRespLine_7
                seq  mid=[1, 5]
                  seq  mid=[1, 5, 21]
                    c_L_FnExactRespLine_8
                    cond (.var 21)
                      seq  mid=[2]
                        c_L_FnExactRespLine_9
                        ret
                      skip
                  seq  mid=[]
                    seq  mid=[26]
                      c_L_FnExactRespLine_10 DRAW
                      cond (.var 26)
                        seq  mid=[2]
                          c_L_FnExactRespLine_11
                          ret
                        skip
                    seq  mid=[2]
                      c_L_FnExactRespLine_12
                      ret
-/
def c_L_FnExactRespLine_0 : ACode := .reg [⟨.var 1, .box (.var 0), none, []⟩,
  ⟨.var 2, .mv (.const (.d (.bool false))), none, []⟩] false
def c_L_FnExactRespLine_1 : ACode := .reg [⟨.var 3, .mv (.const (.d (.int .i64 1048576))), none, []⟩] false
def c_L_FnExactRespLine_2 : ACode := .reg [⟨.loc 7, .load true 5 (.var 1), none, []⟩,
  ⟨.loc 8, .mv (.var 3), none, []⟩,
  ⟨.loc 9, .call (.fn 12) [(.loc 7), (.loc 8)] [.borrow, .borrow], none, []⟩,
  ⟨.var 3, .mv (.loc 9), none, []⟩] false
def c_L_FnExactRespLine_3 : ACode := .reg [⟨.loc 10, .mv (.var 3), none, []⟩,
  ⟨.var 11, .bin .int .lss (.loc 10) (.const (.d (.int .i64 0))), none, []⟩] false
def c_L_FnExactRespLine_4 : ACode := .reg [⟨.var 2, .mv (.const (.d (.bool true))), none, []⟩] false
def c_L_FnExactRespLine_5 : ACode := .reg [⟨.loc 12, .load true 5 (.var 1), none, []⟩,
  ⟨.loc 13, .call (.fn 14) [(.loc 12)] [.borrow], none, []⟩,
  ⟨.loc 14, .call (.fn 13) [(.loc 13)] [.borrow], none, []⟩,
  ⟨.var 4, .mv (.loc 14), none, []⟩] false
def c_L_FnExactRespLine_6 : ACode := .reg [⟨.loc 15, .load true 5 (.var 1), none, []⟩,
  ⟨.loc 16, .call (.fn 14) [(.loc 15)] [.borrow], none, []⟩,
  ⟨.var 5, .alloc [.d (.int .i64 0), .d (.int .i64 0), .d (.str []), .d (.str []), .nil 0 1], none, []⟩,
  ⟨.none, .store 5 (.var 5) (.loc 16), none, []⟩] false
def c_L_FnExactRespLine_7 : ACode := .reg [⟨.loc 17, .load true 5 (.var 5), none, []⟩,
  ⟨.loc 18, .call (.fn 15) [(.loc 17)] [.borrow], none, []⟩,
  ⟨.var 6, .mv (.loc 18), none, []⟩] false
def c_L_FnExactRespLine_8 : ACode := .reg [⟨.loc 19, .mv (.var 6), none, []⟩,
  ⟨.loc 20, .mv (.var 4), none, []⟩,
  ⟨.var 21, .bin .str .neq (.loc 19) (.loc 20), none, []⟩] false
def c_L_FnExactRespLine_9 : ACode := .reg [⟨.var 2, .mv (.const (.d (.bool false))), none, []⟩] false
def c_L_FnExactRespLine_10 : ACode := .reg [⟨.loc 22, .load true 5 (.var 5), none, []⟩,
  ⟨.loc 23, .load true 5 (.var 1), none, []⟩,
  ⟨.loc 24, .call (.fn 14) [(.loc 23)] [.borrow], none, [1]⟩,
  ⟨.loc 25, .call (.fn 16) [(.loc 22), (.loc 24)] [.borrow, .borrow], none, [0, 2, 1]⟩,
  ⟨.var 26, .un .not (.loc 25), none, [3, 0, 2, 1]⟩] true
def c_L_FnExactRespLine_11 : ACode := .reg [⟨.var 2, .mv (.const (.d (.bool false))), none, []⟩] false
def c_L_FnExactRespLine_12 : ACode := .reg [⟨.var 2, .mv (.const (.d (.bool true))), none, []⟩] false
def c_L_FnExactRespLine : ACode := (.seq c_L_FnExactRespLine_0 (.seq c_L_FnExactRespLine_1 (.seq c_L_FnExactRespLine_2 (.seq (.seq c_L_FnExactRespLine_3 (.cond (.var 11) (.seq c_L_FnExactRespLine_4 .ret) .skip)) (.seq c_L_FnExactRespLine_5 (.seq c_L_FnExactRespLine_6 (.seq c_L_FnExactRespLine_7 (.seq (.seq c_L_FnExactRespLine_8 (.cond (.var 21) (.seq c_L_FnExactRespLine_9 .ret) .skip)) (.seq (.seq c_L_FnExactRespLine_10 (.cond (.var 26) (.seq c_L_FnExactRespLine_11 .ret) .skip)) (.seq c_L_FnExactRespLine_12 .ret))))))))))

abbrev F_L_FnExactRespLine : FuncId := 5

theorem k_L_FnExactRespLine : comp PP (Tryd.f5.ntmps, pinOf 0 [none]) [0, 1, 2, 3, 4, 5, 6, 11, 21, 26] (Tryd.f5.body.getD .skip) = some c_L_FnExactRespLine.erase := by kernel_rfl

theorem v_L_FnExactRespLine (rcs : List C) {cs : List C} {r : C} {os : List (Option C)} (hN : (cs.length == 1 && rcs.length == 1) = true) (hret : retOf rcs = r)
    (hW : W PP [0, 1, 2, 3, 4, 5, 6, 11, 21, 26] (Tryd.f5.ntmps, pinOf 0 [none]) (Valid PP GG) c_L_FnExactRespLine (entry cs) (Fin (Valid PP GG) [(.give, 2, none)] [none] rcs os) (fun _ _ => False) (Fin (Valid PP GG) [(.give, 2, none)] [none] rcs os)) : Valid PP GG F_L_FnExactRespLine cs r os :=
  fn_valid_n 1 1 [0, 1, 2, 3, 4, 5, 6, 11, 21, 26] c_L_FnExactRespLine [(.give, 2, none)] [none] rcs Tryd.func5 rfl rfl (by kernel_rfl) k_L_FnExactRespLine rfl rfl hN hret hW


/-
loop.example/g00705/laws.szResp  params 2+0 results [4]
  seq  mid=[1, 2]
    c_L_szResp_0
    seq  mid=[1, 2]
      c_L_szResp_1
      seq  mid=[1, 2]
        seq  mid=[1, 2, 11]
          c_L_szResp_2
          cond (.var 11)
            seq  mid=[4]
              c_L_szResp_3
              ret
            skip
        seq  mid=[1, 2]
          c_L_szResp_4
          seq  mid=[1, 2]
            seq  mid=[1, 2, 18]
              c_L_szResp_5
              cond (.var 18)
                seq  mid=[4]
                  c_L_szResp_6
                  ret
                skip
            seq  mid=[1]
              c_L_szResp_7
              seq  mid=[1]
                seq  mid=[1, 24]
                  c_L_szResp_8
                  cond (.var 24)
                    seq  mid=[4]
                      c_L_szResp_9
                      ret
                    skip
                seq  mid=[4]
                  c_L_szResp_10
                  ret
-/
def c_L_szResp_0 : ACode := .reg [⟨.var 2, .box (.var 0), none, []⟩,
  ⟨.var 4, .mv (.const (.d (.int .i64 0))), none, []⟩] false
def c_L_szResp_1 : ACode := .reg [⟨.loc 5, .mv (.var 1), none, []⟩,
  ⟨.loc 6, .fld 2 (.var 2), none, []⟩,
  ⟨.loc 7, .load false 1 (.loc 6), none, []⟩,
  ⟨.loc 8, .len true (.loc 7), none, []⟩,
  ⟨.loc 9, .bin .int .sub (.loc 5) (.loc 8), none, []⟩,
  ⟨.var 1, .mv (.loc 9), none, []⟩] false
def c_L_szResp_2 : ACode := .reg [⟨.loc 10, .mv (.var 1), none, []⟩,
  ⟨.var 11, .bin .int .lss (.loc 10) (.const (.d (.int .i64 0))), none, []⟩] false
def c_L_szResp_3 : ACode := .reg [⟨.var 4, .mv (.const (.d (.int .i64 (-1)))), none, []⟩] false
def c_L_szResp_4 : ACode := .reg [⟨.loc 12, .mv (.var 1), none, []⟩,
  ⟨.loc 13, .fld 3 (.var 2), none, []⟩,
  ⟨.loc 14, .load false 1 (.loc 13), none, []⟩,
  ⟨.loc 15, .len true (.loc 14), none, []⟩,
  ⟨.loc 16, .bin .int .sub (.loc 12) (.loc 15), none, []⟩,
  ⟨.var 1, .mv (.loc 16), none, []⟩] false
def c_L_szResp_5 : ACode := .reg [⟨.loc 17, .mv (.var 1), none, []⟩,
  ⟨.var 18, .bin .int .lss (.loc 17) (.const (.d (.int .i64 0))), none, []⟩] false
def c_L_szResp_6 : ACode := .reg [⟨.var 4, .mv (.const (.d (.int .i64 (-1)))), none, []⟩] false
def c_L_szResp_7 : ACode := .reg [⟨.loc 19, .fld 4 (.var 2), none, []⟩,
  ⟨.loc 20, .load false 1 (.loc 19), none, []⟩,
  ⟨.loc 21, .mv (.var 1), none, []⟩,
  ⟨.loc 22, .call (.fn 21) [(.loc 20), (.loc 21)] [.borrow, .borrow], none, []⟩,
  ⟨.var 1, .mv (.loc 22), none, []⟩] false
def c_L_szResp_8 : ACode := .reg [⟨.loc 23, .mv (.var 1), none, []⟩,
  ⟨.var 24, .bin .int .lss (.loc 23) (.const (.d (.int .i64 0))), none, []⟩] false
def c_L_szResp_9 : ACode := .reg [⟨.var 4, .mv (.const (.d (.int .i64 (-1)))), none, []⟩] false
def c_L_szResp_10 : ACode := .reg [⟨.loc 25, .mv (.var 1), none, []⟩,
  ⟨.var 4, .mv (.loc 25), none, []⟩] false
def c_L_szResp : ACode := (.seq c_L_szResp_0 (.seq c_L_szResp_1 (.seq (.seq c_L_szResp_2 (.cond (.var 11) (.seq c_L_szResp_3 .ret) .skip)) (.seq c_L_szResp_4 (.seq (.seq c_L_szResp_5 (.cond (.var 18) (.seq c_L_szResp_6 .ret) .skip)) (.seq c_L_szResp_7 (.seq (.seq c_L_szResp_8 (.cond (.var 24) (.seq c_L_szResp_9 .ret) .skip)) (.seq c_L_szResp_10 .ret))))))))

abbrev F_L_szResp : FuncId := 12

theorem k_L_szResp : comp PP (Tryd.f12.ntmps, pinOf 0 [none, none]) [0, 1, 2, 4, 11, 18, 24] (Tryd.f12.body.getD .skip) = some c_L_szResp.erase := by kernel_rfl

theorem v_L_szResp (rcs : List C) {cs : List C} {r : C} {os : List (Option C)} (hN : (cs.length == 2 && rcs.length == 1) = true) (hret : retOf rcs = r)
    (hW : W PP [0, 1, 2, 4, 11, 18, 24] (Tryd.f12.ntmps, pinOf 0 [none, none]) (Valid PP GG) c_L_szResp (entry cs) (Fin (Valid PP GG) [(.give, 4, none)] [none, none] rcs os) (fun _ _ => False) (Fin (Valid PP GG) [(.give, 4, none)] [none, none] rcs os)) : Valid PP GG F_L_szResp cs r os :=
  fn_valid_n 2 1 [0, 1, 2, 4, 11, 18, 24] c_L_szResp [(.give, 4, none)] [none, none] rcs Tryd.func12 rfl rfl (by kernel_rfl) k_L_szResp rfl rfl hN hret hW


/-
loop.example/g00705/spec.RespLine  params 1+0 results [2]
  seq  mid=[1]
    c_S_RespLine_0
    seq  mid=[1]
      seq  mid=[1, 12]
        c_S_RespLine_1
        cond (.var 12)
          seq  mid=[2]
            c_S_RespLine_2
            ret
          skip
      seq  mid=[1, 3]
        c_S_RespLine_3
        seq  mid=[1, 3]
          seq  mid=[1, 3, 23]
            c_S_RespLine_4
            cond (.var 23)
              c_S_RespLine_5
              skip
          seq  mid=[1, 3]
            seq  mid=[1, 3, 31]
              c_S_RespLine_6
              cond (.var 31)
                seq  mid=[1, 3, 4]
                  c_S_RespLine_7
                  seq  mid=[1, 3, 4, 5]
                    c_S_RespLine_8
                    seq  mid=[1, 3, 4]
                      seq  mid=[1, 3, 4, 5, 6]
                        c_S_RespLine_9
                        block 0
                          loop live=[1, 3, 4, 5, 6]
                            seq  mid=[1, 3, 4, 5, 6]
                              seq  mid=[1, 3, 4, 5, 6, 38]
                                c_S_RespLine_10
                                cond (.var 38)
                                  skip
                                  exit 0
                              seq  mid=[1, 3, 4, 5, 6]
                                block 1
                                  c_S_RespLine_11 DRAW
                                c_S_RespLine_12
                      c_S_RespLine_14
                skip
            seq  mid=[1, 3, 7]
              c_S_RespLine_15
              seq  mid=[3, 7]
                seq  mid=[1, 3, 7, 8]
                  c_S_RespLine_16
                  block 2
                    loop live=[1, 3, 7, 8]
                      seq  mid=[1, 3, 7, 8]
                        seq  mid=[1, 3, 7, 8, 67]
                          c_S_RespLine_17
                          cond (.var 67)
                            skip
                            exit 2
                        seq  mid=[1, 3, 7, 8]
                          block 3
                            seq  mid=[1, 3, 7, 8]
                              c_S_RespLine_18
                              seq  mid=[1, 3, 7, 8, 9]
                                c_S_RespLine_19
                                block 4
                                  loop live=[1, 3, 7, 8, 9]
                                    seq  mid=[1, 3, 7, 8, 9]
                                      seq  mid=[1, 3, 7, 8, 9, 80]
                                        c_S_RespLine_20
                                        cond (.var 80)
                                          skip
                                          exit 4
                                      seq  mid=[1, 3, 7, 8, 9]
                                        block 5
                                          c_S_RespLine_21
                                        c_S_RespLine_22
                          c_S_RespLine_24
                seq  mid=[2]
                  c_S_RespLine_26
                  ret
-/
def c_S_RespLine_0 : ACode := .reg [⟨.var 1, .box (.var 0), none, []⟩,
  ⟨.var 2, .mv (.const (.d (.str []))), none, []⟩] false
def c_S_RespLine_1 : ACode := .reg [⟨.loc 10, .fld 0 (.var 1), none, []⟩,
  ⟨.loc 11, .load false 1 (.loc 10), none, []⟩,
  ⟨.var 12, .bin .int .neq (.loc 11) (.const (.d (.int .i64 0))), none, []⟩] false
def c_S_RespLine_2 : ACode := .reg [⟨.loc 13, .fld 0 (.var 1), none, []⟩,
  ⟨.loc 14, .load false 1 (.loc 13), none, []⟩,
  ⟨.loc 15, .call (.fn 17) [(.loc 14)] [.borrow], none, []⟩,
  ⟨.loc 16, .bin .str .add (.const (.d (.str [110, 111, 32]))) (.loc 15), none, []⟩,
  ⟨.var 2, .mv (.loc 16), none, []⟩] false
def c_S_RespLine_3 : ACode := .reg [⟨.loc 17, .fld 1 (.var 1), none, []⟩,
  ⟨.loc 18, .load false 1 (.loc 17), none, []⟩,
  ⟨.loc 19, .call (.fn 17) [(.loc 18)] [.borrow], none, []⟩,
  ⟨.loc 20, .bin .str .add (.const (.d (.str [111, 107, 32]))) (.loc 19), none, []⟩,
  ⟨.var 3, .mv (.loc 20), none, []⟩] false
def c_S_RespLine_4 : ACode := .reg [⟨.loc 21, .fld 2 (.var 1), none, []⟩,
  ⟨.loc 22, .load false 1 (.loc 21), none, []⟩,
  ⟨.var 23, .bin .str .neq (.loc 22) (.const (.d (.str []))), none, []⟩] false
def c_S_RespLine_5 : ACode := .reg [⟨.loc 24, .mv (.var 3), none, []⟩,
  ⟨.loc 25, .bin .str .add (.loc 24) (.const (.d (.str [32]))), none, []⟩,
  ⟨.loc 26, .fld 2 (.var 1), none, []⟩,
  ⟨.loc 27, .load false 1 (.loc 26), none, []⟩,
  ⟨.loc 28, .bin .str .add (.loc 25) (.loc 27), none, []⟩,
  ⟨.var 3, .mv (.loc 28), none, []⟩] false
def c_S_RespLine_6 : ACode := .reg [⟨.loc 29, .fld 3 (.var 1), none, []⟩,
  ⟨.loc 30, .load false 1 (.loc 29), none, []⟩,
  ⟨.var 31, .bin .str .neq (.loc 30) (.const (.d (.str []))), none, []⟩] false
def c_S_RespLine_7 : ACode := .reg [⟨.loc 32, .lit 0 1 2 [.int .u8 0] [(0, (.const (.d (.int .u8 32)))), (1, (.const (.d (.int .u8 35))))], none, []⟩,
  ⟨.loc 33, .mark (.loc 32), none, []⟩,
  ⟨.var 4, .mv (.loc 33), none, []⟩] false
def c_S_RespLine_8 : ACode := .reg [⟨.var 5, .mv (.const (.d (.str [48, 49, 50, 51, 52, 53, 54, 55, 56, 57, 97, 98, 99, 100, 101, 102]))), none, []⟩] false
def c_S_RespLine_9 : ACode := .reg [⟨.var 6, .mv (.const (.d (.int .i64 0))), none, []⟩] false
def c_S_RespLine_10 : ACode := .reg [⟨.loc 34, .mv (.var 6), none, []⟩,
  ⟨.loc 35, .fld 3 (.var 1), none, []⟩,
  ⟨.loc 36, .load false 1 (.loc 35), none, []⟩,
  ⟨.loc 37, .len true (.loc 36), none, []⟩,
  ⟨.var 38, .bin .int .lss (.loc 34) (.loc 37), none, []⟩] false
def c_S_RespLine_11 : ACode := .reg [⟨.loc 41, .mv (.var 4), none, []⟩,
  ⟨.loc 42, .mv (.var 5), none, []⟩,
  ⟨.loc 43, .fld 3 (.var 1), none, []⟩,
  ⟨.loc 44, .load false 1 (.loc 43), none, [2]⟩,
  ⟨.loc 45, .mv (.var 6), none, []⟩,
  ⟨.loc 46, .idxS (.loc 44) (.loc 45), none, [3, 2, 4]⟩,
  ⟨.loc 47, .bin .int .quo (.loc 46) (.const (.d (.int .u8 16))), none, [5, 3, 2, 4]⟩,
  ⟨.loc 48, .idxS (.loc 42) (.loc 47), none, [1, 6, 5, 3, 2, 4]⟩,
  ⟨.loc 49, .mv (.var 5), none, []⟩,
  ⟨.loc 50, .fld 3 (.var 1), none, []⟩,
  ⟨.loc 51, .load false 1 (.loc 50), none, [9]⟩,
  ⟨.loc 52, .mv (.var 6), none, []⟩,
  ⟨.loc 53, .idxS (.loc 51) (.loc 52), none, [10, 9, 11]⟩,
  ⟨.loc 54, .bin .int .rem (.loc 53) (.const (.d (.int .u8 16))), none, [12, 10, 9, 11]⟩,
  ⟨.loc 55, .idxS (.loc 49) (.loc 54), none, [8, 13, 12, 10, 9, 11]⟩,
  ⟨.loc 56, .lit 0 1 2 [.int .u8 0] [(0, (.loc 48)), (1, (.loc 55))], none, [7, 1, 6, 5, 3, 2, 4, 14, 8, 13, 12, 10, 9, 11]⟩,
  ⟨.loc 57, .app 1 1 (.loc 41) (.loc 56), none, [0, 15, 7, 1, 6, 5, 3, 2, 4, 14, 8, 13, 12, 10, 9, 11]⟩,
  ⟨.var 4, .mv (.loc 57), none, [16, 0, 15, 7, 1, 6, 5, 3, 2, 4, 14, 8, 13, 12, 10, 9, 11]⟩] true
def c_S_RespLine_12 : ACode := .reg [⟨.loc 39, .mv (.var 6), none, []⟩,
  ⟨.loc 40, .bin .int .add (.loc 39) (.const (.d (.int .i64 1))), none, []⟩,
  ⟨.var 6, .mv (.loc 40), none, []⟩] false
def c_S_RespLine_13 : ACode := (.seq (.seq c_S_RespLine_10 (.cond (.var 38) .skip (.exit 0))) (.seq (.block 1 c_S_RespLine_11) c_S_RespLine_12))
def c_S_RespLine_14 : ACode := .reg [⟨.loc 58, .mv (.var 3), none, []⟩,
  ⟨.loc 59, .mv (.var 4), none, []⟩,
  ⟨.loc 60, .b2s (.loc 59), none, []⟩,
  ⟨.loc 61, .bin .str .add (.loc 58) (.loc 60), none, []⟩,
  ⟨.var 3, .mv (.loc 61), none, []⟩] false
def c_S_RespLine_15 : ACode := .reg [⟨.loc 62, .lit 0 1 0 [.int .u8 0] [], none, []⟩,
  ⟨.var 7, .mv (.loc 62), none, []⟩] false
def c_S_RespLine_16 : ACode := .reg [⟨.var 8, .mv (.const (.d (.int .i64 0))), none, []⟩] false
def c_S_RespLine_17 : ACode := .reg [⟨.loc 63, .mv (.var 8), none, []⟩,
  ⟨.loc 64, .fld 4 (.var 1), none, []⟩,
  ⟨.loc 65, .load false 1 (.loc 64), none, []⟩,
  ⟨.loc 66, .len false (.loc 65), none, []⟩,
  ⟨.var 67, .bin .int .lss (.loc 63) (.loc 66), none, []⟩] false
def c_S_RespLine_18 : ACode := .reg [⟨.loc 70, .mv (.var 7), none, []⟩,
  ⟨.loc 71, .lit 0 1 1 [.int .u8 0] [(0, (.const (.d (.int .u8 32))))], none, []⟩,
  ⟨.loc 72, .app 1 1 (.loc 70) (.loc 71), none, []⟩,
  ⟨.var 7, .mv (.loc 72), none, []⟩] false
def c_S_RespLine_19 : ACode := .reg [⟨.var 9, .mv (.const (.d (.int .i64 0))), none, []⟩] false
def c_S_RespLine_20 : ACode := .reg [⟨.loc 73, .mv (.var 9), none, []⟩,
  ⟨.loc 74, .fld 4 (.var 1), none, []⟩,
  ⟨.loc 75, .load false 1 (.loc 74), none, []⟩,
  ⟨.loc 76, .mv (.var 8), none, []⟩,
  ⟨.loc 77, .idxA 1 (.loc 75) (.loc 76), none, []⟩,
  ⟨.loc 78, .load false 1 (.loc 77), none, []⟩,
  ⟨.loc 79, .len true (.loc 78), none, []⟩,
  ⟨.var 80, .bin .int .lss (.loc 73) (.loc 79), none, []⟩] false
def c_S_RespLine_21 : ACode := .reg [⟨.loc 83, .mv (.var 7), none, []⟩,
  ⟨.loc 84, .fld 4 (.var 1), none, []⟩,
  ⟨.loc 85, .load false 1 (.loc 84), none, []⟩,
  ⟨.loc 86, .mv (.var 8), none, []⟩,
  ⟨.loc 87, .idxA 1 (.loc 85) (.loc 86), none, []⟩,
  ⟨.loc 88, .load false 1 (.loc 87), none, []⟩,
  ⟨.loc 89, .mv (.var 9), none, []⟩,
  ⟨.loc 90, .idxS (.loc 88) (.loc 89), none, []⟩,
  ⟨.loc 91, .lit 0 1 1 [.int .u8 0] [(0, (.loc 90))], none, []⟩,
  ⟨.loc 92, .app 1 1 (.loc 83) (.loc 91), none, []⟩,
  ⟨.var 7, .mv (.loc 92), none, []⟩] false
def c_S_RespLine_22 : ACode := .reg [⟨.loc 81, .mv (.var 9), none, []⟩,
  ⟨.loc 82, .bin .int .add (.loc 81) (.const (.d (.int .i64 1))), none, []⟩,
  ⟨.var 9, .mv (.loc 82), none, []⟩] false
def c_S_RespLine_23 : ACode := (.seq (.seq c_S_RespLine_20 (.cond (.var 80) .skip (.exit 4))) (.seq (.block 5 c_S_RespLine_21) c_S_RespLine_22))
def c_S_RespLine_24 : ACode := .reg [⟨.loc 68, .mv (.var 8), none, []⟩,
  ⟨.loc 69, .bin .int .add (.loc 68) (.const (.d (.int .i64 1))), none, []⟩,
  ⟨.var 8, .mv (.loc 69), none, []⟩] false
def c_S_RespLine_25 : ACode := (.seq (.seq c_S_RespLine_17 (.cond (.var 67) .skip (.exit 2))) (.seq (.block 3 (.seq c_S_RespLine_18 (.seq c_S_RespLine_19 (.block 4 (.loop [1, 3, 7, 8, 9] c_S_RespLine_23))))) c_S_RespLine_24))
def c_S_RespLine_26 : ACode := .reg [⟨.loc 93, .mv (.var 3), none, []⟩,
  ⟨.loc 94, .mv (.var 7), none, []⟩,
  ⟨.loc 95, .b2s (.loc 94), none, []⟩,
  ⟨.loc 96, .bin .str .add (.loc 93) (.loc 95), none, []⟩,
  ⟨.var 2, .mv (.loc 96), none, []⟩] false
def c_S_RespLine : ACode := (.seq c_S_RespLine_0 (.seq (.seq c_S_RespLine_1 (.cond (.var 12) (.seq c_S_RespLine_2 .ret) .skip)) (.seq c_S_RespLine_3 (.seq (.seq c_S_RespLine_4 (.cond (.var 23) c_S_RespLine_5 .skip)) (.seq (.seq c_S_RespLine_6 (.cond (.var 31) (.seq c_S_RespLine_7 (.seq c_S_RespLine_8 (.seq (.seq c_S_RespLine_9 (.block 0 (.loop [1, 3, 4, 5, 6] c_S_RespLine_13))) c_S_RespLine_14))) .skip)) (.seq c_S_RespLine_15 (.seq (.seq c_S_RespLine_16 (.block 2 (.loop [1, 3, 7, 8] c_S_RespLine_25))) (.seq c_S_RespLine_26 .ret))))))))

abbrev F_S_RespLine : FuncId := 13

theorem k_S_RespLine : comp PP (Tryd.f13.ntmps, pinOf 0 [none]) [0, 1, 2, 3, 4, 5, 6, 7, 8, 9, 12, 23, 31, 38, 67, 80] (Tryd.f13.body.getD .skip) = some c_S_RespLine.erase := by kernel_rfl

theorem v_S_RespLine (rcs : List C) {cs : List C} {r : C} {os : List (Option C)} (hN : (cs.length == 1 && rcs.length == 1) = true) (hret : retOf rcs = r)
    (hW : W PP [0, 1, 2, 3, 4, 5, 6, 7, 8, 9, 12, 23, 31, 38, 67, 80] (Tryd.f13.ntmps, pinOf 0 [none]) (Valid PP GG) c_S_RespLine (entry cs) (Fin (Valid PP GG) [(.give, 2, none)] [none] rcs os) (fun _ _ => False) (Fin (Valid PP GG) [(.give, 2, none)] [none] rcs os)) : Valid PP GG F_S_RespLine cs r os :=
  fn_valid_n 1 1 [0, 1, 2, 3, 4, 5, 6, 7, 8, 9, 12, 23, 31, 38, 67, 80] c_S_RespLine [(.give, 2, none)] [none] rcs Tryd.func13 rfl rfl (by kernel_rfl) k_S_RespLine rfl rfl hN hret hW


/-
loop.example/g00705/laws.toResp  params 1+0 results [2]
  seq  mid=[1, 2]
    c_L_toResp_0
    seq  mid=[1, 2, 3]
      c_L_toResp_1
      seq  mid=[1, 2, 3]
        c_L_toResp_2
        seq  mid=[1, 2, 3]
          c_L_toResp_3
          seq  mid=[1, 2, 3]
            c_L_toResp_4
            seq  mid=[1, 2, 3]
              c_L_toResp_5
              seq  mid=[2, 3]
                c_L_toResp_6
                seq  mid=[2]
                  c_L_toResp_7
                  ret
-/
def c_L_toResp_0 : ACode := .reg [⟨.var 1, .box (.var 0), none, []⟩,
  ⟨.var 2, .alloc [.d (.int .i64 0), .d (.int .i64 0), .d (.str []), .d (.str []), .nil 0 1], none, []⟩] false
def c_L_toResp_1 : ACode := .reg [⟨.var 3, .alloc [.d (.int .i64 0), .d (.int .i64 0), .d (.str []), .d (.str []), .nil 0 1], none, []⟩] false
def c_L_toResp_2 : ACode := .reg [⟨.loc 4, .fld 0 (.var 1), none, []⟩,
  ⟨.loc 5, .load false 1 (.loc 4), none, []⟩,
  ⟨.loc 6, .fld 0 (.var 3), none, []⟩,
  ⟨.none, .store 1 (.loc 6) (.loc 5), none, []⟩] false
def c_L_toResp_3 : ACode := .reg [⟨.loc 7, .fld 1 (.var 1), none, []⟩,
  ⟨.loc 8, .load false 1 (.loc 7), none, []⟩,
  ⟨.loc 9, .fld 1 (.var 3), none, []⟩,
  ⟨.none, .store 1 (.loc 9) (.loc 8), none, []⟩] false
def c_L_toResp_4 : ACode := .reg [⟨.loc 10, .fld 2 (.var 1), none, []⟩,
  ⟨.loc 11, .load false 1 (.loc 10), none, []⟩,
  ⟨.loc 12, .fld 2 (.var 3), none, []⟩,
  ⟨.none, .store 1 (.loc 12) (.loc 11), none, []⟩] false
def c_L_toResp_5 : ACode := .reg [⟨.loc 13, .fld 3 (.var 1), none, []⟩,
  ⟨.loc 14, .load false 1 (.loc 13), none, []⟩,
  ⟨.loc 15, .fld 3 (.var 3), none, []⟩,
  ⟨.none, .store 1 (.loc 15) (.loc 14), none, []⟩] false
def c_L_toResp_6 : ACode := .reg [⟨.loc 16, .fld 4 (.var 1), none, []⟩,
  ⟨.loc 17, .load false 1 (.loc 16), none, []⟩,
  ⟨.loc 18, .call (.fn 22) [(.loc 17)] [.borrow], none, []⟩,
  ⟨.loc 19, .fld 4 (.var 3), none, []⟩,
  ⟨.none, .store 1 (.loc 19) (.loc 18), none, []⟩] false
def c_L_toResp_7 : ACode := .reg [⟨.loc 20, .load true 5 (.var 3), none, []⟩,
  ⟨.none, .store 5 (.var 2) (.loc 20), none, []⟩] false
def c_L_toResp : ACode := (.seq c_L_toResp_0 (.seq c_L_toResp_1 (.seq c_L_toResp_2 (.seq c_L_toResp_3 (.seq c_L_toResp_4 (.seq c_L_toResp_5 (.seq c_L_toResp_6 (.seq c_L_toResp_7 .ret))))))))

abbrev F_L_toResp : FuncId := 14

theorem k_L_toResp : comp PP (Tryd.f14.ntmps, pinOf 0 [none]) [0, 1, 2, 3] (Tryd.f14.body.getD .skip) = some c_L_toResp.erase := by kernel_rfl

theorem v_L_toResp (rcs : List C) {cs : List C} {r : C} {os : List (Option C)} (hN : (cs.length == 1 && rcs.length == 1) = true) (hret : retOf rcs = r)
    (hW : W PP [0, 1, 2, 3] (Tryd.f14.ntmps, pinOf 0 [none]) (Valid PP GG) c_L_toResp (entry cs) (Fin (Valid PP GG) [(.give, 2, some (true, 5))] [none] rcs os) (fun _ _ => False) (Fin (Valid PP GG) [(.give, 2, some (true, 5))] [none] rcs os)) : Valid PP GG F_L_toResp cs r os :=
  fn_valid_n 1 1 [0, 1, 2, 3] c_L_toResp [(.give, 2, some (true, 5))] [none] rcs Tryd.func14 rfl rfl (by kernel_rfl) k_L_toResp rfl rfl hN hret hW


/-
loop.example/g00705/impl.RespLine  params 1+0 results [2]
  seq  mid=[1]
    c_I_RespLine_0
    seq  mid=[1]
      seq  mid=[1, 8]
        c_I_RespLine_1
        cond (.var 8)
          seq  mid=[2]
            c_I_RespLine_2
            ret
          skip
      seq  mid=[1, 3]
        c_I_RespLine_3
        seq  mid=[1, 3]
          seq  mid=[1, 3, 19]
            c_I_RespLine_4
            cond (.var 19)
              c_I_RespLine_5
              skip
          seq  mid=[1, 3]
            seq  mid=[1, 3, 27]
              c_I_RespLine_6
              cond (.var 27)
                c_I_RespLine_7
                skip
            seq  mid=[3]
              seq  mid=[3, 36, 37, 38]
                c_I_RespLine_8
                block 0
                  loop live=[3, 36, 37, 38]
                    seq  mid=[3, 36, 37, 38, 39]
                      c_I_RespLine_9
                      seq  mid=[3, 36, 37, 38]
                        cond (.var 39)
                          skip
                          exit 0
                        seq  mid=[3, 36, 37, 38]
                          block 1
                            seq  mid=[3, 5, 36, 37, 38]
                              c_I_RespLine_10
                              c_I_RespLine_11
                          c_I_RespLine_12
              seq  mid=[2]
                c_I_RespLine_14
                ret
-/
def c_I_RespLine_0 : ACode := .reg [⟨.var 1, .box (.var 0), none, []⟩,
  ⟨.var 2, .mv (.const (.d (.str []))), none, []⟩] false
def c_I_RespLine_1 : ACode := .reg [⟨.loc 6, .fld 0 (.var 1), none, []⟩,
  ⟨.loc 7, .load false 1 (.loc 6), none, []⟩,
  ⟨.var 8, .bin .int .neq (.loc 7) (.const (.d (.int .i64 0))), none, []⟩] false
def c_I_RespLine_2 : ACode := .reg [⟨.loc 9, .fld 0 (.var 1), none, []⟩,
  ⟨.loc 10, .load false 1 (.loc 9), none, []⟩,
  ⟨.loc 11, .call (.fn 18) [(.loc 10)] [.borrow], none, []⟩,
  ⟨.loc 12, .bin .str .add (.const (.d (.str [110, 111, 32]))) (.loc 11), none, []⟩,
  ⟨.var 2, .mv (.loc 12), none, []⟩] false
def c_I_RespLine_3 : ACode := .reg [⟨.loc 13, .fld 1 (.var 1), none, []⟩,
  ⟨.loc 14, .load false 1 (.loc 13), none, []⟩,
  ⟨.loc 15, .call (.fn 18) [(.loc 14)] [.borrow], none, []⟩,
  ⟨.loc 16, .bin .str .add (.const (.d (.str [111, 107, 32]))) (.loc 15), none, []⟩,
  ⟨.var 3, .mv (.loc 16), none, []⟩] false
def c_I_RespLine_4 : ACode := .reg [⟨.loc 17, .fld 2 (.var 1), none, []⟩,
  ⟨.loc 18, .load false 1 (.loc 17), none, []⟩,
  ⟨.var 19, .bin .str .neq (.loc 18) (.const (.d (.str []))), none, []⟩] false
def c_I_RespLine_5 : ACode := .reg [⟨.loc 20, .mv (.var 3), none, []⟩,
  ⟨.loc 21, .fld 2 (.var 1), none, []⟩,
  ⟨.loc 22, .load false 1 (.loc 21), none, []⟩,
  ⟨.loc 23, .bin .str .add (.const (.d (.str [32]))) (.loc 22), none, []⟩,
  ⟨.loc 24, .bin .str .add (.loc 20) (.loc 23), none, []⟩,
  ⟨.var 3, .mv (.loc 24), none, []⟩] false
def c_I_RespLine_6 : ACode := .reg [⟨.loc 25, .fld 3 (.var 1), none, []⟩,
  ⟨.loc 26, .load false 1 (.loc 25), none, []⟩,
  ⟨.var 27, .bin .str .neq (.loc 26) (.const (.d (.str []))), none, []⟩] false
def c_I_RespLine_7 : ACode := .reg [⟨.loc 28, .mv (.var 3), none, []⟩,
  ⟨.loc 29, .fld 3 (.var 1), none, []⟩,
  ⟨.loc 30, .load false 1 (.loc 29), none, []⟩,
  ⟨.loc 31, .s2b (.loc 30), none, []⟩,
  ⟨.loc 32, .call (.fn 23) [(.loc 31)] [.borrow], none, []⟩,
  ⟨.loc 33, .bin .str .add (.const (.d (.str [32, 35]))) (.loc 32), none, []⟩,
  ⟨.loc 34, .bin .str .add (.loc 28) (.loc 33), none, []⟩,
  ⟨.var 3, .mv (.loc 34), none, []⟩] false
def c_I_RespLine_8 : ACode := .reg [⟨.loc 35, .fld 4 (.var 1), none, []⟩,
  ⟨.var 36, .load false 1 (.loc 35), none, []⟩,
  ⟨.var 37, .len false (.var 36), none, []⟩,
  ⟨.var 38, .mv (.const (.d (.int .i64 0))), none, []⟩] false
def c_I_RespLine_9 : ACode := .reg [⟨.var 39, .bin .int .lss (.var 38) (.var 37), none, []⟩] false
def c_I_RespLine_10 : ACode := .reg [⟨.loc 40, .idxA 1 (.var 36) (.var 38), none, []⟩,
  ⟨.loc 41, .load false 1 (.loc 40), none, []⟩,
  ⟨.var 5, .mv (.loc 41), none, []⟩] false
def c_I_RespLine_11 : ACode := .reg [⟨.loc 42, .mv (.var 3), none, []⟩,
  ⟨.loc 43, .mv (.var 5), none, []⟩,
  ⟨.loc 44, .bin .str .add (.const (.d (.str [32]))) (.loc 43), none, []⟩,
  ⟨.loc 45, .bin .str .add (.loc 42) (.loc 44), none, []⟩,
  ⟨.var 3, .mv (.loc 45), none, []⟩] false
def c_I_RespLine_12 : ACode := .reg [⟨.loc 46, .bin .int .add (.var 38) (.const (.d (.int .i64 1))), none, []⟩,
  ⟨.var 38, .mv (.loc 46), none, []⟩] false
def c_I_RespLine_13 : ACode := (.seq c_I_RespLine_9 (.seq (.cond (.var 39) .skip (.exit 0)) (.seq (.block 1 (.seq c_I_RespLine_10 c_I_RespLine_11)) c_I_RespLine_12)))
def c_I_RespLine_14 : ACode := .reg [⟨.loc 47, .mv (.var 3), none, []⟩,
  ⟨.var 2, .mv (.loc 47), none, []⟩] false
def c_I_RespLine : ACode := (.seq c_I_RespLine_0 (.seq (.seq c_I_RespLine_1 (.cond (.var 8) (.seq c_I_RespLine_2 .ret) .skip)) (.seq c_I_RespLine_3 (.seq (.seq c_I_RespLine_4 (.cond (.var 19) c_I_RespLine_5 .skip)) (.seq (.seq c_I_RespLine_6 (.cond (.var 27) c_I_RespLine_7 .skip)) (.seq (.seq c_I_RespLine_8 (.block 0 (.loop [3, 36, 37, 38] c_I_RespLine_13))) (.seq c_I_RespLine_14 .ret)))))))

abbrev F_I_RespLine : FuncId := 15

theorem k_I_RespLine : comp PP (Tryd.f15.ntmps, pinOf 0 [none]) [0, 1, 2, 3, 5, 8, 19, 27, 36, 37, 38, 39] (Tryd.f15.body.getD .skip) = some c_I_RespLine.erase := by kernel_rfl

theorem v_I_RespLine (rcs : List C) {cs : List C} {r : C} {os : List (Option C)} (hN : (cs.length == 1 && rcs.length == 1) = true) (hret : retOf rcs = r)
    (hW : W PP [0, 1, 2, 3, 5, 8, 19, 27, 36, 37, 38, 39] (Tryd.f15.ntmps, pinOf 0 [none]) (Valid PP GG) c_I_RespLine (entry cs) (Fin (Valid PP GG) [(.give, 2, none)] [none] rcs os) (fun _ _ => False) (Fin (Valid PP GG) [(.give, 2, none)] [none] rcs os)) : Valid PP GG F_I_RespLine cs r os :=
  fn_valid_n 1 1 [0, 1, 2, 3, 5, 8, 19, 27, 36, 37, 38, 39] c_I_RespLine [(.give, 2, none)] [none] rcs Tryd.func15 rfl rfl (by kernel_rfl) k_I_RespLine rfl rfl hN hret hW


/-
loop.example/g00705/laws.eqResp  params 2+0 results [4]
  seq  mid=[2, 3]
    c_L_eqResp_0
    seq  mid=[2, 3]
      seq  mid=[2, 3, 9]
        c_L_eqResp_1
        cond (.var 9)
          seq  mid=[4]
            c_L_eqResp_2
            ret
          skip
      seq  mid=[2, 3]
        seq  mid=[2, 3, 14]
          c_L_eqResp_3
          cond (.var 14)
            seq  mid=[4]
              c_L_eqResp_4
              ret
            skip
        seq  mid=[2, 3]
          seq  mid=[2, 3, 19]
            c_L_eqResp_5
            cond (.var 19)
              seq  mid=[4]
                c_L_eqResp_6
                ret
              skip
          seq  mid=[2, 3]
            seq  mid=[2, 3, 24]
              c_L_eqResp_7
              cond (.var 24)
                seq  mid=[4]
                  c_L_eqResp_8
                  ret
                skip
            seq  mid=[]
              seq  mid=[30]
                c_L_eqResp_9
                cond (.var 30)
                  seq  mid=[4]
                    c_L_eqResp_10
                    ret
                  skip
              seq  mid=[4]
                c_L_eqResp_11
                ret
-/
def c_L_eqResp_0 : ACode := .reg [⟨.var 2, .box (.var 0), none, []⟩,
  ⟨.var 3, .box (.var 1), none, []⟩,
  ⟨.var 4, .mv (.const (.d (.bool false))), none, []⟩] false
def c_L_eqResp_1 : ACode := .reg [⟨.loc 5, .fld 0 (.var 2), none, []⟩,
  ⟨.loc 6, .load false 1 (.loc 5), none, []⟩,
  ⟨.loc 7, .fld 0 (.var 3), none, []⟩,
  ⟨.loc 8, .load false 1 (.loc 7), none, []⟩,
  ⟨.var 9, .bin .int .neq (.loc 6) (.loc 8), none, []⟩] false
def c_L_eqResp_2 : ACode := .reg [⟨.var 4, .mv (.const (.d (.bool false))), none, []⟩] false
def c_L_eqResp_3 : ACode := .reg [⟨.loc 10, .fld 1 (.var 2), none, []⟩,
  ⟨.loc 11, .load false 1 (.loc 10), none, []⟩,
  ⟨.loc 12, .fld 1 (.var 3), none, []⟩,
  ⟨.loc 13, .load false 1 (.loc 12), none, []⟩,
  ⟨.var 14, .bin .int .neq (.loc 11) (.loc 13), none, []⟩] false
def c_L_eqResp_4 : ACode := .reg [⟨.var 4, .mv (.const (.d (.bool false))), none, []⟩] false
def c_L_eqResp_5 : ACode := .reg [⟨.loc 15, .fld 2 (.var 2), none, []⟩,
  ⟨.loc 16, .load false 1 (.loc 15), none, []⟩,
  ⟨.loc 17, .fld 2 (.var 3), none, []⟩,
  ⟨.loc 18, .load false 1 (.loc 17), none, []⟩,
  ⟨.var 19, .bin .str .neq (.loc 16) (.loc 18), none, []⟩] false
def c_L_eqResp_6 : ACode := .reg [⟨.var 4, .mv (.const (.d (.bool false))), none, []⟩] false
def c_L_eqResp_7 : ACode := .reg [⟨.loc 20, .fld 3 (.var 2), none, []⟩,
  ⟨.loc 21, .load false 1 (.loc 20), none, []⟩,
  ⟨.loc 22, .fld 3 (.var 3), none, []⟩,
  ⟨.loc 23, .load false 1 (.loc 22), none, []⟩,
  ⟨.var 24, .bin .str .neq (.loc 21) (.loc 23), none, []⟩] false
def c_L_eqResp_8 : ACode := .reg [⟨.var 4, .mv (.const (.d (.bool false))), none, []⟩] false
def c_L_eqResp_9 : ACode := .reg [⟨.loc 25, .fld 4 (.var 2), none, []⟩,
  ⟨.loc 26, .load false 1 (.loc 25), none, []⟩,
  ⟨.loc 27, .fld 4 (.var 3), none, []⟩,
  ⟨.loc 28, .load false 1 (.loc 27), none, []⟩,
  ⟨.loc 29, .call (.fn 24) [(.loc 26), (.loc 28)] [.borrow, .borrow], none, []⟩,
  ⟨.var 30, .un .not (.loc 29), none, []⟩] false
def c_L_eqResp_10 : ACode := .reg [⟨.var 4, .mv (.const (.d (.bool false))), none, []⟩] false
def c_L_eqResp_11 : ACode := .reg [⟨.var 4, .mv (.const (.d (.bool true))), none, []⟩] false
def c_L_eqResp : ACode := (.seq c_L_eqResp_0 (.seq (.seq c_L_eqResp_1 (.cond (.var 9) (.seq c_L_eqResp_2 .ret) .skip)) (.seq (.seq c_L_eqResp_3 (.cond (.var 14) (.seq c_L_eqResp_4 .ret) .skip)) (.seq (.seq c_L_eqResp_5 (.cond (.var 19) (.seq c_L_eqResp_6 .ret) .skip)) (.seq (.seq c_L_eqResp_7 (.cond (.var 24) (.seq c_L_eqResp_8 .ret) .skip)) (.seq (.seq c_L_eqResp_9 (.cond (.var 30) (.seq c_L_eqResp_10 .ret) .skip)) (.seq c_L_eqResp_11 .ret)))))))

abbrev F_L_eqResp : FuncId := 16

theorem k_L_eqResp : comp PP (Tryd.f16.ntmps, pinOf 0 [none, none]) [0, 1, 2, 3, 4, 9, 14, 19, 24, 30] (Tryd.f16.body.getD .skip) = some c_L_eqResp.erase := by kernel_rfl

theorem v_L_eqResp (rcs : List C) {cs : List C} {r : C} {os : List (Option C)} (hN : (cs.length == 2 && rcs.length == 1) = true) (hret : retOf rcs = r)
    (hW : W PP [0, 1, 2, 3, 4, 9, 14, 19, 24, 30] (Tryd.f16.ntmps, pinOf 0 [none, none]) (Valid PP GG) c_L_eqResp (entry cs) (Fin (Valid PP GG) [(.give, 4, none)] [none, none] rcs os) (fun _ _ => False) (Fin (Valid PP GG) [(.give, 4, none)] [none, none] rcs os)) : Valid PP GG F_L_eqResp cs r os :=
  fn_valid_n 2 1 [0, 1, 2, 3, 4, 9, 14, 19, 24, 30] c_L_eqResp [(.give, 4, none)] [none, none] rcs Tryd.func16 rfl rfl (by kernel_rfl) k_L_eqResp rfl rfl hN hret hW


/-
loop.example/g00705/laws.szStringS  params 2+0 results [4]
  seq  mid=[0, 1]
    c_L_szStringS_0
    seq  mid=[0, 1]
      c_L_szStringS_1
      seq  mid=[0, 1]
        seq  mid=[0, 1, 11]
          c_L_szStringS_2
          cond (.var 11)
            seq  mid=[4]
              c_L_szStringS_3
              ret
            skip
        seq  mid=[1]
          seq  mid=[0, 1, 5]
            c_L_szStringS_4
            block 0
              loop live=[0, 1, 5]
                seq  mid=[0, 1, 5]
                  seq  mid=[0, 1, 5, 15]
                    c_L_szStringS_5
                    cond (.var 15)
                      skip
                      exit 0
                  seq  mid=[0, 1, 5]
                    block 1
                      seq  mid=[0, 1, 5]
                        c_L_szStringS_6
                        seq  mid=[0, 1, 5, 26]
                          c_L_szStringS_7
                          cond (.var 26)
                            seq  mid=[4]
                              c_L_szStringS_8
                              ret
                            skip
                    c_L_szStringS_9
          seq  mid=[4]
            c_L_szStringS_11
            ret
-/
def c_L_szStringS_0 : ACode := .reg [⟨.var 4, .mv (.const (.d (.int .i64 0))), none, []⟩] false
def c_L_szStringS_1 : ACode := .reg [⟨.loc 6, .mv (.var 1), none, []⟩,
  ⟨.loc 7, .mv (.var 0), none, []⟩,
  ⟨.loc 8, .len false (.loc 7), none, []⟩,
  ⟨.loc 9, .bin .int .sub (.loc 6) (.loc 8), none, []⟩,
  ⟨.var 1, .mv (.loc 9), none, []⟩] false
def c_L_szStringS_2 : ACode := .reg [⟨.loc 10, .mv (.var 1), none, []⟩,
  ⟨.var 11, .bin .int .lss (.loc 10) (.const (.d (.int .i64 0))), none, []⟩] false
def c_L_szStringS_3 : ACode := .reg [⟨.var 4, .mv (.const (.d (.int .i64 (-1)))), none, []⟩] false
def c_L_szStringS_4 : ACode := .reg [⟨.var 5, .mv (.const (.d (.int .i64 0))), none, []⟩] false
def c_L_szStringS_5 : ACode := .reg [⟨.loc 12, .mv (.var 5), none, []⟩,
  ⟨.loc 13, .mv (.var 0), none, []⟩,
  ⟨.loc 14, .len false (.loc 13), none, []⟩,
  ⟨.var 15, .bin .int .lss (.loc 12) (.loc 14), none, []⟩] false
def c_L_szStringS_6 : ACode := .reg [⟨.loc 18, .mv (.var 1), none, []⟩,
  ⟨.loc 19, .mv (.var 0), none, []⟩,
  ⟨.loc 20, .mv (.var 5), none, []⟩,
  ⟨.loc 21, .idxA 1 (.loc 19) (.loc 20), none, []⟩,
  ⟨.loc 22, .load false 1 (.loc 21), none, []⟩,
  ⟨.loc 23, .len true (.loc 22), none, []⟩,
  ⟨.loc 24, .bin .int .sub (.loc 18) (.loc 23), none, []⟩,
  ⟨.var 1, .mv (.loc 24), none, []⟩] false
def c_L_szStringS_7 : ACode := .reg [⟨.loc 25, .mv (.var 1), none, []⟩,
  ⟨.var 26, .bin .int .lss (.loc 25) (.const (.d (.int .i64 0))), none, []⟩] false
def c_L_szStringS_8 : ACode := .reg [⟨.var 4, .mv (.const (.d (.int .i64 (-1)))), none, []⟩] false
def c_L_szStringS_9 : ACode := .reg [⟨.loc 16, .mv (.var 5), none, []⟩,
  ⟨.loc 17, .bin .int .add (.loc 16) (.const (.d (.int .i64 1))), none, []⟩,
  ⟨.var 5, .mv (.loc 17), none, []⟩] false
def c_L_szStringS_10 : ACode := (.seq (.seq c_L_szStringS_5 (.cond (.var 15) .skip (.exit 0))) (.seq (.block 1 (.seq c_L_szStringS_6 (.seq c_L_szStringS_7 (.cond (.var 26) (.seq c_L_szStringS_8 .ret) .skip)))) c_L_szStringS_9))
def c_L_szStringS_11 : ACode := .reg [⟨.loc 27, .mv (.var 1), none, []⟩,
  ⟨.var 4, .mv (.loc 27), none, []⟩] false
def c_L_szStringS : ACode := (.seq c_L_szStringS_0 (.seq c_L_szStringS_1 (.seq (.seq c_L_szStringS_2 (.cond (.var 11) (.seq c_L_szStringS_3 .ret) .skip)) (.seq (.seq c_L_szStringS_4 (.block 0 (.loop [0, 1, 5] c_L_szStringS_10))) (.seq c_L_szStringS_11 .ret)))))

abbrev F_L_szStringS : FuncId := 21

theorem k_L_szStringS : comp PP (Tryd.f21.ntmps, pinOf 0 [none, none]) [0, 1, 4, 5, 11, 15, 26] (Tryd.f21.body.getD .skip) = some c_L_szStringS.erase := by kernel_rfl

theorem v_L_szStringS (rcs : List C) {cs : List C} {r : C} {os : List (Option C)} (hN : (cs.length == 2 && rcs.length == 1) = true) (hret : retOf rcs = r)
    (hW : W PP [0, 1, 4, 5, 11, 15, 26] (Tryd.f21.ntmps, pinOf 0 [none, none]) (Valid PP GG) c_L_szStringS (entry cs) (Fin (Valid PP GG) [(.give, 4, none)] [none, none] rcs os) (fun _ _ => False) (Fin (Valid PP GG) [(.give, 4, none)] [none, none] rcs os)) : Valid PP GG F_L_szStringS cs r os :=
  fn_valid_n 2 1 [0, 1, 4, 5, 11, 15, 26] c_L_szStringS [(.give, 4, none)] [none, none] rcs Tryd.func21 rfl rfl (by kernel_rfl) k_L_szStringS rfl rfl hN hret hW


/-
loop.example/g00705/laws.toStringS  params 1+0 results [2]
  seq  mid=[0]
    c_L_toStringS_0
    seq  mid=[0, 3]
      c_L_toStringS_1
      seq  mid=[3]
        seq  mid=[0, 3, 4]
          c_L_toStringS_2
          block 0
            loop live=[0, 3, 4]
              seq  mid=[0, 3, 4]
                seq  mid=[0, 3, 4, 11]
                  c_L_toStringS_3
                  cond (.var 11)
                    skip
                    exit 0
                seq  mid=[0, 3, 4]
                  block 1
                    c_L_toStringS_4
                  c_L_toStringS_5
        seq  mid=[2]
          c_L_toStringS_7
          ret
-/
def c_L_toStringS_0 : ACode := .reg [⟨.var 2, .mv (.const (.nil 0 1)), none, []⟩] false
def c_L_toStringS_1 : ACode := .reg [⟨.loc 5, .mv (.var 0), none, []⟩,
  ⟨.loc 6, .len false (.loc 5), none, []⟩,
  ⟨.loc 7, .mkslice 0 1 16 [.str []] (.loc 6) (.loc 6), none, []⟩,
  ⟨.var 3, .mv (.loc 7), none, []⟩] false
def c_L_toStringS_2 : ACode := .reg [⟨.var 4, .mv (.const (.d (.int .i64 0))), none, []⟩] false
def c_L_toStringS_3 : ACode := .reg [⟨.loc 8, .mv (.var 4), none, []⟩,
  ⟨.loc 9, .mv (.var 0), none, []⟩,
  ⟨.loc 10, .len false (.loc 9), none, []⟩,
  ⟨.var 11, .bin .int .lss (.loc 8) (.loc 10), none, []⟩] false
def c_L_toStringS_4 : ACode := .reg [⟨.loc 14, .mv (.var 3), none, []⟩,
  ⟨.loc 15, .mv (.var 4), none, []⟩,
  ⟨.loc 16, .mv (.var 0), none, []⟩,
  ⟨.loc 17, .mv (.var 4), none, []⟩,
  ⟨.loc 18, .idxA 1 (.loc 16) (.loc 17), none, []⟩,
  ⟨.loc 19, .load false 1 (.loc 18), none, []⟩,
  ⟨.loc 20, .idxA 1 (.loc 14) (.loc 15), none, []⟩,
  ⟨.none, .store 1 (.loc 20) (.loc 19), none, []⟩] false
def c_L_toStringS_5 : ACode := .reg [⟨.loc 12, .mv (.var 4), none, []⟩,
  ⟨.loc 13, .bin .int .add (.loc 12) (.const (.d (.int .i64 1))), none, []⟩,
  ⟨.var 4, .mv (.loc 13), none, []⟩] false
def c_L_toStringS_6 : ACode := (.seq (.seq c_L_toStringS_3 (.cond (.var 11) .skip (.exit 0))) (.seq (.block 1 c_L_toStringS_4) c_L_toStringS_5))
def c_L_toStringS_7 : ACode := .reg [⟨.loc 21, .mv (.var 3), none, []⟩,
  ⟨.var 2, .mv (.loc 21), none, []⟩] false
def c_L_toStringS : ACode := (.seq c_L_toStringS_0 (.seq c_L_toStringS_1 (.seq (.seq c_L_toStringS_2 (.block 0 (.loop [0, 3, 4] c_L_toStringS_6))) (.seq c_L_toStringS_7 .ret))))

abbrev F_L_toStringS : FuncId := 22

theorem k_L_toStringS : comp PP (Tryd.f22.ntmps, pinOf 0 [none]) [0, 2, 3, 4, 11] (Tryd.f22.body.getD .skip) = some c_L_toStringS.erase := by kernel_rfl

theorem v_L_toStringS (rcs : List C) {cs : List C} {r : C} {os : List (Option C)} (hN : (cs.length == 1 && rcs.length == 1) = true) (hret : retOf rcs = r)
    (hW : W PP [0, 2, 3, 4, 11] (Tryd.f22.ntmps, pinOf 0 [none]) (Valid PP GG) c_L_toStringS (entry cs) (Fin (Valid PP GG) [(.give, 2, none)] [none] rcs os) (fun _ _ => False) (Fin (Valid PP GG) [(.give, 2, none)] [none] rcs os)) : Valid PP GG F_L_toStringS cs r os :=
  fn_valid_n 1 1 [0, 2, 3, 4, 11] c_L_toStringS [(.give, 2, none)] [none] rcs Tryd.func22 rfl rfl (by kernel_rfl) k_L_toStringS rfl rfl hN hret hW


/-
loop.example/g00705/impl.hexText  params 1+0 results [2]
  seq  mid=[0]
    c_I_hexText_0
    seq  mid=[0, 3]
      c_I_hexText_1
      seq  mid=[3]
        seq  mid=[3, 10, 11, 12]
          c_I_hexText_2
          block 0
            loop live=[3, 10, 11, 12]
              seq  mid=[3, 10, 11, 12, 13]
                c_I_hexText_3
                seq  mid=[3, 10, 11, 12]
                  cond (.var 13)
                    skip
                    exit 0
                  seq  mid=[3, 10, 11, 12]
                    block 1
                      seq  mid=[3, 5, 10, 11, 12]
                        c_I_hexText_4
                        c_I_hexText_5 DRAW
                    c_I_hexText_6
        seq  mid=[2]
          c_I_hexText_8
          ret
-/
def c_I_hexText_0 : ACode := .reg [⟨.var 2, .mv (.const (.d (.str []))), none, []⟩] false
def c_I_hexText_1 : ACode := .reg [⟨.loc 6, .mv (.var 0), none, []⟩,
  ⟨.loc 7, .len false (.loc 6), none, []⟩,
  ⟨.loc 8, .bin .int .mul (.const (.d (.int .i64 2))) (.loc 7), none, []⟩,
  ⟨.loc 9, .mkslice 0 1 1 [.int .u8 0] (.const (.d (.int .i64 0))) (.loc 8), none, []⟩,
  ⟨.var 3, .mv (.loc 9), none, []⟩] false
def c_I_hexText_2 : ACode := .reg [⟨.var 10, .mv (.var 0), none, []⟩,
  ⟨.var 11, .len false (.var 10), none, []⟩,
  ⟨.var 12, .mv (.const (.d (.int .i64 0))), none, []⟩] false
def c_I_hexText_3 : ACode := .reg [⟨.var 13, .bin .int .lss (.var 12) (.var 11), none, []⟩] false
def c_I_hexText_4 : ACode := .reg [⟨.loc 14, .idxA 1 (.var 10) (.var 12), none, []⟩,
  ⟨.loc 15, .load false 1 (.loc 14), none, []⟩,
  ⟨.var 5, .mv (.loc 15), none, []⟩] false
def c_I_hexText_5 : ACode := .reg [⟨.loc 16, .mv (.var 3), none, []⟩,
  ⟨.loc 17, .mv (.var 5), none, []⟩,
  ⟨.loc 18, .bin .int .shr (.loc 17) (.const (.d (.int .u64 4))), none, [1]⟩,
  ⟨.loc 19, .idxS (.const (.d (.str [48, 49, 50, 51, 52, 53, 54, 55, 56, 57, 97, 98, 99, 100, 101, 102]))) (.loc 18), none, [2, 1]⟩,
  ⟨.loc 20, .mv (.var 5), none, []⟩,
  ⟨.loc 21, .bin .int .and (.loc 20) (.const (.d (.int .u8 15))), none, [4]⟩,
  ⟨.loc 22, .idxS (.const (.d (.str [48, 49, 50, 51, 52, 53, 54, 55, 56, 57, 97, 98, 99, 100, 101, 102]))) (.loc 21), none, [5, 4]⟩,
  ⟨.loc 23, .lit 0 1 2 [.int .u8 0] [(0, (.loc 19)), (1, (.loc 22))], none, [3, 2, 1, 6, 5, 4]⟩,
  ⟨.loc 24, .app 1 1 (.loc 16) (.loc 23), none, [0, 7, 3, 2, 1, 6, 5, 4]⟩,
  ⟨.var 3, .mv (.loc 24), none, [8, 0, 7, 3, 2, 1, 6, 5, 4]⟩] true
def c_I_hexText_6 : ACode := .reg [⟨.loc 25, .bin .int .add (.var 12) (.const (.d (.int .i64 1))), none, []⟩,
  ⟨.var 12, .mv (.loc 25), none, []⟩] false
def c_I_hexText_7 : ACode := (.seq c_I_hexText_3 (.seq (.cond (.var 13) .skip (.exit 0)) (.seq (.block 1 (.seq c_I_hexText_4 c_I_hexText_5)) c_I_hexText_6)))
def c_I_hexText_8 : ACode := .reg [⟨.loc 26, .mv (.var 3), none, []⟩,
  ⟨.loc 27, .b2s (.loc 26), none, []⟩,
  ⟨.var 2, .mv (.loc 27), none, []⟩] false
def c_I_hexText : ACode := (.seq c_I_hexText_0 (.seq c_I_hexText_1 (.seq (.seq c_I_hexText_2 (.block 0 (.loop [3, 10, 11, 12] c_I_hexText_7))) (.seq c_I_hexText_8 .ret))))

abbrev F_I_hexText : FuncId := 23

theorem k_I_hexText : comp PP (Tryd.f23.ntmps, pinOf 0 [none]) [0, 2, 3, 5, 10, 11, 12, 13] (Tryd.f23.body.getD .skip) = some c_I_hexText.erase := by kernel_rfl

theorem v_I_hexText (rcs : List C) {cs : List C} {r : C} {os : List (Option C)} (hN : (cs.length == 1 && rcs.length == 1) = true) (hret : retOf rcs = r)
    (hW : W PP [0, 2, 3, 5, 10, 11, 12, 13] (Tryd.f23.ntmps, pinOf 0 [none]) (Valid PP GG) c_I_hexText (entry cs) (Fin (Valid PP GG) [(.give, 2, none)] [none] rcs os) (fun _ _ => False) (Fin (Valid PP GG) [(.give, 2, none)] [none] rcs os)) : Valid PP GG F_I_hexText cs r os :=
  fn_valid_n 1 1 [0, 2, 3, 5, 10, 11, 12, 13] c_I_hexText [(.give, 2, none)] [none] rcs Tryd.func23 rfl rfl (by kernel_rfl) k_I_hexText rfl rfl hN hret hW


/-
loop.example/g00705/laws.eqStringS  params 2+0 results [4]
  seq  mid=[0, 1]
    c_L_eqStringS_0
    seq  mid=[0, 1]
      seq  mid=[0, 1, 10]
        c_L_eqStringS_1
        cond (.var 10)
          seq  mid=[4]
            c_L_eqStringS_2
            ret
          skip
      seq  mid=[]
        seq  mid=[0, 1, 5]
          c_L_eqStringS_3
          block 0
            loop live=[0, 1, 5]
              seq  mid=[0, 1, 5]
                seq  mid=[0, 1, 5, 14]
                  c_L_eqStringS_4
                  cond (.var 14)
                    skip
                    exit 0
                seq  mid=[0, 1, 5]
                  block 1
                    seq  mid=[0, 1, 5, 25]
                      c_L_eqStringS_5 DRAW
                      cond (.var 25)
                        seq  mid=[4]
                          c_L_eqStringS_6
                          ret
                        skip
                  c_L_eqStringS_7
        seq  mid=[4]
          c_L_eqStringS_9
          ret
-/
def c_L_eqStringS_0 : ACode := .reg [⟨.var 4, .mv (.const (.d (.bool false))), none, []⟩] false
def c_L_eqStringS_1 : ACode := .reg [⟨.loc 6, .mv (.var 0), none, []⟩,
  ⟨.loc 7, .len false (.loc 6), none, []⟩,
  ⟨.loc 8, .mv (.var 1), none, []⟩,
  ⟨.loc 9, .len false (.loc 8), none, []⟩,
  ⟨.var 10, .bin .int .neq (.loc 7) (.loc 9), none, []⟩] false
def c_L_eqStringS_2 : ACode := .reg [⟨.var 4, .mv (.const (.d (.bool false))), none, []⟩] false
def c_L_eqStringS_3 : ACode := .reg [⟨.var 5, .mv (.const (.d (.int .i64 0))), none, []⟩] false
def c_L_eqStringS_4 : ACode := .reg [⟨.loc 11, .mv (.var 5), none, []⟩,
  ⟨.loc 12, .mv (.var 0), none, []⟩,
  ⟨.loc 13, .len false (.loc 12), none, []⟩,
  ⟨.var 14, .bin .int .lss (.loc 11) (.loc 13), none, []⟩] false
def c_L_eqStringS_5 : ACode := .reg [⟨.loc 17, .mv (.var 0), none, []⟩,
  ⟨.loc 18, .mv (.var 5), none, []⟩,
  ⟨.loc 19, .idxA 1 (.loc 17) (.loc 18), none, [0, 1]⟩,
  ⟨.loc 20, .load false 1 (.loc 19), none, [2, 0, 1]⟩,
  ⟨.loc 21, .mv (.var 1), none, []⟩,
  ⟨.loc 22, .mv (.var 5), none, []⟩,
  ⟨.loc 23, .idxA 1 (.loc 21) (.loc 22), none, [4, 5]⟩,
  ⟨.loc 24, .load false 1 (.loc 23), none, [6, 4, 5]⟩,
  ⟨.var 25, .bin .str .neq (.loc 20) (.loc 24), none, [3, 2, 0, 1, 7, 6, 4, 5]⟩] true
def c_L_eqStringS_6 : ACode := .reg [⟨.var 4, .mv (.const (.d (.bool false))), none, []⟩] false
def c_L_eqStringS_7 : ACode := .reg [⟨.loc 15, .mv (.var 5), none, []⟩,
  ⟨.loc 16, .bin .int .add (.loc 15) (.const (.d (.int .i64 1))), none, []⟩,
  ⟨.var 5, .mv (.loc 16), none, []⟩] false
def c_L_eqStringS_8 : ACode := (.seq (.seq c_L_eqStringS_4 (.cond (.var 14) .skip (.exit 0))) (.seq (.block 1 (.seq c_L_eqStringS_5 (.cond (.var 25) (.seq c_L_eqStringS_6 .ret) .skip))) c_L_eqStringS_7))
def c_L_eqStringS_9 : ACode := .reg [⟨.var 4, .mv (.const (.d (.bool true))), none, []⟩] false
def c_L_eqStringS : ACode := (.seq c_L_eqStringS_0 (.seq (.seq c_L_eqStringS_1 (.cond (.var 10) (.seq c_L_eqStringS_2 .ret) .skip)) (.seq (.seq c_L_eqStringS_3 (.block 0 (.loop [0, 1, 5] c_L_eqStringS_8))) (.seq c_L_eqStringS_9 .ret))))

abbrev F_L_eqStringS : FuncId := 24

theorem k_L_eqStringS : comp PP (Tryd.f24.ntmps, pinOf 0 [none, none]) [0, 1, 4, 5, 10, 14, 25] (Tryd.f24.body.getD .skip) = some c_L_eqStringS.erase := by kernel_rfl

theorem v_L_eqStringS (rcs : List C) {cs : List C} {r : C} {os : List (Option C)} (hN : (cs.length == 2 && rcs.length == 1) = true) (hret : retOf rcs = r)
    (hW : W PP [0, 1, 4, 5, 10, 14, 25] (Tryd.f24.ntmps, pinOf 0 [none, none]) (Valid PP GG) c_L_eqStringS (entry cs) (Fin (Valid PP GG) [(.give, 4, none)] [none, none] rcs os) (fun _ _ => False) (Fin (Valid PP GG) [(.give, 4, none)] [none, none] rcs os)) : Valid PP GG F_L_eqStringS cs r os :=
  fn_valid_n 2 1 [0, 1, 4, 5, 10, 14, 25] c_L_eqStringS [(.give, 4, none)] [none, none] rcs Tryd.func24 rfl rfl (by kernel_rfl) k_L_eqStringS rfl rfl hN hret hW


end Go.Proofs.YtjdepagpjkoglaaDoor.Ab
