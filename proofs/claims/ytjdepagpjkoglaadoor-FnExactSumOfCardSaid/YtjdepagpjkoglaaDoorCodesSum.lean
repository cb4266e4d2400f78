/-
  A part of a proof about the given program; what is proved is said where each theorem stands.
-/
import Derived.Lib.LaidTab
import Derived.Lib.ItoaLen
import Derived.Shelf.Strconv.Itoa3
import Derived.KernelRfl
import Derived.Test.YtjdepagpjkoglaaDoorProg
import Derived.Test.YtjdepagpjkoglaaDoorFrameA
import Derived.Test.YtjdepagpjkoglaaDoorFrameB
import Derived.Test.YtjdepagpjkoglaaDoorFrameC
import Derived.Test.YtjdepagpjkoglaaDoorFrameD
import Derived.Test.YtjdepagpjkoglaaDoorFrameE
import Derived.Test.YtjdepagpjkoglaaDoorShelf
namespace Go.Proofs.YtjdepagpjkoglaaDoor.Ab
open Go.Proofs
noncomputable abbrev PP : Program := Tryd.prog
/-- The table of powers of ten that the library's number texts lean on. -/
def pow10Cells : Obj → Prop
  | .cells cs _ _ => cs = (Lib.pow10Tab.map fun z => Value.int .u64 z).toArray
  | _ => False
def GG : GV := fun b => if b = 0 then some pow10Cells else none

/-
loop.example/g00705/laws.FnExactNoteText  params 1+0 results [2]
  seq  mid=[1]
    c_L_FnExactNoteText_0
    seq  mid=[1, 3]
      c_L_FnExactNoteText_1
      seq  mid=[1, 3]
        c_L_FnExactNoteText_2
        seq  mid=[1]
          seq  mid=[1, 10]
            c_L_FnExactNoteText_3
            cond (.var 10)
              seq  mid=[2]
                c_L_FnExactNoteText_4
                ret
              skip
          seq  mid=[1, 4]
            c_L_FnExactNoteText_5
            seq  mid=[4, 5]
              c_L_FnExactNoteText_6
              seq  mid=[]
                seq  mid=[19]
                  c_L_FnExactNoteText_7
                  cond (.var 19)
                    seq  mid=[2]
                      c_L_FnExactNoteText_8
                      ret
                    skip
                seq  mid=[2]
                  c_L_FnExactNoteText_9
                  ret
-/
def c_L_FnExactNoteText_0 : ACode := .reg [⟨.var 1, .box (.var 0), none, []⟩,
  ⟨.var 2, .mv (.const (.d (.bool false))), none, []⟩] false
def c_L_FnExactNoteText_1 : ACode := .reg [⟨.var 3, .mv (.const (.d (.int .i64 1048576))), none, []⟩] false
def c_L_FnExactNoteText_2 : ACode := .reg [⟨.loc 6, .load true 7 (.var 1), none, []⟩,
  ⟨.loc 7, .mv (.var 3), none, []⟩,
  ⟨.loc 8, .call (.fn 6) [(.loc 6), (.loc 7)] [.borrow, .borrow], none, []⟩,
  ⟨.var 3, .mv (.loc 8), none, []⟩] false
def c_L_FnExactNoteText_3 : ACode := .reg [⟨.loc 9, .mv (.var 3), none, []⟩,
  ⟨.var 10, .bin .int .lss (.loc 9) (.const (.d (.int .i64 0))), none, []⟩] false
def c_L_FnExactNoteText_4 : ACode := .reg [⟨.var 2, .mv (.const (.d (.bool true))), none, []⟩] false
def c_L_FnExactNoteText_5 : ACode := .reg [⟨.loc 11, .load true 7 (.var 1), none, []⟩,
  ⟨.loc 12, .call (.fn 8) [(.loc 11)] [.borrow], none, []⟩,
  ⟨.loc 13, .call (.fn 7) [(.loc 12)] [.borrow], none, []⟩,
  ⟨.var 4, .mv (.loc 13), none, []⟩] false
def c_L_FnExactNoteText_6 : ACode := .reg [⟨.loc 14, .load true 7 (.var 1), none, []⟩,
  ⟨.loc 15, .call (.fn 8) [(.loc 14)] [.borrow], none, []⟩,
  ⟨.loc 16, .call (.fn 9) [(.loc 15)] [.borrow], none, []⟩,
  ⟨.var 5, .mv (.loc 16), none, []⟩] false
def c_L_FnExactNoteText_7 : ACode := .reg [⟨.loc 17, .mv (.var 5), none, []⟩,
  ⟨.loc 18, .mv (.var 4), none, []⟩,
  ⟨.var 19, .bin .str .neq (.loc 17) (.loc 18), none, []⟩] false
def c_L_FnExactNoteText_8 : ACode := .reg [⟨.var 2, .mv (.const (.d (.bool false))), none, []⟩] false
def c_L_FnExactNoteText_9 : ACode := .reg [⟨.var 2, .mv (.const (.d (.bool true))), none, []⟩] false
def c_L_FnExactNoteText : ACode := (.seq c_L_FnExactNoteText_0 (.seq c_L_FnExactNoteText_1 (.seq c_L_FnExactNoteText_2 (.seq (.seq c_L_FnExactNoteText_3 (.cond (.var 10) (.seq c_L_FnExactNoteText_4 .ret) .skip)) (.seq c_L_FnExactNoteText_5 (.seq c_L_FnExactNoteText_6 (.seq (.seq c_L_FnExactNoteText_7 (.cond (.var 19) (.seq c_L_FnExactNoteText_8 .ret) .skip)) (.seq c_L_FnExactNoteText_9 .ret))))))))

abbrev F_L_FnExactNoteText : FuncId := 3

theorem k_L_FnExactNoteText : comp PP (Tryd.f3.ntmps, pinOf 0 [none]) [0, 1, 2, 3, 4, 5, 10, 19] (Tryd.f3.body.getD .skip) = some c_L_FnExactNoteText.erase := by kernel_rfl

theorem v_L_FnExactNoteText (rcs : List C) {cs : List C} {r : C} {os : List (Option C)} (hN : (cs.length == 1 && rcs.length == 1) = true) (hret : retOf rcs = r)
    (hW : W PP [0, 1, 2, 3, 4, 5, 10, 19] (Tryd.f3.ntmps, pinOf 0 [none]) (Valid PP GG) c_L_FnExactNoteText (entry cs) (Fin (Valid PP GG) [(.give, 2, none)] [none] rcs os) (fun _ _ => False) (Fin (Valid PP GG) [(.give, 2, none)] [none] rcs os)) : Valid PP GG F_L_FnExactNoteText cs r os :=
  fn_valid_n 1 1 [0, 1, 2, 3, 4, 5, 10, 19] c_L_FnExactNoteText [(.give, 2, none)] [none] rcs Tryd.func3 rfl rfl (by kernel_rfl) k_L_FnExactNoteText rfl rfl hN hret hW


/-
loop.example/g00705/laws.szNote  params 2+0 results [4]
  seq  mid=[1, 2]
    c_L_szNote_0
    seq  mid=[1, 2]
      c_L_szNote_1
      seq  mid=[1, 2]
        seq  mid=[1, 2, 11]
          c_L_szNote_2
          cond (.var 11)
            seq  mid=[4]
              c_L_szNote_3
              ret
            skip
        seq  mid=[1]
          c_L_szNote_4
          seq  mid=[1]
            seq  mid=[1, 18]
              c_L_szNote_5
              cond (.var 18)
                seq  mid=[4]
                  c_L_szNote_6
                  ret
                skip
            seq  mid=[4]
              c_L_szNote_7
              ret
-/
def c_L_szNote_0 : ACode := .reg [⟨.var 2, .box (.var 0), none, []⟩,
  ⟨.var 4, .mv (.const (.d (.int .i64 0))), none, []⟩] false
def c_L_szNote_1 : ACode := .reg [⟨.loc 5, .mv (.var 1), none, []⟩,
  ⟨.loc 6, .fld 3 (.var 2), none, []⟩,
  ⟨.loc 7, .load false 1 (.loc 6), none, []⟩,
  ⟨.loc 8, .len true (.loc 7), none, []⟩,
  ⟨.loc 9, .bin .int .sub (.loc 5) (.loc 8), none, []⟩,
  ⟨.var 1, .mv (.loc 9), none, []⟩] false
def c_L_szNote_2 : ACode := .reg [⟨.loc 10, .mv (.var 1), none, []⟩,
  ⟨.var 11, .bin .int .lss (.loc 10) (.const (.d (.int .i64 0))), none, []⟩] false
def c_L_szNote_3 : ACode := .reg [⟨.var 4, .mv (.const (.d (.int .i64 (-1)))), none, []⟩] false
def c_L_szNote_4 : ACode := .reg [⟨.loc 12, .mv (.var 1), none, []⟩,
  ⟨.loc 13, .fld 4 (.var 2), none, []⟩,
  ⟨.loc 14, .load false 1 (.loc 13), none, []⟩,
  ⟨.loc 15, .len true (.loc 14), none, []⟩,
  ⟨.loc 16, .bin .int .sub (.loc 12) (.loc 15), none, []⟩,
  ⟨.var 1, .mv (.loc 16), none, []⟩] false
def c_L_szNote_5 : ACode := .reg [⟨.loc 17, .mv (.var 1), none, []⟩,
  ⟨.var 18, .bin .int .lss (.loc 17) (.const (.d (.int .i64 0))), none, []⟩] false
def c_L_szNote_6 : ACode := .reg [⟨.var 4, .mv (.const (.d (.int .i64 (-1)))), none, []⟩] false
def c_L_szNote_7 : ACode := .reg [⟨.loc 19, .mv (.var 1), none, []⟩,
  ⟨.var 4, .mv (.loc 19), none, []⟩] false
def c_L_szNote : ACode := (.seq c_L_szNote_0 (.seq c_L_szNote_1 (.seq (.seq c_L_szNote_2 (.cond (.var 11) (.seq c_L_szNote_3 .ret) .skip)) (.seq c_L_szNote_4 (.seq (.seq c_L_szNote_5 (.cond (.var 18) (.seq c_L_szNote_6 .ret) .skip)) (.seq c_L_szNote_7 .ret))))))

abbrev F_L_szNote : FuncId := 6

theorem k_L_szNote : comp PP (Tryd.f6.ntmps, pinOf 0 [none, none]) [0, 1, 2, 4, 11, 18] (Tryd.f6.body.getD .skip) = some c_L_szNote.erase := by kernel_rfl

theorem v_L_szNote (rcs : List C) {cs : List C} {r : C} {os : List (Option C)} (hN : (cs.length == 2 && rcs.length == 1) = true) (hret : retOf rcs = r)
    (hW : W PP [0, 1, 2, 4, 11, 18] (Tryd.f6.ntmps, pinOf 0 [none, none]) (Valid PP GG) c_L_szNote (entry cs) (Fin (Valid PP GG) [(.give, 4, none)] [none, none] rcs os) (fun _ _ => False) (Fin (Valid PP GG) [(.give, 4, none)] [none, none] rcs os)) : Valid PP GG F_L_szNote cs r os :=
  fn_valid_n 2 1 [0, 1, 2, 4, 11, 18] c_L_szNote [(.give, 4, none)] [none, none] rcs Tryd.func6 rfl rfl (by kernel_rfl) k_L_szNote rfl rfl hN hret hW


/-
loop.example/g00705/spec.NoteText  params 1+0 results [2]
  seq  mid=[1]
    c_S_NoteText_0
    seq  mid=[2]
      c_S_NoteText_1 DRAW
      ret
-/
def c_S_NoteText_0 : ACode := .reg [⟨.var 1, .box (.var 0), none, []⟩,
  ⟨.var 2, .mv (.const (.d (.str []))), none, []⟩] false
def c_S_NoteText_1 : ACode := .reg [⟨.loc 3, .fld 0 (.var 1), none, []⟩,
  ⟨.loc 4, .load false 1 (.loc 3), none, [0]⟩,
  ⟨.loc 5, .call (.fn 17) [(.loc 4)] [.borrow], none, [1, 0]⟩,
  ⟨.loc 6, .bin .str .add (.loc 5) (.const (.d (.str [32]))), none, [2, 1, 0]⟩,
  ⟨.loc 7, .fld 1 (.var 1), none, []⟩,
  ⟨.loc 8, .load false 1 (.loc 7), none, [4]⟩,
  ⟨.loc 9, .call (.fn 17) [(.loc 8)] [.borrow], none, [5, 4, 2, 1, 0]⟩,
  ⟨.loc 10, .bin .str .add (.loc 6) (.loc 9), none, [3, 6, 5, 4, 2, 1, 0]⟩,
  ⟨.loc 11, .bin .str .add (.loc 10) (.const (.d (.str [32]))), none, [7, 3, 6, 5, 4, 2, 1, 0]⟩,
  ⟨.loc 12, .fld 2 (.var 1), none, []⟩,
  ⟨.loc 13, .load false 1 (.loc 12), none, [9]⟩,
  ⟨.loc 14, .call (.fn 17) [(.loc 13)] [.borrow], none, [10, 9, 6, 5, 4, 2, 1, 0]⟩,
  ⟨.loc 15, .bin .str .add (.loc 11) (.loc 14), none, [8, 7, 3, 11, 10, 9, 6, 5, 4, 2, 1, 0]⟩,
  ⟨.loc 16, .bin .str .add (.loc 15) (.const (.d (.str [32]))), none, [12, 8, 7, 3, 11, 10, 9, 6, 5, 4, 2, 1, 0]⟩,
  ⟨.loc 17, .fld 3 (.var 1), none, []⟩,
  ⟨.loc 18, .load false 1 (.loc 17), none, [14]⟩,
  ⟨.loc 19, .bin .str .add (.loc 16) (.loc 18), none, [13, 12, 8, 7, 3, 11, 10, 9, 6, 5, 4, 2, 1, 0, 15, 14]⟩,
  ⟨.loc 20, .bin .str .add (.loc 19) (.const (.d (.str [32]))), none, [16, 13, 12, 8, 7, 3, 11, 10, 9, 6, 5, 4, 2, 1, 0, 15, 14]⟩,
  ⟨.loc 21, .fld 4 (.var 1), none, []⟩,
  ⟨.loc 22, .load false 1 (.loc 21), none, [18]⟩,
  ⟨.loc 23, .bin .str .add (.loc 20) (.loc 22), none, [17, 16, 13, 12, 8, 7, 3, 11, 10, 9, 6, 5, 4, 2, 1, 0, 15, 14, 19, 18]⟩,
  ⟨.loc 24, .bin .str .add (.loc 23) (.const (.d (.str [32]))), none, [20, 17, 16, 13, 12, 8, 7, 3, 11, 10, 9, 6, 5, 4, 2, 1, 0, 15, 14, 19, 18]⟩,
  ⟨.loc 25, .fld 5 (.var 1), none, []⟩,
  ⟨.loc 26, .load false 1 (.loc 25), none, [22]⟩,
  ⟨.loc 27, .call (.fn 17) [(.loc 26)] [.borrow], none, [23, 22, 11, 10, 9, 6, 5, 4, 2, 1, 0]⟩,
  ⟨.loc 28, .bin .str .add (.loc 24) (.loc 27), none, [21, 20, 17, 16, 13, 12, 8, 7, 3, 15, 14, 19, 18, 24, 23, 22, 11, 10, 9, 6, 5, 4, 2, 1, 0]⟩,
  ⟨.loc 29, .bin .str .add (.loc 28) (.const (.d (.str [32]))), none, [25, 21, 20, 17, 16, 13, 12, 8, 7, 3, 15, 14, 19, 18, 24, 23, 22, 11, 10, 9, 6, 5, 4, 2, 1, 0]⟩,
  ⟨.loc 30, .fld 6 (.var 1), none, []⟩,
  ⟨.loc 31, .load false 1 (.loc 30), none, [27]⟩,
  ⟨.loc 32, .call (.fn 17) [(.loc 31)] [.borrow], none, [28, 27, 24, 23, 22, 11, 10, 9, 6, 5, 4, 2, 1, 0]⟩,
  ⟨.loc 33, .bin .str .add (.loc 29) (.loc 32), none, [26, 25, 21, 20, 17, 16, 13, 12, 8, 7, 3, 15, 14, 19, 18, 29, 28, 27, 24, 23, 22, 11, 10, 9, 6, 5, 4, 2, 1, 0]⟩,
  ⟨.var 2, .mv (.loc 33), none, [30, 26, 25, 21, 20, 17, 16, 13, 12, 8, 7, 3, 15, 14, 19, 18, 29, 28, 27, 24, 23, 22, 11, 10, 9, 6, 5, 4, 2, 1, 0]⟩] true
def c_S_NoteText : ACode := (.seq c_S_NoteText_0 (.seq c_S_NoteText_1 .ret))

abbrev F_S_NoteText : FuncId := 7

theorem k_S_NoteText : comp PP (Tryd.f7.ntmps, pinOf 0 [none]) [0, 1, 2] (Tryd.f7.body.getD .skip) = some c_S_NoteText.erase := by kernel_rfl

theorem v_S_NoteText (rcs : List C) {cs : List C} {r : C} {os : List (Option C)} (hN : (cs.length == 1 && rcs.length == 1) = true) (hret : retOf rcs = r)
    (hW : W PP [0, 1, 2] (Tryd.f7.ntmps, pinOf 0 [none]) (Valid PP GG) c_S_NoteText (entry cs) (Fin (Valid PP GG) [(.give, 2, none)] [none] rcs os) (fun _ _ => False) (Fin (Valid PP GG) [(.give, 2, none)] [none] rcs os)) : Valid PP GG F_S_NoteText cs r os :=
  fn_valid_n 1 1 [0, 1, 2] c_S_NoteText [(.give, 2, none)] [none] rcs Tryd.func7 rfl rfl (by kernel_rfl) k_S_NoteText rfl rfl hN hret hW


/-
loop.example/g00705/laws.toNote  params 1+0 results [2]
  seq  mid=[1, 2]
    c_L_toNote_0
    seq  mid=[1, 2, 3]
      c_L_toNote_1
      seq  mid=[1, 2, 3]
        c_L_toNote_2
        seq  mid=[1, 2, 3]
          c_L_toNote_3
          seq  mid=[1, 2, 3]
            c_L_toNote_4
            seq  mid=[1, 2, 3]
              c_L_toNote_5
              seq  mid=[1, 2, 3]
                c_L_toNote_6
                seq  mid=[1, 2, 3]
                  c_L_toNote_7
                  seq  mid=[2, 3]
                    c_L_toNote_8
                    seq  mid=[2]
                      c_L_toNote_9
                      ret
-/
def c_L_toNote_0 : ACode := .reg [⟨.var 1, .box (.var 0), none, []⟩,
  ⟨.var 2, .alloc [.d (.int .i64 0), .d (.int .i64 0), .d (.int .i64 0), .d (.str []), .d (.str []), .d (.int .i64 0), .d (.int .i64 0)], none, []⟩] false
def c_L_toNote_1 : ACode := .reg [⟨.var 3, .alloc [.d (.int .i64 0), .d (.int .i64 0), .d (.int .i64 0), .d (.str []), .d (.str []), .d (.int .i64 0), .d (.int .i64 0)], none, []⟩] false
def c_L_toNote_2 : ACode := .reg [⟨.loc 4, .fld 0 (.var 1), none, []⟩,
  ⟨.loc 5, .load false 1 (.loc 4), none, []⟩,
  ⟨.loc 6, .fld 0 (.var 3), none, []⟩,
  ⟨.none, .store 1 (.loc 6) (.loc 5), none, []⟩] false
def c_L_toNote_3 : ACode := .reg [⟨.loc 7, .fld 1 (.var 1), none, []⟩,
  ⟨.loc 8, .load false 1 (.loc 7), none, []⟩,
  ⟨.loc 9, .fld 1 (.var 3), none, []⟩,
  ⟨.none, .store 1 (.loc 9) (.loc 8), none, []⟩] false
def c_L_toNote_4 : ACode := .reg [⟨.loc 10, .fld 2 (.var 1), none, []⟩,
  ⟨.loc 11, .load false 1 (.loc 10), none, []⟩,
  ⟨.loc 12, .fld 2 (.var 3), none, []⟩,
  ⟨.none, .store 1 (.loc 12) (.loc 11), none, []⟩] false
def c_L_toNote_5 : ACode := .reg [⟨.loc 13, .fld 3 (.var 1), none, []⟩,
  ⟨.loc 14, .load false 1 (.loc 13), none, []⟩,
  ⟨.loc 15, .fld 3 (.var 3), none, []⟩,
  ⟨.none, .store 1 (.loc 15) (.loc 14), none, []⟩] false
def c_L_toNote_6 : ACode := .reg [⟨.loc 16, .fld 4 (.var 1), none, []⟩,
  ⟨.loc 17, .load false 1 (.loc 16), none, []⟩,
  ⟨.loc 18, .fld 4 (.var 3), none, []⟩,
  ⟨.none, .store 1 (.loc 18) (.loc 17), none, []⟩] false
def c_L_toNote_7 : ACode := .reg [⟨.loc 19, .fld 5 (.var 1), none, []⟩,
  ⟨.loc 20, .load false 1 (.loc 19), none, []⟩,
  ⟨.loc 21, .fld 5 (.var 3), none, []⟩,
  ⟨.none, .store 1 (.loc 21) (.loc 20), none, []⟩] false
def c_L_toNote_8 : ACode := .reg [⟨.loc 22, .fld 6 (.var 1), none, []⟩,
  ⟨.loc 23, .load false 1 (.loc 22), none, []⟩,
  ⟨.loc 24, .fld 6 (.var 3), none, []⟩,
  ⟨.none, .store 1 (.loc 24) (.loc 23), none, []⟩] false
def c_L_toNote_9 : ACode := .reg [⟨.loc 25, .load true 7 (.var 3), none, []⟩,
  ⟨.none, .store 7 (.var 2) (.loc 25), none, []⟩] false
def c_L_toNote : ACode := (.seq c_L_toNote_0 (.seq c_L_toNote_1 (.seq c_L_toNote_2 (.seq c_L_toNote_3 (.seq c_L_toNote_4 (.seq c_L_toNote_5 (.seq c_L_toNote_6 (.seq c_L_toNote_7 (.seq c_L_toNote_8 (.seq c_L_toNote_9 .ret))))))))))

abbrev F_L_toNote : FuncId := 8

theorem k_L_toNote : comp PP (Tryd.f8.ntmps, pinOf 0 [none]) [0, 1, 2, 3] (Tryd.f8.body.getD .skip) = some c_L_toNote.erase := by kernel_rfl

theorem v_L_toNote (rcs : List C) {cs : List C} {r : C} {os : List (Option C)} (hN : (cs.length == 1 && rcs.length == 1) = true) (hret : retOf rcs = r)
    (hW : W PP [0, 1, 2, 3] (Tryd.f8.ntmps, pinOf 0 [none]) (Valid PP GG) c_L_toNote (entry cs) (Fin (Valid PP GG) [(.give, 2, some (true, 7))] [none] rcs os) (fun _ _ => False) (Fin (Valid PP GG) [(.give, 2, some (true, 7))] [none] rcs os)) : Valid PP GG F_L_toNote cs r os :=
  fn_valid_n 1 1 [0, 1, 2, 3] c_L_toNote [(.give, 2, some (true, 7))] [none] rcs Tryd.func8 rfl rfl (by kernel_rfl) k_L_toNote rfl rfl hN hret hW


/-
loop.example/g00705/impl.NoteText  params 1+0 results [2]
  seq  mid=[1]
    c_I_NoteText_0
    seq  mid=[2]
      c_I_NoteText_1 DRAW
      ret
-/
def c_I_NoteText_0 : ACode := .reg [⟨.var 1, .box (.var 0), none, []⟩,
  ⟨.var 2, .mv (.const (.d (.str []))), none, []⟩] false
def c_I_NoteText_1 : ACode := .reg [⟨.loc 3, .fld 0 (.var 1), none, []⟩,
  ⟨.loc 4, .load false 1 (.loc 3), none, [0]⟩,
  ⟨.loc 5, .call (.fn 18) [(.loc 4)] [.borrow], none, [1, 0]⟩,
  ⟨.loc 6, .bin .str .add (.loc 5) (.const (.d (.str [32]))), none, [2, 1, 0]⟩,
  ⟨.loc 7, .fld 1 (.var 1), none, []⟩,
  ⟨.loc 8, .load false 1 (.loc 7), none, [4]⟩,
  ⟨.loc 9, .call (.fn 18) [(.loc 8)] [.borrow], none, [5, 4, 2, 1, 0]⟩,
  ⟨.loc 10, .bin .str .add (.loc 6) (.loc 9), none, [3, 6, 5, 4, 2, 1, 0]⟩,
  ⟨.loc 11, .bin .str .add (.loc 10) (.const (.d (.str [32]))), none, [7, 3, 6, 5, 4, 2, 1, 0]⟩,
  ⟨.loc 12, .fld 2 (.var 1), none, []⟩,
  ⟨.loc 13, .load false 1 (.loc 12), none, [9]⟩,
  ⟨.loc 14, .call (.fn 18) [(.loc 13)] [.borrow], none, [10, 9, 6, 5, 4, 2, 1, 0]⟩,
  ⟨.loc 15, .bin .str .add (.loc 11) (.loc 14), none, [8, 7, 3, 11, 10, 9, 6, 5, 4, 2, 1, 0]⟩,
  ⟨.loc 16, .bin .str .add (.loc 15) (.const (.d (.str [32]))), none, [12, 8, 7, 3, 11, 10, 9, 6, 5, 4, 2, 1, 0]⟩,
  ⟨.loc 17, .fld 3 (.var 1), none, []⟩,
  ⟨.loc 18, .load false 1 (.loc 17), none, [14]⟩,
  ⟨.loc 19, .bin .str .add (.loc 16) (.loc 18), none, [13, 12, 8, 7, 3, 11, 10, 9, 6, 5, 4, 2, 1, 0, 15, 14]⟩,
  ⟨.loc 20, .bin .str .add (.loc 19) (.const (.d (.str [32]))), none, [16, 13, 12, 8, 7, 3, 11, 10, 9, 6, 5, 4, 2, 1, 0, 15, 14]⟩,
  ⟨.loc 21, .fld 4 (.var 1), none, []⟩,
  ⟨.loc 22, .load false 1 (.loc 21), none, [18]⟩,
  ⟨.loc 23, .bin .str .add (.loc 20) (.loc 22), none, [17, 16, 13, 12, 8, 7, 3, 11, 10, 9, 6, 5, 4, 2, 1, 0, 15, 14, 19, 18]⟩,
  ⟨.loc 24, .bin .str .add (.loc 23) (.const (.d (.str [32]))), none, [20, 17, 16, 13, 12, 8, 7, 3, 11, 10, 9, 6, 5, 4, 2, 1, 0, 15, 14, 19, 18]⟩,
  ⟨.loc 25, .fld 5 (.var 1), none, []⟩,
  ⟨.loc 26, .load false 1 (.loc 25), none, [22]⟩,
  ⟨.loc 27, .call (.fn 18) [(.loc 26)] [.borrow], none, [23, 22, 11, 10, 9, 6, 5, 4, 2, 1, 0]⟩,
  ⟨.loc 28, .bin .str .add (.loc 24) (.loc 27), none, [21, 20, 17, 16, 13, 12, 8, 7, 3, 15, 14, 19, 18, 24, 23, 22, 11, 10, 9, 6, 5, 4, 2, 1, 0]⟩,
  ⟨.loc 29, .bin .str .add (.loc 28) (.const (.d (.str [32]))), none, [25, 21, 20, 17, 16, 13, 12, 8, 7, 3, 15, 14, 19, 18, 24, 23, 22, 11, 10, 9, 6, 5, 4, 2, 1, 0]⟩,
  ⟨.loc 30, .fld 6 (.var 1), none, []⟩,
  ⟨.loc 31, .load false 1 (.loc 30), none, [27]⟩,
  ⟨.loc 32, .call (.fn 18) [(.loc 31)] [.borrow], none, [28, 27, 24, 23, 22, 11, 10, 9, 6, 5, 4, 2, 1, 0]⟩,
  ⟨.loc 33, .bin .str .add (.loc 29) (.loc 32), none, [26, 25, 21, 20, 17, 16, 13, 12, 8, 7, 3, 15, 14, 19, 18, 29, 28, 27, 24, 23, 22, 11, 10, 9, 6, 5, 4, 2, 1, 0]⟩,
  ⟨.var 2, .mv (.loc 33), none, [30, 26, 25, 21, 20, 17, 16, 13, 12, 8, 7, 3, 15, 14, 19, 18, 29, 28, 27, 24, 23, 22, 11, 10, 9, 6, 5, 4, 2, 1, 0]⟩] true
def c_I_NoteText : ACode := (.seq c_I_NoteText_0 (.seq c_I_NoteText_1 .ret))

abbrev F_I_NoteText : FuncId := 9

theorem k_I_NoteText : comp PP (Tryd.f9.ntmps, pinOf 0 [none]) [0, 1, 2] (Tryd.f9.body.getD .skip) = some c_I_NoteText.erase := by kernel_rfl

theorem v_I_NoteText (rcs : List C) {cs : List C} {r : C} {os : List (Option C)} (hN : (cs.length == 1 && rcs.length == 1) = true) (hret : retOf rcs = r)
    (hW : W PP [0, 1, 2] (Tryd.f9.ntmps, pinOf 0 [none]) (Valid PP GG) c_I_NoteText (entry cs) (Fin (Valid PP GG) [(.give, 2, none)] [none] rcs os) (fun _ _ => False) (Fin (Valid PP GG) [(.give, 2, none)] [none] rcs os)) : Valid PP GG F_I_NoteText cs r os :=
  fn_valid_n 1 1 [0, 1, 2] c_I_NoteText [(.give, 2, none)] [none] rcs Tryd.func9 rfl rfl (by kernel_rfl) k_I_NoteText rfl rfl hN hret hW


/-
loop.example/g00705/spec.l01Num  params 1+0 results [2]
  seq  mid=[0]
    c_S_l01Num_0
    seq  mid=[0]
      seq  mid=[0, 7]
        c_S_l01Num_1
        cond (.var 7)
          seq  mid=[2]
            c_S_l01Num_2
            ret
          skip
      seq  mid=[0, 3]
        c_S_l01Num_3
        seq  mid=[0, 3, 4]
          c_S_l01Num_4
          seq  mid=[3, 4]
            block 0
              loop live=[0, 3, 4]
                seq  mid=[0, 3, 4]
                  seq  mid=[0, 3, 4, 11]
                    c_S_l01Num_5
                    cond (.var 11)
                      skip
                      exit 0
                  block 1
                    seq  mid=[0, 3, 4, 5]
                      c_S_l01Num_6
                      seq  mid=[0, 3, 4, 5]
                        seq  mid=[0, 3, 4, 5, 15]
                          c_S_l01Num_7
                          cond (.var 15)
                            c_S_l01Num_8
                            skip
                        seq  mid=[0, 3, 4]
                          c_S_l01Num_9
                          c_S_l01Num_10
            seq  mid=[3]
              seq  mid=[3, 27]
                c_S_l01Num_12
                cond (.var 27)
                  seq  mid=[2]
                    c_S_l01Num_13
                    ret
                  skip
              seq  mid=[2]
                c_S_l01Num_14
                ret
-/
def c_S_l01Num_0 : ACode := .reg [⟨.var 2, .mv (.const (.d (.str []))), none, []⟩] false
def c_S_l01Num_1 : ACode := .reg [⟨.loc 6, .mv (.var 0), none, []⟩,
  ⟨.var 7, .bin .int .eql (.loc 6) (.const (.d (.int .i64 0))), none, []⟩] false
def c_S_l01Num_2 : ACode := .reg [⟨.var 2, .mv (.const (.d (.str [48]))), none, []⟩] false
def c_S_l01Num_3 : ACode := .reg [⟨.var 3, .mv (.const (.d (.str []))), none, []⟩] false
def c_S_l01Num_4 : ACode := .reg [⟨.loc 8, .mv (.var 0), none, []⟩,
  ⟨.loc 9, .bin .int .lss (.loc 8) (.const (.d (.int .i64 0))), none, []⟩,
  ⟨.var 4, .mv (.loc 9), none, []⟩] false
def c_S_l01Num_5 : ACode := .reg [⟨.loc 10, .mv (.var 0), none, []⟩,
  ⟨.var 11, .bin .int .neq (.loc 10) (.const (.d (.int .i64 0))), none, []⟩] false
def c_S_l01Num_6 : ACode := .reg [⟨.loc 12, .mv (.var 0), none, []⟩,
  ⟨.loc 13, .bin .int .rem (.loc 12) (.const (.d (.int .i64 10))), none, []⟩,
  ⟨.var 5, .mv (.loc 13), none, []⟩] false
def c_S_l01Num_7 : ACode := .reg [⟨.loc 14, .mv (.var 5), none, []⟩,
  ⟨.var 15, .bin .int .lss (.loc 14) (.const (.d (.int .i64 0))), none, []⟩] false
def c_S_l01Num_8 : ACode := .reg [⟨.loc 16, .mv (.var 5), none, []⟩,
  ⟨.loc 17, .un .neg (.loc 16), none, []⟩,
  ⟨.var 5, .mv (.loc 17), none, []⟩] false
def c_S_l01Num_9 : ACode := .reg [⟨.loc 18, .mv (.var 5), none, []⟩,
  ⟨.loc 19, .bin .int .add (.const (.d (.int .i64 48))) (.loc 18), none, []⟩,
  ⟨.loc 20, .conv .u8 (.loc 19), none, []⟩,
  ⟨.loc 21, .lit 0 1 1 [.int .u8 0] [(0, (.loc 20))], none, []⟩,
  ⟨.loc 22, .b2s (.loc 21), none, []⟩,
  ⟨.loc 23, .mv (.var 3), none, []⟩,
  ⟨.loc 24, .bin .str .add (.loc 22) (.loc 23), none, []⟩,
  ⟨.var 3, .mv (.loc 24), none, []⟩] false
def c_S_l01Num_10 : ACode := .reg [⟨.loc 25, .mv (.var 0), none, []⟩,
  ⟨.loc 26, .bin .int .quo (.loc 25) (.const (.d (.int .i64 10))), none, []⟩,
  ⟨.var 0, .mv (.loc 26), none, []⟩] false
def c_S_l01Num_11 : ACode := (.seq (.seq c_S_l01Num_5 (.cond (.var 11) .skip (.exit 0))) (.block 1 (.seq c_S_l01Num_6 (.seq (.seq c_S_l01Num_7 (.cond (.var 15) c_S_l01Num_8 .skip)) (.seq c_S_l01Num_9 c_S_l01Num_10)))))
def c_S_l01Num_12 : ACode := .reg [⟨.var 27, .mv (.var 4), none, []⟩] false
def c_S_l01Num_13 : ACode := .reg [⟨.loc 28, .mv (.var 3), none, []⟩,
  ⟨.loc 29, .bin .str .add (.const (.d (.str [45]))) (.loc 28), none, []⟩,
  ⟨.var 2, .mv (.loc 29), none, []⟩] false
def c_S_l01Num_14 : ACode := .reg [⟨.loc 30, .mv (.var 3), none, []⟩,
  ⟨.var 2, .mv (.loc 30), none, []⟩] false
def c_S_l01Num : ACode := (.seq c_S_l01Num_0 (.seq (.seq c_S_l01Num_1 (.cond (.var 7) (.seq c_S_l01Num_2 .ret) .skip)) (.seq c_S_l01Num_3 (.seq c_S_l01Num_4 (.seq (.block 0 (.loop [0, 3, 4] c_S_l01Num_11)) (.seq (.seq c_S_l01Num_12 (.cond (.var 27) (.seq c_S_l01Num_13 .ret) .skip)) (.seq c_S_l01Num_14 .ret)))))))

abbrev F_S_l01Num : FuncId := 17

theorem k_S_l01Num : comp PP (Tryd.f17.ntmps, pinOf 0 [none]) [0, 2, 3, 4, 5, 7, 11, 15, 27] (Tryd.f17.body.getD .skip) = some c_S_l01Num.erase := by kernel_rfl

theorem v_S_l01Num (rcs : List C) {cs : List C} {r : C} {os : List (Option C)} (hN : (cs.length == 1 && rcs.length == 1) = true) (hret : retOf rcs = r)
    (hW : W PP [0, 2, 3, 4, 5, 7, 11, 15, 27] (Tryd.f17.ntmps, pinOf 0 [none]) (Valid PP GG) c_S_l01Num (entry cs) (Fin (Valid PP GG) [(.give, 2, none)] [none] rcs os) (fun _ _ => False) (Fin (Valid PP GG) [(.give, 2, none)] [none] rcs os)) : Valid PP GG F_S_l01Num cs r os :=
  fn_valid_n 1 1 [0, 2, 3, 4, 5, 7, 11, 15, 27] c_S_l01Num [(.give, 2, none)] [none] rcs Tryd.func17 rfl rfl (by kernel_rfl) k_S_l01Num rfl rfl hN hret hW


/-
loop.example/g00705/laws.FnExactSumOf  params 2+0 results [4]
  seq  mid=[0, 3]
    c_L_FnExactSumOf_0
    seq  mid=[0, 3, 5]
      c_L_FnExactSumOf_1
      seq  mid=[0, 3, 5]
        c_L_FnExactSumOf_2
        seq  mid=[0, 3]
          seq  mid=[0, 3, 12]
            c_L_FnExactSumOf_3
            cond (.var 12)
              seq  mid=[4]
                c_L_FnExactSumOf_4
                ret
              skip
          seq  mid=[0, 3, 6]
            c_L_FnExactSumOf_5
            seq  mid=[6, 7]
              c_L_FnExactSumOf_6
              seq  mid=[]
                seq  mid=[23]
                  c_L_FnExactSumOf_7
                  cond (.var 23)
                    seq  mid=[4]
                      c_L_FnExactSumOf_8
                      ret
                    skip
                seq  mid=[4]
                  c_L_FnExactSumOf_9
                  ret
-/
def c_L_FnExactSumOf_0 : ACode := .reg [⟨.var 3, .box (.var 1), none, []⟩,
  ⟨.var 4, .mv (.const (.d (.bool false))), none, []⟩] false
def c_L_FnExactSumOf_1 : ACode := .reg [⟨.var 5, .mv (.const (.d (.int .i64 1048576))), none, []⟩] false
def c_L_FnExactSumOf_2 : ACode := .reg [⟨.loc 8, .load true 7 (.var 3), none, []⟩,
  ⟨.loc 9, .mv (.var 5), none, []⟩,
  ⟨.loc 10, .call (.fn 6) [(.loc 8), (.loc 9)] [.borrow, .borrow], none, []⟩,
  ⟨.var 5, .mv (.loc 10), none, []⟩] false
def c_L_FnExactSumOf_3 : ACode := .reg [⟨.loc 11, .mv (.var 5), none, []⟩,
  ⟨.var 12, .bin .int .lss (.loc 11) (.const (.d (.int .i64 0))), none, []⟩] false
def c_L_FnExactSumOf_4 : ACode := .reg [⟨.var 4, .mv (.const (.d (.bool true))), none, []⟩] false
def c_L_FnExactSumOf_5 : ACode := .reg [⟨.loc 13, .mv (.var 0), none, []⟩,
  ⟨.loc 14, .load true 7 (.var 3), none, []⟩,
  ⟨.loc 15, .call (.fn 8) [(.loc 14)] [.borrow], none, []⟩,
  ⟨.loc 16, .call (.fn 10) [(.loc 13), (.loc 15)] [.borrow, .borrow], none, []⟩,
  ⟨.var 6, .mv (.loc 16), none, []⟩] false
def c_L_FnExactSumOf_6 : ACode := .reg [⟨.loc 17, .mv (.var 0), none, []⟩,
  ⟨.loc 18, .load true 7 (.var 3), none, []⟩,
  ⟨.loc 19, .call (.fn 8) [(.loc 18)] [.borrow], none, []⟩,
  ⟨.loc 20, .call (.fn 11) [(.loc 17), (.loc 19)] [.borrow, .borrow], none, []⟩,
  ⟨.var 7, .mv (.loc 20), none, []⟩] false
def c_L_FnExactSumOf_7 : ACode := .reg [⟨.loc 21, .mv (.var 7), none, []⟩,
  ⟨.loc 22, .mv (.var 6), none, []⟩,
  ⟨.var 23, .bin .int .neq (.loc 21) (.loc 22), none, []⟩] false
def c_L_FnExactSumOf_8 : ACode := .reg [⟨.var 4, .mv (.const (.d (.bool false))), none, []⟩] false
def c_L_FnExactSumOf_9 : ACode := .reg [⟨.var 4, .mv (.const (.d (.bool true))), none, []⟩] false
def c_L_FnExactSumOf : ACode := (.seq c_L_FnExactSumOf_0 (.seq c_L_FnExactSumOf_1 (.seq c_L_FnExactSumOf_2 (.seq (.seq c_L_FnExactSumOf_3 (.cond (.var 12) (.seq c_L_FnExactSumOf_4 .ret) .skip)) (.seq c_L_FnExactSumOf_5 (.seq c_L_FnExactSumOf_6 (.seq (.seq c_L_FnExactSumOf_7 (.cond (.var 23) (.seq c_L_FnExactSumOf_8 .ret) .skip)) (.seq c_L_FnExactSumOf_9 .ret))))))))

abbrev F_L_FnExactSumOf : FuncId := 4

theorem k_L_FnExactSumOf : comp PP (Tryd.f4.ntmps, pinOf 0 [none, none]) [0, 1, 3, 4, 5, 6, 7, 12, 23] (Tryd.f4.body.getD .skip) = some c_L_FnExactSumOf.erase := by kernel_rfl

theorem v_L_FnExactSumOf (rcs : List C) {cs : List C} {r : C} {os : List (Option C)} (hN : (cs.length == 2 && rcs.length == 1) = true) (hret : retOf rcs = r)
    (hW : W PP [0, 1, 3, 4, 5, 6, 7, 12, 23] (Tryd.f4.ntmps, pinOf 0 [none, none]) (Valid PP GG) c_L_FnExactSumOf (entry cs) (Fin (Valid PP GG) [(.give, 4, none)] [none, none] rcs os) (fun _ _ => False) (Fin (Valid PP GG) [(.give, 4, none)] [none, none] rcs os)) : Valid PP GG F_L_FnExactSumOf cs r os :=
  fn_valid_n 2 1 [0, 1, 3, 4, 5, 6, 7, 12, 23] c_L_FnExactSumOf [(.give, 4, none)] [none, none] rcs Tryd.func4 rfl rfl (by kernel_rfl) k_L_FnExactSumOf rfl rfl hN hret hW


/-
loop.example/g00705/spec.SumOf  params 2+0 results [4]
  seq  mid=[0, 3]
    c_S_SumOf_0
    seq  mid=[5]
      c_S_SumOf_1 DRAW
      seq  mid=[4]
        c_S_SumOf_2
        ret
-/
def c_S_SumOf_0 : ACode := .reg [⟨.var 3, .box (.var 1), none, []⟩,
  ⟨.var 4, .mv (.const (.d (.int .i64 0))), none, []⟩] false
def c_S_SumOf_1 : ACode := .reg [⟨.loc 6, .mv (.var 0), none, []⟩,
  ⟨.loc 7, .call (.fn 17) [(.loc 6)] [.borrow], none, [0]⟩,
  ⟨.loc 8, .bin .str .add (.loc 7) (.const (.d (.str [10]))), none, [1, 0]⟩,
  ⟨.loc 9, .fld 0 (.var 3), none, []⟩,
  ⟨.loc 10, .load false 1 (.loc 9), none, [3]⟩,
  ⟨.loc 11, .call (.fn 17) [(.loc 10)] [.borrow], none, [4, 3, 1, 0]⟩,
  ⟨.loc 12, .bin .str .add (.loc 8) (.loc 11), none, [2, 5, 4, 3, 1, 0]⟩,
  ⟨.loc 13, .bin .str .add (.loc 12) (.const (.d (.str [10]))), none, [6, 2, 5, 4, 3, 1, 0]⟩,
  ⟨.loc 14, .fld 1 (.var 3), none, []⟩,
  ⟨.loc 15, .load false 1 (.loc 14), none, [8]⟩,
  ⟨.loc 16, .call (.fn 17) [(.loc 15)] [.borrow], none, [9, 8, 5, 4, 3, 1, 0]⟩,
  ⟨.loc 17, .bin .str .add (.loc 13) (.loc 16), none, [7, 6, 2, 10, 9, 8, 5, 4, 3, 1, 0]⟩,
  ⟨.loc 18, .bin .str .add (.loc 17) (.const (.d (.str [10]))), none, [11, 7, 6, 2, 10, 9, 8, 5, 4, 3, 1, 0]⟩,
  ⟨.loc 19, .fld 2 (.var 3), none, []⟩,
  ⟨.loc 20, .load false 1 (.loc 19), none, [13]⟩,
  ⟨.loc 21, .call (.fn 17) [(.loc 20)] [.borrow], none, [14, 13, 10, 9, 8, 5, 4, 3, 1, 0]⟩,
  ⟨.loc 22, .bin .str .add (.loc 18) (.loc 21), none, [12, 11, 7, 6, 2, 15, 14, 13, 10, 9, 8, 5, 4, 3, 1, 0]⟩,
  ⟨.loc 23, .bin .str .add (.loc 22) (.const (.d (.str [10]))), none, [16, 12, 11, 7, 6, 2, 15, 14, 13, 10, 9, 8, 5, 4, 3, 1, 0]⟩,
  ⟨.loc 24, .fld 3 (.var 3), none, []⟩,
  ⟨.loc 25, .load false 1 (.loc 24), none, [18]⟩,
  ⟨.loc 26, .bin .str .add (.loc 23) (.loc 25), none, [17, 16, 12, 11, 7, 6, 2, 15, 14, 13, 10, 9, 8, 5, 4, 3, 1, 0, 19, 18]⟩,
  ⟨.loc 27, .bin .str .add (.loc 26) (.const (.d (.str [10]))), none, [20, 17, 16, 12, 11, 7, 6, 2, 15, 14, 13, 10, 9, 8, 5, 4, 3, 1, 0, 19, 18]⟩,
  ⟨.loc 28, .fld 4 (.var 3), none, []⟩,
  ⟨.loc 29, .load false 1 (.loc 28), none, [22]⟩,
  ⟨.loc 30, .bin .str .add (.loc 27) (.loc 29), none, [21, 20, 17, 16, 12, 11, 7, 6, 2, 15, 14, 13, 10, 9, 8, 5, 4, 3, 1, 0, 19, 18, 23, 22]⟩,
  ⟨.loc 31, .bin .str .add (.loc 30) (.const (.d (.str [10]))), none, [24, 21, 20, 17, 16, 12, 11, 7, 6, 2, 15, 14, 13, 10, 9, 8, 5, 4, 3, 1, 0, 19, 18, 23, 22]⟩,
  ⟨.loc 32, .fld 5 (.var 3), none, []⟩,
  ⟨.loc 33, .load false 1 (.loc 32), none, [26]⟩,
  ⟨.loc 34, .call (.fn 17) [(.loc 33)] [.borrow], none, [27, 26, 15, 14, 13, 10, 9, 8, 5, 4, 3, 1, 0]⟩,
  ⟨.loc 35, .bin .str .add (.loc 31) (.loc 34), none, [25, 24, 21, 20, 17, 16, 12, 11, 7, 6, 2, 19, 18, 23, 22, 28, 27, 26, 15, 14, 13, 10, 9, 8, 5, 4, 3, 1, 0]⟩,
  ⟨.var 5, .mv (.loc 35), none, [29, 25, 24, 21, 20, 17, 16, 12, 11, 7, 6, 2, 19, 18, 23, 22, 28, 27, 26, 15, 14, 13, 10, 9, 8, 5, 4, 3, 1, 0]⟩] true
def c_S_SumOf_2 : ACode := .reg [⟨.loc 36, .mv (.var 5), none, []⟩,
  ⟨.loc 37, .s2b (.loc 36), none, []⟩,
  ⟨.loc 38, .call (.fn 19) [(.loc 37)] [.borrow], none, []⟩,
  ⟨.var 4, .mv (.loc 38), none, []⟩] false
def c_S_SumOf : ACode := (.seq c_S_SumOf_0 (.seq c_S_SumOf_1 (.seq c_S_SumOf_2 .ret)))

abbrev F_S_SumOf : FuncId := 10

theorem k_S_SumOf : comp PP (Tryd.f10.ntmps, pinOf 0 [none, none]) [0, 1, 3, 4, 5] (Tryd.f10.body.getD .skip) = some c_S_SumOf.erase := by kernel_rfl

theorem v_S_SumOf (rcs : List C) {cs : List C} {r : C} {os : List (Option C)} (hN : (cs.length == 2 && rcs.length == 1) = true) (hret : retOf rcs = r)
    (hW : W PP [0, 1, 3, 4, 5] (Tryd.f10.ntmps, pinOf 0 [none, none]) (Valid PP GG) c_S_SumOf (entry cs) (Fin (Valid PP GG) [(.give, 4, none)] [none, none] rcs os) (fun _ _ => False) (Fin (Valid PP GG) [(.give, 4, none)] [none, none] rcs os)) : Valid PP GG F_S_SumOf cs r os :=
  fn_valid_n 2 1 [0, 1, 3, 4, 5] c_S_SumOf [(.give, 4, none)] [none, none] rcs Tryd.func10 rfl rfl (by kernel_rfl) k_S_SumOf rfl rfl hN hret hW


/-
loop.example/g00705/impl.SumOf  params 2+0 results [4]
  seq  mid=[0, 3]
    c_I_SumOf_0
    seq  mid=[4]
      c_I_SumOf_1
      ret
-/
def c_I_SumOf_0 : ACode := .reg [⟨.var 3, .box (.var 1), none, []⟩,
  ⟨.var 4, .mv (.const (.d (.int .i64 0))), none, []⟩] false
def c_I_SumOf_1 : ACode := .reg [⟨.loc 5, .mv (.var 0), none, []⟩,
  ⟨.loc 6, .load true 7 (.var 3), none, []⟩,
  ⟨.loc 7, .call (.fn 20) [(.loc 5), (.loc 6)] [.borrow, .borrow], none, []⟩,
  ⟨.var 4, .mv (.loc 7), none, []⟩] false
def c_I_SumOf : ACode := (.seq c_I_SumOf_0 (.seq c_I_SumOf_1 .ret))

abbrev F_I_SumOf : FuncId := 11

theorem k_I_SumOf : comp PP (Tryd.f11.ntmps, pinOf 0 [none, none]) [0, 1, 3, 4] (Tryd.f11.body.getD .skip) = some c_I_SumOf.erase := by kernel_rfl

theorem v_I_SumOf (rcs : List C) {cs : List C} {r : C} {os : List (Option C)} (hN : (cs.length == 2 && rcs.length == 1) = true) (hret : retOf rcs = r)
    (hW : W PP [0, 1, 3, 4] (Tryd.f11.ntmps, pinOf 0 [none, none]) (Valid PP GG) c_I_SumOf (entry cs) (Fin (Valid PP GG) [(.give, 4, none)] [none, none] rcs os) (fun _ _ => False) (Fin (Valid PP GG) [(.give, 4, none)] [none, none] rcs os)) : Valid PP GG F_I_SumOf cs r os :=
  fn_valid_n 2 1 [0, 1, 3, 4] c_I_SumOf [(.give, 4, none)] [none, none] rcs Tryd.func11 rfl rfl (by kernel_rfl) k_I_SumOf rfl rfl hN hret hW


/-
loop.example/g00705/spec.Digest  params 1+0 results [2]
  seq  mid=[0]
    c_S_Digest_0
    seq  mid=[0, 3]
      c_S_Digest_1
      seq  mid=[0, 3, 4]
        c_S_Digest_2
        seq  mid=[3, 4]
          seq  mid=[0, 3, 4, 5]
            c_S_Digest_3
            block 0
              loop live=[0, 3, 4, 5]
                seq  mid=[0, 3, 4, 5]
                  seq  mid=[0, 3, 4, 5, 9]
                    c_S_Digest_4
                    cond (.var 9)
                      skip
                      exit 0
                  seq  mid=[0, 3, 4, 5]
                    block 1
                      seq  mid=[0, 3, 4, 5]
                        c_S_Digest_5
                        c_S_Digest_6
                    c_S_Digest_7
          seq  mid=[2]
            c_S_Digest_9
            ret
-/
def c_S_Digest_0 : ACode := .reg [⟨.var 2, .mv (.const (.d (.int .i64 0))), none, []⟩] false
def c_S_Digest_1 : ACode := .reg [⟨.var 3, .mv (.const (.d (.int .i64 7))), none, []⟩] false
def c_S_Digest_2 : ACode := .reg [⟨.var 4, .mv (.const (.d (.int .i64 11))), none, []⟩] false
def c_S_Digest_3 : ACode := .reg [⟨.var 5, .mv (.const (.d (.int .i64 0))), none, []⟩] false
def c_S_Digest_4 : ACode := .reg [⟨.loc 6, .mv (.var 5), none, []⟩,
  ⟨.loc 7, .mv (.var 0), none, []⟩,
  ⟨.loc 8, .len false (.loc 7), none, []⟩,
  ⟨.var 9, .bin .int .lss (.loc 6) (.loc 8), none, []⟩] false
def c_S_Digest_5 : ACode := .reg [⟨.loc 12, .mv (.var 3), none, []⟩,
  ⟨.loc 13, .bin .int .mul (.const (.d (.int .i64 131))) (.loc 12), none, []⟩,
  ⟨.loc 14, .mv (.var 0), none, []⟩,
  ⟨.loc 15, .mv (.var 5), none, []⟩,
  ⟨.loc 16, .idxA 1 (.loc 14) (.loc 15), none, []⟩,
  ⟨.loc 17, .load false 1 (.loc 16), none, []⟩,
  ⟨.loc 18, .conv .i64 (.loc 17), none, []⟩,
  ⟨.loc 19, .bin .int .add (.loc 13) (.loc 18), none, []⟩,
  ⟨.loc 20, .bin .int .add (.loc 19) (.const (.d (.int .i64 1))), none, []⟩,
  ⟨.loc 21, .bin .int .rem (.loc 20) (.const (.d (.int .i64 2147483647))), none, []⟩,
  ⟨.var 3, .mv (.loc 21), none, []⟩] false
def c_S_Digest_6 : ACode := .reg [⟨.loc 22, .mv (.var 4), none, []⟩,
  ⟨.loc 23, .bin .int .mul (.const (.d (.int .i64 137))) (.loc 22), none, []⟩,
  ⟨.loc 24, .mv (.var 0), none, []⟩,
  ⟨.loc 25, .mv (.var 5), none, []⟩,
  ⟨.loc 26, .idxA 1 (.loc 24) (.loc 25), none, []⟩,
  ⟨.loc 27, .load false 1 (.loc 26), none, []⟩,
  ⟨.loc 28, .conv .i64 (.loc 27), none, []⟩,
  ⟨.loc 29, .bin .int .add (.loc 23) (.loc 28), none, []⟩,
  ⟨.loc 30, .bin .int .add (.loc 29) (.const (.d (.int .i64 3))), none, []⟩,
  ⟨.loc 31, .bin .int .rem (.loc 30) (.const (.d (.int .i64 2147483629))), none, []⟩,
  ⟨.var 4, .mv (.loc 31), none, []⟩] false
def c_S_Digest_7 : ACode := .reg [⟨.loc 10, .mv (.var 5), none, []⟩,
  ⟨.loc 11, .bin .int .add (.loc 10) (.const (.d (.int .i64 1))), none, []⟩,
  ⟨.var 5, .mv (.loc 11), none, []⟩] false
def c_S_Digest_8 : ACode := (.seq (.seq c_S_Digest_4 (.cond (.var 9) .skip (.exit 0))) (.seq (.block 1 (.seq c_S_Digest_5 c_S_Digest_6)) c_S_Digest_7))
def c_S_Digest_9 : ACode := .reg [⟨.loc 32, .mv (.var 3), none, []⟩,
  ⟨.loc 33, .bin .int .mul (.const (.d (.int .i64 2147483648))) (.loc 32), none, []⟩,
  ⟨.loc 34, .mv (.var 4), none, []⟩,
  ⟨.loc 35, .bin .int .add (.loc 33) (.loc 34), none, []⟩,
  ⟨.var 2, .mv (.loc 35), none, []⟩] false
def c_S_Digest : ACode := (.seq c_S_Digest_0 (.seq c_S_Digest_1 (.seq c_S_Digest_2 (.seq (.seq c_S_Digest_3 (.block 0 (.loop [0, 3, 4, 5] c_S_Digest_8))) (.seq c_S_Digest_9 .ret)))))

abbrev F_S_Digest : FuncId := 19

theorem k_S_Digest : comp PP (Tryd.f19.ntmps, pinOf 0 [none]) [0, 2, 3, 4, 5, 9] (Tryd.f19.body.getD .skip) = some c_S_Digest.erase := by kernel_rfl

theorem v_S_Digest (rcs : List C) {cs : List C} {r : C} {os : List (Option C)} (hN : (cs.length == 1 && rcs.length == 1) = true) (hret : retOf rcs = r)
    (hW : W PP [0, 2, 3, 4, 5, 9] (Tryd.f19.ntmps, pinOf 0 [none]) (Valid PP GG) c_S_Digest (entry cs) (Fin (Valid PP GG) [(.give, 2, none)] [none] rcs os) (fun _ _ => False) (Fin (Valid PP GG) [(.give, 2, none)] [none] rcs os)) : Valid PP GG F_S_Digest cs r os :=
  fn_valid_n 1 1 [0, 2, 3, 4, 5, 9] c_S_Digest [(.give, 2, none)] [none] rcs Tryd.func19 rfl rfl (by kernel_rfl) k_S_Digest rfl rfl hN hret hW


/-
loop.example/g00705/impl.sumOf  params 2+0 results [4]
  seq  mid=[0, 3]
    c_I_sumOf_0
    seq  mid=[5]
      c_I_sumOf_1 DRAW
      seq  mid=[4]
        c_I_sumOf_2
        ret
-/
def c_I_sumOf_0 : ACode := .reg [⟨.var 3, .box (.var 1), none, []⟩,
  ⟨.var 4, .mv (.const (.d (.int .i64 0))), none, []⟩] false
def c_I_sumOf_1 : ACode := .reg [⟨.loc 6, .mv (.var 0), none, []⟩,
  ⟨.loc 7, .call (.fn 18) [(.loc 6)] [.borrow], none, [0]⟩,
  ⟨.loc 8, .fld 0 (.var 3), none, []⟩,
  ⟨.loc 9, .load false 1 (.loc 8), none, [2]⟩,
  ⟨.loc 10, .call (.fn 18) [(.loc 9)] [.borrow], none, [3, 2, 1, 0]⟩,
  ⟨.loc 11, .fld 1 (.var 3), none, []⟩,
  ⟨.loc 12, .load false 1 (.loc 11), none, [5]⟩,
  ⟨.loc 13, .call (.fn 18) [(.loc 12)] [.borrow], none, [6, 5, 4, 3, 2, 1, 0]⟩,
  ⟨.loc 14, .fld 2 (.var 3), none, []⟩,
  ⟨.loc 15, .load false 1 (.loc 14), none, [8]⟩,
  ⟨.loc 16, .call (.fn 18) [(.loc 15)] [.borrow], none, [9, 8, 7, 6, 5, 4, 3, 2, 1, 0]⟩,
  ⟨.loc 17, .fld 3 (.var 3), none, []⟩,
  ⟨.loc 18, .load false 1 (.loc 17), none, [11]⟩,
  ⟨.loc 19, .fld 4 (.var 3), none, []⟩,
  ⟨.loc 20, .load false 1 (.loc 19), none, [13]⟩,
  ⟨.loc 21, .fld 5 (.var 3), none, []⟩,
  ⟨.loc 22, .load false 1 (.loc 21), none, [15]⟩,
  ⟨.loc 23, .call (.fn 18) [(.loc 22)] [.borrow], none, [16, 15, 10, 9, 8, 7, 6, 5, 4, 3, 2, 1, 0]⟩,
  ⟨.loc 24, .lit 0 1 7 [.str []] [(0, (.loc 7)), (1, (.loc 10)), (2, (.loc 13)), (3, (.loc 16)), (4, (.loc 18)), (5, (.loc 20)), (6, (.loc 23))], none, [12, 11, 14, 13, 17, 16, 15, 10, 9, 8, 7, 6, 5, 4, 3, 2, 1, 0]⟩,
  ⟨.var 5, .mv (.loc 24), none, [18, 12, 11, 14, 13, 17, 16, 15, 10, 9, 8, 7, 6, 5, 4, 3, 2, 1, 0]⟩] true
def c_I_sumOf_2 : ACode := .reg [⟨.loc 25, .mv (.var 5), none, []⟩,
  ⟨.loc 26, .call (.fn 27) [(.loc 25), (.const (.d (.str [10])))] [.borrow, .borrow], none, []⟩,
  ⟨.loc 27, .s2b (.loc 26), none, []⟩,
  ⟨.loc 28, .call (.fn 26) [(.loc 27)] [.borrow], none, []⟩,
  ⟨.var 4, .mv (.loc 28), none, []⟩] false
def c_I_sumOf : ACode := (.seq c_I_sumOf_0 (.seq c_I_sumOf_1 (.seq c_I_sumOf_2 .ret)))

abbrev F_I_sumOf : FuncId := 20

theorem k_I_sumOf : comp PP (Tryd.f20.ntmps, pinOf 0 [none, none]) [0, 1, 3, 4, 5] (Tryd.f20.body.getD .skip) = some c_I_sumOf.erase := by kernel_rfl

theorem v_I_sumOf (rcs : List C) {cs : List C} {r : C} {os : List (Option C)} (hN : (cs.length == 2 && rcs.length == 1) = true) (hret : retOf rcs = r)
    (hW : W PP [0, 1, 3, 4, 5] (Tryd.f20.ntmps, pinOf 0 [none, none]) (Valid PP GG) c_I_sumOf (entry cs) (Fin (Valid PP GG) [(.give, 4, none)] [none, none] rcs os) (fun _ _ => False) (Fin (Valid PP GG) [(.give, 4, none)] [none, none] rcs os)) : Valid PP GG F_I_sumOf cs r os :=
  fn_valid_n 2 1 [0, 1, 3, 4, 5] c_I_sumOf [(.give, 4, none)] [none, none] rcs Tryd.func20 rfl rfl (by kernel_rfl) k_I_sumOf rfl rfl hN hret hW


/-
loop.example/g00705/impl.digest  params 1+0 results [2]
  seq  mid=[0]
    c_I_digest_0
    seq  mid=[0, 3, 4]
      c_I_digest_1
      seq  mid=[3, 4]
        seq  mid=[3, 4, 7, 8, 9]
          c_I_digest_2
          block 0
            loop live=[3, 4, 7, 8, 9]
              seq  mid=[3, 4, 7, 8, 9, 10]
                c_I_digest_3
                seq  mid=[3, 4, 7, 8, 9]
                  cond (.var 10)
                    skip
                    exit 0
                  seq  mid=[3, 4, 7, 8, 9]
                    block 1
                      seq  mid=[3, 4, 6, 7, 8, 9]
                        c_I_digest_4
                        seq  mid=[3, 4, 6, 7, 8, 9]
                          c_I_digest_5
                          c_I_digest_6
                    c_I_digest_7
        seq  mid=[2]
          c_I_digest_9
          ret
-/
def c_I_digest_0 : ACode := .reg [⟨.var 2, .mv (.const (.d (.int .i64 0))), none, []⟩] false
def c_I_digest_1 : ACode := .reg [⟨.var 3, .mv (.const (.d (.int .i64 7))), none, []⟩,
  ⟨.var 4, .mv (.const (.d (.int .i64 11))), none, []⟩] false
def c_I_digest_2 : ACode := .reg [⟨.var 7, .mv (.var 0), none, []⟩,
  ⟨.var 8, .len false (.var 7), none, []⟩,
  ⟨.var 9, .mv (.const (.d (.int .i64 0))), none, []⟩] false
def c_I_digest_3 : ACode := .reg [⟨.var 10, .bin .int .lss (.var 9) (.var 8), none, []⟩] false
def c_I_digest_4 : ACode := .reg [⟨.loc 11, .idxA 1 (.var 7) (.var 9), none, []⟩,
  ⟨.loc 12, .load false 1 (.loc 11), none, []⟩,
  ⟨.var 6, .mv (.loc 12), none, []⟩] false
def c_I_digest_5 : ACode := .reg [⟨.loc 13, .mv (.var 3), none, []⟩,
  ⟨.loc 14, .bin .int .mul (.const (.d (.int .i64 131))) (.loc 13), none, []⟩,
  ⟨.loc 15, .mv (.var 6), none, []⟩,
  ⟨.loc 16, .conv .i64 (.loc 15), none, []⟩,
  ⟨.loc 17, .bin .int .add (.loc 14) (.loc 16), none, []⟩,
  ⟨.loc 18, .bin .int .add (.loc 17) (.const (.d (.int .i64 1))), none, []⟩,
  ⟨.loc 19, .bin .int .rem (.loc 18) (.const (.d (.int .i64 2147483647))), none, []⟩,
  ⟨.var 3, .mv (.loc 19), none, []⟩] false
def c_I_digest_6 : ACode := .reg [⟨.loc 20, .mv (.var 4), none, []⟩,
  ⟨.loc 21, .bin .int .mul (.const (.d (.int .i64 137))) (.loc 20), none, []⟩,
  ⟨.loc 22, .mv (.var 6), none, []⟩,
  ⟨.loc 23, .conv .i64 (.loc 22), none, []⟩,
  ⟨.loc 24, .bin .int .add (.loc 21) (.loc 23), none, []⟩,
  ⟨.loc 25, .bin .int .add (.loc 24) (.const (.d (.int .i64 3))), none, []⟩,
  ⟨.loc 26, .bin .int .rem (.loc 25) (.const (.d (.int .i64 2147483629))), none, []⟩,
  ⟨.var 4, .mv (.loc 26), none, []⟩] false
def c_I_digest_7 : ACode := .reg [⟨.loc 27, .bin .int .add (.var 9) (.const (.d (.int .i64 1))), none, []⟩,
  ⟨.var 9, .mv (.loc 27), none, []⟩] false
def c_I_digest_8 : ACode := (.seq c_I_digest_3 (.seq (.cond (.var 10) .skip (.exit 0)) (.seq (.block 1 (.seq c_I_digest_4 (.seq c_I_digest_5 c_I_digest_6))) c_I_digest_7)))
def c_I_digest_9 : ACode := .reg [⟨.loc 28, .mv (.var 3), none, []⟩,
  ⟨.loc 29, .bin .int .mul (.const (.d (.int .i64 2147483648))) (.loc 28), none, []⟩,
  ⟨.loc 30, .mv (.var 4), none, []⟩,
  ⟨.loc 31, .bin .int .add (.loc 29) (.loc 30), none, []⟩,
  ⟨.var 2, .mv (.loc 31), none, []⟩] false
def c_I_digest : ACode := (.seq c_I_digest_0 (.seq c_I_digest_1 (.seq (.seq c_I_digest_2 (.block 0 (.loop [3, 4, 7, 8, 9] c_I_digest_8))) (.seq c_I_digest_9 .ret))))

abbrev F_I_digest : FuncId := 26

theorem k_I_digest : comp PP (Tryd.f26.ntmps, pinOf 0 [none]) [0, 2, 3, 4, 6, 7, 8, 9, 10] (Tryd.f26.body.getD .skip) = some c_I_digest.erase := by kernel_rfl

theorem v_I_digest (rcs : List C) {cs : List C} {r : C} {os : List (Option C)} (hN : (cs.length == 1 && rcs.length == 1) = true) (hret : retOf rcs = r)
    (hW : W PP [0, 2, 3, 4, 6, 7, 8, 9, 10] (Tryd.f26.ntmps, pinOf 0 [none]) (Valid PP GG) c_I_digest (entry cs) (Fin (Valid PP GG) [(.give, 2, none)] [none] rcs os) (fun _ _ => False) (Fin (Valid PP GG) [(.give, 2, none)] [none] rcs os)) : Valid PP GG F_I_digest cs r os :=
  fn_valid_n 1 1 [0, 2, 3, 4, 6, 7, 8, 9, 10] c_I_digest [(.give, 2, none)] [none] rcs Tryd.func26 rfl rfl (by kernel_rfl) k_I_digest rfl rfl hN hret hW


end Go.Proofs.YtjdepagpjkoglaaDoor.Ab
