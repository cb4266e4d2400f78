/-
  A part of a proof about the given program; what is proved is said where each theorem stands.
-/
import Derived.Test.YtpbofdbleajagaaDoorFrameA
import Derived.Test.YtpbofdbleajagaaDoorFrameB
import Derived.Test.YtpbofdbleajagaaDoorFrameC
import Derived.Test.YtpbofdbleajagaaDoorFrameD
import Derived.Test.YtpbofdbleajagaaDoorFrameE
import Derived.Test.YtpbofdbleajagaaDoorShelf
import Derived.Test.YtpbofdbleajagaaDoorCodesHex
namespace Go.Proofs
end Go.Proofs
set_option linter.unusedSimpArgs false
set_option linter.unusedVariables false
set_option maxRecDepth 100000
namespace Go.Proofs.YtpbofdbleajagaaDoor.Ab
open Go.Proofs
variable {GG : GV}

/-- The hexadecimal digits. -/
def hexDigit (n : Nat) : UInt8 := ([48, 49, 50, 51, 52, 53, 54, 55, 56, 57, 97, 98, 99, 100, 101, 102] : List UInt8).getD n 0

def hexOf (a : List UInt8) : List UInt8 := a.flatMap fun x => [hexDigit (x.toNat / 16), hexDigit (x.toNat % 16)]

def hexVal (x : UInt8) : Int := if 48 ≤ x.toNat ∧ x.toNat ≤ 57 then x.toNat - 48 else if 97 ≤ x.toNat ∧ x.toNat ≤ 102 then x.toNat - 87 else -1

/-- The digit that the library reads, small or great letters. -/
def hexU (x : UInt8) : Int := if 48 ≤ x.toNat ∧ x.toNat ≤ 57 then x.toNat - 48 else if 97 ≤ (x ||| 32).toNat ∧ (x ||| 32).toNat ≤ 102 then (x ||| 32).toNat - 87 else -1

def unhex : List UInt8 → Option (List UInt8)
  | [] => some []
  | [_] => none
  | x :: y :: r => if hexVal x < 0 ∨ hexVal y < 0 then none else (unhex r).map (UInt8.ofNat (16 * hexVal x + hexVal y).toNat :: ·)

def uhex : List UInt8 → Option (List UInt8)
  | [] => some []
  | [_] => none
  | x :: y :: r => if hexU x < 0 ∨ hexU y < 0 then none else (uhex r).map (UInt8.ofNat (16 * hexU x + hexU y).toNat :: ·)

theorem u8_all {p : UInt8 → Prop} (h : ∀ n : _root_.Fin 256, p (UInt8.ofNat n.val)) (x : UInt8) : p x := by
  have := h ⟨x.toNat, x.toNat_lt⟩
  simpa using this

theorem hexVal_same (x : UInt8) : 0 ≤ hexVal x → hexU x = hexVal x ∧ hexDigit (hexVal x).toNat = x := by
  revert x; exact u8_all (by decide +kernel)

theorem hexVal_less (x : UInt8) : hexVal x < 0 → 0 ≤ hexU x → hexDigit (hexU x).toNat ≠ x := by
  revert x; exact u8_all (by decide +kernel)

theorem hexU_lt (x : UInt8) : hexU x < 16 ∧ -1 ≤ hexU x := by
  revert x; exact u8_all (by decide +kernel)

theorem hexVal_lt (x : UInt8) : hexVal x < 16 ∧ -1 ≤ hexVal x := by
  revert x; exact u8_all (by decide +kernel)

theorem hexOf_cons (v : UInt8) (o : List UInt8) : hexOf (v :: o) = hexDigit (v.toNat / 16) :: hexDigit (v.toNat % 16) :: hexOf o := by simp [hexOf]

theorem hex_two {a b : Int} (h1 : 0 ≤ a) (h2 : a < 16) (h3 : 0 ≤ b) (h4 : b < 16) : (UInt8.ofNat (16 * a + b).toNat).toNat / 16 = a.toNat ∧ (UInt8.ofNat (16 * a + b).toNat).toNat % 16 = b.toNat := by
  rw [UInt8.toNat_ofNat']
  omega

theorem uhex_none_bind (o : List UInt8) (s : List UInt8) (v : UInt8) (f : List UInt8 → Option (List UInt8)) (h : ∀ o, f (v :: o) = none) (z : Option (List UInt8)) : (z.map (v :: ·)).bind f = none := by
  cases z with
  | none => rfl
  | some z => simp [h]

theorem hex_same : ∀ s : List UInt8, unhex s = (uhex s).bind fun o => if hexOf o = s then some o else none := by
  intro s
  induction s using unhex.induct with
  | case1 => simp [unhex, uhex, hexOf]
  | case2 x => simp [unhex, uhex]
  | case3 x y r h =>
    have ux := hexU_lt x
    have uy := hexU_lt y
    rw [unhex, if_pos h, uhex]
    by_cases hb : hexU x < 0 ∨ hexU y < 0
    · rw [if_pos hb]; rfl
    · rw [if_neg hb]
      refine (uhex_none_bind [] [] _ _ (fun o => if_neg ?_) _).symm
      intro e
      obtain ⟨t1, t2⟩ := hex_two (a := hexU x) (b := hexU y) (by omega) (by omega) (by omega) (by omega)
      rw [hexOf_cons, t1, t2] at e
      simp only [List.cons.injEq] at e
      rcases h with h | h
      · exact hexVal_less x h (by omega) e.1
      · exact hexVal_less y h (by omega) e.2.1
  | case4 x y r h ih =>
    obtain ⟨a1, a2⟩ := hexVal_same x (by omega)
    obtain ⟨b1, b2⟩ := hexVal_same y (by omega)
    have vx := hexVal_lt x
    have vy := hexVal_lt y
    rw [unhex, if_neg h, uhex, a1, b1, if_neg h, ih]
    obtain ⟨t1, t2⟩ := hex_two (a := hexVal x) (b := hexVal y) (by omega) (by omega) (by omega) (by omega)
    cases uhex r with
    | none => rfl
    | some o =>
      simp only [Option.bind_some, Option.map_some, hexOf_cons, t1, t2, a2, b2, List.cons.injEq, true_and]
      split <;> simp

theorem unhex_app : ∀ (a : List UInt8) (x y : UInt8), a.length % 2 = 0 → unhex (a ++ [x, y]) = (unhex a).bind fun o => if hexVal x < 0 ∨ hexVal y < 0 then none else some (o ++ [UInt8.ofNat (16 * hexVal x + hexVal y).toNat]) := by
  intro a x y
  induction a using unhex.induct with
  | case1 => intro _; simp [unhex]
  | case2 z => intro h; simp at h
  | case3 u v r h => intro _; simp only [List.cons_append]; rw [unhex, if_pos h, unhex, if_pos h]; rfl
  | case4 u v r h ih =>
    intro hl
    simp only [List.cons_append]
    rw [unhex, if_neg h, ih (by simp at hl; omega), unhex, if_neg h]
    cases unhex r with
    | none => rfl
    | some o => simp only [Option.bind_some, Option.map_some]; split <;> simp

theorem uhex_app : ∀ (a : List UInt8) (x y : UInt8), a.length % 2 = 0 → uhex (a ++ [x, y]) = (uhex a).bind fun o => if hexU x < 0 ∨ hexU y < 0 then none else some (o ++ [UInt8.ofNat (16 * hexU x + hexU y).toNat]) := by
  intro a x y
  induction a using uhex.induct with
  | case1 => intro _; simp [uhex]
  | case2 z => intro h; simp at h
  | case3 u v r h => intro _; simp only [List.cons_append]; rw [uhex, if_pos h, uhex, if_pos h]; rfl
  | case4 u v r h ih =>
    intro hl
    simp only [List.cons_append]
    rw [uhex, if_neg h, ih (by simp at hl; omega), uhex, if_neg h]
    cases uhex r with
    | none => rfl
    | some o => simp only [Option.bind_some, Option.map_some]; split <;> simp

theorem unhex_none : ∀ (a b : List UInt8), a.length % 2 = 0 → unhex a = none → unhex (a ++ b) = none := by
  intro a b
  induction a using unhex.induct with
  | case1 => intro _ h; simp [unhex] at h
  | case2 z => intro h; simp at h
  | case3 u v r h => intro _ _; simp only [List.cons_append]; rw [unhex, if_pos h]
  | case4 u v r h ih =>
    intro hl hn
    simp only [List.cons_append]
    rw [unhex, if_neg h] at hn ⊢
    rw [ih (by simp at hl; omega) (by simpa using hn)]; rfl

theorem uhex_none : ∀ (a b : List UInt8), a.length % 2 = 0 → uhex a = none → uhex (a ++ b) = none := by
  intro a b
  induction a using uhex.induct with
  | case1 => intro _ h; simp [uhex] at h
  | case2 z => intro h; simp at h
  | case3 u v r h => intro _ _; simp only [List.cons_append]; rw [uhex, if_pos h]
  | case4 u v r h ih =>
    intro hl hn
    simp only [List.cons_append]
    rw [uhex, if_neg h] at hn ⊢
    rw [ih (by simp at hl; omega) (by simpa using hn)]; rfl

theorem take_two {s : List UInt8} {i : Nat} {x y : UInt8} (h1 : s[i]? = some x) (h2 : s[i + 1]? = some y) : s.take (i + 2) = s.take i ++ [x, y] := by
  rw [show i + 2 = i + 1 + 1 from rfl, List.take_add_one, List.take_add_one, h1, h2]; simp

/-- One more pair: good or bad. -/
theorem unhex_step {s : List UInt8} {i : Nat} {x y : UInt8} {o : List UInt8} (h1 : s[i]? = some x) (h2 : s[i + 1]? = some y) (he : i % 2 = 0) (ho : unhex (s.take i) = some o) :
    (hexVal x < 0 ∨ hexVal y < 0 → unhex s = none) ∧ (¬ (hexVal x < 0 ∨ hexVal y < 0) → unhex (s.take (i + 2)) = some (o ++ [UInt8.ofNat (16 * hexVal x + hexVal y).toNat])) := by
  have hl : i + 1 < s.length := (List.getElem?_eq_some_iff.1 h2).1
  have ht := unhex_app (s.take i) x y (by rw [List.length_take]; omega)
  rw [← take_two h1 h2, ho] at ht
  refine ⟨fun h => ?_, fun h => ?_⟩
  · rw [Option.bind_some, if_pos h] at ht
    have := unhex_none (s.take (i + 2)) (s.drop (i + 2)) (by rw [List.length_take]; omega) ht
    rwa [List.take_append_drop] at this
  · rw [Option.bind_some, if_neg h] at ht
    exact ht

theorem uhex_step {s : List UInt8} {i : Nat} {x y : UInt8} {o : List UInt8} (h1 : s[i]? = some x) (h2 : s[i + 1]? = some y) (he : i % 2 = 0) (ho : uhex (s.take i) = some o) :
    (hexU x < 0 ∨ hexU y < 0 → uhex s = none) ∧ (¬ (hexU x < 0 ∨ hexU y < 0) → uhex (s.take (i + 2)) = some (o ++ [UInt8.ofNat (16 * hexU x + hexU y).toNat])) := by
  have hl : i + 1 < s.length := (List.getElem?_eq_some_iff.1 h2).1
  have ht := uhex_app (s.take i) x y (by rw [List.length_take]; omega)
  rw [← take_two h1 h2, ho] at ht
  refine ⟨fun h => ?_, fun h => ?_⟩
  · rw [Option.bind_some, if_pos h] at ht
    have := uhex_none (s.take (i + 2)) (s.drop (i + 2)) (by rw [List.length_take]; omega) ht
    rwa [List.take_append_drop] at this
  · rw [Option.bind_some, if_neg h] at ht
    exact ht

def hexRes (s : List UInt8) : Option (List UInt8) := if s.length % 2 = 1 ∨ 4000 < s.length then none else unhex s

theorem unhex_len {s o : List UInt8} (h : unhex s = some o) : s.length = 2 * o.length := by
  induction s using unhex.induct generalizing o with
  | case1 => simp [unhex] at h; subst h; rfl
  | case2 z => simp [unhex] at h
  | case3 u v r hb => rw [unhex, if_pos hb] at h; cases h
  | case4 u v r hb ih =>
    rw [unhex, if_neg hb] at h
    cases hr : unhex r with
    | none => rw [hr] at h; cases h
    | some p => rw [hr] at h; simp at h; subst h; have := ih hr; simp; omega

theorem uhex_len {s o : List UInt8} (h : uhex s = some o) : s.length = 2 * o.length := by
  induction s using uhex.induct generalizing o with
  | case1 => simp [uhex] at h; subst h; rfl
  | case2 z => simp [uhex] at h
  | case3 u v r hb => rw [uhex, if_pos hb] at h; cases h
  | case4 u v r hb ih =>
    rw [uhex, if_neg hb] at h
    cases hr : uhex r with
    | none => rw [hr] at h; cases h
    | some p => rw [hr] at h; simp at h; subst h; have := ih hr; simp; omega

end Go.Proofs.YtpbofdbleajagaaDoor.Ab


namespace Go.Proofs
end Go.Proofs
set_option linter.unusedSimpArgs false
set_option linter.unusedVariables false
set_option maxRecDepth 100000
namespace Go.Proofs.YtpbofdbleajagaaDoor.Ab
open Go.Proofs
variable {GG : GV}

theorem wrap_id {n : Int} (h1 : -9223372036854775808 ≤ n) (h2 : n ≤ 9223372036854775807) : IntKind.i64.wrap n = n := by
  rw [IntKind.wrap_i64]; omega

theorem l19Digit_ok (x : UInt8) : Valid PP GG F_S_l19Digit [.d (.int .u8 x.toNat)] (.d (.int .i64 (hexVal x))) [none] := by
  refine v_S_l19Digit [.d (.int .i64 (hexVal x))] rfl rfl ?_
  have hx := x.toNat_lt
  obtain ⟨v, hv⟩ : ∃ v, hexVal x = v := ⟨_, rfl⟩
  have hd := hv
  unfold hexVal at hd
  rw [hv]
  generalize x.toNat = n at hd hx
  refine W_seq (?_)
  apply W_regS
  · intro K hK
    simp
    repeat' (first | with_reducible exact hK | (with_reducible refine goL_split (fun _ => ?_) (fun _ => ?_) <;> simp) | with_reducible refine And.intro ?_ ?_ | with_reducible exact okay_rfl rfl | omega)
  refine W_seq (W_seq (?_))
  refine W_regB 8 (decide (48 ≤ n ∧ n ≤ 57)) (fun K hK => ?_) ?_
  · simp
    repeat' (first | exact hK _ _ (by clear hK; first | omega | (exact (decide_eq_true (by omega)).symm) | (exact (decide_eq_false (by omega)).symm) | (exact decide_eq_decide.2 (by omega)) | (simp [*]; done) | (simp [*]; omega) | (simp_all; done) | (simp_all; omega) | (rw [Bool.eq_iff_iff]; simp at *; omega)) | (with_reducible refine goL_split (fun _ => ?_) (fun _ => ?_) <;> simp) | with_reducible refine And.intro ?_ ?_ | with_reducible exact okay_rfl rfl | omega)
  refine W_cond rfl (fun h => W_seq ?_) (fun h => W_skip ?_)
  · rw [h]
    simp at h
    rw [if_pos h] at hd
    have hw : IntKind.i64.wrap ((n : Int) - 48) = v := by rw [wrap_id (by omega) (by omega)]; exact hd
    have hw2 : IntKind.i64.wrap (n : Int) = n := wrap_id (by omega) (by omega)
    apply W_regS
    · intro K hK
      simp [hw2, hw]
      repeat' (first | with_reducible exact hK | (with_reducible refine goL_split (fun _ => ?_) (fun _ => ?_) <;> simp [hw2, hw]) | with_reducible refine And.intro ?_ ?_ | with_reducible exact okay_rfl rfl | omega)
    refine W_ret ?_
    simp [Fin]
    all_goals omega
  rw [h]
  simp at h
  rw [if_neg (by omega)] at hd
  refine W_seq (W_seq (?_))
  refine W_regB 17 (decide (97 ≤ n ∧ n ≤ 102)) (fun K hK => ?_) ?_
  · simp
    repeat' (first | exact hK _ _ (by clear hK; first | omega | (exact (decide_eq_true (by omega)).symm) | (exact (decide_eq_false (by omega)).symm) | (exact decide_eq_decide.2 (by omega)) | (simp [*]; done) | (simp [*]; omega) | (simp_all; done) | (simp_all; omega) | (rw [Bool.eq_iff_iff]; simp at *; omega)) | (with_reducible refine goL_split (fun _ => ?_) (fun _ => ?_) <;> simp) | with_reducible refine And.intro ?_ ?_ | with_reducible exact okay_rfl rfl | omega)
  refine W_cond rfl (fun h => W_seq ?_) (fun h => W_skip ?_)
  · rw [h]
    simp at h
    rw [if_pos h] at hd
    have hw : IntKind.i64.wrap ((n : Int) - 87) = v := by rw [wrap_id (by omega) (by omega)]; exact hd
    have hw2 : IntKind.i64.wrap (n : Int) = n := wrap_id (by omega) (by omega)
    apply W_regS
    · intro K hK
      simp [hw2, hw]
      repeat' (first | with_reducible exact hK | (with_reducible refine goL_split (fun _ => ?_) (fun _ => ?_) <;> simp [hw2, hw]) | with_reducible refine And.intro ?_ ?_ | with_reducible exact okay_rfl rfl | omega)
    refine W_ret ?_
    simp [Fin]
    all_goals omega
  rw [h]
  simp at h
  rw [if_neg (by omega)] at hd
  refine W_seq (?_)
  apply W_regS
  · intro K hK
    simp
    repeat' (first | with_reducible exact hK | (with_reducible refine goL_split (fun _ => ?_) (fun _ => ?_) <;> simp) | with_reducible refine And.intro ?_ ?_ | with_reducible exact okay_rfl rfl | omega)
  subst hd
  refine W_ret ?_
  simp [Fin]
  all_goals omega

theorem s_ParseHex_ok (s : List UInt8) (r : Option (List UInt8)) (hr : hexRes s = r) (hs : s.length ≤ 1048576) : Valid PP GG F_S_ParseHex [.d (.str s)] (.tup [.own 0 1 (bytesD (r.getD [])), .d (.bool r.isSome)]) [none] := by
  refine v_S_ParseHex [.own 0 1 (bytesD (r.getD [])), .d (.bool r.isSome)] rfl rfl ?_
  unfold hexRes at hr
  have hm : (s.length : Int).tmod 2 = ((s.length % 2 : Nat) : Int) := rfl
  refine W_seq (?_)
  apply W_regS
  · intro K hK
    simp
    repeat' (first | with_reducible exact hK | (with_reducible refine goL_split (fun _ => ?_) (fun _ => ?_) <;> simp) | with_reducible refine And.intro ?_ ?_ | with_reducible exact okay_rfl rfl | omega)
  refine W_seq (?_)
  apply W_regS
  · intro K hK
    simp [litA]
    repeat' (first | with_reducible exact hK | (with_reducible refine goL_split (fun _ => ?_) (fun _ => ?_) <;> simp [litA]) | with_reducible refine And.intro ?_ ?_ | with_reducible exact okay_rfl rfl | omega)
  refine W_seq (W_seq (?_))
  refine W_regB 17 (decide (s.length % 2 = 1 ∨ 4000 < s.length)) (fun K hK => ?_) ?_
  · simp [hm]
    repeat' (first | exact hK _ _ (by clear hK; first | omega | (exact (decide_eq_true (by omega)).symm) | (exact (decide_eq_false (by omega)).symm) | (exact decide_eq_decide.2 (by omega)) | (simp [*]; done) | (simp [*]; omega) | (simp_all; done) | (simp_all; omega) | (rw [Bool.eq_iff_iff]; simp at *; omega)) | (with_reducible refine goL_split (fun _ => ?_) (fun _ => ?_) <;> simp [hm]) | with_reducible refine And.intro ?_ ?_ | with_reducible exact okay_rfl rfl | omega)
  refine W_cond rfl (fun h => W_seq ?_) (fun h => W_skip ?_)
  · rw [h]
    simp at h
    rw [if_pos h] at hr
    subst hr
    apply W_regS
    · intro K hK
      simp
      repeat' (first | with_reducible exact hK | (with_reducible refine goL_split (fun _ => ?_) (fun _ => ?_) <;> simp) | with_reducible refine And.intro ?_ ?_ | with_reducible exact okay_rfl rfl | omega)
    refine W_ret ?_
    simp [Fin, bytesD]
    all_goals omega
  rw [h]
  simp at h
  rw [if_neg (by omega)] at hr
  refine W_seq (W_seq (?_))
  apply W_regS
  · intro K hK
    simp
    repeat' (first | with_reducible exact hK | (with_reducible refine goL_split (fun _ => ?_) (fun _ => ?_) <;> simp) | with_reducible refine And.intro ?_ ?_ | with_reducible exact okay_rfl rfl | omega)
  refine W_block (W_loop (fun n st => ∃ (i : Nat) (o : List UInt8), n = s.length - i ∧ i ≤ s.length ∧ i % 2 = 0 ∧ unhex (s.take i) = some o ∧ o.length * 2 = i ∧
    st = ⟨[], [(0, .d (.str s)), (4, .sl 0), (5, .d (.int .i64 i))], [(0, .arr 0 0 1 (bytesD o))], 1⟩) _ ⟨0, [], rfl, by omega, rfl, rfl, rfl, rfl⟩ ?_)
  rintro n st ⟨i, o, rfl, hi, he, ho, hol, rfl⟩
  refine W_seq (W_seq (?_))
  apply W_regS
  · intro K hK
    simp
    repeat' (first | with_reducible exact hK | (with_reducible refine goL_split (fun _ => ?_) (fun _ => ?_) <;> simp) | with_reducible refine And.intro ?_ ?_ | with_reducible exact okay_rfl rfl | omega)
  refine W_cond rfl (fun h2 => W_skip ?_) (fun h2 => W_exit ?_)
  · simp at h2
    have ha := List.getElem?_eq_getElem h2
    have hb := List.getElem?_eq_getElem (show i + 1 < s.length by omega)
    generalize s[i] = x at ha
    generalize s[i + 1]'_ = y at hb
    have hst := unhex_step ha hb he ho
    have vx := hexVal_lt x
    have vy := hexVal_lt y
    have cx := l19Digit_ok (GG := GG) x
    have cy := l19Digit_ok (GG := GG) y
    generalize hexVal x = a at hst vx cx
    generalize hexVal y = b at hst vy cy
    have hw1 : IntKind.i64.wrap ((i : Int) + 1) = ((i + 1 : Nat) : Int) := by rw [wrap_id (by omega) (by omega)]; omega
    have hbd : s[i + 1]?.getD 0 = y := by rw [hb]; rfl
    have had : s[i]?.getD 0 = x := by rw [ha]; rfl
    refine W_seq (W_block (W_seq ?_))
    apply W_regS
    · intro K hK
      simp [had]
      repeat' (first | with_reducible exact hK | (with_reducible refine callQ (cx) ?_; simp [had]) | (with_reducible refine goL_split (fun _ => ?_) (fun _ => ?_) <;> simp [had]) | with_reducible refine And.intro ?_ ?_ | with_reducible exact okay_rfl rfl | omega)
    refine W_seq (?_)
    apply W_regS
    · intro K hK
      simp [hw1, hbd]
      repeat' (first | with_reducible exact hK | (with_reducible refine callQ (cy) ?_; simp [hw1, hbd]) | (with_reducible refine goL_split (fun _ => ?_) (fun _ => ?_) <;> simp [hw1, hbd]) | with_reducible refine And.intro ?_ ?_ | with_reducible exact okay_rfl rfl | omega)
    refine W_seq (W_seq (?_))
    refine W_regB 38 (decide (a < 0 ∨ b < 0)) (fun K hK => ?_) ?_
    · simp
      repeat' (first | exact hK _ _ (by clear hK; first | omega | (exact (decide_eq_true (by omega)).symm) | (exact (decide_eq_false (by omega)).symm) | (exact decide_eq_decide.2 (by omega)) | (simp [*]; done) | (simp [*]; omega) | (simp_all; done) | (simp_all; omega) | (rw [Bool.eq_iff_iff]; simp at *; omega)) | (with_reducible refine goL_split (fun _ => ?_) (fun _ => ?_) <;> simp) | with_reducible refine And.intro ?_ ?_ | with_reducible exact okay_rfl rfl | omega)
    refine W_cond rfl (fun h3 => W_seq ?_) (fun h3 => W_skip ?_)
    · rw [h3]
      simp at h3
      rw [hst.1 h3] at hr
      subst hr
      apply W_regS
      · intro K hK
        simp
        repeat' (first | with_reducible exact hK | (with_reducible refine goL_split (fun _ => ?_) (fun _ => ?_) <;> simp) | with_reducible refine And.intro ?_ ?_ | with_reducible exact okay_rfl rfl | omega)
      refine W_ret ?_
      simp [Fin, bytesD]
      all_goals omega
    rw [h3]
    simp at h3
    have hn := hst.2 (by omega)
    obtain ⟨v, hv⟩ : ∃ v, v = UInt8.ofNat (16 * a + b).toNat := ⟨_, rfl⟩
    rw [← hv] at hn
    have w1 : IntKind.i64.wrap (16 * a) = 16 * a := wrap_id (by omega) (by omega)
    have w2 : IntKind.i64.wrap (16 * a + b) = 16 * a + b := wrap_id (by omega) (by omega)
    have w3 : IntKind.u8.wrap (16 * a + b) = (v.toNat : Int) := by rw [hv, IntKind.wrap_u8, UInt8.toNat_ofNat']; omega
    apply W_regS
    · intro K hK
      simp [w1, w2, w3, limit]
      repeat' (first | with_reducible exact hK | (with_reducible refine goL_split (fun _ => ?_) (fun _ => ?_) <;> simp [w1, w2, w3, limit]) | with_reducible refine And.intro ?_ ?_ | with_reducible exact okay_rfl rfl | omega)
    apply W_regS
    · intro K hK
      simp
      repeat' (first | with_reducible exact hK | (with_reducible refine goL_split (fun _ => ?_) (fun _ => ?_) <;> simp) | with_reducible refine And.intro ?_ ?_ | with_reducible exact okay_rfl rfl | omega)
    refine ⟨s.length - (i + 2), by omega, i + 2, o ++ [v], rfl, by omega, by omega, hn, by simp; omega, ?_⟩
    simp [gc, closeN, liveA, gcV, gcO, renA, renO, namesAs, namesA, namesO, posn, bytesD]
    rw [wrap_id (by omega) (by omega)]
  · simp at h2
    rw [if_pos rfl]
    rw [List.take_of_length_le h2] at ho
    rw [ho] at hr
    subst hr
    refine W_seq (?_)
    apply W_regS
    · intro K hK
      simp
      repeat' (first | with_reducible exact hK | (with_reducible refine goL_split (fun _ => ?_) (fun _ => ?_) <;> simp) | with_reducible refine And.intro ?_ ?_ | with_reducible exact okay_rfl rfl | omega)
    refine W_ret ?_
    simp [Fin]
    all_goals omega

end Go.Proofs.YtpbofdbleajagaaDoor.Ab

