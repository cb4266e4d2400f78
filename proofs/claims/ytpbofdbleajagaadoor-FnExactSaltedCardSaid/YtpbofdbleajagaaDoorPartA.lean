/-
  A part of a proof about the given program; what is proved is said where each theorem stands.
-/
import Derived.Test.YtpbofdbleajagaaDoorFrameA
import Derived.Test.YtpbofdbleajagaaDoorFrameB
import Derived.Test.YtpbofdbleajagaaDoorFrameC
import Derived.Test.YtpbofdbleajagaaDoorFrameD
import Derived.Test.YtpbofdbleajagaaDoorFrameE
import Derived.Test.YtpbofdbleajagaaDoorShelf
import Derived.Test.YtpbofdbleajagaaDoorCodesA
import Derived.Test.YtpbofdbleajagaaDoorCodesB
import Derived.Test.YtpbofdbleajagaaDoorCodesC
namespace Go.Proofs
end Go.Proofs
set_option linter.unusedSimpArgs false
set_option linter.unusedVariables false
set_option maxRecDepth 100000
namespace Go.Proofs.YtpbofdbleajagaaDoor.Ab
open Go.Proofs
variable {GG : GV}

/-- The hexadecimal digits. -/
def hexDigit (n : Nat) : UInt8 := ([48, 49, 50, 51, 52, 53, 54, 55, 56, 57, 97, 98, 99, 100, 101, 102] : List UInt8).getD n 0

def hexOf (a : List UInt8) : List UInt8 := a.flatMap fun x => [hexDigit (x.toNat / 16), hexDigit (x.toNat % 16)]

def hexVal (x : UInt8) : Int := if 48 ≤ x.toNat ∧ x.toNat ≤ 57 then x.toNat - 48 else if 97 ≤ x.toNat ∧ x.toNat ≤ 102 then x.toNat - 87 else -1

/-- The digit that the library reads, small or great letters. -/
def hexU (x : UInt8) : Int := if 48 ≤ x.toNat ∧ x.toNat ≤ 57 then x.toNat - 48 else if 97 ≤ (x ||| 32).toNat ∧ (x ||| 32).toNat ≤ 102 then (x ||| 32).toNat - 87 else -1

def unhex : List UInt8 → Option (List UInt8)
  | [] => some []
  | [_] => none
  | x :: y :: r => if hexVal x < 0 ∨ hexVal y < 0 then none else (unhex r).map (UInt8.ofNat (16 * hexVal x + hexVal y).toNat :: ·)

def uhex : List UInt8 → Option (List UInt8)
  | [] => some []
  | [_] => none
  | x :: y :: r => if hexU x < 0 ∨ hexU y < 0 then none else (uhex r).map (UInt8.ofNat (16 * hexU x + hexU y).toNat :: ·)

theorem u8_all {p : UInt8 → Prop} (h : ∀ n : _root_.Fin 256, p (UInt8.ofNat n.val)) (x : UInt8) : p x := by
  have := h ⟨x.toNat, x.toNat_lt⟩
  simpa using this

theorem hexVal_same (x : UInt8) : 0 ≤ hexVal x → hexU x = hexVal x ∧ hexDigit (hexVal x).toNat = x := by
  revert x; exact u8_all (by decide +kernel)

theorem hexVal_less (x : UInt8) : hexVal x < 0 → 0 ≤ hexU x → hexDigit (hexU x).toNat ≠ x := by
  revert x; exact u8_all (by decide +kernel)

theorem hexU_lt (x : UInt8) : hexU x < 16 ∧ -1 ≤ hexU x := by
  revert x; exact u8_all (by decide +kernel)

theorem hexVal_lt (x : UInt8) : hexVal x < 16 ∧ -1 ≤ hexVal x := by
  revert x; exact u8_all (by decide +kernel)

theorem hexOf_cons (v : UInt8) (o : List UInt8) : hexOf (v :: o) = hexDigit (v.toNat / 16) :: hexDigit (v.toNat % 16) :: hexOf o := by simp [hexOf]

theorem hex_two {a b : Int} (h1 : 0 ≤ a) (h2 : a < 16) (h3 : 0 ≤ b) (h4 : b < 16) : (UInt8.ofNat (16 * a + b).toNat).toNat / 16 = a.toNat ∧ (UInt8.ofNat (16 * a + b).toNat).toNat % 16 = b.toNat := by
  rw [UInt8.toNat_ofNat']
  omega

theorem uhex_none_bind (o : List UInt8) (s : List UInt8) (v : UInt8) (f : List UInt8 → Option (List UInt8)) (h : ∀ o, f (v :: o) = none) (z : Option (List UInt8)) : (z.map (v :: ·)).bind f = none := by
  cases z with
  | none => rfl
  | some z => simp [h]

theorem hex_same : ∀ s : List UInt8, unhex s = (uhex s).bind fun o => if hexOf o = s then some o else none := by
  intro s
  induction s using unhex.induct with
  | case1 => simp [unhex, uhex, hexOf]
  | case2 x => simp [unhex, uhex]
  | case3 x y r h =>
    have ux := hexU_lt x
    have uy := hexU_lt y
    rw [unhex, if_pos h, uhex]
    by_cases hb : hexU x < 0 ∨ hexU y < 0
    · rw [if_pos hb]; rfl
    · rw [if_neg hb]
      refine (uhex_none_bind [] [] _ _ (fun o => if_neg ?_) _).symm
      intro e
      obtain ⟨t1, t2⟩ := hex_two (a := hexU x) (b := hexU y) (by omega) (by omega) (by omega) (by omega)
      rw [hexOf_cons, t1, t2] at e
      simp only [List.cons.injEq] at e
      rcases h with h | h
      · exact hexVal_less x h (by omega) e.1
      · exact hexVal_less y h (by omega) e.2.1
  | case4 x y r h ih =>
    obtain ⟨a1, a2⟩ := hexVal_same x (by omega)
    obtain ⟨b1, b2⟩ := hexVal_same y (by omega)
    have vx := hexVal_lt x
    have vy := hexVal_lt y
    rw [unhex, if_neg h, uhex, a1, b1, if_neg h, ih]
    obtain ⟨t1, t2⟩ := hex_two (a := hexVal x) (b := hexVal y) (by omega) (by omega) (by omega) (by omega)
    cases uhex r with
    | none => rfl
    | some o =>
      simp only [Option.bind_some, Option.map_some, hexOf_cons, t1, t2, a2, b2, List.cons.injEq, true_and]
      split <;> simp

theorem unhex_app : ∀ (a : List UInt8) (x y : UInt8), a.length % 2 = 0 → unhex (a ++ [x, y]) = (unhex a).bind fun o => if hexVal x < 0 ∨ hexVal y < 0 then none else some (o ++ [UInt8.ofNat (16 * hexVal x + hexVal y).toNat]) := by
  intro a x y
  induction a using unhex.induct with
  | case1 => intro _; simp [unhex]
  | case2 z => intro h; simp at h
  | case3 u v r h => intro _; simp only [List.cons_append]; rw [unhex, if_pos h, unhex, if_pos h]; rfl
  | case4 u v r h ih =>
    intro hl
    simp only [List.cons_append]
    rw [unhex, if_neg h, ih (by simp at hl; omega), unhex, if_neg h]
    cases unhex r with
    | none => rfl
    | some o => simp only [Option.bind_some, Option.map_some]; split <;> simp

theorem uhex_app : ∀ (a : List UInt8) (x y : UInt8), a.length % 2 = 0 → uhex (a ++ [x, y]) = (uhex a).bind fun o => if hexU x < 0 ∨ hexU y < 0 then none else some (o ++ [UInt8.ofNat (16 * hexU x + hexU y).toNat]) := by
  intro a x y
  induction a using uhex.induct with
  | case1 => intro _; simp [uhex]
  | case2 z => intro h; simp at h
  | case3 u v r h => intro _; simp only [List.cons_append]; rw [uhex, if_pos h, uhex, if_pos h]; rfl
  | case4 u v r h ih =>
    intro hl
    simp only [List.cons_append]
    rw [uhex, if_neg h, ih (by simp at hl; omega), uhex, if_neg h]
    cases uhex r with
    | none => rfl
    | some o => simp only [Option.bind_some, Option.map_some]; split <;> simp

theorem unhex_none : ∀ (a b : List UInt8), a.length % 2 = 0 → unhex a = none → unhex (a ++ b) = none := by
  intro a b
  induction a using unhex.induct with
  | case1 => intro _ h; simp [unhex] at h
  | case2 z => intro h; simp at h
  | case3 u v r h => intro _ _; simp only [List.cons_append]; rw [unhex, if_pos h]
  | case4 u v r h ih =>
    intro hl hn
    simp only [List.cons_append]
    rw [unhex, if_neg h] at hn ⊢
    rw [ih (by simp at hl; omega) (by simpa using hn)]; rfl

theorem uhex_none : ∀ (a b : List UInt8), a.length % 2 = 0 → uhex a = none → uhex (a ++ b) = none := by
  intro a b
  induction a using uhex.induct with
  | case1 => intro _ h; simp [uhex] at h
  | case2 z => intro h; simp at h
  | case3 u v r h => intro _ _; simp only [List.cons_append]; rw [uhex, if_pos h]
  | case4 u v r h ih =>
    intro hl hn
    simp only [List.cons_append]
    rw [uhex, if_neg h] at hn ⊢
    rw [ih (by simp at hl; omega) (by simpa using hn)]; rfl

theorem take_two {s : List UInt8} {i : Nat} {x y : UInt8} (h1 : s[i]? = some x) (h2 : s[i + 1]? = some y) : s.take (i + 2) = s.take i ++ [x, y] := by
  rw [show i + 2 = i + 1 + 1 from rfl, List.take_add_one, List.take_add_one, h1, h2]; simp

/-- One more pair: good or bad. -/
theorem unhex_step {s : List UInt8} {i : Nat} {x y : UInt8} {o : List UInt8} (h1 : s[i]? = some x) (h2 : s[i + 1]? = some y) (he : i % 2 = 0) (ho : unhex (s.take i) = some o) :
    (hexVal x < 0 ∨ hexVal y < 0 → unhex s = none) ∧ (¬ (hexVal x < 0 ∨ hexVal y < 0) → unhex (s.take (i + 2)) = some (o ++ [UInt8.ofNat (16 * hexVal x + hexVal y).toNat])) := by
  have hl : i + 1 < s.length := (List.getElem?_eq_some_iff.1 h2).1
  have ht := unhex_app (s.take i) x y (by rw [List.length_take]; omega)
  rw [← take_two h1 h2, ho] at ht
  refine ⟨fun h => ?_, fun h => ?_⟩
  · rw [Option.bind_some, if_pos h] at ht
    have := unhex_none (s.take (i + 2)) (s.drop (i + 2)) (by rw [List.length_take]; omega) ht
    rwa [List.take_append_drop] at this
  · rw [Option.bind_some, if_neg h] at ht
    exact ht

theorem uhex_step {s : List UInt8} {i : Nat} {x y : UInt8} {o : List UInt8} (h1 : s[i]? = some x) (h2 : s[i + 1]? = some y) (he : i % 2 = 0) (ho : uhex (s.take i) = some o) :
    (hexU x < 0 ∨ hexU y < 0 → uhex s = none) ∧ (¬ (hexU x < 0 ∨ hexU y < 0) → uhex (s.take (i + 2)) = some (o ++ [UInt8.ofNat (16 * hexU x + hexU y).toNat])) := by
  have hl : i + 1 < s.length := (List.getElem?_eq_some_iff.1 h2).1
  have ht := uhex_app (s.take i) x y (by rw [List.length_take]; omega)
  rw [← take_two h1 h2, ho] at ht
  refine ⟨fun h => ?_, fun h => ?_⟩
  · rw [Option.bind_some, if_pos h] at ht
    have := uhex_none (s.take (i + 2)) (s.drop (i + 2)) (by rw [List.length_take]; omega) ht
    rwa [List.take_append_drop] at this
  · rw [Option.bind_some, if_neg h] at ht
    exact ht

def hexRes (s : List UInt8) : Option (List UInt8) := if s.length % 2 = 1 ∨ 4000 < s.length then none else unhex s

theorem unhex_len {s o : List UInt8} (h : unhex s = some o) : s.length = 2 * o.length := by
  induction s using unhex.induct generalizing o with
  | case1 => simp [unhex] at h; subst h; rfl
  | case2 z => simp [unhex] at h
  | case3 u v r hb => rw [unhex, if_pos hb] at h; cases h
  | case4 u v r hb ih =>
    rw [unhex, if_neg hb] at h
    cases hr : unhex r with
    | none => rw [hr] at h; cases h
    | some p => rw [hr] at h; simp at h; subst h; have := ih hr; simp; omega

theorem uhex_len {s o : List UInt8} (h : uhex s = some o) : s.length = 2 * o.length := by
  induction s using uhex.induct generalizing o with
  | case1 => simp [uhex] at h; subst h; rfl
  | case2 z => simp [uhex] at h
  | case3 u v r hb => rw [uhex, if_pos hb] at h; cases h
  | case4 u v r hb ih =>
    rw [uhex, if_neg hb] at h
    cases hr : uhex r with
    | none => rw [hr] at h; cases h
    | some p => rw [hr] at h; simp at h; subst h; have := ih hr; simp; omega

end Go.Proofs.YtpbofdbleajagaaDoor.Ab


namespace Go.Proofs
end Go.Proofs
set_option linter.unusedSimpArgs false
set_option linter.unusedVariables false
set_option maxRecDepth 100000
namespace Go.Proofs.YtpbofdbleajagaaDoor.Ab
open Go.Proofs
variable {GG : GV}

theorem wrap_id {n : Int} (h1 : -9223372036854775808 ≤ n) (h2 : n ≤ 9223372036854775807) : IntKind.i64.wrap n = n := by
  rw [IntKind.wrap_i64]; omega

theorem l19Digit_ok (x : UInt8) : Valid PP GG F_S_l19Digit [.d (.int .u8 x.toNat)] (.d (.int .i64 (hexVal x))) [none] := by
  refine v_S_l19Digit [.d (.int .i64 (hexVal x))] rfl rfl ?_
  have hx := x.toNat_lt
  obtain ⟨v, hv⟩ : ∃ v, hexVal x = v := ⟨_, rfl⟩
  have hd := hv
  unfold hexVal at hd
  rw [hv]
  generalize x.toNat = n at hd hx
  refine W_seq (?_)
  apply W_regS
  · intro K hK
    simp
    repeat' (first | with_reducible exact hK | (with_reducible refine goL_split (fun _ => ?_) (fun _ => ?_) <;> simp) | with_reducible refine And.intro ?_ ?_ | with_reducible exact okay_rfl rfl | omega)
  refine W_seq (W_seq (?_))
  refine W_regB 8 (decide (48 ≤ n ∧ n ≤ 57)) (fun K hK => ?_) ?_
  · simp
    repeat' (first | exact hK _ _ (by clear hK; first | omega | (exact (decide_eq_true (by omega)).symm) | (exact (decide_eq_false (by omega)).symm) | (exact decide_eq_decide.2 (by omega)) | (simp [*]; done) | (simp [*]; omega) | (simp_all; done) | (simp_all; omega) | (rw [Bool.eq_iff_iff]; simp at *; omega)) | (with_reducible refine goL_split (fun _ => ?_) (fun _ => ?_) <;> simp) | with_reducible refine And.intro ?_ ?_ | with_reducible exact okay_rfl rfl | omega)
  refine W_cond rfl (fun h => W_seq ?_) (fun h => W_skip ?_)
  · rw [h]
    simp at h
    rw [if_pos h] at hd
    have hw : IntKind.i64.wrap ((n : Int) - 48) = v := by rw [wrap_id (by omega) (by omega)]; exact hd
    have hw2 : IntKind.i64.wrap (n : Int) = n := wrap_id (by omega) (by omega)
    apply W_regS
    · intro K hK
      simp [hw2, hw]
      repeat' (first | with_reducible exact hK | (with_reducible refine goL_split (fun _ => ?_) (fun _ => ?_) <;> simp [hw2, hw]) | with_reducible refine And.intro ?_ ?_ | with_reducible exact okay_rfl rfl | omega)
    refine W_ret ?_
    simp [Fin]
    all_goals omega
  rw [h]
  simp at h
  rw [if_neg (by omega)] at hd
  refine W_seq (W_seq (?_))
  refine W_regB 17 (decide (97 ≤ n ∧ n ≤ 102)) (fun K hK => ?_) ?_
  · simp
    repeat' (first | exact hK _ _ (by clear hK; first | omega | (exact (decide_eq_true (by omega)).symm) | (exact (decide_eq_false (by omega)).symm) | (exact decide_eq_decide.2 (by omega)) | (simp [*]; done) | (simp [*]; omega) | (simp_all; done) | (simp_all; omega) | (rw [Bool.eq_iff_iff]; simp at *; omega)) | (with_reducible refine goL_split (fun _ => ?_) (fun _ => ?_) <;> simp) | with_reducible refine And.intro ?_ ?_ | with_reducible exact okay_rfl rfl | omega)
  refine W_cond rfl (fun h => W_seq ?_) (fun h => W_skip ?_)
  · rw [h]
    simp at h
    rw [if_pos h] at hd
    have hw : IntKind.i64.wrap ((n : Int) - 87) = v := by rw [wrap_id (by omega) (by omega)]; exact hd
    have hw2 : IntKind.i64.wrap (n : Int) = n := wrap_id (by omega) (by omega)
    apply W_regS
    · intro K hK
      simp [hw2, hw]
      repeat' (first | with_reducible exact hK | (with_reducible refine goL_split (fun _ => ?_) (fun _ => ?_) <;> simp [hw2, hw]) | with_reducible refine And.intro ?_ ?_ | with_reducible exact okay_rfl rfl | omega)
    refine W_ret ?_
    simp [Fin]
    all_goals omega
  rw [h]
  simp at h
  rw [if_neg (by omega)] at hd
  refine W_seq (?_)
  apply W_regS
  · intro K hK
    simp
    repeat' (first | with_reducible exact hK | (with_reducible refine goL_split (fun _ => ?_) (fun _ => ?_) <;> simp) | with_reducible refine And.intro ?_ ?_ | with_reducible exact okay_rfl rfl | omega)
  subst hd
  refine W_ret ?_
  simp [Fin]
  all_goals omega

theorem s_ParseHex_ok (s : List UInt8) (r : Option (List UInt8)) (hr : hexRes s = r) (hs : s.length ≤ 1048576) : Valid PP GG F_S_ParseHex [.d (.str s)] (.tup [.own 0 1 (bytesD (r.getD [])), .d (.bool r.isSome)]) [none] := by
  refine v_S_ParseHex [.own 0 1 (bytesD (r.getD [])), .d (.bool r.isSome)] rfl rfl ?_
  unfold hexRes at hr
  have hm : (s.length : Int).tmod 2 = ((s.length % 2 : Nat) : Int) := rfl
  refine W_seq (?_)
  apply W_regS
  · intro K hK
    simp
    repeat' (first | with_reducible exact hK | (with_reducible refine goL_split (fun _ => ?_) (fun _ => ?_) <;> simp) | with_reducible refine And.intro ?_ ?_ | with_reducible exact okay_rfl rfl | omega)
  refine W_seq (?_)
  apply W_regS
  · intro K hK
    simp [litA]
    repeat' (first | with_reducible exact hK | (with_reducible refine goL_split (fun _ => ?_) (fun _ => ?_) <;> simp [litA]) | with_reducible refine And.intro ?_ ?_ | with_reducible exact okay_rfl rfl | omega)
  refine W_seq (W_seq (?_))
  refine W_regB 17 (decide (s.length % 2 = 1 ∨ 4000 < s.length)) (fun K hK => ?_) ?_
  · simp [hm]
    repeat' (first | exact hK _ _ (by clear hK; first | omega | (exact (decide_eq_true (by omega)).symm) | (exact (decide_eq_false (by omega)).symm) | (exact decide_eq_decide.2 (by omega)) | (simp [*]; done) | (simp [*]; omega) | (simp_all; done) | (simp_all; omega) | (rw [Bool.eq_iff_iff]; simp at *; omega)) | (with_reducible refine goL_split (fun _ => ?_) (fun _ => ?_) <;> simp [hm]) | with_reducible refine And.intro ?_ ?_ | with_reducible exact okay_rfl rfl | omega)
  refine W_cond rfl (fun h => W_seq ?_) (fun h => W_skip ?_)
  · rw [h]
    simp at h
    rw [if_pos h] at hr
    subst hr
    apply W_regS
    · intro K hK
      simp
      repeat' (first | with_reducible exact hK | (with_reducible refine goL_split (fun _ => ?_) (fun _ => ?_) <;> simp) | with_reducible refine And.intro ?_ ?_ | with_reducible exact okay_rfl rfl | omega)
    refine W_ret ?_
    simp [Fin, bytesD]
    all_goals omega
  rw [h]
  simp at h
  rw [if_neg (by omega)] at hr
  refine W_seq (W_seq (?_))
  apply W_regS
  · intro K hK
    simp
    repeat' (first | with_reducible exact hK | (with_reducible refine goL_split (fun _ => ?_) (fun _ => ?_) <;> simp) | with_reducible refine And.intro ?_ ?_ | with_reducible exact okay_rfl rfl | omega)
  refine W_block (W_loop (fun n st => ∃ (i : Nat) (o : List UInt8), n = s.length - i ∧ i ≤ s.length ∧ i % 2 = 0 ∧ unhex (s.take i) = some o ∧ o.length * 2 = i ∧
    st = ⟨[], [(0, .d (.str s)), (4, .sl 0), (5, .d (.int .i64 i))], [(0, .arr 0 0 1 (bytesD o))], 1⟩) _ ⟨0, [], rfl, by omega, rfl, rfl, rfl, rfl⟩ ?_)
  rintro n st ⟨i, o, rfl, hi, he, ho, hol, rfl⟩
  refine W_seq (W_seq (?_))
  apply W_regS
  · intro K hK
    simp
    repeat' (first | with_reducible exact hK | (with_reducible refine goL_split (fun _ => ?_) (fun _ => ?_) <;> simp) | with_reducible refine And.intro ?_ ?_ | with_reducible exact okay_rfl rfl | omega)
  refine W_cond rfl (fun h2 => W_skip ?_) (fun h2 => W_exit ?_)
  · simp at h2
    have ha := List.getElem?_eq_getElem h2
    have hb := List.getElem?_eq_getElem (show i + 1 < s.length by omega)
    generalize s[i] = x at ha
    generalize s[i + 1]'_ = y at hb
    have hst := unhex_step ha hb he ho
    have vx := hexVal_lt x
    have vy := hexVal_lt y
    have cx := l19Digit_ok (GG := GG) x
    have cy := l19Digit_ok (GG := GG) y
    generalize hexVal x = a at hst vx cx
    generalize hexVal y = b at hst vy cy
    have hw1 : IntKind.i64.wrap ((i : Int) + 1) = ((i + 1 : Nat) : Int) := by rw [wrap_id (by omega) (by omega)]; omega
    have hbd : s[i + 1]?.getD 0 = y := by rw [hb]; rfl
    have had : s[i]?.getD 0 = x := by rw [ha]; rfl
    refine W_seq (W_block (W_seq ?_))
    apply W_regS
    · intro K hK
      simp [had]
      repeat' (first | with_reducible exact hK | (with_reducible refine callQ (cx) ?_; simp [had]) | (with_reducible refine goL_split (fun _ => ?_) (fun _ => ?_) <;> simp [had]) | with_reducible refine And.intro ?_ ?_ | with_reducible exact okay_rfl rfl | omega)
    refine W_seq (?_)
    apply W_regS
    · intro K hK
      simp [hw1, hbd]
      repeat' (first | with_reducible exact hK | (with_reducible refine callQ (cy) ?_; simp [hw1, hbd]) | (with_reducible refine goL_split (fun _ => ?_) (fun _ => ?_) <;> simp [hw1, hbd]) | with_reducible refine And.intro ?_ ?_ | with_reducible exact okay_rfl rfl | omega)
    refine W_seq (W_seq (?_))
    refine W_regB 38 (decide (a < 0 ∨ b < 0)) (fun K hK => ?_) ?_
    · simp
      repeat' (first | exact hK _ _ (by clear hK; first | omega | (exact (decide_eq_true (by omega)).symm) | (exact (decide_eq_false (by omega)).symm) | (exact decide_eq_decide.2 (by omega)) | (simp [*]; done) | (simp [*]; omega) | (simp_all; done) | (simp_all; omega) | (rw [Bool.eq_iff_iff]; simp at *; omega)) | (with_reducible refine goL_split (fun _ => ?_) (fun _ => ?_) <;> simp) | with_reducible refine And.intro ?_ ?_ | with_reducible exact okay_rfl rfl | omega)
    refine W_cond rfl (fun h3 => W_seq ?_) (fun h3 => W_skip ?_)
    · rw [h3]
      simp at h3
      rw [hst.1 h3] at hr
      subst hr
      apply W_regS
      · intro K hK
        simp
        repeat' (first | with_reducible exact hK | (with_reducible refine goL_split (fun _ => ?_) (fun _ => ?_) <;> simp) | with_reducible refine And.intro ?_ ?_ | with_reducible exact okay_rfl rfl | omega)
      refine W_ret ?_
      simp [Fin, bytesD]
      all_goals omega
    rw [h3]
    simp at h3
    have hn := hst.2 (by omega)
    obtain ⟨v, hv⟩ : ∃ v, v = UInt8.ofNat (16 * a + b).toNat := ⟨_, rfl⟩
    rw [← hv] at hn
    have w1 : IntKind.i64.wrap (16 * a) = 16 * a := wrap_id (by omega) (by omega)
    have w2 : IntKind.i64.wrap (16 * a + b) = 16 * a + b := wrap_id (by omega) (by omega)
    have w3 : IntKind.u8.wrap (16 * a + b) = (v.toNat : Int) := by rw [hv, IntKind.wrap_u8, UInt8.toNat_ofNat']; omega
    apply W_regS
    · intro K hK
      simp [w1, w2, w3, limit]
      repeat' (first | with_reducible exact hK | (with_reducible refine goL_split (fun _ => ?_) (fun _ => ?_) <;> simp [w1, w2, w3, limit]) | with_reducible refine And.intro ?_ ?_ | with_reducible exact okay_rfl rfl | omega)
    apply W_regS
    · intro K hK
      simp
      repeat' (first | with_reducible exact hK | (with_reducible refine goL_split (fun _ => ?_) (fun _ => ?_) <;> simp) | with_reducible refine And.intro ?_ ?_ | with_reducible exact okay_rfl rfl | omega)
    refine ⟨s.length - (i + 2), by omega, i + 2, o ++ [v], rfl, by omega, by omega, hn, by simp; omega, ?_⟩
    simp [gc, closeN, liveA, gcV, gcO, renA, renO, namesAs, namesA, namesO, posn, bytesD]
    rw [wrap_id (by omega) (by omega)]
  · simp at h2
    rw [if_pos rfl]
    rw [List.take_of_length_le h2] at ho
    rw [ho] at hr
    subst hr
    refine W_seq (?_)
    apply W_regS
    · intro K hK
      simp
      repeat' (first | with_reducible exact hK | (with_reducible refine goL_split (fun _ => ?_) (fun _ => ?_) <;> simp) | with_reducible refine And.intro ?_ ?_ | with_reducible exact okay_rfl rfl | omega)
    refine W_ret ?_
    simp [Fin]
    all_goals omega

end Go.Proofs.YtpbofdbleajagaaDoor.Ab


namespace Go.Proofs
end Go.Proofs
set_option linter.unusedSimpArgs false
set_option linter.unusedVariables false
set_option maxRecDepth 100000
namespace Go.Proofs.YtpbofdbleajagaaDoor.Ab
open Go.Proofs
variable {GG : GV}

theorem take_succ_eq {α : Type} {a b : List α} {i : Nat} {x : α} (h : a.take i = b.take i) (ha : a[i]? = some x) (hb : b[i]? = some x) : a.take (i + 1) = b.take (i + 1) := by
  rw [List.take_add_one, List.take_add_one, h, ha, hb]

theorem eqByteS_ok (a b : List UInt8) (hsz : a.length ≤ 281474976710656) : Valid PP GG F_L_eqByteS [.d (.slc 1 (bytesD a)), .d (.slc 1 (bytesD b))] (.d (.bool (a == b))) [none, none] := by
  refine v_L_eqByteS [.d (.bool (a == b))] rfl rfl ?_
  refine W_seq (?_)
  apply W_regS
  · intro K hK
    simp
    repeat' (first | with_reducible exact hK | (with_reducible refine goL_split (fun _ => ?_) (fun _ => ?_) <;> simp) | with_reducible refine And.intro ?_ ?_ | with_reducible exact okay_rfl rfl | omega)
  refine W_seq (W_seq (?_))
  apply W_regS
  · intro K hK
    simp
    repeat' (first | with_reducible exact hK | (with_reducible refine goL_split (fun _ => ?_) (fun _ => ?_) <;> simp) | with_reducible refine And.intro ?_ ?_ | with_reducible exact okay_rfl rfl | omega)
  refine W_cond rfl (fun h => W_seq ?_) (fun hlen => W_skip ?_)
  · apply W_regS
    · intro K hK
      simp
      repeat' (first | with_reducible exact hK | (with_reducible refine goL_split (fun _ => ?_) (fun _ => ?_) <;> simp) | with_reducible refine And.intro ?_ ?_ | with_reducible exact okay_rfl rfl | omega)
    have : (a == b) = false := by simp at h ⊢; intro e; subst e; exact h rfl
    refine W_ret ?_
    simp [Fin, this]
    all_goals omega
  refine W_seq (W_seq (?_))
  simp at hlen
  apply W_regS
  · intro K hK
    simp
    repeat' (first | with_reducible exact hK | (with_reducible refine goL_split (fun _ => ?_) (fun _ => ?_) <;> simp) | with_reducible refine And.intro ?_ ?_ | with_reducible exact okay_rfl rfl | omega)
  refine W_block (W_loop (fun n st => ∃ i : Nat, n = a.length - i ∧ i ≤ a.length ∧ a.take i = b.take i ∧ st = ⟨[], [(0, .d (.slc 1 (bytesD a))), (1, .d (.slc 1 (bytesD b))), (5, .d (.int .i64 i))], [], 0⟩) _ ⟨0, rfl, by omega, rfl, rfl⟩ ?_)
  rintro n st ⟨i, rfl, hi, he, rfl⟩
  refine W_seq (W_seq (?_))
  apply W_regS
  · intro K hK
    simp
    repeat' (first | with_reducible exact hK | (with_reducible refine goL_split (fun _ => ?_) (fun _ => ?_) <;> simp) | with_reducible refine And.intro ?_ ?_ | with_reducible exact okay_rfl rfl | omega)
  refine W_cond rfl (fun h => W_skip ?_) (fun h => W_exit ?_)
  · simp at h
    have ha := List.getElem?_eq_getElem h
    have hb := List.getElem?_eq_getElem (show i < b.length by omega)
    generalize a[i] = x at ha
    generalize b[i]'_ = y at hb
    refine W_seq (W_block (W_seq ?_))
    apply W_regD
    · intro K hK
      simp [ha, hb]
      repeat' (first | with_reducible exact hK | (with_reducible refine goL_split (fun _ => ?_) (fun _ => ?_) <;> simp [ha, hb]) | with_reducible refine And.intro ?_ ?_ | with_reducible exact okay_rfl rfl | omega)
    refine W_cond rfl (fun h2 => W_seq ?_) (fun h2 => W_skip ?_)
    · apply W_regS
      · intro K hK
        simp
        repeat' (first | with_reducible exact hK | (with_reducible refine goL_split (fun _ => ?_) (fun _ => ?_) <;> simp) | with_reducible refine And.intro ?_ ?_ | with_reducible exact okay_rfl rfl | omega)
      have : (a == b) = false := by simp; intro e; subst e; simp [ha] at hb; subst hb; simp at h2
      refine W_ret ?_
      simp [Fin, this]
      all_goals omega
    apply W_regS
    · intro K hK
      simp
      repeat' (first | with_reducible exact hK | (with_reducible refine goL_split (fun _ => ?_) (fun _ => ?_) <;> simp) | with_reducible refine And.intro ?_ ?_ | with_reducible exact okay_rfl rfl | omega)
    have hxy : x = y := by simp at h2; exact UInt8.toNat_inj.1 (by omega)
    subst hxy
    exact ⟨a.length - (i + 1), by omega, i + 1, rfl, h, take_succ_eq he ha hb, by simp [gc, closeN, liveA, gcV, gcO, renA, namesAs, namesA]; rw [wrap_id (by omega) (by omega)]⟩
  · simp at h
    rw [if_pos rfl]
    refine W_seq (?_)
    apply W_regS
    · intro K hK
      simp
      repeat' (first | with_reducible exact hK | (with_reducible refine goL_split (fun _ => ?_) (fun _ => ?_) <;> simp) | with_reducible refine And.intro ?_ ?_ | with_reducible exact okay_rfl rfl | omega)
    have : (a == b) = true := by
      simp
      rwa [List.take_of_length_le h, List.take_of_length_le (by omega)] at he
    refine W_ret ?_
    simp [Fin, this]
    all_goals omega

theorem row_one {R : List (List D)} {i : Nat} (h : ∀ r, r ∈ R → r.length = 1) (hi : i < R.length) : ∃ d, R[i]? = some [d] := by
  have := h _ (List.getElem_mem hi)
  rw [List.length_eq_one_iff] at this
  obtain ⟨d, hd⟩ := this
  exact ⟨d, by rw [List.getElem?_eq_getElem hi, hd]⟩

theorem set_one {R : List (List D)} {i : Nat} {d : D} (h : ∀ r, r ∈ R → r.length = 1) : ∀ r, r ∈ R.set i [d] → r.length = 1 := by
  intro r hr
  rcases List.mem_or_eq_of_mem_set hr with h1 | h1
  · exact h r h1
  · subst h1; rfl

theorem take_set_succ {R : List (List D)} {i : Nat} {r : List D} (hi : i < R.length) : (R.set i r).take (i + 1) = R.take i ++ [r] := by
  rw [List.take_add_one, List.take_set_of_le (Nat.le_refl _)]
  simp [hi]

theorem hex_succ {a : List UInt8} {i : Nat} {x : UInt8} (ha : a[i]? = some x) : hexOf (a.take (i + 1)) = hexOf (a.take i) ++ [hexDigit (x.toNat / 16), hexDigit (x.toNat % 16)] := by
  rw [List.take_add_one, ha]; simp [hexOf]

theorem hex_len (a : List UInt8) : (hexOf a).length = 2 * a.length := by
  induction a with
  | nil => rfl
  | cons x a ih => simp [hexOf] at ih ⊢; omega

theorem ofBytes_bytesD (s : List UInt8) : ofBytes (bytesD s) = some s := by
  induction s with
  | nil => rfl
  | cons x s ih => simp [bytesD, ofBytes] at ih ⊢; exact ih

theorem strOf_bytesD (s : List UInt8) : strOf (.slc 1 (bytesD s)) = out (.d (.str s)) := by
  cases s with
  | nil => rfl
  | cons x s => simp only [strOf, ofBytes_bytesD]; simp [bytesD]

theorem u8_hi (x : UInt8) : (x.toNat : Int).fdiv 16 = ((x.toNat / 16 : Nat) : Int) := by
  rw [Int.fdiv_eq_ediv_of_nonneg _ (by omega)]; rfl

theorem u8_lo (x : UInt8) : IntKind.u8.wrap ((x.toBitVec &&& 15#8).toNat : Int) = ((x.toNat % 16 : Nat) : Int) := by
  have h : (x.toBitVec &&& 15#8).toNat = x.toNat % 16 := by
    rw [BitVec.toNat_and]
    exact Nat.and_two_pow_sub_one_eq_mod x.toNat 4
  have := x.toNat_lt
  rw [h, IntKind.wrap_u8]; omega

theorem bytes_app2 (s : List UInt8) (u v : UInt8) : bytesD (s ++ [u, v]) = bytesD s ++ [[D.int .u8 u.toNat], [D.int .u8 v.toNat]] := by simp [bytesD]

theorem hexText_ok (a : List UInt8) (hsz : a.length ≤ 2000000) : Valid PP GG F_I_hexText [.d (.slc 1 (bytesD a))] (.d (.str (hexOf a))) [none] := by
  refine v_I_hexText [.d (.str (hexOf a))] rfl rfl ?_
  refine W_seq (?_)
  apply W_regS
  · intro K hK
    simp
    repeat' (first | with_reducible exact hK | (with_reducible refine goL_split (fun _ => ?_) (fun _ => ?_) <;> simp) | with_reducible refine And.intro ?_ ?_ | with_reducible exact okay_rfl rfl | omega)
  refine W_seq (?_)
  have hw : IntKind.i64.wrap (2 * (a.length : Int)) = 2 * a.length := wrap_id (by omega) (by omega)
  apply W_regS
  · intro K hK
    simp [mkA, limit, hw]
    repeat' (first | with_reducible exact hK | (with_reducible refine goL_split (fun _ => ?_) (fun _ => ?_) <;> simp [mkA, limit, hw]) | with_reducible refine And.intro ?_ ?_ | with_reducible exact okay_rfl rfl | omega)
  refine W_seq (W_seq (?_))
  apply W_regS
  · intro K hK
    simp
    repeat' (first | with_reducible exact hK | (with_reducible refine goL_split (fun _ => ?_) (fun _ => ?_) <;> simp) | with_reducible refine And.intro ?_ ?_ | with_reducible exact okay_rfl rfl | omega)
  refine W_block (W_loop (fun n st => ∃ (i : Nat), n = a.length - i ∧ i ≤ a.length ∧
    st = ⟨[], [(3, .sl 0), (10, .d (.slc 1 (bytesD a))), (11, .d (.int .i64 a.length)), (12, .d (.int .i64 i))], [(0, .arr 0 0 1 (bytesD (hexOf (a.take i))))], 1⟩) _ ⟨0, rfl, by omega, rfl⟩ ?_)
  rintro n st ⟨i, rfl, hi, rfl⟩
  refine W_seq (?_)
  apply W_regS
  · intro K hK
    simp
    repeat' (first | with_reducible exact hK | (with_reducible refine goL_split (fun _ => ?_) (fun _ => ?_) <;> simp) | with_reducible refine And.intro ?_ ?_ | with_reducible exact okay_rfl rfl | omega)
  refine W_seq (?_)
  refine W_cond rfl (fun h => W_skip ?_) (fun h => W_exit ?_)
  · simp at h
    have ha := List.getElem?_eq_getElem h
    generalize a[i] = x at ha
    refine W_seq (W_block (W_seq ?_))
    apply W_regS
    · intro K hK
      simp [ha]
      repeat' (first | with_reducible exact hK | (with_reducible refine goL_split (fun _ => ?_) (fun _ => ?_) <;> simp [ha]) | with_reducible refine And.intro ?_ ?_ | with_reducible exact okay_rfl rfl | omega)
    have hl := hex_len (a.take i)
    have hl2 : (a.take i).length ≤ a.length := by simp; omega
    have hx := x.toNat_lt
    obtain ⟨q, hq⟩ : ∃ q : Nat, q = x.toNat / 16 := ⟨_, rfl⟩
    obtain ⟨r, hr⟩ : ∃ r : Nat, r = x.toNat % 16 := ⟨_, rfl⟩
    have h1 := u8_hi x
    have h2 := u8_lo x
    rw [← hq] at h1
    rw [← hr] at h2
    simp at h2
    apply W_regD
    · intro K hK
      simp [h1, h2, limit]
      repeat' (first | with_reducible exact hK | (with_reducible refine goL_split (fun _ => ?_) (fun _ => ?_) <;> simp [h1, h2, limit]) | with_reducible refine And.intro ?_ ?_ | with_reducible exact okay_rfl rfl | omega)
    apply W_regS
    · intro K hK
      simp
      repeat' (first | with_reducible exact hK | (with_reducible refine goL_split (fun _ => ?_) (fun _ => ?_) <;> simp) | with_reducible refine And.intro ?_ ?_ | with_reducible exact okay_rfl rfl | omega)
    exact ⟨a.length - (i + 1), by omega, i + 1, rfl, h, by
      simp [gc, closeN, liveA, gcV, gcO, renA, renO, namesAs, namesA, namesO, posn, hex_succ ha, bytes_app2, hexDigit, ← hq, ← hr]
      rw [wrap_id (by omega) (by omega)]⟩
  · simp at h
    rw [if_pos rfl]
    refine W_seq (?_)
    apply W_regS
    · intro K hK
      simp [strOf_bytesD, List.take_of_length_le h]
      repeat' (first | with_reducible exact hK | (with_reducible refine goL_split (fun _ => ?_) (fun _ => ?_) <;> simp [strOf_bytesD, List.take_of_length_le h]) | with_reducible refine And.intro ?_ ?_ | with_reducible exact okay_rfl rfl | omega)
    refine W_ret ?_
    simp [Fin]
    all_goals omega

def marksByte (k : Int) (n : Nat) : List UInt8 := (List.range n).map fun (i : Nat) => UInt8.ofNat ((k + i) % 256).toNat

theorem marksByte_len (k : Int) (n : Nat) : (marksByte k n).length = n := by simp [marksByte]

theorem byte_of (z : Int) : IntKind.u8.wrap z = ((UInt8.ofNat (z % 256).toNat).toNat : Int) := by
  rw [IntKind.wrap_u8, UInt8.toNat_ofNat']
  omega

theorem marksByte_succ (k : Int) (n : Nat) : bytesD (marksByte k (n + 1)) = bytesD (marksByte k n) ++ [[.int .u8 (IntKind.u8.wrap (k + n))]] := by
  simp [marksByte, List.range_succ, bytesD, byte_of]

theorem marksByte_get (k : Int) {n i : Nat} (h : i < n) : (bytesD (marksByte k n))[i]? = some [.int .u8 (IntKind.u8.wrap (k + i))] := by
  simp [marksByte, h, bytesD, byte_of]

theorem markByteS_ok (rows : List (List D)) (k : Int) (h0 : ∀ r, r ∈ rows → r.length = 1) (h1 : rows.length ≤ 281474976710656) (h2 : 0 ≤ k ∧ k ≤ 281474976710656000) :
    Valid PP GG F_L_markByteS [.own 0 1 rows, .d (.int .i64 k)] (.d (.int .i64 (k + rows.length))) [some (.own 0 1 (bytesD (marksByte k rows.length))), none] := by
  refine v_L_markByteS [.d (.int .i64 (k + rows.length))] rfl rfl ?_
  refine W_seq (?_)
  apply W_regS
  · intro K hK
    simp
    repeat' (first | with_reducible exact hK | (with_reducible refine goL_split (fun _ => ?_) (fun _ => ?_) <;> simp) | with_reducible refine And.intro ?_ ?_ | with_reducible exact okay_rfl rfl | omega)
  refine W_seq (W_seq (?_))
  apply W_regS
  · intro K hK
    simp
    repeat' (first | with_reducible exact hK | (with_reducible refine goL_split (fun _ => ?_) (fun _ => ?_) <;> simp) | with_reducible refine And.intro ?_ ?_ | with_reducible exact okay_rfl rfl | omega)
  refine W_block (W_loop (fun n st => ∃ (i : Nat) (R : List (List D)), n = rows.length - i ∧ i ≤ rows.length ∧ R.length = rows.length ∧ (∀ r, r ∈ R → r.length = 1) ∧ R.take i = bytesD (marksByte k i) ∧
    st = ⟨[], [(0, .sl 0), (1, .d (.int .i64 (k + i))), (5, .d (.int .i64 i))], [(0, .arr 0 0 1 R)], 1⟩) _ ⟨0, rows, rfl, by omega, rfl, h0, rfl, by simp [gc, closeN, liveA, gcV, gcO, renA, renO, namesAs, namesA, namesO, posn]⟩ ?_)
  rintro n st ⟨i, R, rfl, hi, hl, h3, hR, rfl⟩
  refine W_seq (W_seq (?_))
  apply W_regS
  · intro K hK
    simp
    repeat' (first | with_reducible exact hK | (with_reducible refine goL_split (fun _ => ?_) (fun _ => ?_) <;> simp) | with_reducible refine And.intro ?_ ?_ | with_reducible exact okay_rfl rfl | omega)
  refine W_cond rfl (fun h => W_skip ?_) (fun h => W_exit ?_)
  · simp [hl] at h
    obtain ⟨d, hd⟩ := row_one h3 (show i < R.length by omega)
    refine W_seq (W_block (W_seq ?_))
    apply W_regS
    · intro K hK
      simp [hd, hl]
      repeat' (first | with_reducible exact hK | (with_reducible refine goL_split (fun _ => ?_) (fun _ => ?_) <;> simp [hd, hl]) | with_reducible refine And.intro ?_ ?_ | with_reducible exact okay_rfl rfl | omega)
    have hw : IntKind.i64.wrap (k + i + 1) = k + i + 1 := wrap_id (by omega) (by omega)
    apply W_regS
    · intro K hK
      simp [hw]
      repeat' (first | with_reducible exact hK | (with_reducible refine goL_split (fun _ => ?_) (fun _ => ?_) <;> simp [hw]) | with_reducible refine And.intro ?_ ?_ | with_reducible exact okay_rfl rfl | omega)
    apply W_regS
    · intro K hK
      simp
      repeat' (first | with_reducible exact hK | (with_reducible refine goL_split (fun _ => ?_) (fun _ => ?_) <;> simp) | with_reducible refine And.intro ?_ ?_ | with_reducible exact okay_rfl rfl | omega)
    exact ⟨rows.length - (i + 1), by omega, i + 1, R.set i [.int .u8 (IntKind.u8.wrap (k + i))], rfl, h, by simpa using hl, set_one h3, by rw [take_set_succ (by omega), hR, marksByte_succ],
      by simp [gc, closeN, liveA, gcV, gcO, renA, renO, namesAs, namesA, namesO, posn]; exact ⟨by omega, wrap_id (by omega) (by omega)⟩⟩
  · simp [hl] at h
    have e : R = bytesD (marksByte k rows.length) := by
      have : i = rows.length := by omega
      subst this
      rwa [List.take_of_length_le (by omega)] at hR
    have hi' : i = rows.length := by omega
    subst e
    rw [if_pos rfl]
    refine W_seq (?_)
    apply W_regS
    · intro K hK
      simp
      repeat' (first | with_reducible exact hK | (with_reducible refine goL_split (fun _ => ?_) (fun _ => ?_) <;> simp) | with_reducible refine And.intro ?_ ?_ | with_reducible exact okay_rfl rfl | omega)
    refine W_ret ?_
    simp [Fin, hi']
    all_goals omega

theorem heldByteS_ok (n : Nat) (k : Int) (h1 : n ≤ 281474976710656) (h2 : 0 ≤ k ∧ k ≤ 281474976710656000) :
    Valid PP GG F_L_heldByteS [.d (.slc 1 (bytesD (marksByte k n))), .d (.int .i64 k)] (.d (.int .i64 (k + n))) [none, none] := by
  refine v_L_heldByteS [.d (.int .i64 (k + n))] rfl rfl ?_
  have hl : (bytesD (marksByte k n)).length = n := by simp [marksByte_len]
  have hl2 := marksByte_len k n
  have hget : ∀ i : Nat, i < n → (bytesD (marksByte k n))[i]? = some [.int .u8 (IntKind.u8.wrap (k + i))] := fun i h => marksByte_get k h
  generalize bytesD (marksByte k n) = B at hl hget ⊢
  refine W_seq (?_)
  apply W_regS
  · intro K hK
    simp
    repeat' (first | with_reducible exact hK | (with_reducible refine goL_split (fun _ => ?_) (fun _ => ?_) <;> simp) | with_reducible refine And.intro ?_ ?_ | with_reducible exact okay_rfl rfl | omega)
  refine W_seq (W_seq (?_))
  apply W_regS
  · intro K hK
    simp
    repeat' (first | with_reducible exact hK | (with_reducible refine goL_split (fun _ => ?_) (fun _ => ?_) <;> simp) | with_reducible refine And.intro ?_ ?_ | with_reducible exact okay_rfl rfl | omega)
  refine W_block (W_loop (fun m st => ∃ (i : Nat), m = n - i ∧ i ≤ n ∧
    st = ⟨[], [(0, .d (.slc 1 B)), (1, .d (.int .i64 (k + i))), (5, .d (.int .i64 i))], [], 0⟩) _ ⟨0, rfl, by omega, by simp [gc, closeN, liveA, gcV, gcO, renA, renO, namesAs, namesA, namesO, posn]⟩ ?_)
  rintro m st ⟨i, rfl, hi, rfl⟩
  refine W_seq (W_seq (?_))
  apply W_regS
  · intro K hK
    simp
    repeat' (first | with_reducible exact hK | (with_reducible refine goL_split (fun _ => ?_) (fun _ => ?_) <;> simp) | with_reducible refine And.intro ?_ ?_ | with_reducible exact okay_rfl rfl | omega)
  refine W_cond rfl (fun h => W_skip ?_) (fun h => W_exit ?_)
  · simp [hl] at h
    have ha := hget i h
    refine W_seq (W_block (W_seq (W_seq ?_)))
    apply W_regS
    · intro K hK
      simp [ha, hl]
      repeat' (first | with_reducible exact hK | (with_reducible refine goL_split (fun _ => ?_) (fun _ => ?_) <;> simp [ha, hl]) | with_reducible refine And.intro ?_ ?_ | with_reducible exact okay_rfl rfl | omega)
    refine W_cond rfl (fun h4 => ?_) (fun h4 => W_skip ?_)
    · simp at h4
    have hw : IntKind.i64.wrap (k + i + 1) = k + i + 1 := wrap_id (by omega) (by omega)
    apply W_regS
    · intro K hK
      simp [hw]
      repeat' (first | with_reducible exact hK | (with_reducible refine goL_split (fun _ => ?_) (fun _ => ?_) <;> simp [hw]) | with_reducible refine And.intro ?_ ?_ | with_reducible exact okay_rfl rfl | omega)
    apply W_regS
    · intro K hK
      simp
      repeat' (first | with_reducible exact hK | (with_reducible refine goL_split (fun _ => ?_) (fun _ => ?_) <;> simp) | with_reducible refine And.intro ?_ ?_ | with_reducible exact okay_rfl rfl | omega)
    exact ⟨n - (i + 1), by omega, i + 1, rfl, h, by simp [gc, closeN, liveA, gcV, gcO, renA, renO, namesAs, namesA, namesO, posn]; exact ⟨by omega, wrap_id (by omega) (by omega)⟩⟩
  · simp [hl] at h
    have hi' : i = n := by omega
    rw [if_pos rfl]
    refine W_seq (?_)
    apply W_regS
    · intro K hK
      simp
      repeat' (first | with_reducible exact hK | (with_reducible refine goL_split (fun _ => ?_) (fun _ => ?_) <;> simp) | with_reducible refine And.intro ?_ ?_ | with_reducible exact okay_rfl rfl | omega)
    refine W_ret ?_
    simp [Fin, hi']
    all_goals omega

end Go.Proofs.YtpbofdbleajagaaDoor.Ab

