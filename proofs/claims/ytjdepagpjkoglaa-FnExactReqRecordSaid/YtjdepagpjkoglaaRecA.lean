/-
  A part of a proof about the given program; what is proved is said where each theorem stands.
-/
import Derived.Test.YtjdepagpjkoglaaFrameA
import Derived.Test.YtjdepagpjkoglaaFrameB
import Derived.Test.YtjdepagpjkoglaaFrameC
import Derived.Test.YtjdepagpjkoglaaFrameD
import Derived.Test.YtjdepagpjkoglaaFrameE
import Derived.Test.YtjdepagpjkoglaaCodesRec
set_option linter.unusedSimpArgs false
set_option maxRecDepth 100000
namespace Go.Proofs.Ytjdepagpjkoglaa.Ab

theorem wrap_id {n : Int} (h1 : -9223372036854775808 ≤ n) (h2 : n ≤ 9223372036854775807) : IntKind.i64.wrap n = n := by
  rw [IntKind.wrap_i64]; omega

theorem take_succ_eq {α : Type} {a b : List α} {i : Nat} {x : α} (h : a.take i = b.take i) (ha : a[i]? = some x) (hb : b[i]? = some x) : a.take (i + 1) = b.take (i + 1) := by
  rw [List.take_add_one, List.take_add_one, h, ha, hb]

theorem eqByteS_ok (a b : List UInt8) (hsz : a.length ≤ 281474976710656) : Valid PP F_L_eqByteS [.d (.slc 1 (bytesD a)), .d (.slc 1 (bytesD b))] (.d (.bool (a == b))) [none, none] := by
  refine v_L_eqByteS [.d (.bool (a == b))] rfl rfl ?_
  refine W_seq (?_)
  apply W_regS
  · intro K hK
    simp
    repeat' (first | with_reducible exact hK | omega | with_reducible refine And.intro ?_ ?_ | with_reducible exact okay_rfl rfl | (refine goL_split (fun _ => ?_) (fun _ => ?_) <;> simp))
  refine W_seq (W_seq (?_))
  apply W_regS
  · intro K hK
    simp
    repeat' (first | with_reducible exact hK | omega | with_reducible refine And.intro ?_ ?_ | with_reducible exact okay_rfl rfl | (refine goL_split (fun _ => ?_) (fun _ => ?_) <;> simp))
  refine W_cond rfl (fun h => W_seq ?_) (fun hlen => W_skip ?_)
  · apply W_regS
    · intro K hK
      simp
      repeat' (first | with_reducible exact hK | omega | with_reducible refine And.intro ?_ ?_ | with_reducible exact okay_rfl rfl | (refine goL_split (fun _ => ?_) (fun _ => ?_) <;> simp))
    have : (a == b) = false := by simp at h ⊢; intro e; subst e; exact h rfl
    refine W_ret ?_
    simp [Fin, this]
    all_goals omega
  refine W_seq (W_seq (?_))
  simp at hlen
  apply W_regS
  · intro K hK
    simp
    repeat' (first | with_reducible exact hK | omega | with_reducible refine And.intro ?_ ?_ | with_reducible exact okay_rfl rfl | (refine goL_split (fun _ => ?_) (fun _ => ?_) <;> simp))
  refine W_block (W_loop (fun n st => ∃ i : Nat, n = a.length - i ∧ i ≤ a.length ∧ a.take i = b.take i ∧ st = ⟨[], [(0, .d (.slc 1 (bytesD a))), (1, .d (.slc 1 (bytesD b))), (5, .d (.int .i64 i))], [], 0⟩) _ ⟨0, rfl, by omega, rfl, rfl⟩ ?_)
  rintro n st ⟨i, rfl, hi, he, rfl⟩
  refine W_seq (W_seq (?_))
  apply W_regS
  · intro K hK
    simp
    repeat' (first | with_reducible exact hK | omega | with_reducible refine And.intro ?_ ?_ | with_reducible exact okay_rfl rfl | (refine goL_split (fun _ => ?_) (fun _ => ?_) <;> simp))
  refine W_cond rfl (fun h => W_skip ?_) (fun h => W_exit ?_)
  · simp at h
    have ha := List.getElem?_eq_getElem h
    have hb := List.getElem?_eq_getElem (show i < b.length by omega)
    generalize a[i] = x at ha
    generalize b[i]'_ = y at hb
    refine W_seq (W_block (W_seq ?_))
    apply W_regD
    · intro K hK
      simp [ha, hb]
      repeat' (first | with_reducible exact hK | omega | with_reducible refine And.intro ?_ ?_ | with_reducible exact okay_rfl rfl | (refine goL_split (fun _ => ?_) (fun _ => ?_) <;> simp [ha, hb]))
    refine W_cond rfl (fun h2 => W_seq ?_) (fun h2 => W_skip ?_)
    · apply W_regS
      · intro K hK
        simp
        repeat' (first | with_reducible exact hK | omega | with_reducible refine And.intro ?_ ?_ | with_reducible exact okay_rfl rfl | (refine goL_split (fun _ => ?_) (fun _ => ?_) <;> simp))
      have : (a == b) = false := by simp; intro e; subst e; simp [ha] at hb; subst hb; simp at h2
      refine W_ret ?_
      simp [Fin, this]
      all_goals omega
    apply W_regS
    · intro K hK
      simp
      repeat' (first | with_reducible exact hK | omega | with_reducible refine And.intro ?_ ?_ | with_reducible exact okay_rfl rfl | (refine goL_split (fun _ => ?_) (fun _ => ?_) <;> simp))
    have hxy : x = y := by simp at h2; exact UInt8.toNat_inj.1 (by omega)
    subst hxy
    exact ⟨a.length - (i + 1), by omega, i + 1, rfl, h, take_succ_eq he ha hb, by simp [gc, closeN, liveA, gcV, gcO, renA, namesAs, namesA]; rw [wrap_id (by omega) (by omega)]⟩
  · simp at h
    rw [if_pos rfl]
    refine W_seq (?_)
    apply W_regS
    · intro K hK
      simp
      repeat' (first | with_reducible exact hK | omega | with_reducible refine And.intro ?_ ?_ | with_reducible exact okay_rfl rfl | (refine goL_split (fun _ => ?_) (fun _ => ?_) <;> simp))
    have : (a == b) = true := by
      simp
      rwa [List.take_of_length_le h, List.take_of_length_le (by omega)] at he
    refine W_ret ?_
    simp [Fin, this]
    all_goals omega

theorem row_one {R : List (List D)} {i : Nat} (h : ∀ r, r ∈ R → r.length = 1) (hi : i < R.length) : ∃ d, R[i]? = some [d] := by
  have := h _ (List.getElem_mem hi)
  rw [List.length_eq_one_iff] at this
  obtain ⟨d, hd⟩ := this
  exact ⟨d, by rw [List.getElem?_eq_getElem hi, hd]⟩

theorem set_one {R : List (List D)} {i : Nat} {d : D} (h : ∀ r, r ∈ R → r.length = 1) : ∀ r, r ∈ R.set i [d] → r.length = 1 := by
  intro r hr
  rcases List.mem_or_eq_of_mem_set hr with h1 | h1
  · exact h r h1
  · subst h1; rfl

theorem take_set_succ {R : List (List D)} {i : Nat} {r : List D} (hi : i < R.length) : (R.set i r).take (i + 1) = R.take i ++ [r] := by
  rw [List.take_add_one, List.take_set_of_le (Nat.le_refl _)]
  simp [hi]

theorem bytesD_succ {a : List UInt8} {i : Nat} {x : UInt8} (ha : a[i]? = some x) : bytesD (a.take (i + 1)) = bytesD (a.take i) ++ [[.int .u8 x.toNat]] := by
  rw [List.take_add_one, ha]; simp [bytesD]

theorem toByteS_ok (a : List UInt8) (hsz : a.length ≤ 140737488355328) : Valid PP F_L_toByteS [.d (.slc 1 (bytesD a))] (.own 0 1 (bytesD a)) [none] := by
  refine v_L_toByteS [.own 0 1 (bytesD a)] rfl rfl ?_
  refine W_seq (?_)
  apply W_regS
  · intro K hK
    simp
    repeat' (first | with_reducible exact hK | omega | with_reducible refine And.intro ?_ ?_ | with_reducible exact okay_rfl rfl | (refine goL_split (fun _ => ?_) (fun _ => ?_) <;> simp))
  refine W_seq (?_)
  apply W_regS
  · intro K hK
    simp [mkA, limit]
    repeat' (first | with_reducible exact hK | omega | with_reducible refine And.intro ?_ ?_ | with_reducible exact okay_rfl rfl | (refine goL_split (fun _ => ?_) (fun _ => ?_) <;> simp [mkA, limit]))
  refine W_seq (W_seq (?_))
  apply W_regS
  · intro K hK
    simp
    repeat' (first | with_reducible exact hK | omega | with_reducible refine And.intro ?_ ?_ | with_reducible exact okay_rfl rfl | (refine goL_split (fun _ => ?_) (fun _ => ?_) <;> simp))
  refine W_block (W_loop (fun n st => ∃ (i : Nat) (R : List (List D)), n = a.length - i ∧ i ≤ a.length ∧ R.length = a.length ∧ (∀ r, r ∈ R → r.length = 1) ∧ R.take i = bytesD (a.take i) ∧
    st = ⟨[], [(0, .d (.slc 1 (bytesD a))), (3, .sl 0), (4, .d (.int .i64 i))], [(0, .arr 0 0 1 R)], 1⟩) _ ⟨0, List.replicate a.length [.int .u8 0], rfl, by omega, by simp, by simp, rfl, rfl⟩ ?_)
  rintro n st ⟨i, R, rfl, hi, hl, h1, hR, rfl⟩
  refine W_seq (W_seq (?_))
  apply W_regS
  · intro K hK
    simp
    repeat' (first | with_reducible exact hK | omega | with_reducible refine And.intro ?_ ?_ | with_reducible exact okay_rfl rfl | (refine goL_split (fun _ => ?_) (fun _ => ?_) <;> simp))
  refine W_cond rfl (fun h => W_skip ?_) (fun h => W_exit ?_)
  · simp at h
    have ha := List.getElem?_eq_getElem h
    generalize a[i] = x at ha
    obtain ⟨d, hd⟩ := row_one h1 (show i < R.length by omega)
    refine W_seq (W_block ?_)
    apply W_regS
    · intro K hK
      simp [ha, hd, hl]
      repeat' (first | with_reducible exact hK | omega | with_reducible refine And.intro ?_ ?_ | with_reducible exact okay_rfl rfl | (refine goL_split (fun _ => ?_) (fun _ => ?_) <;> simp [ha, hd, hl]))
    apply W_regS
    · intro K hK
      simp
      repeat' (first | with_reducible exact hK | omega | with_reducible refine And.intro ?_ ?_ | with_reducible exact okay_rfl rfl | (refine goL_split (fun _ => ?_) (fun _ => ?_) <;> simp))
    exact ⟨a.length - (i + 1), by omega, i + 1, R.set i [.int .u8 x.toNat], rfl, h, by simpa using hl, set_one h1, by rw [take_set_succ (by omega), hR, bytesD_succ ha],
      by simp [gc, closeN, liveA, gcV, gcO, renA, renO, namesAs, namesA, namesO, posn]; rw [wrap_id (by omega) (by omega)]⟩
  · simp at h
    have e : R = bytesD a := by rwa [List.take_of_length_le (by omega), List.take_of_length_le (by omega)] at hR
    subst e
    rw [if_pos rfl]
    refine W_seq (?_)
    apply W_regS
    · intro K hK
      simp
      repeat' (first | with_reducible exact hK | omega | with_reducible refine And.intro ?_ ?_ | with_reducible exact okay_rfl rfl | (refine goL_split (fun _ => ?_) (fun _ => ?_) <;> simp))
    refine W_ret ?_
    simp [Fin]
    all_goals omega

/-- The hexadecimal digits. -/
def hexDigit (n : Nat) : UInt8 := ([48, 49, 50, 51, 52, 53, 54, 55, 56, 57, 97, 98, 99, 100, 101, 102] : List UInt8).getD n 0
def hexOf (a : List UInt8) : List UInt8 := a.flatMap fun x => [hexDigit (x.toNat / 16), hexDigit (x.toNat % 16)]

theorem hex_succ {a : List UInt8} {i : Nat} {x : UInt8} (ha : a[i]? = some x) : hexOf (a.take (i + 1)) = hexOf (a.take i) ++ [hexDigit (x.toNat / 16), hexDigit (x.toNat % 16)] := by
  rw [List.take_add_one, ha]; simp [hexOf]

theorem hex_len (a : List UInt8) : (hexOf a).length = 2 * a.length := by
  induction a with
  | nil => rfl
  | cons x a ih => simp [hexOf] at ih ⊢; omega

theorem ofBytes_bytesD (s : List UInt8) : ofBytes (bytesD s) = some s := by
  induction s with
  | nil => rfl
  | cons x s ih => simp [bytesD, ofBytes] at ih ⊢; exact ih

theorem strOf_bytesD (s : List UInt8) : strOf (.slc 1 (bytesD s)) = out (.d (.str s)) := by
  cases s with
  | nil => rfl
  | cons x s => simp only [strOf, ofBytes_bytesD]; simp [bytesD]

theorem u8_hi (x : UInt8) : (x.toNat : Int).fdiv 16 = ((x.toNat / 16 : Nat) : Int) := by
  rw [Int.fdiv_eq_ediv_of_nonneg _ (by omega)]; rfl
theorem u8_quo (x : UInt8) : IntKind.u8.wrap ((x.toNat : Int).tdiv 16) = ((x.toNat / 16 : Nat) : Int) := by
  have h : (x.toNat : Int).tdiv 16 = ((x.toNat / 16 : Nat) : Int) := rfl
  have := x.toNat_lt
  rw [h, IntKind.wrap_u8]; omega
theorem u8_rem (x : UInt8) : (x.toNat : Int).tmod 16 = ((x.toNat % 16 : Nat) : Int) := rfl
theorem u8_lo (x : UInt8) : IntKind.u8.wrap ((x.toBitVec &&& 15#8).toNat : Int) = ((x.toNat % 16 : Nat) : Int) := by
  have h : (x.toBitVec &&& 15#8).toNat = x.toNat % 16 := by
    rw [BitVec.toNat_and]
    exact Nat.and_two_pow_sub_one_eq_mod x.toNat 4
  have := x.toNat_lt
  rw [h, IntKind.wrap_u8]; omega

theorem bytes_app2 (s : List UInt8) (u v : UInt8) : bytesD (s ++ [u, v]) = bytesD s ++ [[D.int .u8 u.toNat], [D.int .u8 v.toNat]] := by simp [bytesD]

end Go.Proofs.Ytjdepagpjkoglaa.Ab


set_option linter.unusedSimpArgs false
set_option maxRecDepth 100000
namespace Go.Proofs.Ytjdepagpjkoglaa.Ab

theorem eqIntS_ok (a b : List Int) (hsz : a.length ≤ 281474976710656) : Valid PP F_L_eqIntS [.d (.slc 1 (intsD a)), .d (.slc 1 (intsD b))] (.d (.bool (a == b))) [none, none] := by
  refine v_L_eqIntS [.d (.bool (a == b))] rfl rfl ?_
  refine W_seq (?_)
  apply W_regS
  · intro K hK
    simp
    repeat' (first | with_reducible exact hK | omega | with_reducible refine And.intro ?_ ?_ | with_reducible exact okay_rfl rfl | (refine goL_split (fun _ => ?_) (fun _ => ?_) <;> simp))
  refine W_seq (W_seq (?_))
  apply W_regS
  · intro K hK
    simp
    repeat' (first | with_reducible exact hK | omega | with_reducible refine And.intro ?_ ?_ | with_reducible exact okay_rfl rfl | (refine goL_split (fun _ => ?_) (fun _ => ?_) <;> simp))
  refine W_cond rfl (fun h => W_seq ?_) (fun hlen => W_skip ?_)
  · apply W_regS
    · intro K hK
      simp
      repeat' (first | with_reducible exact hK | omega | with_reducible refine And.intro ?_ ?_ | with_reducible exact okay_rfl rfl | (refine goL_split (fun _ => ?_) (fun _ => ?_) <;> simp))
    have : (a == b) = false := by simp at h ⊢; intro e; subst e; exact h rfl
    refine W_ret ?_
    simp [Fin, this]
    all_goals omega
  refine W_seq (W_seq (?_))
  simp at hlen
  apply W_regS
  · intro K hK
    simp
    repeat' (first | with_reducible exact hK | omega | with_reducible refine And.intro ?_ ?_ | with_reducible exact okay_rfl rfl | (refine goL_split (fun _ => ?_) (fun _ => ?_) <;> simp))
  refine W_block (W_loop (fun n st => ∃ i : Nat, n = a.length - i ∧ i ≤ a.length ∧ a.take i = b.take i ∧ st = ⟨[], [(0, .d (.slc 1 (intsD a))), (1, .d (.slc 1 (intsD b))), (5, .d (.int .i64 i))], [], 0⟩) _ ⟨0, rfl, by omega, rfl, rfl⟩ ?_)
  rintro n st ⟨i, rfl, hi, he, rfl⟩
  refine W_seq (W_seq (?_))
  apply W_regS
  · intro K hK
    simp
    repeat' (first | with_reducible exact hK | omega | with_reducible refine And.intro ?_ ?_ | with_reducible exact okay_rfl rfl | (refine goL_split (fun _ => ?_) (fun _ => ?_) <;> simp))
  refine W_cond rfl (fun h => W_skip ?_) (fun h => W_exit ?_)
  · simp at h
    have ha := List.getElem?_eq_getElem h
    have hb := List.getElem?_eq_getElem (show i < b.length by omega)
    generalize a[i] = x at ha
    generalize b[i]'_ = y at hb
    refine W_seq (W_block (W_seq ?_))
    apply W_regD
    · intro K hK
      simp [ha, hb]
      repeat' (first | with_reducible exact hK | omega | with_reducible refine And.intro ?_ ?_ | with_reducible exact okay_rfl rfl | (refine goL_split (fun _ => ?_) (fun _ => ?_) <;> simp [ha, hb]))
    refine W_cond rfl (fun h2 => W_seq ?_) (fun h2 => W_skip ?_)
    · apply W_regS
      · intro K hK
        simp
        repeat' (first | with_reducible exact hK | omega | with_reducible refine And.intro ?_ ?_ | with_reducible exact okay_rfl rfl | (refine goL_split (fun _ => ?_) (fun _ => ?_) <;> simp))
      have : (a == b) = false := by simp; intro e; subst e; simp [ha] at hb; subst hb; simp at h2
      refine W_ret ?_
      simp [Fin, this]
      all_goals omega
    apply W_regS
    · intro K hK
      simp
      repeat' (first | with_reducible exact hK | omega | with_reducible refine And.intro ?_ ?_ | with_reducible exact okay_rfl rfl | (refine goL_split (fun _ => ?_) (fun _ => ?_) <;> simp))
    have hxy : x = y := by simpa using h2
    subst hxy
    exact ⟨a.length - (i + 1), by omega, i + 1, rfl, h, take_succ_eq he ha hb, by simp [gc, closeN, liveA, gcV, gcO, renA, namesAs, namesA]; rw [wrap_id (by omega) (by omega)]⟩
  · simp at h
    rw [if_pos rfl]
    refine W_seq (?_)
    apply W_regS
    · intro K hK
      simp
      repeat' (first | with_reducible exact hK | omega | with_reducible refine And.intro ?_ ?_ | with_reducible exact okay_rfl rfl | (refine goL_split (fun _ => ?_) (fun _ => ?_) <;> simp))
    have : (a == b) = true := by
      simp
      rwa [List.take_of_length_le h, List.take_of_length_le (by omega)] at he
    refine W_ret ?_
    simp [Fin, this]
    all_goals omega


theorem eqStringS_ok (a b : List (List UInt8)) (hsz : a.length ≤ 281474976710656) : Valid PP F_L_eqStringS [.d (.slc 1 (strsD a)), .d (.slc 1 (strsD b))] (.d (.bool (a == b))) [none, none] := by
  refine v_L_eqStringS [.d (.bool (a == b))] rfl rfl ?_
  refine W_seq (?_)
  apply W_regS
  · intro K hK
    simp
    repeat' (first | with_reducible exact hK | omega | with_reducible refine And.intro ?_ ?_ | with_reducible exact okay_rfl rfl | (refine goL_split (fun _ => ?_) (fun _ => ?_) <;> simp))
  refine W_seq (W_seq (?_))
  apply W_regS
  · intro K hK
    simp
    repeat' (first | with_reducible exact hK | omega | with_reducible refine And.intro ?_ ?_ | with_reducible exact okay_rfl rfl | (refine goL_split (fun _ => ?_) (fun _ => ?_) <;> simp))
  refine W_cond rfl (fun h => W_seq ?_) (fun hlen => W_skip ?_)
  · apply W_regS
    · intro K hK
      simp
      repeat' (first | with_reducible exact hK | omega | with_reducible refine And.intro ?_ ?_ | with_reducible exact okay_rfl rfl | (refine goL_split (fun _ => ?_) (fun _ => ?_) <;> simp))
    have : (a == b) = false := by simp at h ⊢; intro e; subst e; exact h rfl
    refine W_ret ?_
    simp [Fin, this]
    all_goals omega
  refine W_seq (W_seq (?_))
  simp at hlen
  apply W_regS
  · intro K hK
    simp
    repeat' (first | with_reducible exact hK | omega | with_reducible refine And.intro ?_ ?_ | with_reducible exact okay_rfl rfl | (refine goL_split (fun _ => ?_) (fun _ => ?_) <;> simp))
  refine W_block (W_loop (fun n st => ∃ i : Nat, n = a.length - i ∧ i ≤ a.length ∧ a.take i = b.take i ∧ st = ⟨[], [(0, .d (.slc 1 (strsD a))), (1, .d (.slc 1 (strsD b))), (5, .d (.int .i64 i))], [], 0⟩) _ ⟨0, rfl, by omega, rfl, rfl⟩ ?_)
  rintro n st ⟨i, rfl, hi, he, rfl⟩
  refine W_seq (W_seq (?_))
  apply W_regS
  · intro K hK
    simp
    repeat' (first | with_reducible exact hK | omega | with_reducible refine And.intro ?_ ?_ | with_reducible exact okay_rfl rfl | (refine goL_split (fun _ => ?_) (fun _ => ?_) <;> simp))
  refine W_cond rfl (fun h => W_skip ?_) (fun h => W_exit ?_)
  · simp at h
    have ha := List.getElem?_eq_getElem h
    have hb := List.getElem?_eq_getElem (show i < b.length by omega)
    generalize a[i] = x at ha
    generalize b[i]'_ = y at hb
    refine W_seq (W_block (W_seq ?_))
    apply W_regD
    · intro K hK
      simp [ha, hb]
      repeat' (first | with_reducible exact hK | omega | with_reducible refine And.intro ?_ ?_ | with_reducible exact okay_rfl rfl | (refine goL_split (fun _ => ?_) (fun _ => ?_) <;> simp [ha, hb]))
    refine W_cond rfl (fun h2 => W_seq ?_) (fun h2 => W_skip ?_)
    · apply W_regS
      · intro K hK
        simp
        repeat' (first | with_reducible exact hK | omega | with_reducible refine And.intro ?_ ?_ | with_reducible exact okay_rfl rfl | (refine goL_split (fun _ => ?_) (fun _ => ?_) <;> simp))
      have : (a == b) = false := by simp; intro e; subst e; simp [ha] at hb; subst hb; simp at h2
      refine W_ret ?_
      simp [Fin, this]
      all_goals omega
    apply W_regS
    · intro K hK
      simp
      repeat' (first | with_reducible exact hK | omega | with_reducible refine And.intro ?_ ?_ | with_reducible exact okay_rfl rfl | (refine goL_split (fun _ => ?_) (fun _ => ?_) <;> simp))
    have hxy : x = y := by simpa using h2
    subst hxy
    exact ⟨a.length - (i + 1), by omega, i + 1, rfl, h, take_succ_eq he ha hb, by simp [gc, closeN, liveA, gcV, gcO, renA, namesAs, namesA]; rw [wrap_id (by omega) (by omega)]⟩
  · simp at h
    rw [if_pos rfl]
    refine W_seq (?_)
    apply W_regS
    · intro K hK
      simp
      repeat' (first | with_reducible exact hK | omega | with_reducible refine And.intro ?_ ?_ | with_reducible exact okay_rfl rfl | (refine goL_split (fun _ => ?_) (fun _ => ?_) <;> simp))
    have : (a == b) = true := by
      simp
      rwa [List.take_of_length_le h, List.take_of_length_le (by omega)] at he
    refine W_ret ?_
    simp [Fin, this]
    all_goals omega


theorem intsD_succ {a : List Int} {i : Nat} {x : Int} (ha : a[i]? = some x) : intsD (a.take (i + 1)) = intsD (a.take i) ++ [[.int .i64 x]] := by
  rw [List.take_add_one, ha]; simp [intsD]

theorem toIntS_ok (a : List Int) (hsz : a.length * 8 ≤ 140737488355328) : Valid PP F_L_toIntS [.d (.slc 1 (intsD a))] (.own 0 1 (intsD a)) [none] := by
  refine v_L_toIntS [.own 0 1 (intsD a)] rfl rfl ?_
  refine W_seq (?_)
  apply W_regS
  · intro K hK
    simp
    repeat' (first | with_reducible exact hK | omega | with_reducible refine And.intro ?_ ?_ | with_reducible exact okay_rfl rfl | (refine goL_split (fun _ => ?_) (fun _ => ?_) <;> simp))
  refine W_seq (?_)
  apply W_regS
  · intro K hK
    simp [mkA, limit]
    repeat' (first | with_reducible exact hK | omega | with_reducible refine And.intro ?_ ?_ | with_reducible exact okay_rfl rfl | (refine goL_split (fun _ => ?_) (fun _ => ?_) <;> simp [mkA, limit]))
  refine W_seq (W_seq (?_))
  apply W_regS
  · intro K hK
    simp
    repeat' (first | with_reducible exact hK | omega | with_reducible refine And.intro ?_ ?_ | with_reducible exact okay_rfl rfl | (refine goL_split (fun _ => ?_) (fun _ => ?_) <;> simp))
  refine W_block (W_loop (fun n st => ∃ (i : Nat) (R : List (List D)), n = a.length - i ∧ i ≤ a.length ∧ R.length = a.length ∧ (∀ r, r ∈ R → r.length = 1) ∧ R.take i = intsD (a.take i) ∧
    st = ⟨[], [(0, .d (.slc 1 (intsD a))), (3, .sl 0), (4, .d (.int .i64 i))], [(0, .arr 0 0 1 R)], 1⟩) _ ⟨0, List.replicate a.length [.int .i64 0], rfl, by omega, by simp, by simp, rfl, rfl⟩ ?_)
  rintro n st ⟨i, R, rfl, hi, hl, h1, hR, rfl⟩
  refine W_seq (W_seq (?_))
  apply W_regS
  · intro K hK
    simp
    repeat' (first | with_reducible exact hK | omega | with_reducible refine And.intro ?_ ?_ | with_reducible exact okay_rfl rfl | (refine goL_split (fun _ => ?_) (fun _ => ?_) <;> simp))
  refine W_cond rfl (fun h => W_skip ?_) (fun h => W_exit ?_)
  · simp at h
    have ha := List.getElem?_eq_getElem h
    generalize a[i] = x at ha
    obtain ⟨d, hd⟩ := row_one h1 (show i < R.length by omega)
    refine W_seq (W_block ?_)
    apply W_regS
    · intro K hK
      simp [ha, hd, hl]
      repeat' (first | with_reducible exact hK | omega | with_reducible refine And.intro ?_ ?_ | with_reducible exact okay_rfl rfl | (refine goL_split (fun _ => ?_) (fun _ => ?_) <;> simp [ha, hd, hl]))
    apply W_regS
    · intro K hK
      simp
      repeat' (first | with_reducible exact hK | omega | with_reducible refine And.intro ?_ ?_ | with_reducible exact okay_rfl rfl | (refine goL_split (fun _ => ?_) (fun _ => ?_) <;> simp))
    exact ⟨a.length - (i + 1), by omega, i + 1, R.set i [.int .i64 x], rfl, h, by simpa using hl, set_one h1, by rw [take_set_succ (by omega), hR, intsD_succ ha],
      by simp [gc, closeN, liveA, gcV, gcO, renA, renO, namesAs, namesA, namesO, posn]; rw [wrap_id (by omega) (by omega)]⟩
  · simp at h
    have e : R = intsD a := by rwa [List.take_of_length_le (by omega), List.take_of_length_le (by omega)] at hR
    subst e
    rw [if_pos rfl]
    refine W_seq (?_)
    apply W_regS
    · intro K hK
      simp
      repeat' (first | with_reducible exact hK | omega | with_reducible refine And.intro ?_ ?_ | with_reducible exact okay_rfl rfl | (refine goL_split (fun _ => ?_) (fun _ => ?_) <;> simp))
    refine W_ret ?_
    simp [Fin]
    all_goals omega


theorem strsD_succ {a : List (List UInt8)} {i : Nat} {x : (List UInt8)} (ha : a[i]? = some x) : strsD (a.take (i + 1)) = strsD (a.take i) ++ [[.str x]] := by
  rw [List.take_add_one, ha]; simp [strsD]

theorem toStringS_ok (a : List (List UInt8)) (hsz : a.length * 16 ≤ 140737488355328) : Valid PP F_L_toStringS [.d (.slc 1 (strsD a))] (.own 0 1 (strsD a)) [none] := by
  refine v_L_toStringS [.own 0 1 (strsD a)] rfl rfl ?_
  refine W_seq (?_)
  apply W_regS
  · intro K hK
    simp
    repeat' (first | with_reducible exact hK | omega | with_reducible refine And.intro ?_ ?_ | with_reducible exact okay_rfl rfl | (refine goL_split (fun _ => ?_) (fun _ => ?_) <;> simp))
  refine W_seq (?_)
  apply W_regS
  · intro K hK
    simp [mkA, limit]
    repeat' (first | with_reducible exact hK | omega | with_reducible refine And.intro ?_ ?_ | with_reducible exact okay_rfl rfl | (refine goL_split (fun _ => ?_) (fun _ => ?_) <;> simp [mkA, limit]))
  refine W_seq (W_seq (?_))
  apply W_regS
  · intro K hK
    simp
    repeat' (first | with_reducible exact hK | omega | with_reducible refine And.intro ?_ ?_ | with_reducible exact okay_rfl rfl | (refine goL_split (fun _ => ?_) (fun _ => ?_) <;> simp))
  refine W_block (W_loop (fun n st => ∃ (i : Nat) (R : List (List D)), n = a.length - i ∧ i ≤ a.length ∧ R.length = a.length ∧ (∀ r, r ∈ R → r.length = 1) ∧ R.take i = strsD (a.take i) ∧
    st = ⟨[], [(0, .d (.slc 1 (strsD a))), (3, .sl 0), (4, .d (.int .i64 i))], [(0, .arr 0 0 1 R)], 1⟩) _ ⟨0, List.replicate a.length [.str []], rfl, by omega, by simp, by simp, rfl, rfl⟩ ?_)
  rintro n st ⟨i, R, rfl, hi, hl, h1, hR, rfl⟩
  refine W_seq (W_seq (?_))
  apply W_regS
  · intro K hK
    simp
    repeat' (first | with_reducible exact hK | omega | with_reducible refine And.intro ?_ ?_ | with_reducible exact okay_rfl rfl | (refine goL_split (fun _ => ?_) (fun _ => ?_) <;> simp))
  refine W_cond rfl (fun h => W_skip ?_) (fun h => W_exit ?_)
  · simp at h
    have ha := List.getElem?_eq_getElem h
    generalize a[i] = x at ha
    obtain ⟨d, hd⟩ := row_one h1 (show i < R.length by omega)
    refine W_seq (W_block ?_)
    apply W_regS
    · intro K hK
      simp [ha, hd, hl]
      repeat' (first | with_reducible exact hK | omega | with_reducible refine And.intro ?_ ?_ | with_reducible exact okay_rfl rfl | (refine goL_split (fun _ => ?_) (fun _ => ?_) <;> simp [ha, hd, hl]))
    apply W_regS
    · intro K hK
      simp
      repeat' (first | with_reducible exact hK | omega | with_reducible refine And.intro ?_ ?_ | with_reducible exact okay_rfl rfl | (refine goL_split (fun _ => ?_) (fun _ => ?_) <;> simp))
    exact ⟨a.length - (i + 1), by omega, i + 1, R.set i [.str x], rfl, h, by simpa using hl, set_one h1, by rw [take_set_succ (by omega), hR, strsD_succ ha],
      by simp [gc, closeN, liveA, gcV, gcO, renA, renO, namesAs, namesA, namesO, posn]; rw [wrap_id (by omega) (by omega)]⟩
  · simp at h
    have e : R = strsD a := by rwa [List.take_of_length_le (by omega), List.take_of_length_le (by omega)] at hR
    subst e
    rw [if_pos rfl]
    refine W_seq (?_)
    apply W_regS
    · intro K hK
      simp
      repeat' (first | with_reducible exact hK | omega | with_reducible refine And.intro ?_ ?_ | with_reducible exact okay_rfl rfl | (refine goL_split (fun _ => ?_) (fun _ => ?_) <;> simp))
    refine W_ret ?_
    simp [Fin]
    all_goals omega


end Go.Proofs.Ytjdepagpjkoglaa.Ab


set_option linter.unusedSimpArgs false
set_option maxRecDepth 100000
namespace Go.Proofs.Ytjdepagpjkoglaa.Ab

theorem l01In_ok (x lo hi : Int) : Valid PP F_S_l01In [.d (.int .i64 x), .d (.int .i64 lo), .d (.int .i64 hi)] (.d (.bool (decide (lo ≤ x) && decide (x ≤ hi)))) [none, none, none] := by
  refine v_S_l01In [.d (.bool (decide (lo ≤ x) && decide (x ≤ hi)))] rfl rfl ?_
  refine W_seq (?_)
  apply W_regS
  · intro K hK
    simp
    repeat' (first | with_reducible exact hK | (with_reducible refine goL_split (fun _ => ?_) (fun _ => ?_) <;> simp) | with_reducible refine And.intro ?_ ?_ | with_reducible exact okay_rfl rfl | omega)
  refine W_seq (?_)
  refine W_regB 6 (decide (lo ≤ x) && decide (x ≤ hi)) (fun K hK => ?_) ?_
  · simp
    repeat' (first | exact hK _ _ (by clear hK; first | omega | (simp [*]; done) | (simp [*]; omega) | (simp_all; done) | (simp_all; omega)) | (with_reducible refine goL_split (fun _ => ?_) (fun _ => ?_) <;> simp) | with_reducible refine And.intro ?_ ?_ | with_reducible exact okay_rfl rfl | omega)
  refine W_ret ?_
  simp [Fin]
  all_goals omega

theorem within_ok (x lo hi : Int) : Valid PP F_I_within [.d (.int .i64 x), .d (.int .i64 lo), .d (.int .i64 hi)] (.d (.bool (decide (lo ≤ x) && decide (x ≤ hi)))) [none, none, none] := by
  refine v_I_within [.d (.bool (decide (lo ≤ x) && decide (x ≤ hi)))] rfl rfl ?_
  refine W_seq (?_)
  apply W_regS
  · intro K hK
    simp
    repeat' (first | with_reducible exact hK | (with_reducible refine goL_split (fun _ => ?_) (fun _ => ?_) <;> simp) | with_reducible refine And.intro ?_ ?_ | with_reducible exact okay_rfl rfl | omega)
  refine W_seq (?_)
  refine W_regB 6 (decide (lo ≤ x) && decide (x ≤ hi)) (fun K hK => ?_) ?_
  · simp
    repeat' (first | exact hK _ _ (by clear hK; first | omega | (simp [*]; done) | (simp [*]; omega) | (simp_all; done) | (simp_all; omega)) | (with_reducible refine goL_split (fun _ => ?_) (fun _ => ?_) <;> simp) | with_reducible refine And.intro ?_ ?_ | with_reducible exact okay_rfl rfl | omega)
  refine W_ret ?_
  simp [Fin]
  all_goals omega

theorem isRecord_c1_ok (x : Int) : Valid PP F_I_isRecord_c1 [.d (.int .i64 x)] (.d (.bool (!(decide (-1099511627776 ≤ x) && decide (x ≤ 1099511627776))))) [none] := by
  refine v_I_isRecord_c1 [.d (.bool (!(decide (-1099511627776 ≤ x) && decide (x ≤ 1099511627776))))] rfl rfl ?_
  refine W_seq (?_)
  apply W_regS
  · intro K hK
    simp
    repeat' (first | with_reducible exact hK | (with_reducible refine goL_split (fun _ => ?_) (fun _ => ?_) <;> simp) | with_reducible refine And.intro ?_ ?_ | with_reducible exact okay_rfl rfl | omega)
  refine W_seq (?_)
  apply W_regS
  · intro K hK
    simp
    repeat' (first | with_reducible exact hK | (with_reducible refine callQ (within_ok _ _ _) ?_; simp) | (with_reducible refine goL_split (fun _ => ?_) (fun _ => ?_) <;> simp) | with_reducible refine And.intro ?_ ?_ | with_reducible exact okay_rfl rfl | omega)
  refine W_ret ?_
  simp [Fin]
  all_goals omega

theorem isRecord_c2_ok (s : List UInt8) : Valid PP F_I_isRecord_c2 [.d (.str s)] (.d (.bool (decide (300 < s.length)))) [none] := by
  refine v_I_isRecord_c2 [.d (.bool (decide (300 < s.length)))] rfl rfl ?_
  refine W_seq (?_)
  apply W_regS
  · intro K hK
    simp
    repeat' (first | with_reducible exact hK | (with_reducible refine goL_split (fun _ => ?_) (fun _ => ?_) <;> simp) | with_reducible refine And.intro ?_ ?_ | with_reducible exact okay_rfl rfl | omega)
  refine W_seq (?_)
  apply W_regS
  · intro K hK
    simp
    repeat' (first | with_reducible exact hK | (with_reducible refine goL_split (fun _ => ?_) (fun _ => ?_) <;> simp) | with_reducible refine And.intro ?_ ?_ | with_reducible exact okay_rfl rfl | omega)
  refine W_ret ?_
  simp [Fin]
  all_goals omega

end Go.Proofs.Ytjdepagpjkoglaa.Ab


set_option linter.unusedSimpArgs false
set_option maxRecDepth 100000
namespace Go.Proofs.Ytjdepagpjkoglaa.Ab

def idxFInt (p : Int → Bool) (a : List Int) : Int := match a.findIdx? p with | some i => i | none => -1

theorem IndexFuncInt_ok (a : List Int) (g : FuncId) (p : Int → Bool) (hsz : a.length ≤ 281474976710656) (hp : ∀ x, x ∈ a → Valid PP g [.d (.int .i64 x)] (.d (.bool (p x))) [none]) :
    Valid PP F_slices_IndexFunc___int_int_ [.d (.slc 1 (intsD a)), .d (.fn g [])] (.d (.int .i64 (idxFInt p a))) [none, none] := by
  refine v_slices_IndexFunc___int_int_ [.d (.int .i64 (idxFInt p a))] rfl rfl ?_
  refine W_seq (?_)
  apply W_regS
  · intro K hK
    simp
    repeat' (first | with_reducible exact hK | omega | with_reducible refine And.intro ?_ ?_ | with_reducible exact okay_rfl rfl | (refine goL_split (fun _ => ?_) (fun _ => ?_) <;> simp))
  refine W_seq (W_seq (?_))
  apply W_regS
  · intro K hK
    simp
    repeat' (first | with_reducible exact hK | omega | with_reducible refine And.intro ?_ ?_ | with_reducible exact okay_rfl rfl | (refine goL_split (fun _ => ?_) (fun _ => ?_) <;> simp))
  refine W_block (W_loop (fun n st => ∃ i : Nat, n = a.length - i ∧ i ≤ a.length ∧ (∀ x, x ∈ a.take i → p x = false) ∧
    st = ⟨[], [(0, .d (.slc 1 (intsD a))), (1, .d (.fn g [])), (7, .d (.int .i64 a.length)), (8, .d (.int .i64 i))], [], 0⟩) _ ⟨0, rfl, by omega, fun x hx => by simp at hx, rfl⟩ ?_)
  rintro n st ⟨i, rfl, hi, hn, rfl⟩
  refine W_seq (?_)
  apply W_regS
  · intro K hK
    simp
    repeat' (first | with_reducible exact hK | omega | with_reducible refine And.intro ?_ ?_ | with_reducible exact okay_rfl rfl | (refine goL_split (fun _ => ?_) (fun _ => ?_) <;> simp))
  refine W_seq (?_)
  refine W_cond rfl (fun h => W_skip ?_) (fun h => W_exit ?_)
  · simp at h
    have ha := List.getElem?_eq_getElem h
    have hm := List.getElem_mem h
    generalize a[i] = x at ha hm
    refine W_seq (W_block (W_seq ?_))
    apply W_regS
    · intro K hK
      simp
      repeat' (first | with_reducible exact hK | omega | with_reducible refine And.intro ?_ ?_ | with_reducible exact okay_rfl rfl | (refine goL_split (fun _ => ?_) (fun _ => ?_) <;> simp))
    refine W_seq (?_)
    apply W_regS
    · intro K hK
      simp [ha]
      repeat' (first | with_reducible exact hK | omega | with_reducible refine And.intro ?_ ?_ | with_reducible exact okay_rfl rfl | (refine callQ (hp x hm) ?_; simp [ha]) | (refine goL_split (fun _ => ?_) (fun _ => ?_) <;> simp [ha]))
    refine W_cond rfl (fun h2 => W_seq ?_) (fun h2 => W_skip ?_)
    · apply W_regS
      · intro K hK
        simp
        repeat' (first | with_reducible exact hK | omega | with_reducible refine And.intro ?_ ?_ | with_reducible exact okay_rfl rfl | (refine goL_split (fun _ => ?_) (fun _ => ?_) <;> simp))
      have e : idxFInt p a = i := by
        unfold idxFInt
        have : a.findIdx? p = some i := by
          rw [List.findIdx?_eq_some_iff_getElem]
          refine ⟨h, ?_, fun j hj => ?_⟩
          · have := (List.getElem?_eq_some_iff.1 ha).2; rw [this]; exact h2
          · have := hn a[j] (List.mem_take_iff_getElem.2 ⟨j, by omega, rfl⟩); simp [this]
        rw [this]
      refine W_ret ?_
      simp [Fin, e]
      all_goals omega
    apply W_regS
    · intro K hK
      simp
      repeat' (first | with_reducible exact hK | omega | with_reducible refine And.intro ?_ ?_ | with_reducible exact okay_rfl rfl | (refine goL_split (fun _ => ?_) (fun _ => ?_) <;> simp))
    refine ⟨a.length - (i + 1), by omega, i + 1, rfl, h, fun y hy => ?_, by simp [gc, closeN, liveA, gcV, gcO, renA, namesAs, namesA]; rw [wrap_id (by omega) (by omega)]⟩
    rw [List.take_add_one, ha] at hy
    rcases List.mem_append.1 hy with hy | hy
    · exact hn y hy
    · simp at hy; subst hy; exact h2
  · simp at h
    rw [if_pos rfl]
    refine W_seq (?_)
    apply W_regS
    · intro K hK
      simp
      repeat' (first | with_reducible exact hK | omega | with_reducible refine And.intro ?_ ?_ | with_reducible exact okay_rfl rfl | (refine goL_split (fun _ => ?_) (fun _ => ?_) <;> simp))
    have e : idxFInt p a = -1 := by
      unfold idxFInt
      have : a.findIdx? p = none := by
        rw [List.findIdx?_eq_none_iff]
        intro x hx
        exact hn x (by rwa [List.take_of_length_le h])
      rw [this]
    refine W_ret ?_
    simp [Fin, e]
    all_goals omega

theorem ContainsFuncInt_ok (a : List Int) (g : FuncId) (p : Int → Bool) (hsz : a.length ≤ 281474976710656) (hp : ∀ x, x ∈ a → Valid PP g [.d (.int .i64 x)] (.d (.bool (p x))) [none]) :
    Valid PP F_slices_ContainsFunc___int_int_ [.d (.slc 1 (intsD a)), .d (.fn g [])] (.d (.bool (a.any p))) [none, none] := by
  refine v_slices_ContainsFunc___int_int_ [.d (.bool (a.any p))] rfl rfl ?_
  refine W_seq (?_)
  apply W_regS
  · intro K hK
    simp
    repeat' (first | with_reducible exact hK | omega | with_reducible refine And.intro ?_ ?_ | with_reducible exact okay_rfl rfl | (refine goL_split (fun _ => ?_) (fun _ => ?_) <;> simp))
  refine W_seq (?_)
  apply W_regS
  · intro K hK
    simp
    repeat' (first | with_reducible exact hK | omega | with_reducible refine And.intro ?_ ?_ | with_reducible exact okay_rfl rfl | (refine callQ (IndexFuncInt_ok a g p hsz hp) ?_; simp) | (refine goL_split (fun _ => ?_) (fun _ => ?_) <;> simp))
  have e : decide (0 ≤ idxFInt p a) = a.any p := by
    unfold idxFInt
    cases h : a.findIdx? p with
    | none =>
      rw [List.findIdx?_eq_none_iff] at h
      have : a.any p = false := by rw [List.any_eq_false]; intro x hx; simp [h x hx]
      rw [this]; rfl
    | some i =>
      rw [List.findIdx?_eq_some_iff_getElem] at h
      obtain ⟨h1, h2, _⟩ := h
      have : a.any p = true := by rw [List.any_eq_true]; exact ⟨_, List.getElem_mem h1, h2⟩
      rw [this]; simp
  refine W_ret ?_
  simp [Fin, e]
  all_goals omega


def idxFString (p : (List UInt8) → Bool) (a : List (List UInt8)) : Int := match a.findIdx? p with | some i => i | none => -1

theorem IndexFuncString_ok (a : List (List UInt8)) (g : FuncId) (p : (List UInt8) → Bool) (hsz : a.length ≤ 281474976710656) (hp : ∀ x, x ∈ a → Valid PP g [.d (.str x)] (.d (.bool (p x))) [none]) :
    Valid PP F_slices_IndexFunc___string_string_ [.d (.slc 1 (strsD a)), .d (.fn g [])] (.d (.int .i64 (idxFString p a))) [none, none] := by
  refine v_slices_IndexFunc___string_string_ [.d (.int .i64 (idxFString p a))] rfl rfl ?_
  refine W_seq (?_)
  apply W_regS
  · intro K hK
    simp
    repeat' (first | with_reducible exact hK | omega | with_reducible refine And.intro ?_ ?_ | with_reducible exact okay_rfl rfl | (refine goL_split (fun _ => ?_) (fun _ => ?_) <;> simp))
  refine W_seq (W_seq (?_))
  apply W_regS
  · intro K hK
    simp
    repeat' (first | with_reducible exact hK | omega | with_reducible refine And.intro ?_ ?_ | with_reducible exact okay_rfl rfl | (refine goL_split (fun _ => ?_) (fun _ => ?_) <;> simp))
  refine W_block (W_loop (fun n st => ∃ i : Nat, n = a.length - i ∧ i ≤ a.length ∧ (∀ x, x ∈ a.take i → p x = false) ∧
    st = ⟨[], [(0, .d (.slc 1 (strsD a))), (1, .d (.fn g [])), (7, .d (.int .i64 a.length)), (8, .d (.int .i64 i))], [], 0⟩) _ ⟨0, rfl, by omega, fun x hx => by simp at hx, rfl⟩ ?_)
  rintro n st ⟨i, rfl, hi, hn, rfl⟩
  refine W_seq (?_)
  apply W_regS
  · intro K hK
    simp
    repeat' (first | with_reducible exact hK | omega | with_reducible refine And.intro ?_ ?_ | with_reducible exact okay_rfl rfl | (refine goL_split (fun _ => ?_) (fun _ => ?_) <;> simp))
  refine W_seq (?_)
  refine W_cond rfl (fun h => W_skip ?_) (fun h => W_exit ?_)
  · simp at h
    have ha := List.getElem?_eq_getElem h
    have hm := List.getElem_mem h
    generalize a[i] = x at ha hm
    refine W_seq (W_block (W_seq ?_))
    apply W_regS
    · intro K hK
      simp
      repeat' (first | with_reducible exact hK | omega | with_reducible refine And.intro ?_ ?_ | with_reducible exact okay_rfl rfl | (refine goL_split (fun _ => ?_) (fun _ => ?_) <;> simp))
    refine W_seq (?_)
    apply W_regS
    · intro K hK
      simp [ha]
      repeat' (first | with_reducible exact hK | omega | with_reducible refine And.intro ?_ ?_ | with_reducible exact okay_rfl rfl | (refine callQ (hp x hm) ?_; simp [ha]) | (refine goL_split (fun _ => ?_) (fun _ => ?_) <;> simp [ha]))
    refine W_cond rfl (fun h2 => W_seq ?_) (fun h2 => W_skip ?_)
    · apply W_regS
      · intro K hK
        simp
        repeat' (first | with_reducible exact hK | omega | with_reducible refine And.intro ?_ ?_ | with_reducible exact okay_rfl rfl | (refine goL_split (fun _ => ?_) (fun _ => ?_) <;> simp))
      have e : idxFString p a = i := by
        unfold idxFString
        have : a.findIdx? p = some i := by
          rw [List.findIdx?_eq_some_iff_getElem]
          refine ⟨h, ?_, fun j hj => ?_⟩
          · have := (List.getElem?_eq_some_iff.1 ha).2; rw [this]; exact h2
          · have := hn a[j] (List.mem_take_iff_getElem.2 ⟨j, by omega, rfl⟩); simp [this]
        rw [this]
      refine W_ret ?_
      simp [Fin, e]
      all_goals omega
    apply W_regS
    · intro K hK
      simp
      repeat' (first | with_reducible exact hK | omega | with_reducible refine And.intro ?_ ?_ | with_reducible exact okay_rfl rfl | (refine goL_split (fun _ => ?_) (fun _ => ?_) <;> simp))
    refine ⟨a.length - (i + 1), by omega, i + 1, rfl, h, fun y hy => ?_, by simp [gc, closeN, liveA, gcV, gcO, renA, namesAs, namesA]; rw [wrap_id (by omega) (by omega)]⟩
    rw [List.take_add_one, ha] at hy
    rcases List.mem_append.1 hy with hy | hy
    · exact hn y hy
    · simp at hy; subst hy; exact h2
  · simp at h
    rw [if_pos rfl]
    refine W_seq (?_)
    apply W_regS
    · intro K hK
      simp
      repeat' (first | with_reducible exact hK | omega | with_reducible refine And.intro ?_ ?_ | with_reducible exact okay_rfl rfl | (refine goL_split (fun _ => ?_) (fun _ => ?_) <;> simp))
    have e : idxFString p a = -1 := by
      unfold idxFString
      have : a.findIdx? p = none := by
        rw [List.findIdx?_eq_none_iff]
        intro x hx
        exact hn x (by rwa [List.take_of_length_le h])
      rw [this]
    refine W_ret ?_
    simp [Fin, e]
    all_goals omega

theorem ContainsFuncString_ok (a : List (List UInt8)) (g : FuncId) (p : (List UInt8) → Bool) (hsz : a.length ≤ 281474976710656) (hp : ∀ x, x ∈ a → Valid PP g [.d (.str x)] (.d (.bool (p x))) [none]) :
    Valid PP F_slices_ContainsFunc___string_string_ [.d (.slc 1 (strsD a)), .d (.fn g [])] (.d (.bool (a.any p))) [none, none] := by
  refine v_slices_ContainsFunc___string_string_ [.d (.bool (a.any p))] rfl rfl ?_
  refine W_seq (?_)
  apply W_regS
  · intro K hK
    simp
    repeat' (first | with_reducible exact hK | omega | with_reducible refine And.intro ?_ ?_ | with_reducible exact okay_rfl rfl | (refine goL_split (fun _ => ?_) (fun _ => ?_) <;> simp))
  refine W_seq (?_)
  apply W_regS
  · intro K hK
    simp
    repeat' (first | with_reducible exact hK | omega | with_reducible refine And.intro ?_ ?_ | with_reducible exact okay_rfl rfl | (refine callQ (IndexFuncString_ok a g p hsz hp) ?_; simp) | (refine goL_split (fun _ => ?_) (fun _ => ?_) <;> simp))
  have e : decide (0 ≤ idxFString p a) = a.any p := by
    unfold idxFString
    cases h : a.findIdx? p with
    | none =>
      rw [List.findIdx?_eq_none_iff] at h
      have : a.any p = false := by rw [List.any_eq_false]; intro x hx; simp [h x hx]
      rw [this]; rfl
    | some i =>
      rw [List.findIdx?_eq_some_iff_getElem] at h
      obtain ⟨h1, h2, _⟩ := h
      have : a.any p = true := by rw [List.any_eq_true]; exact ⟨_, List.getElem_mem h1, h2⟩
      rw [this]; simp
  refine W_ret ?_
  simp [Fin, e]
  all_goals omega


end Go.Proofs.Ytjdepagpjkoglaa.Ab


set_option linter.unusedSimpArgs false
set_option maxRecDepth 100000
namespace Go.Proofs.Ytjdepagpjkoglaa.Ab

def numOk (x : Int) : Bool := decide (-1099511627776 ≤ x) && decide (x ≤ 1099511627776)
def textOk (s : List UInt8) : Bool := decide ((s.length : Int) ≤ 300)
def recOk (k : Int) (ns : List Int) (ts : List (List UInt8)) : Bool :=
  (decide (0 ≤ k) && decide (k ≤ 99)) && (decide ((ns.length : Int) ≤ 40) && (decide ((ts.length : Int) ≤ 40) && (ns.all numOk && ts.all textOk)))

theorem any_not {α : Type} (l : List α) (p : α → Bool) : (!(l.any fun x => !p x)) = l.all p := by
  induction l with
  | nil => rfl
  | cons x l ih => simp only [List.any_cons, List.all_cons, Bool.not_or, Bool.not_not, ih]

theorem any_not' {α : Type} (l : List α) (p : α → Bool) : (l.any fun x => !p x) = !(l.all p) := by
  rw [← any_not, Bool.not_not]

theorem isRecord_ok (k : Int) (ns : List Int) (ts : List (List UInt8)) (h1 : ns.length ≤ 281474976710656) (h2 : ts.length ≤ 281474976710656) :
    Valid PP F_I_isRecord [.agg [.d (.int .i64 k), .d (.slc 1 (intsD ns)), .d (.slc 1 (strsD ts))]] (.d (.bool (recOk k ns ts))) [none] := by
  refine v_I_isRecord [.d (.bool (recOk k ns ts))] rfl rfl ?_
  have c1 := ContainsFuncInt_ok ns F_I_isRecord_c1 (fun x => !numOk x) h1 (fun x _ => isRecord_c1_ok x)
  have c2 := ContainsFuncString_ok ts F_I_isRecord_c2 (fun s => !textOk s) h2 (fun x _ => by
    have := isRecord_c2_ok x
    have e : decide (300 < x.length) = !textOk x := by simp only [textOk]; by_cases h : 300 < x.length <;> simp [h] <;> omega
    rwa [e] at this)
  rw [any_not'] at c1 c2
  have hr := recOk.eq_1 k ns ts
  generalize ns.all numOk = b1 at c1 hr
  generalize ts.all textOk = b2 at c2 hr
  refine W_seq (?_)
  apply W_regS
  · intro K hK
    simp
    repeat' (first | with_reducible exact hK | (with_reducible refine goL_split (fun _ => ?_) (fun _ => ?_) <;> simp) | with_reducible refine And.intro ?_ ?_ | with_reducible exact okay_rfl rfl | omega)
  refine W_seq (?_)
  refine W_regB 2 (recOk k ns ts) (fun K hK => ?_) ?_
  · simp
    repeat' (first | exact hK _ _ (by clear hK; first | omega | (simp [*]; done) | (simp [*]; omega) | (simp_all; done) | (simp_all; omega)) | (with_reducible refine callQ (within_ok _ _ _) ?_; simp) | (with_reducible refine callQ (c1) ?_; simp) | (with_reducible refine callQ (c2) ?_; simp) | (with_reducible refine goL_split (fun _ => ?_) (fun _ => ?_) <;> simp) | with_reducible refine And.intro ?_ ?_ | with_reducible exact okay_rfl rfl | omega)
  refine W_ret ?_
  simp [Fin]
  all_goals omega

end Go.Proofs.Ytjdepagpjkoglaa.Ab

