/-
  A part of a proof about the given program; what is proved is said where each theorem stands.
-/
import Derived.Test.YtjdepagpjkoglaaFrameA
import Derived.Test.YtjdepagpjkoglaaFrameB
import Derived.Test.YtjdepagpjkoglaaFrameC
import Derived.Test.YtjdepagpjkoglaaFrameD
import Derived.Test.YtjdepagpjkoglaaFrameE
import Derived.Test.YtjdepagpjkoglaaCodesHex
namespace Go.Proofs.Ytjdepagpjkoglaa.Ab

theorem wrap_id {n : Int} (h1 : -9223372036854775808 ≤ n) (h2 : n ≤ 9223372036854775807) : IntKind.i64.wrap n = n := by
  rw [IntKind.wrap_i64]; omega

theorem take_succ_eq {α : Type} {a b : List α} {i : Nat} {x : α} (h : a.take i = b.take i) (ha : a[i]? = some x) (hb : b[i]? = some x) : a.take (i + 1) = b.take (i + 1) := by
  rw [List.take_add_one, List.take_add_one, h, ha, hb]

theorem eqByteS_ok (a b : List UInt8) (hsz : a.length ≤ 281474976710656) : Valid PP F_L_eqByteS [.d (.slc 1 (bytesD a)), .d (.slc 1 (bytesD b))] (.d (.bool (a == b))) [none, none] := by
  refine v_L_eqByteS [.d (.bool (a == b))] rfl rfl ?_
  refine W_seq (?_)
  apply W_regS
  · intro K hK
    simp
    repeat' (first | with_reducible exact hK | omega | with_reducible refine And.intro ?_ ?_ | with_reducible exact okay_rfl rfl)
  refine W_seq (W_seq (?_))
  apply W_regS
  · intro K hK
    simp
    repeat' (first | with_reducible exact hK | omega | with_reducible refine And.intro ?_ ?_ | with_reducible exact okay_rfl rfl)
  refine W_cond rfl (fun h => W_seq ?_) (fun hlen => W_skip ?_)
  · apply W_regS
    · intro K hK
      simp
      repeat' (first | with_reducible exact hK | omega | with_reducible refine And.intro ?_ ?_ | with_reducible exact okay_rfl rfl)
    have : (a == b) = false := by simp at h ⊢; intro e; subst e; exact h rfl
    refine W_ret ?_
    simp [Fin, this]
  refine W_seq (W_seq (?_))
  simp at hlen
  apply W_regS
  · intro K hK
    simp
    repeat' (first | with_reducible exact hK | omega | with_reducible refine And.intro ?_ ?_ | with_reducible exact okay_rfl rfl)
  refine W_block (W_loop (fun n st => ∃ i : Nat, n = a.length - i ∧ i ≤ a.length ∧ a.take i = b.take i ∧ st = ⟨[], [(0, .d (.slc 1 (bytesD a))), (1, .d (.slc 1 (bytesD b))), (5, .d (.int .i64 i))], [], 0⟩) _ ⟨0, rfl, by omega, rfl, rfl⟩ ?_)
  rintro n st ⟨i, rfl, hi, he, rfl⟩
  refine W_seq (W_seq (?_))
  apply W_regS
  · intro K hK
    simp
    repeat' (first | with_reducible exact hK | omega | with_reducible refine And.intro ?_ ?_ | with_reducible exact okay_rfl rfl)
  refine W_cond rfl (fun h => W_skip ?_) (fun h => W_exit ?_)
  · simp at h
    have ha := List.getElem?_eq_getElem h
    have hb := List.getElem?_eq_getElem (show i < b.length by omega)
    generalize a[i] = x at ha
    generalize b[i]'_ = y at hb
    refine W_seq (W_block (W_seq ?_))
    apply W_regD
    · intro K hK
      simp [ha, hb]
      repeat' (first | with_reducible exact hK | omega | with_reducible refine And.intro ?_ ?_ | with_reducible exact okay_rfl rfl)
    refine W_cond rfl (fun h2 => W_seq ?_) (fun h2 => W_skip ?_)
    · apply W_regS
      · intro K hK
        simp
        repeat' (first | with_reducible exact hK | omega | with_reducible refine And.intro ?_ ?_ | with_reducible exact okay_rfl rfl)
      have : (a == b) = false := by simp; intro e; subst e; simp [ha] at hb; subst hb; simp at h2
      refine W_ret ?_
      simp [Fin, this]
    apply W_regS
    · intro K hK
      simp
      repeat' (first | with_reducible exact hK | omega | with_reducible refine And.intro ?_ ?_ | with_reducible exact okay_rfl rfl)
    have hxy : x = y := by simp at h2; exact UInt8.toNat_inj.1 (by omega)
    subst hxy
    exact ⟨a.length - (i + 1), by omega, i + 1, rfl, h, take_succ_eq he ha hb, by simp [gc, closeN, liveA, gcV, gcO, renA, namesAs, namesA]; rw [wrap_id (by omega) (by omega)]⟩
  · simp at h
    rw [if_pos rfl]
    refine W_seq (?_)
    apply W_regS
    · intro K hK
      simp
      repeat' (first | with_reducible exact hK | omega | with_reducible refine And.intro ?_ ?_ | with_reducible exact okay_rfl rfl)
    have : (a == b) = true := by
      simp
      rwa [List.take_of_length_le h, List.take_of_length_le (by omega)] at he
    refine W_ret ?_
    simp [Fin, this]

theorem row_one {R : List (List D)} {i : Nat} (h : ∀ r, r ∈ R → r.length = 1) (hi : i < R.length) : ∃ d, R[i]? = some [d] := by
  have := h _ (List.getElem_mem hi)
  rw [List.length_eq_one_iff] at this
  obtain ⟨d, hd⟩ := this
  exact ⟨d, by rw [List.getElem?_eq_getElem hi, hd]⟩

theorem set_one {R : List (List D)} {i : Nat} {d : D} (h : ∀ r, r ∈ R → r.length = 1) : ∀ r, r ∈ R.set i [d] → r.length = 1 := by
  intro r hr
  rcases List.mem_or_eq_of_mem_set hr with h1 | h1
  · exact h r h1
  · subst h1; rfl

theorem take_set_succ {R : List (List D)} {i : Nat} {r : List D} (hi : i < R.length) : (R.set i r).take (i + 1) = R.take i ++ [r] := by
  rw [List.take_add_one, List.take_set_of_le (Nat.le_refl _)]
  simp [hi]

theorem bytesD_succ {a : List UInt8} {i : Nat} {x : UInt8} (ha : a[i]? = some x) : bytesD (a.take (i + 1)) = bytesD (a.take i) ++ [[.int .u8 x.toNat]] := by
  rw [List.take_add_one, ha]; simp [bytesD]

theorem toByteS_ok (a : List UInt8) (hsz : a.length ≤ 140737488355328) : Valid PP F_L_toByteS [.d (.slc 1 (bytesD a))] (.own 0 1 (bytesD a)) [none] := by
  refine v_L_toByteS [.own 0 1 (bytesD a)] rfl rfl ?_
  refine W_seq (?_)
  apply W_regS
  · intro K hK
    simp
    repeat' (first | with_reducible exact hK | omega | with_reducible refine And.intro ?_ ?_ | with_reducible exact okay_rfl rfl)
  refine W_seq (?_)
  apply W_regS
  · intro K hK
    simp [mkA, limit]
    repeat' (first | with_reducible exact hK | omega | with_reducible refine And.intro ?_ ?_ | with_reducible exact okay_rfl rfl)
  refine W_seq (W_seq (?_))
  apply W_regS
  · intro K hK
    simp
    repeat' (first | with_reducible exact hK | omega | with_reducible refine And.intro ?_ ?_ | with_reducible exact okay_rfl rfl)
  refine W_block (W_loop (fun n st => ∃ (i : Nat) (R : List (List D)), n = a.length - i ∧ i ≤ a.length ∧ R.length = a.length ∧ (∀ r, r ∈ R → r.length = 1) ∧ R.take i = bytesD (a.take i) ∧
    st = ⟨[], [(0, .d (.slc 1 (bytesD a))), (3, .sl 0), (4, .d (.int .i64 i))], [(0, .arr 0 0 1 R)], 1⟩) _ ⟨0, List.replicate a.length [.int .u8 0], rfl, by omega, by simp, by simp, rfl, rfl⟩ ?_)
  rintro n st ⟨i, R, rfl, hi, hl, h1, hR, rfl⟩
  refine W_seq (W_seq (?_))
  apply W_regS
  · intro K hK
    simp
    repeat' (first | with_reducible exact hK | omega | with_reducible refine And.intro ?_ ?_ | with_reducible exact okay_rfl rfl)
  refine W_cond rfl (fun h => W_skip ?_) (fun h => W_exit ?_)
  · simp at h
    have ha := List.getElem?_eq_getElem h
    generalize a[i] = x at ha
    obtain ⟨d, hd⟩ := row_one h1 (show i < R.length by omega)
    refine W_seq (W_block ?_)
    apply W_regS
    · intro K hK
      simp [ha, hd, hl]
      repeat' (first | with_reducible exact hK | omega | with_reducible refine And.intro ?_ ?_ | with_reducible exact okay_rfl rfl)
    apply W_regS
    · intro K hK
      simp
      repeat' (first | with_reducible exact hK | omega | with_reducible refine And.intro ?_ ?_ | with_reducible exact okay_rfl rfl)
    exact ⟨a.length - (i + 1), by omega, i + 1, R.set i [.int .u8 x.toNat], rfl, h, by simpa using hl, set_one h1, by rw [take_set_succ (by omega), hR, bytesD_succ ha],
      by simp [gc, closeN, liveA, gcV, gcO, renA, renO, namesAs, namesA, namesO, posn]; rw [wrap_id (by omega) (by omega)]⟩
  · simp at h
    have e : R = bytesD a := by rwa [List.take_of_length_le (by omega), List.take_of_length_le (by omega)] at hR
    subst e
    rw [if_pos rfl]
    refine W_seq (?_)
    apply W_regS
    · intro K hK
      simp
      repeat' (first | with_reducible exact hK | omega | with_reducible refine And.intro ?_ ?_ | with_reducible exact okay_rfl rfl)
    refine W_ret ?_
    simp [Fin]

/-- The hexadecimal digits. -/
def hexDigit (n : Nat) : UInt8 := ([48, 49, 50, 51, 52, 53, 54, 55, 56, 57, 97, 98, 99, 100, 101, 102] : List UInt8).getD n 0
def hexOf (a : List UInt8) : List UInt8 := a.flatMap fun x => [hexDigit (x.toNat / 16), hexDigit (x.toNat % 16)]

theorem hex_succ {a : List UInt8} {i : Nat} {x : UInt8} (ha : a[i]? = some x) : hexOf (a.take (i + 1)) = hexOf (a.take i) ++ [hexDigit (x.toNat / 16), hexDigit (x.toNat % 16)] := by
  rw [List.take_add_one, ha]; simp [hexOf]

theorem hex_len (a : List UInt8) : (hexOf a).length = 2 * a.length := by
  induction a with
  | nil => rfl
  | cons x a ih => simp [hexOf] at ih ⊢; omega

theorem ofBytes_bytesD (s : List UInt8) : ofBytes (bytesD s) = some s := by
  induction s with
  | nil => rfl
  | cons x s ih => simp [bytesD, ofBytes] at ih ⊢; exact ih

theorem strOf_bytesD (s : List UInt8) : strOf (.slc 1 (bytesD s)) = out (.d (.str s)) := by
  cases s with
  | nil => rfl
  | cons x s => simp only [strOf, ofBytes_bytesD]; simp [bytesD]

theorem u8_hi (x : UInt8) : (x.toNat : Int).fdiv 16 = ((x.toNat / 16 : Nat) : Int) := by
  rw [Int.fdiv_eq_ediv_of_nonneg _ (by omega)]; rfl
theorem u8_quo (x : UInt8) : IntKind.u8.wrap ((x.toNat : Int).tdiv 16) = ((x.toNat / 16 : Nat) : Int) := by
  have h : (x.toNat : Int).tdiv 16 = ((x.toNat / 16 : Nat) : Int) := rfl
  have := x.toNat_lt
  rw [h, IntKind.wrap_u8]; omega
theorem u8_rem (x : UInt8) : (x.toNat : Int).tmod 16 = ((x.toNat % 16 : Nat) : Int) := rfl
theorem u8_lo (x : UInt8) : IntKind.u8.wrap ((x.toBitVec &&& 15#8).toNat : Int) = ((x.toNat % 16 : Nat) : Int) := by
  have h : (x.toBitVec &&& 15#8).toNat = x.toNat % 16 := by
    rw [BitVec.toNat_and]
    exact Nat.and_two_pow_sub_one_eq_mod x.toNat 4
  have := x.toNat_lt
  rw [h, IntKind.wrap_u8]; omega

theorem bytes_app2 (s : List UInt8) (u v : UInt8) : bytesD (s ++ [u, v]) = bytesD s ++ [[D.int .u8 u.toNat], [D.int .u8 v.toNat]] := by simp [bytesD]

end Go.Proofs.Ytjdepagpjkoglaa.Ab


namespace Go.Proofs.Ytjdepagpjkoglaa.Ab
theorem hexText_ok (a : List UInt8) (hsz : a.length ≤ 1000000) : Valid PP F_I_hexText [.d (.slc 1 (bytesD a))] (.d (.str (hexOf a))) [none] := by
  refine v_I_hexText [.d (.str (hexOf a))] rfl rfl ?_
  refine W_seq (?_)
  apply W_regS
  · intro K hK
    simp
    repeat' (first | with_reducible exact hK | omega | with_reducible refine And.intro ?_ ?_ | with_reducible exact okay_rfl rfl)
  refine W_seq (?_)
  have hw : IntKind.i64.wrap (2 * (a.length : Int)) = 2 * a.length := wrap_id (by omega) (by omega)
  apply W_regS
  · intro K hK
    simp [mkA, limit, hw]
    repeat' (first | with_reducible exact hK | omega | with_reducible refine And.intro ?_ ?_ | with_reducible exact okay_rfl rfl)
  refine W_seq (W_seq (?_))
  apply W_regS
  · intro K hK
    simp
    repeat' (first | with_reducible exact hK | omega | with_reducible refine And.intro ?_ ?_ | with_reducible exact okay_rfl rfl)
  refine W_block (W_loop (fun n st => ∃ (i : Nat), n = a.length - i ∧ i ≤ a.length ∧
    st = ⟨[], [(3, .sl 0), (10, .d (.slc 1 (bytesD a))), (11, .d (.int .i64 a.length)), (12, .d (.int .i64 i))], [(0, .arr 0 0 1 (bytesD (hexOf (a.take i))))], 1⟩) _ ⟨0, rfl, by omega, rfl⟩ ?_)
  rintro n st ⟨i, rfl, hi, rfl⟩
  refine W_seq (?_)
  apply W_regS
  · intro K hK
    simp
    repeat' (first | with_reducible exact hK | omega | with_reducible refine And.intro ?_ ?_ | with_reducible exact okay_rfl rfl)
  refine W_seq (?_)
  refine W_cond rfl (fun h => W_skip ?_) (fun h => W_exit ?_)
  · simp at h
    have ha := List.getElem?_eq_getElem h
    generalize a[i] = x at ha
    refine W_seq (W_block (W_seq ?_))
    apply W_regS
    · intro K hK
      simp [ha]
      repeat' (first | with_reducible exact hK | omega | with_reducible refine And.intro ?_ ?_ | with_reducible exact okay_rfl rfl)
    have hl := hex_len (a.take i)
    have hl2 : (a.take i).length ≤ a.length := by simp; omega
    have hx := x.toNat_lt
    obtain ⟨q, hq⟩ : ∃ q : Nat, q = x.toNat / 16 := ⟨_, rfl⟩
    obtain ⟨r, hr⟩ : ∃ r : Nat, r = x.toNat % 16 := ⟨_, rfl⟩
    have h1 := u8_hi x
    have h2 := u8_lo x
    rw [← hq] at h1
    rw [← hr] at h2
    simp at h2
    apply W_regD
    · intro K hK
      simp [h1, h2, limit]
      repeat' (first | with_reducible exact hK | omega | with_reducible refine And.intro ?_ ?_ | with_reducible exact okay_rfl rfl)
    apply W_regS
    · intro K hK
      simp
      repeat' (first | with_reducible exact hK | omega | with_reducible refine And.intro ?_ ?_ | with_reducible exact okay_rfl rfl)
    exact ⟨a.length - (i + 1), by omega, i + 1, rfl, h, by
      simp [gc, closeN, liveA, gcV, gcO, renA, renO, namesAs, namesA, namesO, posn, hex_succ ha, bytes_app2, hexDigit, ← hq, ← hr]
      rw [wrap_id (by omega) (by omega)]⟩
  · simp at h
    rw [if_pos rfl]
    refine W_seq (?_)
    apply W_regS
    · intro K hK
      simp [strOf_bytesD, List.take_of_length_le h]
      repeat' (first | with_reducible exact hK | omega | with_reducible refine And.intro ?_ ?_ | with_reducible exact okay_rfl rfl)
    refine W_ret ?_
    simp [Fin]

end Go.Proofs.Ytjdepagpjkoglaa.Ab


namespace Go.Proofs.Ytjdepagpjkoglaa.Ab
theorem s_HexText_ok (a : List UInt8) : Valid PP F_S_HexText [.d (.slc 1 (bytesD a))] (.d (.str (if 2000 < a.length then [] else hexOf a))) [none] := by
  refine v_S_HexText [.d (.str (if 2000 < a.length then [] else hexOf a))] rfl rfl ?_
  refine W_seq (?_)
  apply W_regS
  · intro K hK
    simp
    repeat' (first | with_reducible exact hK | omega | with_reducible refine And.intro ?_ ?_ | with_reducible exact okay_rfl rfl)
  refine W_seq (W_seq (?_))
  apply W_regS
  · intro K hK
    simp
    repeat' (first | with_reducible exact hK | omega | with_reducible refine And.intro ?_ ?_ | with_reducible exact okay_rfl rfl)
  refine W_cond rfl (fun h => W_seq ?_) (fun hlen => W_skip ?_)
  · simp at h
    have h' : 2000 < a.length := by omega
    apply W_regS
    · intro K hK
      simp
      repeat' (first | with_reducible exact hK | omega | with_reducible refine And.intro ?_ ?_ | with_reducible exact okay_rfl rfl)
    refine W_ret ?_
    simp [Fin, h']
  simp at hlen
  refine W_seq (?_)
  apply W_regS
  · intro K hK
    simp
    repeat' (first | with_reducible exact hK | omega | with_reducible refine And.intro ?_ ?_ | with_reducible exact okay_rfl rfl)
  refine W_seq (?_)
  apply W_regS
  · intro K hK
    simp [litA]
    repeat' (first | with_reducible exact hK | omega | with_reducible refine And.intro ?_ ?_ | with_reducible exact okay_rfl rfl)
  refine W_seq (W_seq (?_))
  apply W_regS
  · intro K hK
    simp
    repeat' (first | with_reducible exact hK | omega | with_reducible refine And.intro ?_ ?_ | with_reducible exact okay_rfl rfl)
  refine W_block (W_loop (fun n st => ∃ (i : Nat), n = a.length - i ∧ i ≤ a.length ∧
    st = ⟨[], [(0, .d (.slc 1 (bytesD a))), (3, .d (.str [48, 49, 50, 51, 52, 53, 54, 55, 56, 57, 97, 98, 99, 100, 101, 102])), (4, .sl 0), (5, .d (.int .i64 i))], [(0, .arr 0 0 1 (bytesD (hexOf (a.take i))))], 1⟩) _ ⟨0, rfl, by omega, rfl⟩ ?_)
  rintro n st ⟨i, rfl, hi, rfl⟩
  refine W_seq (W_seq (?_))
  apply W_regS
  · intro K hK
    simp
    repeat' (first | with_reducible exact hK | omega | with_reducible refine And.intro ?_ ?_ | with_reducible exact okay_rfl rfl)
  refine W_cond rfl (fun h => W_skip ?_) (fun h => W_exit ?_)
  · simp at h
    have ha := List.getElem?_eq_getElem h
    generalize a[i] = x at ha
    refine W_seq (W_block ?_)
    have hl := hex_len (a.take i)
    have hl2 : (a.take i).length ≤ a.length := by simp; omega
    have hx := x.toNat_lt
    obtain ⟨q, hq⟩ : ∃ q : Nat, q = x.toNat / 16 := ⟨_, rfl⟩
    obtain ⟨r, hr⟩ : ∃ r : Nat, r = x.toNat % 16 := ⟨_, rfl⟩
    have h1 := u8_quo x
    have h2 := u8_rem x
    rw [← hq] at h1
    rw [← hr] at h2
    simp at h1
    apply W_regD
    · intro K hK
      simp [ha, h1, h2, limit]
      repeat' (first | with_reducible exact hK | omega | with_reducible refine And.intro ?_ ?_ | with_reducible exact okay_rfl rfl)
    apply W_regS
    · intro K hK
      simp
      repeat' (first | with_reducible exact hK | omega | with_reducible refine And.intro ?_ ?_ | with_reducible exact okay_rfl rfl)
    exact ⟨a.length - (i + 1), by omega, i + 1, rfl, h, by
      simp [gc, closeN, liveA, gcV, gcO, renA, renO, namesAs, namesA, namesO, posn, hex_succ ha, bytes_app2, hexDigit, ← hq, ← hr]
      rw [wrap_id (by omega) (by omega)]⟩
  · simp at h
    rw [if_pos rfl]
    refine W_seq (?_)
    apply W_regS
    · intro K hK
      simp [strOf_bytesD, List.take_of_length_le h]
      repeat' (first | with_reducible exact hK | omega | with_reducible refine And.intro ?_ ?_ | with_reducible exact okay_rfl rfl)
    have : ¬ 2000 < a.length := by omega
    refine W_ret ?_
    simp [Fin, this]

end Go.Proofs.Ytjdepagpjkoglaa.Ab


namespace Go.Proofs.Ytjdepagpjkoglaa.Ab
theorem i_HexText_ok (a : List UInt8) : Valid PP F_I_HexText [.d (.slc 1 (bytesD a))] (.d (.str (if 2000 < a.length then [] else hexOf a))) [none] := by
  refine v_I_HexText [.d (.str (if 2000 < a.length then [] else hexOf a))] rfl rfl ?_
  refine W_seq (?_)
  apply W_regS
  · intro K hK
    simp
    repeat' (first | with_reducible exact hK | omega | with_reducible refine And.intro ?_ ?_ | with_reducible exact okay_rfl rfl)
  refine W_seq (W_seq (?_))
  apply W_regS
  · intro K hK
    simp
    repeat' (first | with_reducible exact hK | omega | with_reducible refine And.intro ?_ ?_ | with_reducible exact okay_rfl rfl)
  refine W_cond rfl (fun h => W_seq ?_) (fun hlen => W_skip ?_)
  · simp at h
    have h' : 2000 < a.length := by omega
    apply W_regS
    · intro K hK
      simp
      repeat' (first | with_reducible exact hK | omega | with_reducible refine And.intro ?_ ?_ | with_reducible exact okay_rfl rfl)
    refine W_ret ?_
    simp [Fin, h']
  simp at hlen
  have hn : ¬ 2000 < a.length := by omega
  refine W_seq (?_)
  apply W_regS
  · intro K hK
    simp
    exact ⟨_, _, hexText_ok a (by omega), by simp; exact hK⟩
  refine W_ret ?_
  simp [Fin, hn]

end Go.Proofs.Ytjdepagpjkoglaa.Ab


namespace Go.Proofs.Ytjdepagpjkoglaa.Ab

theorem law_HexText (a : List UInt8) : Valid PP F_L_FnExactHexText [.d (.slc 1 (bytesD a))] (.d (.bool true)) [none] := by
  refine v_L_FnExactHexText [.d (.bool true)] rfl rfl ?_
  refine W_seq (?_)
  apply W_regS
  · intro K hK
    simp
    repeat' (first | with_reducible exact hK | omega | with_reducible refine And.intro ?_ ?_ | with_reducible exact okay_rfl rfl)
  refine W_seq (W_seq (?_))
  apply W_regS
  · intro K hK
    simp
    repeat' (first | with_reducible exact hK | omega | with_reducible refine And.intro ?_ ?_ | with_reducible exact okay_rfl rfl)
  refine W_cond rfl (fun h => W_seq ?_) (fun hlen => W_skip ?_)
  · apply W_regS
    · intro K hK
      simp
      repeat' (first | with_reducible exact hK | omega | with_reducible refine And.intro ?_ ?_ | with_reducible exact okay_rfl rfl)
    refine W_ret ?_
    simp [Fin]
  simp at hlen
  refine W_seq (?_)
  apply W_regS
  · intro K hK
    simp
    exact ⟨_, _, toByteS_ok a (by omega), by simp; exact ⟨_, _, s_HexText_ok a, by simp; exact hK⟩⟩
  refine W_seq (?_)
  apply W_regS
  · intro K hK
    simp
    exact ⟨_, _, toByteS_ok a (by omega), by simp; exact hK⟩
  refine W_seq (?_)
  apply W_regS
  · intro K hK
    simp
    exact ⟨_, _, i_HexText_ok a, by simp; exact hK⟩
  refine W_seq (W_seq (?_))
  apply W_regS
  · intro K hK
    simp
    repeat' (first | with_reducible exact hK | omega | with_reducible refine And.intro ?_ ?_ | with_reducible exact okay_rfl rfl)
  refine W_cond rfl (fun h => W_seq ?_) (fun h => W_skip ?_)
  · simp at h
  refine W_seq (W_seq (?_))
  apply W_regS
  · intro K hK
    simp
    exact ⟨_, _, toByteS_ok a (by omega), by simp; exact ⟨_, _, eqByteS_ok a a (by omega), by simp; exact hK⟩⟩
  refine W_cond rfl (fun h => W_seq ?_) (fun h => W_skip ?_)
  · simp at h
  refine W_seq (?_)
  apply W_regS
  · intro K hK
    simp
    repeat' (first | with_reducible exact hK | omega | with_reducible refine And.intro ?_ ?_ | with_reducible exact okay_rfl rfl)
  refine W_ret ?_
  simp [Fin]

end Go.Proofs.Ytjdepagpjkoglaa.Ab

