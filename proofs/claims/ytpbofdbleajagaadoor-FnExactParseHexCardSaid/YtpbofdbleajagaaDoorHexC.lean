/-
  A part of a proof about the given program; what is proved is said where each theorem stands.
-/
import Derived.Test.YtpbofdbleajagaaDoorFrameA
import Derived.Test.YtpbofdbleajagaaDoorFrameB
import Derived.Test.YtpbofdbleajagaaDoorFrameC
import Derived.Test.YtpbofdbleajagaaDoorFrameD
import Derived.Test.YtpbofdbleajagaaDoorFrameE
import Derived.Test.YtpbofdbleajagaaDoorShelf
import Derived.Test.YtpbofdbleajagaaDoorCodesHex
import Derived.Test.YtpbofdbleajagaaDoorHexA
import Derived.Test.YtpbofdbleajagaaDoorHexB
namespace Go.Proofs
end Go.Proofs
set_option linter.unusedSimpArgs false
set_option linter.unusedVariables false
set_option maxRecDepth 100000
namespace Go.Proofs.YtpbofdbleajagaaDoor.Ab
open Go.Proofs
variable {GG : GV}

theorem take_succ_eq {α : Type} {a b : List α} {i : Nat} {x : α} (h : a.take i = b.take i) (ha : a[i]? = some x) (hb : b[i]? = some x) : a.take (i + 1) = b.take (i + 1) := by
  rw [List.take_add_one, List.take_add_one, h, ha, hb]

theorem eqByteS_ok (a b : List UInt8) (hsz : a.length ≤ 281474976710656) : Valid PP GG F_L_eqByteS [.d (.slc 1 (bytesD a)), .d (.slc 1 (bytesD b))] (.d (.bool (a == b))) [none, none] := by
  refine v_L_eqByteS [.d (.bool (a == b))] rfl rfl ?_
  refine W_seq (?_)
  apply W_regS
  · intro K hK
    simp
    repeat' (first | with_reducible exact hK | (with_reducible refine goL_split (fun _ => ?_) (fun _ => ?_) <;> simp) | with_reducible refine And.intro ?_ ?_ | with_reducible exact okay_rfl rfl | omega)
  refine W_seq (W_seq (?_))
  apply W_regS
  · intro K hK
    simp
    repeat' (first | with_reducible exact hK | (with_reducible refine goL_split (fun _ => ?_) (fun _ => ?_) <;> simp) | with_reducible refine And.intro ?_ ?_ | with_reducible exact okay_rfl rfl | omega)
  refine W_cond rfl (fun h => W_seq ?_) (fun hlen => W_skip ?_)
  · apply W_regS
    · intro K hK
      simp
      repeat' (first | with_reducible exact hK | (with_reducible refine goL_split (fun _ => ?_) (fun _ => ?_) <;> simp) | with_reducible refine And.intro ?_ ?_ | with_reducible exact okay_rfl rfl | omega)
    have : (a == b) = false := by simp at h ⊢; intro e; subst e; exact h rfl
    refine W_ret ?_
    simp [Fin, this]
    all_goals omega
  refine W_seq (W_seq (?_))
  simp at hlen
  apply W_regS
  · intro K hK
    simp
    repeat' (first | with_reducible exact hK | (with_reducible refine goL_split (fun _ => ?_) (fun _ => ?_) <;> simp) | with_reducible refine And.intro ?_ ?_ | with_reducible exact okay_rfl rfl | omega)
  refine W_block (W_loop (fun n st => ∃ i : Nat, n = a.length - i ∧ i ≤ a.length ∧ a.take i = b.take i ∧ st = ⟨[], [(0, .d (.slc 1 (bytesD a))), (1, .d (.slc 1 (bytesD b))), (5, .d (.int .i64 i))], [], 0⟩) _ ⟨0, rfl, by omega, rfl, rfl⟩ ?_)
  rintro n st ⟨i, rfl, hi, he, rfl⟩
  refine W_seq (W_seq (?_))
  apply W_regS
  · intro K hK
    simp
    repeat' (first | with_reducible exact hK | (with_reducible refine goL_split (fun _ => ?_) (fun _ => ?_) <;> simp) | with_reducible refine And.intro ?_ ?_ | with_reducible exact okay_rfl rfl | omega)
  refine W_cond rfl (fun h => W_skip ?_) (fun h => W_exit ?_)
  · simp at h
    have ha := List.getElem?_eq_getElem h
    have hb := List.getElem?_eq_getElem (show i < b.length by omega)
    generalize a[i] = x at ha
    generalize b[i]'_ = y at hb
    refine W_seq (W_block (W_seq ?_))
    apply W_regD
    · intro K hK
      simp [ha, hb]
      repeat' (first | with_reducible exact hK | (with_reducible refine goL_split (fun _ => ?_) (fun _ => ?_) <;> simp [ha, hb]) | with_reducible refine And.intro ?_ ?_ | with_reducible exact okay_rfl rfl | omega)
    refine W_cond rfl (fun h2 => W_seq ?_) (fun h2 => W_skip ?_)
    · apply W_regS
      · intro K hK
        simp
        repeat' (first | with_reducible exact hK | (with_reducible refine goL_split (fun _ => ?_) (fun _ => ?_) <;> simp) | with_reducible refine And.intro ?_ ?_ | with_reducible exact okay_rfl rfl | omega)
      have : (a == b) = false := by simp; intro e; subst e; simp [ha] at hb; subst hb; simp at h2
      refine W_ret ?_
      simp [Fin, this]
      all_goals omega
    apply W_regS
    · intro K hK
      simp
      repeat' (first | with_reducible exact hK | (with_reducible refine goL_split (fun _ => ?_) (fun _ => ?_) <;> simp) | with_reducible refine And.intro ?_ ?_ | with_reducible exact okay_rfl rfl | omega)
    have hxy : x = y := by simp at h2; exact UInt8.toNat_inj.1 (by omega)
    subst hxy
    exact ⟨a.length - (i + 1), by omega, i + 1, rfl, h, take_succ_eq he ha hb, by simp [gc, closeN, liveA, gcV, gcO, renA, namesAs, namesA]; rw [wrap_id (by omega) (by omega)]⟩
  · simp at h
    rw [if_pos rfl]
    refine W_seq (?_)
    apply W_regS
    · intro K hK
      simp
      repeat' (first | with_reducible exact hK | (with_reducible refine goL_split (fun _ => ?_) (fun _ => ?_) <;> simp) | with_reducible refine And.intro ?_ ?_ | with_reducible exact okay_rfl rfl | omega)
    have : (a == b) = true := by
      simp
      rwa [List.take_of_length_le h, List.take_of_length_le (by omega)] at he
    refine W_ret ?_
    simp [Fin, this]
    all_goals omega

theorem row_one {R : List (List D)} {i : Nat} (h : ∀ r, r ∈ R → r.length = 1) (hi : i < R.length) : ∃ d, R[i]? = some [d] := by
  have := h _ (List.getElem_mem hi)
  rw [List.length_eq_one_iff] at this
  obtain ⟨d, hd⟩ := this
  exact ⟨d, by rw [List.getElem?_eq_getElem hi, hd]⟩

theorem set_one {R : List (List D)} {i : Nat} {d : D} (h : ∀ r, r ∈ R → r.length = 1) : ∀ r, r ∈ R.set i [d] → r.length = 1 := by
  intro r hr
  rcases List.mem_or_eq_of_mem_set hr with h1 | h1
  · exact h r h1
  · subst h1; rfl

theorem take_set_succ {R : List (List D)} {i : Nat} {r : List D} (hi : i < R.length) : (R.set i r).take (i + 1) = R.take i ++ [r] := by
  rw [List.take_add_one, List.take_set_of_le (Nat.le_refl _)]
  simp [hi]

theorem hex_succ {a : List UInt8} {i : Nat} {x : UInt8} (ha : a[i]? = some x) : hexOf (a.take (i + 1)) = hexOf (a.take i) ++ [hexDigit (x.toNat / 16), hexDigit (x.toNat % 16)] := by
  rw [List.take_add_one, ha]; simp [hexOf]

theorem hex_len (a : List UInt8) : (hexOf a).length = 2 * a.length := by
  induction a with
  | nil => rfl
  | cons x a ih => simp [hexOf] at ih ⊢; omega

theorem ofBytes_bytesD (s : List UInt8) : ofBytes (bytesD s) = some s := by
  induction s with
  | nil => rfl
  | cons x s ih => simp [bytesD, ofBytes] at ih ⊢; exact ih

theorem strOf_bytesD (s : List UInt8) : strOf (.slc 1 (bytesD s)) = out (.d (.str s)) := by
  cases s with
  | nil => rfl
  | cons x s => simp only [strOf, ofBytes_bytesD]; simp [bytesD]

theorem u8_hi (x : UInt8) : (x.toNat : Int).fdiv 16 = ((x.toNat / 16 : Nat) : Int) := by
  rw [Int.fdiv_eq_ediv_of_nonneg _ (by omega)]; rfl

theorem u8_lo (x : UInt8) : IntKind.u8.wrap ((x.toBitVec &&& 15#8).toNat : Int) = ((x.toNat % 16 : Nat) : Int) := by
  have h : (x.toBitVec &&& 15#8).toNat = x.toNat % 16 := by
    rw [BitVec.toNat_and]
    exact Nat.and_two_pow_sub_one_eq_mod x.toNat 4
  have := x.toNat_lt
  rw [h, IntKind.wrap_u8]; omega

theorem bytes_app2 (s : List UInt8) (u v : UInt8) : bytesD (s ++ [u, v]) = bytesD s ++ [[D.int .u8 u.toNat], [D.int .u8 v.toNat]] := by simp [bytesD]

theorem hexText_ok (a : List UInt8) (hsz : a.length ≤ 2000000) : Valid PP GG F_I_hexText [.d (.slc 1 (bytesD a))] (.d (.str (hexOf a))) [none] := by
  refine v_I_hexText [.d (.str (hexOf a))] rfl rfl ?_
  refine W_seq (?_)
  apply W_regS
  · intro K hK
    simp
    repeat' (first | with_reducible exact hK | (with_reducible refine goL_split (fun _ => ?_) (fun _ => ?_) <;> simp) | with_reducible refine And.intro ?_ ?_ | with_reducible exact okay_rfl rfl | omega)
  refine W_seq (?_)
  have hw : IntKind.i64.wrap (2 * (a.length : Int)) = 2 * a.length := wrap_id (by omega) (by omega)
  apply W_regS
  · intro K hK
    simp [mkA, limit, hw]
    repeat' (first | with_reducible exact hK | (with_reducible refine goL_split (fun _ => ?_) (fun _ => ?_) <;> simp [mkA, limit, hw]) | with_reducible refine And.intro ?_ ?_ | with_reducible exact okay_rfl rfl | omega)
  refine W_seq (W_seq (?_))
  apply W_regS
  · intro K hK
    simp
    repeat' (first | with_reducible exact hK | (with_reducible refine goL_split (fun _ => ?_) (fun _ => ?_) <;> simp) | with_reducible refine And.intro ?_ ?_ | with_reducible exact okay_rfl rfl | omega)
  refine W_block (W_loop (fun n st => ∃ (i : Nat), n = a.length - i ∧ i ≤ a.length ∧
    st = ⟨[], [(3, .sl 0), (10, .d (.slc 1 (bytesD a))), (11, .d (.int .i64 a.length)), (12, .d (.int .i64 i))], [(0, .arr 0 0 1 (bytesD (hexOf (a.take i))))], 1⟩) _ ⟨0, rfl, by omega, rfl⟩ ?_)
  rintro n st ⟨i, rfl, hi, rfl⟩
  refine W_seq (?_)
  apply W_regS
  · intro K hK
    simp
    repeat' (first | with_reducible exact hK | (with_reducible refine goL_split (fun _ => ?_) (fun _ => ?_) <;> simp) | with_reducible refine And.intro ?_ ?_ | with_reducible exact okay_rfl rfl | omega)
  refine W_seq (?_)
  refine W_cond rfl (fun h => W_skip ?_) (fun h => W_exit ?_)
  · simp at h
    have ha := List.getElem?_eq_getElem h
    generalize a[i] = x at ha
    refine W_seq (W_block (W_seq ?_))
    apply W_regS
    · intro K hK
      simp [ha]
      repeat' (first | with_reducible exact hK | (with_reducible refine goL_split (fun _ => ?_) (fun _ => ?_) <;> simp [ha]) | with_reducible refine And.intro ?_ ?_ | with_reducible exact okay_rfl rfl | omega)
    have hl := hex_len (a.take i)
    have hl2 : (a.take i).length ≤ a.length := by simp; omega
    have hx := x.toNat_lt
    obtain ⟨q, hq⟩ : ∃ q : Nat, q = x.toNat / 16 := ⟨_, rfl⟩
    obtain ⟨r, hr⟩ : ∃ r : Nat, r = x.toNat % 16 := ⟨_, rfl⟩
    have h1 := u8_hi x
    have h2 := u8_lo x
    rw [← hq] at h1
    rw [← hr] at h2
    simp at h2
    apply W_regD
    · intro K hK
      simp [h1, h2, limit]
      repeat' (first | with_reducible exact hK | (with_reducible refine goL_split (fun _ => ?_) (fun _ => ?_) <;> simp [h1, h2, limit]) | with_reducible refine And.intro ?_ ?_ | with_reducible exact okay_rfl rfl | omega)
    apply W_regS
    · intro K hK
      simp
      repeat' (first | with_reducible exact hK | (with_reducible refine goL_split (fun _ => ?_) (fun _ => ?_) <;> simp) | with_reducible refine And.intro ?_ ?_ | with_reducible exact okay_rfl rfl | omega)
    exact ⟨a.length - (i + 1), by omega, i + 1, rfl, h, by
      simp [gc, closeN, liveA, gcV, gcO, renA, renO, namesAs, namesA, namesO, posn, hex_succ ha, bytes_app2, hexDigit, ← hq, ← hr]
      rw [wrap_id (by omega) (by omega)]⟩
  · simp at h
    rw [if_pos rfl]
    refine W_seq (?_)
    apply W_regS
    · intro K hK
      simp [strOf_bytesD, List.take_of_length_le h]
      repeat' (first | with_reducible exact hK | (with_reducible refine goL_split (fun _ => ?_) (fun _ => ?_) <;> simp [strOf_bytesD, List.take_of_length_le h]) | with_reducible refine And.intro ?_ ?_ | with_reducible exact okay_rfl rfl | omega)
    refine W_ret ?_
    simp [Fin]
    all_goals omega

def marksByte (k : Int) (n : Nat) : List UInt8 := (List.range n).map fun (i : Nat) => UInt8.ofNat ((k + i) % 256).toNat

theorem marksByte_len (k : Int) (n : Nat) : (marksByte k n).length = n := by simp [marksByte]

theorem byte_of (z : Int) : IntKind.u8.wrap z = ((UInt8.ofNat (z % 256).toNat).toNat : Int) := by
  rw [IntKind.wrap_u8, UInt8.toNat_ofNat']
  omega

theorem marksByte_succ (k : Int) (n : Nat) : bytesD (marksByte k (n + 1)) = bytesD (marksByte k n) ++ [[.int .u8 (IntKind.u8.wrap (k + n))]] := by
  simp [marksByte, List.range_succ, bytesD, byte_of]

theorem marksByte_get (k : Int) {n i : Nat} (h : i < n) : (bytesD (marksByte k n))[i]? = some [.int .u8 (IntKind.u8.wrap (k + i))] := by
  simp [marksByte, h, bytesD, byte_of]

theorem markByteS_ok (rows : List (List D)) (k : Int) (h0 : ∀ r, r ∈ rows → r.length = 1) (h1 : rows.length ≤ 281474976710656) (h2 : 0 ≤ k ∧ k ≤ 281474976710656000) :
    Valid PP GG F_L_markByteS [.own 0 1 rows, .d (.int .i64 k)] (.d (.int .i64 (k + rows.length))) [some (.own 0 1 (bytesD (marksByte k rows.length))), none] := by
  refine v_L_markByteS [.d (.int .i64 (k + rows.length))] rfl rfl ?_
  refine W_seq (?_)
  apply W_regS
  · intro K hK
    simp
    repeat' (first | with_reducible exact hK | (with_reducible refine goL_split (fun _ => ?_) (fun _ => ?_) <;> simp) | with_reducible refine And.intro ?_ ?_ | with_reducible exact okay_rfl rfl | omega)
  refine W_seq (W_seq (?_))
  apply W_regS
  · intro K hK
    simp
    repeat' (first | with_reducible exact hK | (with_reducible refine goL_split (fun _ => ?_) (fun _ => ?_) <;> simp) | with_reducible refine And.intro ?_ ?_ | with_reducible exact okay_rfl rfl | omega)
  refine W_block (W_loop (fun n st => ∃ (i : Nat) (R : List (List D)), n = rows.length - i ∧ i ≤ rows.length ∧ R.length = rows.length ∧ (∀ r, r ∈ R → r.length = 1) ∧ R.take i = bytesD (marksByte k i) ∧
    st = ⟨[], [(0, .sl 0), (1, .d (.int .i64 (k + i))), (5, .d (.int .i64 i))], [(0, .arr 0 0 1 R)], 1⟩) _ ⟨0, rows, rfl, by omega, rfl, h0, rfl, by simp [gc, closeN, liveA, gcV, gcO, renA, renO, namesAs, namesA, namesO, posn]⟩ ?_)
  rintro n st ⟨i, R, rfl, hi, hl, h3, hR, rfl⟩
  refine W_seq (W_seq (?_))
  apply W_regS
  · intro K hK
    simp
    repeat' (first | with_reducible exact hK | (with_reducible refine goL_split (fun _ => ?_) (fun _ => ?_) <;> simp) | with_reducible refine And.intro ?_ ?_ | with_reducible exact okay_rfl rfl | omega)
  refine W_cond rfl (fun h => W_skip ?_) (fun h => W_exit ?_)
  · simp [hl] at h
    obtain ⟨d, hd⟩ := row_one h3 (show i < R.length by omega)
    refine W_seq (W_block (W_seq ?_))
    apply W_regS
    · intro K hK
      simp [hd, hl]
      repeat' (first | with_reducible exact hK | (with_reducible refine goL_split (fun _ => ?_) (fun _ => ?_) <;> simp [hd, hl]) | with_reducible refine And.intro ?_ ?_ | with_reducible exact okay_rfl rfl | omega)
    have hw : IntKind.i64.wrap (k + i + 1) = k + i + 1 := wrap_id (by omega) (by omega)
    apply W_regS
    · intro K hK
      simp [hw]
      repeat' (first | with_reducible exact hK | (with_reducible refine goL_split (fun _ => ?_) (fun _ => ?_) <;> simp [hw]) | with_reducible refine And.intro ?_ ?_ | with_reducible exact okay_rfl rfl | omega)
    apply W_regS
    · intro K hK
      simp
      repeat' (first | with_reducible exact hK | (with_reducible refine goL_split (fun _ => ?_) (fun _ => ?_) <;> simp) | with_reducible refine And.intro ?_ ?_ | with_reducible exact okay_rfl rfl | omega)
    exact ⟨rows.length - (i + 1), by omega, i + 1, R.set i [.int .u8 (IntKind.u8.wrap (k + i))], rfl, h, by simpa using hl, set_one h3, by rw [take_set_succ (by omega), hR, marksByte_succ],
      by simp [gc, closeN, liveA, gcV, gcO, renA, renO, namesAs, namesA, namesO, posn]; exact ⟨by omega, wrap_id (by omega) (by omega)⟩⟩
  · simp [hl] at h
    have e : R = bytesD (marksByte k rows.length) := by
      have : i = rows.length := by omega
      subst this
      rwa [List.take_of_length_le (by omega)] at hR
    have hi' : i = rows.length := by omega
    subst e
    rw [if_pos rfl]
    refine W_seq (?_)
    apply W_regS
    · intro K hK
      simp
      repeat' (first | with_reducible exact hK | (with_reducible refine goL_split (fun _ => ?_) (fun _ => ?_) <;> simp) | with_reducible refine And.intro ?_ ?_ | with_reducible exact okay_rfl rfl | omega)
    refine W_ret ?_
    simp [Fin, hi']
    all_goals omega

theorem heldByteS_ok (n : Nat) (k : Int) (h1 : n ≤ 281474976710656) (h2 : 0 ≤ k ∧ k ≤ 281474976710656000) :
    Valid PP GG F_L_heldByteS [.d (.slc 1 (bytesD (marksByte k n))), .d (.int .i64 k)] (.d (.int .i64 (k + n))) [none, none] := by
  refine v_L_heldByteS [.d (.int .i64 (k + n))] rfl rfl ?_
  have hl : (bytesD (marksByte k n)).length = n := by simp [marksByte_len]
  have hl2 := marksByte_len k n
  have hget : ∀ i : Nat, i < n → (bytesD (marksByte k n))[i]? = some [.int .u8 (IntKind.u8.wrap (k + i))] := fun i h => marksByte_get k h
  generalize bytesD (marksByte k n) = B at hl hget ⊢
  refine W_seq (?_)
  apply W_regS
  · intro K hK
    simp
    repeat' (first | with_reducible exact hK | (with_reducible refine goL_split (fun _ => ?_) (fun _ => ?_) <;> simp) | with_reducible refine And.intro ?_ ?_ | with_reducible exact okay_rfl rfl | omega)
  refine W_seq (W_seq (?_))
  apply W_regS
  · intro K hK
    simp
    repeat' (first | with_reducible exact hK | (with_reducible refine goL_split (fun _ => ?_) (fun _ => ?_) <;> simp) | with_reducible refine And.intro ?_ ?_ | with_reducible exact okay_rfl rfl | omega)
  refine W_block (W_loop (fun m st => ∃ (i : Nat), m = n - i ∧ i ≤ n ∧
    st = ⟨[], [(0, .d (.slc 1 B)), (1, .d (.int .i64 (k + i))), (5, .d (.int .i64 i))], [], 0⟩) _ ⟨0, rfl, by omega, by simp [gc, closeN, liveA, gcV, gcO, renA, renO, namesAs, namesA, namesO, posn]⟩ ?_)
  rintro m st ⟨i, rfl, hi, rfl⟩
  refine W_seq (W_seq (?_))
  apply W_regS
  · intro K hK
    simp
    repeat' (first | with_reducible exact hK | (with_reducible refine goL_split (fun _ => ?_) (fun _ => ?_) <;> simp) | with_reducible refine And.intro ?_ ?_ | with_reducible exact okay_rfl rfl | omega)
  refine W_cond rfl (fun h => W_skip ?_) (fun h => W_exit ?_)
  · simp [hl] at h
    have ha := hget i h
    refine W_seq (W_block (W_seq (W_seq ?_)))
    apply W_regS
    · intro K hK
      simp [ha, hl]
      repeat' (first | with_reducible exact hK | (with_reducible refine goL_split (fun _ => ?_) (fun _ => ?_) <;> simp [ha, hl]) | with_reducible refine And.intro ?_ ?_ | with_reducible exact okay_rfl rfl | omega)
    refine W_cond rfl (fun h4 => ?_) (fun h4 => W_skip ?_)
    · simp at h4
    have hw : IntKind.i64.wrap (k + i + 1) = k + i + 1 := wrap_id (by omega) (by omega)
    apply W_regS
    · intro K hK
      simp [hw]
      repeat' (first | with_reducible exact hK | (with_reducible refine goL_split (fun _ => ?_) (fun _ => ?_) <;> simp [hw]) | with_reducible refine And.intro ?_ ?_ | with_reducible exact okay_rfl rfl | omega)
    apply W_regS
    · intro K hK
      simp
      repeat' (first | with_reducible exact hK | (with_reducible refine goL_split (fun _ => ?_) (fun _ => ?_) <;> simp) | with_reducible refine And.intro ?_ ?_ | with_reducible exact okay_rfl rfl | omega)
    exact ⟨n - (i + 1), by omega, i + 1, rfl, h, by simp [gc, closeN, liveA, gcV, gcO, renA, renO, namesAs, namesA, namesO, posn]; exact ⟨by omega, wrap_id (by omega) (by omega)⟩⟩
  · simp [hl] at h
    have hi' : i = n := by omega
    rw [if_pos rfl]
    refine W_seq (?_)
    apply W_regS
    · intro K hK
      simp
      repeat' (first | with_reducible exact hK | (with_reducible refine goL_split (fun _ => ?_) (fun _ => ?_) <;> simp) | with_reducible refine And.intro ?_ ?_ | with_reducible exact okay_rfl rfl | omega)
    refine W_ret ?_
    simp [Fin, hi']
    all_goals omega

end Go.Proofs.YtpbofdbleajagaaDoor.Ab


namespace Go.Proofs
end Go.Proofs
set_option linter.unusedSimpArgs false
set_option linter.unusedVariables false
set_option maxRecDepth 100000
set_option maxHeartbeats 2000000
namespace Go.Proofs.YtpbofdbleajagaaDoor.Ab
open Go.Proofs
variable {GG : GV}

theorem i_ParseHex_ok (s : List UInt8) (r : Option (List UInt8)) (hr : hexRes s = r) (hs : s.length ≤ 1048576)
    (hpu : ∀ (x y : UInt8) (v : Int) (e : D), (hexU x < 0 ∨ hexU y < 0 → v = 0 ∧ e = .err false) → (¬ (hexU x < 0 ∨ hexU y < 0) → v = 16 * hexU x + hexU y ∧ e = .err true) →
      Valid PP GG F_strconv_ParseUint [.d (.str [x, y]), .d (.int .i64 16), .d (.int .i64 8)] (.tup [.d (.int .u64 v), .d e]) [none, none, none]) :
    Valid PP GG F_I_ParseHex [.d (.str s)] (.tup [.own 0 1 (bytesD (r.getD [])), .d (.bool r.isSome)]) [none] := by
  refine v_I_ParseHex [.own 0 1 (bytesD (r.getD [])), .d (.bool r.isSome)] rfl rfl ?_
  unfold hexRes at hr
  have hm : (s.length : Int).tmod 2 = ((s.length % 2 : Nat) : Int) := rfl
  have hq : (s.length : Int).tdiv 2 = ((s.length / 2 : Nat) : Int) := rfl
  refine W_seq (?_)
  apply W_regS
  · intro K hK
    simp
    repeat' (first | with_reducible exact hK | (with_reducible refine goL_split (fun _ => ?_) (fun _ => ?_) <;> simp) | with_reducible refine And.intro ?_ ?_ | with_reducible exact okay_rfl rfl | omega)
  refine W_seq (W_seq (?_))
  refine W_regB 16 (decide (s.length % 2 = 1 ∨ 4000 < s.length)) (fun K hK => ?_) ?_
  · simp [hm]
    repeat' (first | exact hK _ _ (by clear hK; first | omega | (exact (decide_eq_true (by omega)).symm) | (exact (decide_eq_false (by omega)).symm) | (exact decide_eq_decide.2 (by omega)) | (simp [*]; done) | (simp [*]; omega) | (simp_all; done) | (simp_all; omega) | (rw [Bool.eq_iff_iff]; simp at *; omega)) | (with_reducible refine goL_split (fun _ => ?_) (fun _ => ?_) <;> simp [hm]) | with_reducible refine And.intro ?_ ?_ | with_reducible exact okay_rfl rfl | omega)
  refine W_cond rfl (fun h => W_seq ?_) (fun h => W_skip ?_)
  · rw [h]
    simp at h
    rw [if_pos h] at hr
    subst hr
    apply W_regS
    · intro K hK
      simp
      repeat' (first | with_reducible exact hK | (with_reducible refine goL_split (fun _ => ?_) (fun _ => ?_) <;> simp) | with_reducible refine And.intro ?_ ?_ | with_reducible exact okay_rfl rfl | omega)
    refine W_ret ?_
    simp [Fin, bytesD]
    all_goals omega
  rw [h]
  simp at h
  rw [if_neg (by omega), hex_same] at hr
  obtain ⟨m, hm2⟩ : ∃ m, s.length / 2 = m := ⟨_, rfl⟩
  rw [hm2] at hq
  have hw : IntKind.i64.wrap (m : Int) = m := wrap_id (by omega) (by omega)
  refine W_seq (?_)
  apply W_regS
  · intro K hK
    simp [hq, hw, mkA, limit]
    repeat' (first | with_reducible exact hK | (with_reducible refine goL_split (fun _ => ?_) (fun _ => ?_) <;> simp [hq, hw, mkA, limit]) | with_reducible refine And.intro ?_ ?_ | with_reducible exact okay_rfl rfl | omega)
  refine W_seq (W_seq (?_))
  apply W_regS
  · intro K hK
    simp
    repeat' (first | with_reducible exact hK | (with_reducible refine goL_split (fun _ => ?_) (fun _ => ?_) <;> simp) | with_reducible refine And.intro ?_ ?_ | with_reducible exact okay_rfl rfl | omega)
  refine W_block (W_loop (fun n st => ∃ (i : Nat) (o : List UInt8) (R : List (List D)), n = m - i ∧ i ≤ m ∧ R.length = m ∧ (∀ r, r ∈ R → r.length = 1) ∧ uhex (s.take (2 * i)) = some o ∧ o.length = i ∧ R.take i = bytesD o ∧
    st = ⟨[], [(0, .d (.str s)), (4, .sl 0), (22, .d (.int .i64 m)), (23, .d (.int .i64 i))], [(0, .arr 0 0 1 R)], 1⟩) _ ⟨0, [], List.replicate m [.int .u8 0], rfl, by omega, by simp, by simp, rfl, rfl, rfl, rfl⟩ ?_)
  rintro n st ⟨i, o, R, rfl, hi, hl, h1, ho, hol, hR, rfl⟩
  refine W_seq (?_)
  apply W_regS
  · intro K hK
    simp
    repeat' (first | with_reducible exact hK | (with_reducible refine goL_split (fun _ => ?_) (fun _ => ?_) <;> simp) | with_reducible refine And.intro ?_ ?_ | with_reducible exact okay_rfl rfl | omega)
  refine W_seq (?_)
  refine W_cond rfl (fun h2 => W_skip ?_) (fun h2 => W_exit ?_)
  · simp at h2
    have ha := List.getElem?_eq_getElem (show 2 * i < s.length by omega)
    have hb := List.getElem?_eq_getElem (show 2 * i + 1 < s.length by omega)
    generalize s[2 * i]'_ = x at ha
    generalize s[2 * i + 1]'_ = y at hb
    have hst := uhex_step ha hb (by omega) ho
    have htd : (s.take (2 * i + 2)).drop (2 * i) = [x, y] := by
      rw [take_two ha hb, List.drop_append_of_le_length (by rw [List.length_take]; omega), List.drop_eq_nil_of_le (by rw [List.length_take]; omega)]; rfl
    have vx := hexU_lt x
    have vy := hexU_lt y
    have w1 : IntKind.i64.wrap (2 * (i : Int)) = 2 * i := wrap_id (by omega) (by omega)
    have w2 : IntKind.i64.wrap (2 * (i : Int) + 2) = 2 * i + 2 := wrap_id (by omega) (by omega)
    have t1 : (2 * (i : Int)).toNat = 2 * i := by omega
    have t2 : (2 * (i : Int) + 2).toNat = 2 * i + 2 := by omega
    refine W_seq (W_block (W_seq ?_))
    apply W_regS
    · intro K hK
      simp
      repeat' (first | with_reducible exact hK | (with_reducible refine goL_split (fun _ => ?_) (fun _ => ?_) <;> simp) | with_reducible refine And.intro ?_ ?_ | with_reducible exact okay_rfl rfl | omega)
    by_cases hbad : hexU x < 0 ∨ hexU y < 0
    · have cp := hpu x y 0 (.err false) (fun _ => ⟨rfl, rfl⟩) (fun h => absurd hbad h)
      refine W_seq (?_)
      apply W_regS
      · intro K hK
        simp [w1, w2, t1, t2, htd]
        repeat' (first | with_reducible exact hK | (with_reducible refine callQ (cp) ?_; simp [w1, w2, t1, t2, htd]) | (with_reducible refine goL_split (fun _ => ?_) (fun _ => ?_) <;> simp [w1, w2, t1, t2, htd]) | with_reducible refine And.intro ?_ ?_ | with_reducible exact okay_rfl rfl | omega)
      refine W_seq (W_seq (?_))
      apply W_regS
      · intro K hK
        simp
        repeat' (first | with_reducible exact hK | (with_reducible refine goL_split (fun _ => ?_) (fun _ => ?_) <;> simp) | with_reducible refine And.intro ?_ ?_ | with_reducible exact okay_rfl rfl | omega)
      refine W_cond rfl (fun h3 => W_seq ?_) (fun h3 => W_skip ?_)
      · rw [hst.1 hbad] at hr
        subst hr
        apply W_regS
        · intro K hK
          simp
          repeat' (first | with_reducible exact hK | (with_reducible refine goL_split (fun _ => ?_) (fun _ => ?_) <;> simp) | with_reducible refine And.intro ?_ ?_ | with_reducible exact okay_rfl rfl | omega)
        refine W_ret ?_
        simp [Fin, bytesD]
        all_goals omega
      simp at h3
    · have cp := hpu x y _ (.err true) (fun h => absurd h hbad) (fun _ => ⟨rfl, rfl⟩)
      have hn := hst.2 hbad
      obtain ⟨d, hd⟩ := row_one h1 (show i < R.length by omega)
      generalize hexU x = a at cp hn vx hbad
      generalize hexU y = b at cp hn vy hbad
      obtain ⟨v, hv⟩ : ∃ v, v = UInt8.ofNat (16 * a + b).toNat := ⟨_, rfl⟩
      rw [← hv] at hn
      have w3 : IntKind.u8.wrap (16 * a + b) = (v.toNat : Int) := by rw [hv, IntKind.wrap_u8, UInt8.toNat_ofNat']; omega
      refine W_seq (?_)
      apply W_regS
      · intro K hK
        simp [w1, w2, t1, t2, htd]
        repeat' (first | with_reducible exact hK | (with_reducible refine callQ (cp) ?_; simp [w1, w2, t1, t2, htd]) | (with_reducible refine goL_split (fun _ => ?_) (fun _ => ?_) <;> simp [w1, w2, t1, t2, htd]) | with_reducible refine And.intro ?_ ?_ | with_reducible exact okay_rfl rfl | omega)
      refine W_seq (W_seq (?_))
      apply W_regS
      · intro K hK
        simp
        repeat' (first | with_reducible exact hK | (with_reducible refine goL_split (fun _ => ?_) (fun _ => ?_) <;> simp) | with_reducible refine And.intro ?_ ?_ | with_reducible exact okay_rfl rfl | omega)
      refine W_cond rfl (fun h3 => W_seq ?_) (fun h3 => W_skip ?_)
      · simp at h3
      apply W_regS
      · intro K hK
        simp [w3, hd, hl]
        repeat' (first | with_reducible exact hK | (with_reducible refine goL_split (fun _ => ?_) (fun _ => ?_) <;> simp [w3, hd, hl]) | with_reducible refine And.intro ?_ ?_ | with_reducible exact okay_rfl rfl | omega)
      apply W_regS
      · intro K hK
        simp
        repeat' (first | with_reducible exact hK | (with_reducible refine goL_split (fun _ => ?_) (fun _ => ?_) <;> simp) | with_reducible refine And.intro ?_ ?_ | with_reducible exact okay_rfl rfl | omega)
      refine ⟨m - (i + 1), by omega, i + 1, o ++ [v], R.set i [.int .u8 v.toNat], rfl, by omega, by simpa using hl, set_one h1, hn, by simp; omega, by rw [take_set_succ (by omega), hR]; simp [bytesD], ?_⟩
      simp [gc, closeN, liveA, gcV, gcO, renA, renO, namesAs, namesA, namesO, posn]
      rw [wrap_id (by omega) (by omega)]
  · simp at h2
    have him : i = m := by omega
    have eR : R = bytesD o := by rwa [List.take_of_length_le (by omega)] at hR
    subst eR
    rw [if_pos rfl]
    rw [List.take_of_length_le (by omega)] at ho
    rw [ho, Option.bind_some] at hr
    refine W_seq (W_seq (?_))
    apply W_regS
    · intro K hK
      simp
      repeat' (first | with_reducible exact hK | (with_reducible refine callQ (hexText_ok o (by omega)) ?_; simp) | (with_reducible refine goL_split (fun _ => ?_) (fun _ => ?_) <;> simp) | with_reducible refine And.intro ?_ ?_ | with_reducible exact okay_rfl rfl | omega)
    refine W_cond rfl (fun h3 => W_seq ?_) (fun h3 => W_skip ?_)
    · simp at h3
      rw [if_neg h3] at hr
      subst hr
      apply W_regS
      · intro K hK
        simp
        repeat' (first | with_reducible exact hK | (with_reducible refine goL_split (fun _ => ?_) (fun _ => ?_) <;> simp) | with_reducible refine And.intro ?_ ?_ | with_reducible exact okay_rfl rfl | omega)
      refine W_ret ?_
      simp [Fin, bytesD]
      all_goals omega
    simp at h3
    rw [if_pos h3] at hr
    subst hr
    refine W_seq (?_)
    apply W_regS
    · intro K hK
      simp
      repeat' (first | with_reducible exact hK | (with_reducible refine goL_split (fun _ => ?_) (fun _ => ?_) <;> simp) | with_reducible refine And.intro ?_ ?_ | with_reducible exact okay_rfl rfl | omega)
    refine W_ret ?_
    simp [Fin]
    all_goals omega

end Go.Proofs.YtpbofdbleajagaaDoor.Ab


namespace Go.Proofs
end Go.Proofs
set_option linter.unusedSimpArgs false
set_option linter.unusedVariables false
set_option maxRecDepth 100000
set_option maxHeartbeats 2000000
namespace Go.Proofs.YtpbofdbleajagaaDoor.Ab
open Go.Proofs
variable {GG : GV}

theorem law_ParseHex [ESyn GG] (s : List UInt8) (hs : s.length ≤ maxLen) : Valid PP GG F_L_FnExactParseHex [.d (.str s)] (.d (.bool true)) [none] := by
  refine v_L_FnExactParseHex [.d (.bool true)] rfl rfl ?_
  refine W_seq (?_)
  apply W_regS
  · intro K hK
    simp
    repeat' (first | with_reducible exact hK | (with_reducible refine goL_split (fun _ => ?_) (fun _ => ?_) <;> simp) | with_reducible refine And.intro ?_ ?_ | with_reducible exact okay_rfl rfl | omega)
  refine W_seq (W_seq (?_))
  apply W_regS
  · intro K hK
    simp
    repeat' (first | with_reducible exact hK | (with_reducible refine goL_split (fun _ => ?_) (fun _ => ?_) <;> simp) | with_reducible refine And.intro ?_ ?_ | with_reducible exact okay_rfl rfl | omega)
  refine W_cond rfl (fun h => W_seq ?_) (fun h => W_skip ?_)
  · apply W_regS
    · intro K hK
      simp
      repeat' (first | with_reducible exact hK | (with_reducible refine goL_split (fun _ => ?_) (fun _ => ?_) <;> simp) | with_reducible refine And.intro ?_ ?_ | with_reducible exact okay_rfl rfl | omega)
    refine W_ret ?_
    simp [Fin]
    all_goals omega
  simp at h
  obtain ⟨r, hr⟩ : ∃ r, hexRes s = r := ⟨_, rfl⟩
  have hl : (r.getD []).length ≤ 1048576 := by
    subst hr
    unfold hexRes
    split
    · simp
    · cases hu : unhex s with
      | none => simp
      | some o => have := unhex_len hu; simp; omega
  have cs := s_ParseHex_ok (GG := GG) s r hr (by omega)
  have ci := i_ParseHex_ok (GG := GG) s r hr (by omega) ParseUint_ok
  generalize r.isSome = b at cs ci
  generalize r.getD [] = o at cs ci hl
  have ce := eqByteS_ok (GG := GG) o o (by omega)
  rw [beq_self_eq_true] at ce
  have cm := markByteS_ok (GG := GG) (bytesD o) 1 (by simp [bytesD]) (by simp; omega) (by omega)
  simp only [bytesD_len] at cm
  have ch := heldByteS_ok (GG := GG) o.length 1 (by omega) (by omega)
  refine W_seq (?_)
  apply W_regS
  · intro K hK
    simp
    repeat' (first | with_reducible exact hK | (with_reducible refine callQ (cs) ?_; simp) | (with_reducible refine goL_split (fun _ => ?_) (fun _ => ?_) <;> simp) | with_reducible refine And.intro ?_ ?_ | with_reducible exact okay_rfl rfl | omega)
  refine W_seq (?_)
  apply W_regS
  · intro K hK
    simp
    repeat' (first | with_reducible exact hK | (with_reducible refine callQ (ci) ?_; simp) | (with_reducible refine goL_split (fun _ => ?_) (fun _ => ?_) <;> simp) | with_reducible refine And.intro ?_ ?_ | with_reducible exact okay_rfl rfl | omega)
  refine W_seq (W_seq (?_))
  refine W_regB 32 (false) (fun K hK => ?_) ?_
  · simp
    repeat' (first | exact hK _ _ (by clear hK; first | omega | (exact (decide_eq_true (by omega)).symm) | (exact (decide_eq_false (by omega)).symm) | (exact decide_eq_decide.2 (by omega)) | (simp [*]; done) | (simp [*]; omega) | (simp_all; done) | (simp_all; omega) | (rw [Bool.eq_iff_iff]; simp at *; omega)) | (with_reducible refine callQ (ce) ?_; simp) | (with_reducible refine goL_split (fun _ => ?_) (fun _ => ?_) <;> simp) | with_reducible refine And.intro ?_ ?_ | with_reducible exact okay_rfl rfl | omega)
  refine W_cond rfl (fun h => W_seq ?_) (fun h => W_skip ?_)
  · cases h
  refine W_seq (?_)
  apply W_regS
  · intro K hK
    simp
    repeat' (first | with_reducible exact hK | (with_reducible refine goL_split (fun _ => ?_) (fun _ => ?_) <;> simp) | with_reducible refine And.intro ?_ ?_ | with_reducible exact okay_rfl rfl | omega)
  refine W_seq (?_)
  apply W_regS
  · intro K hK
    simp
    repeat' (first | with_reducible exact hK | (with_reducible refine callQ (cm) ?_; simp) | (with_reducible refine goL_split (fun _ => ?_) (fun _ => ?_) <;> simp) | with_reducible refine And.intro ?_ ?_ | with_reducible exact okay_rfl rfl | omega)
  refine W_seq (?_)
  apply W_regS
  · intro K hK
    simp
    repeat' (first | with_reducible exact hK | (with_reducible refine goL_split (fun _ => ?_) (fun _ => ?_) <;> simp) | with_reducible refine And.intro ?_ ?_ | with_reducible exact okay_rfl rfl | omega)
  refine W_seq (?_)
  apply W_regS
  · intro K hK
    simp
    repeat' (first | with_reducible exact hK | (with_reducible refine callQ (ch) ?_; simp) | (with_reducible refine goL_split (fun _ => ?_) (fun _ => ?_) <;> simp) | with_reducible refine And.intro ?_ ?_ | with_reducible exact okay_rfl rfl | omega)
  refine W_seq (W_seq (?_))
  apply W_regS
  · intro K hK
    simp
    repeat' (first | with_reducible exact hK | (with_reducible refine goL_split (fun _ => ?_) (fun _ => ?_) <;> simp) | with_reducible refine And.intro ?_ ?_ | with_reducible exact okay_rfl rfl | omega)
  refine W_cond rfl (fun h => W_seq ?_) (fun h => W_skip ?_)
  · simp at h; omega
  refine W_seq (W_seq (?_))
  apply W_regS
  · intro K hK
    simp
    repeat' (first | with_reducible exact hK | (with_reducible refine goL_split (fun _ => ?_) (fun _ => ?_) <;> simp) | with_reducible refine And.intro ?_ ?_ | with_reducible exact okay_rfl rfl | omega)
  refine W_cond rfl (fun h => W_seq ?_) (fun h => W_skip ?_)
  · simp at h
  refine W_seq (?_)
  apply W_regS
  · intro K hK
    simp
    repeat' (first | with_reducible exact hK | (with_reducible refine callQ (ci) ?_; simp) | (with_reducible refine goL_split (fun _ => ?_) (fun _ => ?_) <;> simp) | with_reducible refine And.intro ?_ ?_ | with_reducible exact okay_rfl rfl | omega)
  refine W_seq (W_seq (?_))
  refine W_regB 57 (false) (fun K hK => ?_) ?_
  · simp
    repeat' (first | exact hK _ _ (by clear hK; first | omega | (exact (decide_eq_true (by omega)).symm) | (exact (decide_eq_false (by omega)).symm) | (exact decide_eq_decide.2 (by omega)) | (simp [*]; done) | (simp [*]; omega) | (simp_all; done) | (simp_all; omega) | (rw [Bool.eq_iff_iff]; simp at *; omega)) | (with_reducible refine callQ (ce) ?_; simp) | (with_reducible refine goL_split (fun _ => ?_) (fun _ => ?_) <;> simp) | with_reducible refine And.intro ?_ ?_ | with_reducible exact okay_rfl rfl | omega)
  refine W_cond rfl (fun h => W_seq ?_) (fun h => W_skip ?_)
  · cases h
  refine W_seq (?_)
  apply W_regS
  · intro K hK
    simp
    repeat' (first | with_reducible exact hK | (with_reducible refine goL_split (fun _ => ?_) (fun _ => ?_) <;> simp) | with_reducible refine And.intro ?_ ?_ | with_reducible exact okay_rfl rfl | omega)
  refine W_seq (?_)
  apply W_regS
  · intro K hK
    simp
    repeat' (first | with_reducible exact hK | (with_reducible refine callQ (ch) ?_; simp) | (with_reducible refine goL_split (fun _ => ?_) (fun _ => ?_) <;> simp) | with_reducible refine And.intro ?_ ?_ | with_reducible exact okay_rfl rfl | omega)
  refine W_seq (W_seq (?_))
  apply W_regS
  · intro K hK
    simp
    repeat' (first | with_reducible exact hK | (with_reducible refine goL_split (fun _ => ?_) (fun _ => ?_) <;> simp) | with_reducible refine And.intro ?_ ?_ | with_reducible exact okay_rfl rfl | omega)
  refine W_cond rfl (fun h => W_seq ?_) (fun h => W_skip ?_)
  · simp at h; omega
  refine W_seq (W_seq (?_))
  apply W_regS
  · intro K hK
    simp
    repeat' (first | with_reducible exact hK | (with_reducible refine goL_split (fun _ => ?_) (fun _ => ?_) <;> simp) | with_reducible refine And.intro ?_ ?_ | with_reducible exact okay_rfl rfl | omega)
  refine W_cond rfl (fun h => W_seq ?_) (fun h => W_skip ?_)
  · simp at h
  refine W_seq (?_)
  apply W_regS
  · intro K hK
    simp
    repeat' (first | with_reducible exact hK | (with_reducible refine goL_split (fun _ => ?_) (fun _ => ?_) <;> simp) | with_reducible refine And.intro ?_ ?_ | with_reducible exact okay_rfl rfl | omega)
  refine W_ret ?_
  simp [Fin]
  all_goals omega

end Go.Proofs.YtpbofdbleajagaaDoor.Ab

