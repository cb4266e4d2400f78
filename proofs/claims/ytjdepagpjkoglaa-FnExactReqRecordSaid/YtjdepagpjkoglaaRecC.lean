/-
  A part of a proof about the given program; what is proved is said where each theorem stands.
-/
import Derived.Test.YtjdepagpjkoglaaFrameA
import Derived.Test.YtjdepagpjkoglaaFrameB
import Derived.Test.YtjdepagpjkoglaaFrameC
import Derived.Test.YtjdepagpjkoglaaFrameD
import Derived.Test.YtjdepagpjkoglaaFrameE
import Derived.Test.YtjdepagpjkoglaaCodesRec
import Derived.Test.YtjdepagpjkoglaaRecA
import Derived.Test.YtjdepagpjkoglaaRecB
set_option linter.unusedSimpArgs false
set_option linter.unusedVariables false
set_option maxRecDepth 100000
namespace Go.Proofs.Ytjdepagpjkoglaa.Ab

/-- The digits of a number. -/
def digs (n : Nat) : List UInt8 := if h : n = 0 then [] else digs (n / 10) ++ [UInt8.ofNat (48 + n % 10)]
termination_by n
decreasing_by omega

def markT (k : Int) : List UInt8 := if k ≤ 0 then [109, 48] else 109 :: digs k.toNat

theorem digs_len (n : Nat) : (digs n).length ≤ n := by
  induction n using Nat.strongRecOn with
  | _ n ih =>
    rw [digs]
    split
    · simp
    · have := ih (n / 10) (by omega)
      simp; omega

theorem u8_digit (n : Nat) : IntKind.u8.wrap (IntKind.i64.wrap (48 + ((n % 10 : Nat) : Int))) = ((UInt8.ofNat (48 + n % 10)).toNat : Int) := by
  rw [wrap_id (by omega) (by omega), IntKind.wrap_u8, UInt8.toNat_ofNat']
  have : (48 + n % 10) % 2 ^ 8 = 48 + n % 10 := by omega
  rw [this]; omega

theorem bytes_one (v : UInt8) : [[D.int .u8 v.toNat]] = bytesD [v] := rfl

theorem markText_ok (k : Int) (hk : k ≤ 4611686018427387904) : Valid PP F_L_markText [.d (.int .i64 k)] (.d (.str (markT k))) [none] := by
  refine v_L_markText [.d (.str (markT k))] rfl rfl ?_
  refine W_seq (?_)
  apply W_regS
  · intro K hK
    simp
    repeat' (first | with_reducible exact hK | (with_reducible refine goL_split (fun _ => ?_) (fun _ => ?_) <;> simp) | with_reducible refine And.intro ?_ ?_ | with_reducible exact okay_rfl rfl | omega)
  refine W_seq (W_seq (?_))
  apply W_regS
  · intro K hK
    simp
    repeat' (first | with_reducible exact hK | (with_reducible refine goL_split (fun _ => ?_) (fun _ => ?_) <;> simp) | with_reducible refine And.intro ?_ ?_ | with_reducible exact okay_rfl rfl | omega)
  refine W_cond rfl (fun h => W_seq ?_) (fun h => W_skip ?_)
  · simp at h
    apply W_regS
    · intro K hK
      simp
      repeat' (first | with_reducible exact hK | (with_reducible refine goL_split (fun _ => ?_) (fun _ => ?_) <;> simp) | with_reducible refine And.intro ?_ ?_ | with_reducible exact okay_rfl rfl | omega)
    have : markT k = [109, 48] := by unfold markT; rw [if_pos h]
    refine W_ret ?_
    simp [Fin, this]
    all_goals omega
  simp at h
  refine W_seq (?_)
  apply W_regS
  · intro K hK
    simp
    repeat' (first | with_reducible exact hK | (with_reducible refine goL_split (fun _ => ?_) (fun _ => ?_) <;> simp) | with_reducible refine And.intro ?_ ?_ | with_reducible exact okay_rfl rfl | omega)
  refine W_seq (?_)
  refine W_block (W_loop (fun n st => ∃ (m : Nat) (out : List UInt8), n = m ∧ digs m ++ out = digs k.toNat ∧ (m : Int) ≤ k ∧
    st = ⟨[], [(0, .d (.int .i64 m)), (3, .d (.str out))], [], 0⟩) _ ⟨k.toNat, [], rfl, by simp, by omega, by simp [gc, closeN, liveA, gcV, gcO, renA, namesAs, namesA]; omega⟩ ?_)
  rintro m st ⟨m', out, rfl, he, hm, rfl⟩
  refine W_seq (W_seq (?_))
  apply W_regS
  · intro K hK
    simp
    repeat' (first | with_reducible exact hK | (with_reducible refine goL_split (fun _ => ?_) (fun _ => ?_) <;> simp) | with_reducible refine And.intro ?_ ?_ | with_reducible exact okay_rfl rfl | omega)
  refine W_cond rfl (fun h2 => W_skip ?_) (fun h2 => W_exit ?_)
  · simp at h2
    have hd := u8_digit m
    have hl : out.length ≤ 4611686018427387904 := by
      have h1 := digs_len k.toNat
      rw [← he] at h1
      simp at h1
      omega
    have ht : ((m : Int).tmod 10) = ((m % 10 : Nat) : Int) := rfl
    have hq : IntKind.i64.wrap ((m : Int).tdiv 10) = ((m / 10 : Nat) : Int) := by
      have : (m : Int).tdiv 10 = ((m / 10 : Nat) : Int) := rfl
      rw [this]; exact wrap_id (by omega) (by omega)
    obtain ⟨r, hr⟩ : ∃ r : Nat, r = m % 10 := ⟨_, rfl⟩
    obtain ⟨q, hqq⟩ : ∃ q : Nat, q = m / 10 := ⟨_, rfl⟩
    rw [← hr] at hd ht
    rw [← hqq] at hq
    obtain ⟨v, hv⟩ : ∃ v, v = UInt8.ofNat (48 + r) := ⟨_, rfl⟩
    rw [← hv] at hd
    simp at hq
    refine W_block (W_seq ?_)
    apply W_regS
    · intro K hK
      simp [ht, hd, litA, bytes_one, strOf_bytesD, maxStr]
      repeat' (first | with_reducible exact hK | (with_reducible refine goL_split (fun _ => ?_) (fun _ => ?_) <;> simp [ht, hd, litA, bytes_one, strOf_bytesD, maxStr]) | with_reducible refine And.intro ?_ ?_ | with_reducible exact okay_rfl rfl | omega)
    apply W_regS
    · intro K hK
      simp [hq]
      repeat' (first | with_reducible exact hK | (with_reducible refine goL_split (fun _ => ?_) (fun _ => ?_) <;> simp [hq]) | with_reducible refine And.intro ?_ ?_ | with_reducible exact okay_rfl rfl | omega)
    refine ⟨q, by omega, q, v :: out, rfl, ?_, by omega, by simp [gc, closeN, liveA, gcV, gcO, renA, namesAs, namesA]⟩
    rw [← he, digs.eq_1 m, dif_neg (by omega), ← hqq, ← hr, ← hv]
    simp
  · simp at h2
    rw [if_pos rfl]
    have : m = 0 := by omega
    subst this
    have hz : digs 0 = [] := by rw [digs]; simp
    rw [hz, List.nil_append] at he
    have hl : out.length ≤ 4611686018427387904 := by
      have h1 := digs_len k.toNat
      rw [← he] at h1
      omega
    refine W_seq (?_)
    apply W_regS
    · intro K hK
      simp [maxStr]
      repeat' (first | with_reducible exact hK | (with_reducible refine goL_split (fun _ => ?_) (fun _ => ?_) <;> simp [maxStr]) | with_reducible refine And.intro ?_ ?_ | with_reducible exact okay_rfl rfl | omega)
    have : markT k = 109 :: out := by unfold markT; rw [if_neg (by omega), he]
    refine W_ret ?_
    simp [Fin, this]
    all_goals omega

end Go.Proofs.Ytjdepagpjkoglaa.Ab


set_option linter.unusedSimpArgs false
set_option linter.unusedVariables false
set_option maxRecDepth 100000
namespace Go.Proofs.Ytjdepagpjkoglaa.Ab

def marksInt (k : Int) (n : Nat) : List Int := (List.range n).map fun (i : Nat) => k + i

theorem marksInt_len (k : Int) (n : Nat) : (marksInt k n).length = n := by simp [marksInt]
theorem marksInt_succ (k : Int) (n : Nat) : intsD (marksInt k (n + 1)) = intsD (marksInt k n) ++ [[(fun (x : Int) => (.int .i64 x : D)) ((fun (i : Nat) => k + i) n)]] := by
  simp [marksInt, List.range_succ, intsD]
theorem marksInt_get (k : Int) {n i : Nat} (h : i < n) : (marksInt k n)[i]? = some ((fun (i : Nat) => k + i) i) := by
  simp [marksInt, h]

theorem markIntS_ok (rows : List (List D)) (k : Int) (h0 : ∀ r, r ∈ rows → r.length = 1) (h1 : rows.length ≤ 281474976710656) (h2 : 0 ≤ k ∧ k ≤ 281474976710656) :
    Valid PP F_L_markIntS [.own 0 1 rows, .d (.int .i64 k)] (.d (.int .i64 (k + rows.length))) [some (.own 0 1 (intsD (marksInt k rows.length))), none] := by
  refine v_L_markIntS [.d (.int .i64 (k + rows.length))] rfl rfl ?_
  refine W_seq (?_)
  apply W_regS
  · intro K hK
    simp
    repeat' (first | with_reducible exact hK | (with_reducible refine goL_split (fun _ => ?_) (fun _ => ?_) <;> simp) | with_reducible refine And.intro ?_ ?_ | with_reducible exact okay_rfl rfl | omega)
  refine W_seq (W_seq (?_))
  apply W_regS
  · intro K hK
    simp
    repeat' (first | with_reducible exact hK | (with_reducible refine goL_split (fun _ => ?_) (fun _ => ?_) <;> simp) | with_reducible refine And.intro ?_ ?_ | with_reducible exact okay_rfl rfl | omega)
  refine W_block (W_loop (fun n st => ∃ (i : Nat) (R : List (List D)), n = rows.length - i ∧ i ≤ rows.length ∧ R.length = rows.length ∧ (∀ r, r ∈ R → r.length = 1) ∧ R.take i = intsD (marksInt k i) ∧
    st = ⟨[], [(0, .sl 0), (1, .d (.int .i64 (k + i))), (5, .d (.int .i64 i))], [(0, .arr 0 0 1 R)], 1⟩) _ ⟨0, rows, rfl, by omega, rfl, h0, rfl, by simp [gc, closeN, liveA, gcV, gcO, renA, renO, namesAs, namesA, namesO, posn]⟩ ?_)
  rintro n st ⟨i, R, rfl, hi, hl, h3, hR, rfl⟩
  refine W_seq (W_seq (?_))
  apply W_regS
  · intro K hK
    simp
    repeat' (first | with_reducible exact hK | (with_reducible refine goL_split (fun _ => ?_) (fun _ => ?_) <;> simp) | with_reducible refine And.intro ?_ ?_ | with_reducible exact okay_rfl rfl | omega)
  refine W_cond rfl (fun h => W_skip ?_) (fun h => W_exit ?_)
  · simp [hl] at h
    obtain ⟨d, hd⟩ := row_one h3 (show i < R.length by omega)
    refine W_seq (W_block (W_seq ?_))
    apply W_regS
    · intro K hK
      simp [hd, hl ]
      repeat' (first | with_reducible exact hK | (with_reducible refine goL_split (fun _ => ?_) (fun _ => ?_) <;> simp [hd, hl ]) | with_reducible refine And.intro ?_ ?_ | with_reducible exact okay_rfl rfl | omega)
    have hw : IntKind.i64.wrap (k + i + 1) = k + i + 1 := wrap_id (by omega) (by omega)
    apply W_regS
    · intro K hK
      simp [hw]
      repeat' (first | with_reducible exact hK | (with_reducible refine goL_split (fun _ => ?_) (fun _ => ?_) <;> simp [hw]) | with_reducible refine And.intro ?_ ?_ | with_reducible exact okay_rfl rfl | omega)
    apply W_regS
    · intro K hK
      simp
      repeat' (first | with_reducible exact hK | (with_reducible refine goL_split (fun _ => ?_) (fun _ => ?_) <;> simp) | with_reducible refine And.intro ?_ ?_ | with_reducible exact okay_rfl rfl | omega)
    exact ⟨rows.length - (i + 1), by omega, i + 1, R.set i [(fun (x : Int) => (.int .i64 x : D)) ((fun (i : Nat) => k + i) i)], rfl, h, by simpa using hl, set_one h3, by rw [take_set_succ (by omega), hR, marksInt_succ],
      by simp [gc, closeN, liveA, gcV, gcO, renA, renO, namesAs, namesA, namesO, posn]; exact ⟨by omega, wrap_id (by omega) (by omega)⟩⟩
  · simp [hl] at h
    have e : R = intsD (marksInt k rows.length) := by
      have : i = rows.length := by omega
      subst this
      rwa [List.take_of_length_le (by omega)] at hR
    have hi' : i = rows.length := by omega
    subst e
    rw [if_pos rfl]
    refine W_seq (?_)
    apply W_regS
    · intro K hK
      simp
      repeat' (first | with_reducible exact hK | (with_reducible refine goL_split (fun _ => ?_) (fun _ => ?_) <;> simp) | with_reducible refine And.intro ?_ ?_ | with_reducible exact okay_rfl rfl | omega)
    refine W_ret ?_
    simp [Fin, hi']
    all_goals omega

theorem heldIntS_ok (n : Nat) (k : Int) (h1 : n ≤ 281474976710656) (h2 : 0 ≤ k ∧ k ≤ 281474976710656) :
    Valid PP F_L_heldIntS [.d (.slc 1 (intsD (marksInt k n))), .d (.int .i64 k)] (.d (.int .i64 (k + n))) [none, none] := by
  refine v_L_heldIntS [.d (.int .i64 (k + n))] rfl rfl ?_
  have hl := marksInt_len k n
  refine W_seq (?_)
  apply W_regS
  · intro K hK
    simp
    repeat' (first | with_reducible exact hK | (with_reducible refine goL_split (fun _ => ?_) (fun _ => ?_) <;> simp) | with_reducible refine And.intro ?_ ?_ | with_reducible exact okay_rfl rfl | omega)
  refine W_seq (W_seq (?_))
  apply W_regS
  · intro K hK
    simp
    repeat' (first | with_reducible exact hK | (with_reducible refine goL_split (fun _ => ?_) (fun _ => ?_) <;> simp) | with_reducible refine And.intro ?_ ?_ | with_reducible exact okay_rfl rfl | omega)
  refine W_block (W_loop (fun m st => ∃ (i : Nat), m = n - i ∧ i ≤ n ∧
    st = ⟨[], [(0, .d (.slc 1 (intsD (marksInt k n)))), (1, .d (.int .i64 (k + i))), (5, .d (.int .i64 i))], [], 0⟩) _ ⟨0, rfl, by omega, by simp [gc, closeN, liveA, gcV, gcO, renA, renO, namesAs, namesA, namesO, posn]⟩ ?_)
  rintro m st ⟨i, rfl, hi, rfl⟩
  refine W_seq (W_seq (?_))
  apply W_regS
  · intro K hK
    simp
    repeat' (first | with_reducible exact hK | (with_reducible refine goL_split (fun _ => ?_) (fun _ => ?_) <;> simp) | with_reducible refine And.intro ?_ ?_ | with_reducible exact okay_rfl rfl | omega)
  refine W_cond rfl (fun h => W_skip ?_) (fun h => W_exit ?_)
  · simp [hl] at h
    have ha := marksInt_get k h
    refine W_seq (W_block (W_seq (W_seq ?_)))
    apply W_regS
    · intro K hK
      simp [ha, hl ]
      repeat' (first | with_reducible exact hK | (with_reducible refine goL_split (fun _ => ?_) (fun _ => ?_) <;> simp [ha, hl ]) | with_reducible refine And.intro ?_ ?_ | with_reducible exact okay_rfl rfl | omega)
    refine W_cond rfl (fun h4 => ?_) (fun h4 => W_skip ?_)
    · simp at h4
    have hw : IntKind.i64.wrap (k + i + 1) = k + i + 1 := wrap_id (by omega) (by omega)
    apply W_regS
    · intro K hK
      simp [hw]
      repeat' (first | with_reducible exact hK | (with_reducible refine goL_split (fun _ => ?_) (fun _ => ?_) <;> simp [hw]) | with_reducible refine And.intro ?_ ?_ | with_reducible exact okay_rfl rfl | omega)
    apply W_regS
    · intro K hK
      simp
      repeat' (first | with_reducible exact hK | (with_reducible refine goL_split (fun _ => ?_) (fun _ => ?_) <;> simp) | with_reducible refine And.intro ?_ ?_ | with_reducible exact okay_rfl rfl | omega)
    exact ⟨n - (i + 1), by omega, i + 1, rfl, h, by simp [gc, closeN, liveA, gcV, gcO, renA, renO, namesAs, namesA, namesO, posn]; exact ⟨by omega, wrap_id (by omega) (by omega)⟩⟩
  · simp [hl] at h
    have hi' : i = n := by omega
    rw [if_pos rfl]
    refine W_seq (?_)
    apply W_regS
    · intro K hK
      simp
      repeat' (first | with_reducible exact hK | (with_reducible refine goL_split (fun _ => ?_) (fun _ => ?_) <;> simp) | with_reducible refine And.intro ?_ ?_ | with_reducible exact okay_rfl rfl | omega)
    refine W_ret ?_
    simp [Fin, hi']
    all_goals omega


def marksString (k : Int) (n : Nat) : List (List UInt8) := (List.range n).map fun (i : Nat) => markT (k + i)

theorem marksString_len (k : Int) (n : Nat) : (marksString k n).length = n := by simp [marksString]
theorem marksString_succ (k : Int) (n : Nat) : strsD (marksString k (n + 1)) = strsD (marksString k n) ++ [[(fun (x : (List UInt8)) => (.str x : D)) ((fun (i : Nat) => markT (k + i)) n)]] := by
  simp [marksString, List.range_succ, strsD]
theorem marksString_get (k : Int) {n i : Nat} (h : i < n) : (marksString k n)[i]? = some ((fun (i : Nat) => markT (k + i)) i) := by
  simp [marksString, h]

theorem markStringS_ok (rows : List (List D)) (k : Int) (h0 : ∀ r, r ∈ rows → r.length = 1) (h1 : rows.length ≤ 281474976710656) (h2 : 0 ≤ k ∧ k ≤ 281474976710656) :
    Valid PP F_L_markStringS [.own 0 1 rows, .d (.int .i64 k)] (.d (.int .i64 (k + rows.length))) [some (.own 0 1 (strsD (marksString k rows.length))), none] := by
  refine v_L_markStringS [.d (.int .i64 (k + rows.length))] rfl rfl ?_
  refine W_seq (?_)
  apply W_regS
  · intro K hK
    simp
    repeat' (first | with_reducible exact hK | (with_reducible refine goL_split (fun _ => ?_) (fun _ => ?_) <;> simp) | with_reducible refine And.intro ?_ ?_ | with_reducible exact okay_rfl rfl | omega)
  refine W_seq (W_seq (?_))
  apply W_regS
  · intro K hK
    simp
    repeat' (first | with_reducible exact hK | (with_reducible refine goL_split (fun _ => ?_) (fun _ => ?_) <;> simp) | with_reducible refine And.intro ?_ ?_ | with_reducible exact okay_rfl rfl | omega)
  refine W_block (W_loop (fun n st => ∃ (i : Nat) (R : List (List D)), n = rows.length - i ∧ i ≤ rows.length ∧ R.length = rows.length ∧ (∀ r, r ∈ R → r.length = 1) ∧ R.take i = strsD (marksString k i) ∧
    st = ⟨[], [(0, .sl 0), (1, .d (.int .i64 (k + i))), (5, .d (.int .i64 i))], [(0, .arr 0 0 1 R)], 1⟩) _ ⟨0, rows, rfl, by omega, rfl, h0, rfl, by simp [gc, closeN, liveA, gcV, gcO, renA, renO, namesAs, namesA, namesO, posn]⟩ ?_)
  rintro n st ⟨i, R, rfl, hi, hl, h3, hR, rfl⟩
  refine W_seq (W_seq (?_))
  apply W_regS
  · intro K hK
    simp
    repeat' (first | with_reducible exact hK | (with_reducible refine goL_split (fun _ => ?_) (fun _ => ?_) <;> simp) | with_reducible refine And.intro ?_ ?_ | with_reducible exact okay_rfl rfl | omega)
  refine W_cond rfl (fun h => W_skip ?_) (fun h => W_exit ?_)
  · simp [hl] at h
    obtain ⟨d, hd⟩ := row_one h3 (show i < R.length by omega)
    refine W_seq (W_block (W_seq ?_))
    apply W_regS
    · intro K hK
      simp [hd, hl]
      repeat' (first | with_reducible exact hK | (with_reducible refine callQ (markText_ok (k + i) (by omega)) ?_; simp [hd, hl]) | (with_reducible refine goL_split (fun _ => ?_) (fun _ => ?_) <;> simp [hd, hl]) | with_reducible refine And.intro ?_ ?_ | with_reducible exact okay_rfl rfl | omega)
    have hw : IntKind.i64.wrap (k + i + 1) = k + i + 1 := wrap_id (by omega) (by omega)
    apply W_regS
    · intro K hK
      simp [hw]
      repeat' (first | with_reducible exact hK | (with_reducible refine goL_split (fun _ => ?_) (fun _ => ?_) <;> simp [hw]) | with_reducible refine And.intro ?_ ?_ | with_reducible exact okay_rfl rfl | omega)
    apply W_regS
    · intro K hK
      simp
      repeat' (first | with_reducible exact hK | (with_reducible refine goL_split (fun _ => ?_) (fun _ => ?_) <;> simp) | with_reducible refine And.intro ?_ ?_ | with_reducible exact okay_rfl rfl | omega)
    exact ⟨rows.length - (i + 1), by omega, i + 1, R.set i [(fun (x : (List UInt8)) => (.str x : D)) ((fun (i : Nat) => markT (k + i)) i)], rfl, h, by simpa using hl, set_one h3, by rw [take_set_succ (by omega), hR, marksString_succ],
      by simp [gc, closeN, liveA, gcV, gcO, renA, renO, namesAs, namesA, namesO, posn]; exact ⟨by omega, wrap_id (by omega) (by omega)⟩⟩
  · simp [hl] at h
    have e : R = strsD (marksString k rows.length) := by
      have : i = rows.length := by omega
      subst this
      rwa [List.take_of_length_le (by omega)] at hR
    have hi' : i = rows.length := by omega
    subst e
    rw [if_pos rfl]
    refine W_seq (?_)
    apply W_regS
    · intro K hK
      simp
      repeat' (first | with_reducible exact hK | (with_reducible refine goL_split (fun _ => ?_) (fun _ => ?_) <;> simp) | with_reducible refine And.intro ?_ ?_ | with_reducible exact okay_rfl rfl | omega)
    refine W_ret ?_
    simp [Fin, hi']
    all_goals omega

theorem heldStringS_ok (n : Nat) (k : Int) (h1 : n ≤ 281474976710656) (h2 : 0 ≤ k ∧ k ≤ 281474976710656) :
    Valid PP F_L_heldStringS [.d (.slc 1 (strsD (marksString k n))), .d (.int .i64 k)] (.d (.int .i64 (k + n))) [none, none] := by
  refine v_L_heldStringS [.d (.int .i64 (k + n))] rfl rfl ?_
  have hl := marksString_len k n
  refine W_seq (?_)
  apply W_regS
  · intro K hK
    simp
    repeat' (first | with_reducible exact hK | (with_reducible refine goL_split (fun _ => ?_) (fun _ => ?_) <;> simp) | with_reducible refine And.intro ?_ ?_ | with_reducible exact okay_rfl rfl | omega)
  refine W_seq (W_seq (?_))
  apply W_regS
  · intro K hK
    simp
    repeat' (first | with_reducible exact hK | (with_reducible refine goL_split (fun _ => ?_) (fun _ => ?_) <;> simp) | with_reducible refine And.intro ?_ ?_ | with_reducible exact okay_rfl rfl | omega)
  refine W_block (W_loop (fun m st => ∃ (i : Nat), m = n - i ∧ i ≤ n ∧
    st = ⟨[], [(0, .d (.slc 1 (strsD (marksString k n)))), (1, .d (.int .i64 (k + i))), (5, .d (.int .i64 i))], [], 0⟩) _ ⟨0, rfl, by omega, by simp [gc, closeN, liveA, gcV, gcO, renA, renO, namesAs, namesA, namesO, posn]⟩ ?_)
  rintro m st ⟨i, rfl, hi, rfl⟩
  refine W_seq (W_seq (?_))
  apply W_regS
  · intro K hK
    simp
    repeat' (first | with_reducible exact hK | (with_reducible refine goL_split (fun _ => ?_) (fun _ => ?_) <;> simp) | with_reducible refine And.intro ?_ ?_ | with_reducible exact okay_rfl rfl | omega)
  refine W_cond rfl (fun h => W_skip ?_) (fun h => W_exit ?_)
  · simp [hl] at h
    have ha := marksString_get k h
    refine W_seq (W_block (W_seq (W_seq ?_)))
    apply W_regD
    · intro K hK
      simp [ha, hl]
      repeat' (first | with_reducible exact hK | (with_reducible refine callQ (markText_ok (k + i) (by omega)) ?_; simp [ha, hl]) | (with_reducible refine goL_split (fun _ => ?_) (fun _ => ?_) <;> simp [ha, hl]) | with_reducible refine And.intro ?_ ?_ | with_reducible exact okay_rfl rfl | omega)
    refine W_cond rfl (fun h4 => ?_) (fun h4 => W_skip ?_)
    · simp at h4
    have hw : IntKind.i64.wrap (k + i + 1) = k + i + 1 := wrap_id (by omega) (by omega)
    apply W_regS
    · intro K hK
      simp [hw]
      repeat' (first | with_reducible exact hK | (with_reducible refine goL_split (fun _ => ?_) (fun _ => ?_) <;> simp [hw]) | with_reducible refine And.intro ?_ ?_ | with_reducible exact okay_rfl rfl | omega)
    apply W_regS
    · intro K hK
      simp
      repeat' (first | with_reducible exact hK | (with_reducible refine goL_split (fun _ => ?_) (fun _ => ?_) <;> simp) | with_reducible refine And.intro ?_ ?_ | with_reducible exact okay_rfl rfl | omega)
    exact ⟨n - (i + 1), by omega, i + 1, rfl, h, by simp [gc, closeN, liveA, gcV, gcO, renA, renO, namesAs, namesA, namesO, posn]; exact ⟨by omega, wrap_id (by omega) (by omega)⟩⟩
  · simp [hl] at h
    have hi' : i = n := by omega
    rw [if_pos rfl]
    refine W_seq (?_)
    apply W_regS
    · intro K hK
      simp
      repeat' (first | with_reducible exact hK | (with_reducible refine goL_split (fun _ => ?_) (fun _ => ?_) <;> simp) | with_reducible refine And.intro ?_ ?_ | with_reducible exact okay_rfl rfl | omega)
    refine W_ret ?_
    simp [Fin, hi']
    all_goals omega


end Go.Proofs.Ytjdepagpjkoglaa.Ab


set_option linter.unusedSimpArgs false
set_option linter.unusedVariables false
set_option maxRecDepth 100000
namespace Go.Proofs.Ytjdepagpjkoglaa.Ab

theorem markRecord_ok (x k : Int) (r1 r2 : List (List D)) (a1 : ∀ r, r ∈ r1 → r.length = 1) (a2 : ∀ r, r ∈ r2 → r.length = 1) (h1 : r1.length ≤ 1000000000) (h2 : r2.length ≤ 1000000000) (hk : 0 ≤ k ∧ k ≤ 1000000000) :
    Valid PP F_L_markRecord [.agg [.d (.int .i64 x), .own 0 1 r1, .own 0 1 r2], .d (.int .i64 k)] (.d (.int .i64 (k + r1.length + r2.length)))
      [some (.agg (recO x (marksInt k r1.length) (marksString (k + r1.length) r2.length))), none] := by
  refine v_L_markRecord [.d (.int .i64 (k + r1.length + r2.length))] rfl rfl ?_
  refine W_seq (?_)
  apply W_regS
  · intro K hK
    simp
    repeat' (first | with_reducible exact hK | (with_reducible refine goL_split (fun _ => ?_) (fun _ => ?_) <;> simp) | with_reducible refine And.intro ?_ ?_ | with_reducible exact okay_rfl rfl | omega)
  refine W_seq (?_)
  apply W_regS
  · intro K hK
    simp
    repeat' (first | with_reducible exact hK | (with_reducible refine callQ (markIntS_ok r1 k a1 (by omega) (by omega)) ?_; simp) | (with_reducible refine goL_split (fun _ => ?_) (fun _ => ?_) <;> simp) | with_reducible refine And.intro ?_ ?_ | with_reducible exact okay_rfl rfl | omega)
  refine W_seq (?_)
  apply W_regS
  · intro K hK
    simp
    repeat' (first | with_reducible exact hK | (with_reducible refine callQ (markStringS_ok r2 (k + r1.length) a2 (by omega) (by omega)) ?_; simp) | (with_reducible refine goL_split (fun _ => ?_) (fun _ => ?_) <;> simp) | with_reducible refine And.intro ?_ ?_ | with_reducible exact okay_rfl rfl | omega)
  refine W_seq (?_)
  apply W_regS
  · intro K hK
    simp
    repeat' (first | with_reducible exact hK | (with_reducible refine goL_split (fun _ => ?_) (fun _ => ?_) <;> simp) | with_reducible refine And.intro ?_ ?_ | with_reducible exact okay_rfl rfl | omega)
  refine W_ret ?_
  simp [Fin]
  all_goals omega

theorem heldRecord_ok (x k : Int) (n m : Nat) (h1 : n ≤ 1000000000) (h2 : m ≤ 1000000000) (hk : 0 ≤ k ∧ k ≤ 1000000000) :
    Valid PP F_L_heldRecord [.agg (recC x (marksInt k n) (marksString (k + n) m)), .d (.int .i64 k)] (.d (.int .i64 (k + n + m))) [none, none] := by
  refine v_L_heldRecord [.d (.int .i64 (k + n + m))] rfl rfl ?_
  refine W_seq (?_)
  apply W_regS
  · intro K hK
    simp
    repeat' (first | with_reducible exact hK | (with_reducible refine goL_split (fun _ => ?_) (fun _ => ?_) <;> simp) | with_reducible refine And.intro ?_ ?_ | with_reducible exact okay_rfl rfl | omega)
  refine W_seq (?_)
  apply W_regS
  · intro K hK
    simp
    repeat' (first | with_reducible exact hK | (with_reducible refine callQ (heldIntS_ok n k (by omega) (by omega)) ?_; simp) | (with_reducible refine goL_split (fun _ => ?_) (fun _ => ?_) <;> simp) | with_reducible refine And.intro ?_ ?_ | with_reducible exact okay_rfl rfl | omega)
  refine W_seq (W_seq (?_))
  apply W_regS
  · intro K hK
    simp
    repeat' (first | with_reducible exact hK | (with_reducible refine goL_split (fun _ => ?_) (fun _ => ?_) <;> simp) | with_reducible refine And.intro ?_ ?_ | with_reducible exact okay_rfl rfl | omega)
  refine W_cond rfl (fun h => W_seq ?_) (fun h => W_skip ?_)
  · simp at h; omega
  refine W_seq (?_)
  apply W_regS
  · intro K hK
    simp
    repeat' (first | with_reducible exact hK | (with_reducible refine callQ (heldStringS_ok m (k + n) (by omega) (by omega)) ?_; simp) | (with_reducible refine goL_split (fun _ => ?_) (fun _ => ?_) <;> simp) | with_reducible refine And.intro ?_ ?_ | with_reducible exact okay_rfl rfl | omega)
  refine W_seq (W_seq (?_))
  apply W_regS
  · intro K hK
    simp
    repeat' (first | with_reducible exact hK | (with_reducible refine goL_split (fun _ => ?_) (fun _ => ?_) <;> simp) | with_reducible refine And.intro ?_ ?_ | with_reducible exact okay_rfl rfl | omega)
  refine W_cond rfl (fun h => W_seq ?_) (fun h => W_skip ?_)
  · simp at h; omega
  refine W_seq (?_)
  apply W_regS
  · intro K hK
    simp
    repeat' (first | with_reducible exact hK | (with_reducible refine goL_split (fun _ => ?_) (fun _ => ?_) <;> simp) | with_reducible refine And.intro ?_ ?_ | with_reducible exact okay_rfl rfl | omega)
  refine W_ret ?_
  simp [Fin]
  all_goals omega

theorem toReq_ok (k t m : Int) (n p d : List UInt8) : Valid PP F_L_toReq [.agg (reqC k t n p d m)] (.agg (reqC k t n p d m)) [none] := by
  refine v_L_toReq [.agg (reqC k t n p d m)] rfl rfl ?_
  refine W_seq (?_)
  apply W_regS
  · intro K hK
    simp
    repeat' (first | with_reducible exact hK | (with_reducible refine goL_split (fun _ => ?_) (fun _ => ?_) <;> simp) | with_reducible refine And.intro ?_ ?_ | with_reducible exact okay_rfl rfl | omega)
  refine W_seq (?_)
  apply W_regS
  · intro K hK
    simp
    repeat' (first | with_reducible exact hK | (with_reducible refine goL_split (fun _ => ?_) (fun _ => ?_) <;> simp) | with_reducible refine And.intro ?_ ?_ | with_reducible exact okay_rfl rfl | omega)
  refine W_seq (?_)
  apply W_regS
  · intro K hK
    simp
    repeat' (first | with_reducible exact hK | (with_reducible refine goL_split (fun _ => ?_) (fun _ => ?_) <;> simp) | with_reducible refine And.intro ?_ ?_ | with_reducible exact okay_rfl rfl | omega)
  refine W_seq (?_)
  apply W_regS
  · intro K hK
    simp
    repeat' (first | with_reducible exact hK | (with_reducible refine goL_split (fun _ => ?_) (fun _ => ?_) <;> simp) | with_reducible refine And.intro ?_ ?_ | with_reducible exact okay_rfl rfl | omega)
  refine W_seq (?_)
  apply W_regS
  · intro K hK
    simp
    repeat' (first | with_reducible exact hK | (with_reducible refine goL_split (fun _ => ?_) (fun _ => ?_) <;> simp) | with_reducible refine And.intro ?_ ?_ | with_reducible exact okay_rfl rfl | omega)
  refine W_seq (?_)
  apply W_regS
  · intro K hK
    simp
    repeat' (first | with_reducible exact hK | (with_reducible refine goL_split (fun _ => ?_) (fun _ => ?_) <;> simp) | with_reducible refine And.intro ?_ ?_ | with_reducible exact okay_rfl rfl | omega)
  refine W_seq (?_)
  apply W_regS
  · intro K hK
    simp
    repeat' (first | with_reducible exact hK | (with_reducible refine goL_split (fun _ => ?_) (fun _ => ?_) <;> simp) | with_reducible refine And.intro ?_ ?_ | with_reducible exact okay_rfl rfl | omega)
  refine W_seq (?_)
  apply W_regS
  · intro K hK
    simp
    repeat' (first | with_reducible exact hK | (with_reducible refine goL_split (fun _ => ?_) (fun _ => ?_) <;> simp) | with_reducible refine And.intro ?_ ?_ | with_reducible exact okay_rfl rfl | omega)
  refine W_seq (?_)
  apply W_regS
  · intro K hK
    simp
    repeat' (first | with_reducible exact hK | (with_reducible refine goL_split (fun _ => ?_) (fun _ => ?_) <;> simp) | with_reducible refine And.intro ?_ ?_ | with_reducible exact okay_rfl rfl | omega)
  refine W_ret ?_
  simp [Fin]
  all_goals omega

def szR (n p d : List UInt8) (l : Int) : Int := if l - n.length < 0 then -1 else if l - n.length - p.length < 0 then -1 else if l - n.length - p.length - d.length < 0 then -1 else l - n.length - p.length - d.length

theorem szReq_ok (k t m : Int) (n p d : List UInt8) (l : Int) (hl : 0 ≤ l ∧ l ≤ 1048576) (h1 : n.length ≤ maxLen) (h2 : p.length ≤ maxLen) (h3 : d.length ≤ maxLen) :
    Valid PP F_L_szReq [.agg (reqC k t n p d m), .d (.int .i64 l)] (.d (.int .i64 (szR n p d l))) [none, none] := by
  refine v_L_szReq [.d (.int .i64 (szR n p d l))] rfl rfl ?_
  unfold maxLen at h1 h2 h3
  have w1 : IntKind.i64.wrap (l - n.length) = l - n.length := wrap_id (by omega) (by omega)
  refine W_seq (?_)
  apply W_regS
  · intro K hK
    simp
    repeat' (first | with_reducible exact hK | (with_reducible refine goL_split (fun _ => ?_) (fun _ => ?_) <;> simp) | with_reducible refine And.intro ?_ ?_ | with_reducible exact okay_rfl rfl | omega)
  refine W_seq (?_)
  apply W_regS
  · intro K hK
    simp [w1]
    repeat' (first | with_reducible exact hK | (with_reducible refine goL_split (fun _ => ?_) (fun _ => ?_) <;> simp [w1]) | with_reducible refine And.intro ?_ ?_ | with_reducible exact okay_rfl rfl | omega)
  refine W_seq (W_seq (?_))
  apply W_regS
  · intro K hK
    simp
    repeat' (first | with_reducible exact hK | (with_reducible refine goL_split (fun _ => ?_) (fun _ => ?_) <;> simp) | with_reducible refine And.intro ?_ ?_ | with_reducible exact okay_rfl rfl | omega)
  refine W_cond rfl (fun h => W_seq ?_) (fun a1 => W_skip ?_)
  · apply W_regS
    · intro K hK
      simp
      repeat' (first | with_reducible exact hK | (with_reducible refine goL_split (fun _ => ?_) (fun _ => ?_) <;> simp) | with_reducible refine And.intro ?_ ?_ | with_reducible exact okay_rfl rfl | omega)
    simp at h
    have : szR n p d l = -1 := by unfold szR; rw [if_pos h]
    refine W_ret ?_
    simp [Fin, this]
    all_goals omega
  simp at a1
  have w2 : IntKind.i64.wrap (l - n.length - p.length) = l - n.length - p.length := wrap_id (by omega) (by omega)
  refine W_seq (?_)
  apply W_regS
  · intro K hK
    simp [w2]
    repeat' (first | with_reducible exact hK | (with_reducible refine goL_split (fun _ => ?_) (fun _ => ?_) <;> simp [w2]) | with_reducible refine And.intro ?_ ?_ | with_reducible exact okay_rfl rfl | omega)
  refine W_seq (W_seq (?_))
  apply W_regS
  · intro K hK
    simp
    repeat' (first | with_reducible exact hK | (with_reducible refine goL_split (fun _ => ?_) (fun _ => ?_) <;> simp) | with_reducible refine And.intro ?_ ?_ | with_reducible exact okay_rfl rfl | omega)
  refine W_cond rfl (fun h => W_seq ?_) (fun a2 => W_skip ?_)
  · apply W_regS
    · intro K hK
      simp
      repeat' (first | with_reducible exact hK | (with_reducible refine goL_split (fun _ => ?_) (fun _ => ?_) <;> simp) | with_reducible refine And.intro ?_ ?_ | with_reducible exact okay_rfl rfl | omega)
    simp at h
    have : szR n p d l = -1 := by unfold szR; rw [if_neg (by omega), if_pos h]
    refine W_ret ?_
    simp [Fin, this]
    all_goals omega
  simp at a2
  have w3 : IntKind.i64.wrap (l - n.length - p.length - d.length) = l - n.length - p.length - d.length := wrap_id (by omega) (by omega)
  refine W_seq (?_)
  apply W_regS
  · intro K hK
    simp [w3]
    repeat' (first | with_reducible exact hK | (with_reducible refine goL_split (fun _ => ?_) (fun _ => ?_) <;> simp [w3]) | with_reducible refine And.intro ?_ ?_ | with_reducible exact okay_rfl rfl | omega)
  refine W_seq (W_seq (?_))
  apply W_regS
  · intro K hK
    simp
    repeat' (first | with_reducible exact hK | (with_reducible refine goL_split (fun _ => ?_) (fun _ => ?_) <;> simp) | with_reducible refine And.intro ?_ ?_ | with_reducible exact okay_rfl rfl | omega)
  refine W_cond rfl (fun h => W_seq ?_) (fun a3 => W_skip ?_)
  · apply W_regS
    · intro K hK
      simp
      repeat' (first | with_reducible exact hK | (with_reducible refine goL_split (fun _ => ?_) (fun _ => ?_) <;> simp) | with_reducible refine And.intro ?_ ?_ | with_reducible exact okay_rfl rfl | omega)
    simp at h
    have : szR n p d l = -1 := by unfold szR; rw [if_neg (by omega), if_neg (by omega), if_pos h]
    refine W_ret ?_
    simp [Fin, this]
    all_goals omega
  simp at a3
  refine W_seq (?_)
  apply W_regS
  · intro K hK
    simp
    repeat' (first | with_reducible exact hK | (with_reducible refine goL_split (fun _ => ?_) (fun _ => ?_) <;> simp) | with_reducible refine And.intro ?_ ?_ | with_reducible exact okay_rfl rfl | omega)
  have : szR n p d l = l - n.length - p.length - d.length := by unfold szR; rw [if_neg (by omega), if_neg (by omega), if_neg (by omega)]
  refine W_ret ?_
  simp [Fin, this]
  all_goals omega

theorem recordOf_ok (k t m : Int) (n p d : List UInt8) : Valid PP F_I_recordOf [.agg (reqC k t n p d m)] (.agg (recO k [t, m] [n, p, d])) [none] := by
  refine v_I_recordOf [.agg (recO k [t, m] [n, p, d])] rfl rfl ?_
  refine W_seq (?_)
  apply W_regS
  · intro K hK
    simp
    repeat' (first | with_reducible exact hK | (with_reducible refine goL_split (fun _ => ?_) (fun _ => ?_) <;> simp) | with_reducible refine And.intro ?_ ?_ | with_reducible exact okay_rfl rfl | omega)
  refine W_seq (?_)
  apply W_regS
  · intro K hK
    simp [litA, intsD, strsD]
    repeat' (first | with_reducible exact hK | (with_reducible refine goL_split (fun _ => ?_) (fun _ => ?_) <;> simp [litA, intsD, strsD]) | with_reducible refine And.intro ?_ ?_ | with_reducible exact okay_rfl rfl | omega)
  refine W_ret ?_
  simp [Fin, intsD, strsD]
  all_goals omega

/-- What the record of a request is. -/
def rrOk (k t m : Int) (n p d : List UInt8) : Bool := (decide (0 ≤ k) && decide (k ≤ 13)) && recOk k [t, m] [n, p, d]
def rrK (b : Bool) (k : Int) : Int := if b then k else 0
def rrN (b : Bool) (t m : Int) : List Int := if b then [t, m] else []
def rrT (b : Bool) (n p d : List UInt8) : List (List UInt8) := if b then [n, p, d] else []

theorem i_ReqRecord_ok (k t m : Int) (n p d : List UInt8) (b : Bool) (hb : rrOk k t m n p d = b) : Valid PP F_I_ReqRecord [.agg (reqC k t n p d m)] (.tup [.agg (recO (rrK b k) (rrN b t m) (rrT b n p d)), .d (.bool b)]) [none] := by
  refine v_I_ReqRecord [.agg (recO (rrK b k) (rrN b t m) (rrT b n p d)), .d (.bool b)] rfl rfl ?_
  have c1 := isRecord_ok k [t, m] [n, p, d] (by simp) (by simp)
  unfold rrOk at hb
  generalize recOk k [t, m] [n, p, d] = b1 at c1 hb
  refine W_seq (?_)
  apply W_regS
  · intro K hK
    simp
    repeat' (first | with_reducible exact hK | (with_reducible refine goL_split (fun _ => ?_) (fun _ => ?_) <;> simp) | with_reducible refine And.intro ?_ ?_ | with_reducible exact okay_rfl rfl | omega)
  refine W_seq (W_seq (?_))
  apply W_regS
  · intro K hK
    simp
    repeat' (first | with_reducible exact hK | (with_reducible refine callQ (recordOf_ok k t m n p d) ?_; simp) | (with_reducible refine goL_split (fun _ => ?_) (fun _ => ?_) <;> simp) | with_reducible refine And.intro ?_ ?_ | with_reducible exact okay_rfl rfl | omega)
  refine W_seq (?_)
  refine W_regB 13 (b) (fun K hK => ?_) ?_
  · simp
    repeat' (first | exact hK _ _ (by clear hK; first | omega | (simp [*]; done) | (simp [*]; omega) | (simp_all; done) | (simp_all; omega) | (rw [Bool.eq_iff_iff]; simp at *; omega)) | (with_reducible refine callQ (within_ok _ _ _) ?_; simp) | (with_reducible refine callQ (c1) ?_; simp) | (with_reducible refine goL_split (fun _ => ?_) (fun _ => ?_) <;> simp) | with_reducible refine And.intro ?_ ?_ | with_reducible exact okay_rfl rfl | omega)
  refine W_cond rfl (fun h => W_seq ?_) (fun h => W_skip ?_)
  · subst h
    apply W_regS
    · intro K hK
      simp
      repeat' (first | with_reducible exact hK | (with_reducible refine goL_split (fun _ => ?_) (fun _ => ?_) <;> simp) | with_reducible refine And.intro ?_ ?_ | with_reducible exact okay_rfl rfl | omega)
    refine W_ret ?_
    simp [Fin, rrK, rrN, rrT]
    all_goals omega
  subst h
  refine W_seq (?_)
  apply W_regS
  · intro K hK
    simp
    repeat' (first | with_reducible exact hK | (with_reducible refine goL_split (fun _ => ?_) (fun _ => ?_) <;> simp) | with_reducible refine And.intro ?_ ?_ | with_reducible exact okay_rfl rfl | omega)
  refine W_ret ?_
  simp [Fin, rrK, rrN, rrT, intsD, strsD]
  all_goals omega

theorem s_ReqRecord_ok (k t m : Int) (n p d : List UInt8) (b : Bool) (hb : rrOk k t m n p d = b) : Valid PP F_S_ReqRecord [.agg (reqC k t n p d m)] (.tup [.agg (recO (rrK b k) (rrN b t m) (rrT b n p d)), .d (.bool b)]) [none] := by
  refine v_S_ReqRecord [.agg (recO (rrK b k) (rrN b t m) (rrT b n p d)), .d (.bool b)] rfl rfl ?_
  have c1 := s_RecordOk_ok k [t, m] [n, p, d] (by simp) (by simp)
  unfold rrOk at hb
  generalize recOk k [t, m] [n, p, d] = b1 at c1 hb
  simp only [intsD, strsD, List.map] at c1
  refine W_seq (?_)
  apply W_regS
  · intro K hK
    simp
    repeat' (first | with_reducible exact hK | (with_reducible refine goL_split (fun _ => ?_) (fun _ => ?_) <;> simp) | with_reducible refine And.intro ?_ ?_ | with_reducible exact okay_rfl rfl | omega)
  refine W_seq (?_)
  apply W_regS
  · intro K hK
    simp [litA]
    repeat' (first | with_reducible exact hK | (with_reducible refine goL_split (fun _ => ?_) (fun _ => ?_) <;> simp [litA]) | with_reducible refine And.intro ?_ ?_ | with_reducible exact okay_rfl rfl | omega)
  refine W_seq (W_seq (?_))
  generalize he : (decide (0 ≤ k) && decide (k ≤ 13)) = e at hb
  have cw := l01In_ok k 0 13
  rw [he] at cw
  refine W_regB 28 (!b) (fun K hK => ?_) ?_
  · simp
    repeat' (first | exact hK _ _ (by clear hK; first | omega | (simp [*]; done) | (simp [*]; omega) | (simp_all; done) | (simp_all; omega) | (rw [Bool.eq_iff_iff]; simp at *; omega)) | (with_reducible refine callQ (cw) ?_; simp) | (with_reducible refine callQ (c1) ?_; simp) | (with_reducible refine goL_split (fun _ => ?_) (fun _ => ?_) <;> simp) | with_reducible refine And.intro ?_ ?_ | with_reducible exact okay_rfl rfl | omega)
  refine W_cond rfl (fun h => W_seq ?_) (fun h => W_skip ?_)
  · simp at h
    subst h
    apply W_regS
    · intro K hK
      simp
      repeat' (first | with_reducible exact hK | (with_reducible refine goL_split (fun _ => ?_) (fun _ => ?_) <;> simp) | with_reducible refine And.intro ?_ ?_ | with_reducible exact okay_rfl rfl | omega)
    refine W_ret ?_
    simp [Fin, rrK, rrN, rrT, intsD, strsD]
    all_goals omega
  simp at h
  subst h
  refine W_seq (?_)
  apply W_regS
  · intro K hK
    simp
    repeat' (first | with_reducible exact hK | (with_reducible refine goL_split (fun _ => ?_) (fun _ => ?_) <;> simp) | with_reducible refine And.intro ?_ ?_ | with_reducible exact okay_rfl rfl | omega)
  refine W_ret ?_
  simp [Fin, rrK, rrN, rrT, intsD, strsD]
  all_goals omega

end Go.Proofs.Ytjdepagpjkoglaa.Ab


set_option linter.unusedSimpArgs false
set_option linter.unusedVariables false
set_option maxRecDepth 100000
namespace Go.Proofs.Ytjdepagpjkoglaa.Ab

theorem rows_ints (l : List Int) : ∀ r, r ∈ intsD l → r.length = 1 := by
  intro r hr; simp [intsD] at hr; obtain ⟨_, _, rfl⟩ := hr; rfl
theorem rows_strs (l : List (List UInt8)) : ∀ r, r ∈ strsD l → r.length = 1 := by
  intro r hr; simp [strsD] at hr; obtain ⟨_, _, rfl⟩ := hr; rfl

theorem law_ReqRecord (k t m : Int) (n p d : List UInt8) (h1 : n.length ≤ maxLen) (h2 : p.length ≤ maxLen) (h3 : d.length ≤ maxLen) : Valid PP F_L_FnExactReqRecord [.agg (reqC k t n p d m)] (.d (.bool true)) [none] := by
  refine v_L_FnExactReqRecord [.d (.bool true)] rfl rfl ?_
  obtain ⟨b, hb⟩ : ∃ b, rrOk k t m n p d = b := ⟨_, rfl⟩
  have c0 := toReq_ok k t m n p d
  have cs := s_ReqRecord_ok k t m n p d b hb
  have ci := i_ReqRecord_ok k t m n p d b hb
  have ln : (rrN b t m).length ≤ 2 := by unfold rrN; split <;> simp
  have lt : (rrT b n p d).length ≤ 3 := by unfold rrT; split <;> simp
  generalize rrK b k = xk at cs ci
  generalize rrN b t m = xn at cs ci ln
  generalize rrT b n p d = xt at cs ci lt
  have ce := eqRecord_ok xk xk xn xn xt xt (by omega) (by omega)
  have hd : decide (xk = xk ∧ xn = xn ∧ xt = xt) = true := by simp
  rw [hd] at ce
  have cm := markRecord_ok xk 1 (intsD xn) (strsD xt) (rows_ints _) (rows_strs _) (by simp; omega) (by simp; omega) (by omega)
  simp only [intsD_len, strsD_len] at cm
  have ch := heldRecord_ok xk 1 xn.length xt.length (by omega) (by omega) (by omega)
  refine W_seq (?_)
  apply W_regS
  · intro K hK
    simp
    repeat' (first | with_reducible exact hK | (with_reducible refine goL_split (fun _ => ?_) (fun _ => ?_) <;> simp) | with_reducible refine And.intro ?_ ?_ | with_reducible exact okay_rfl rfl | omega)
  refine W_seq (?_)
  apply W_regS
  · intro K hK
    simp
    repeat' (first | with_reducible exact hK | (with_reducible refine goL_split (fun _ => ?_) (fun _ => ?_) <;> simp) | with_reducible refine And.intro ?_ ?_ | with_reducible exact okay_rfl rfl | omega)
  refine W_seq (?_)
  apply W_regS
  · intro K hK
    simp
    repeat' (first | with_reducible exact hK | (with_reducible refine callQ (szReq_ok k t m n p d 1048576 (by omega) h1 h2 h3) ?_; simp) | (with_reducible refine goL_split (fun _ => ?_) (fun _ => ?_) <;> simp) | with_reducible refine And.intro ?_ ?_ | with_reducible exact okay_rfl rfl | omega)
  refine W_seq (W_seq (?_))
  apply W_regS
  · intro K hK
    simp
    repeat' (first | with_reducible exact hK | (with_reducible refine goL_split (fun _ => ?_) (fun _ => ?_) <;> simp) | with_reducible refine And.intro ?_ ?_ | with_reducible exact okay_rfl rfl | omega)
  refine W_cond rfl (fun h => W_seq ?_) (fun h => W_skip ?_)
  · apply W_regS
    · intro K hK
      simp
      repeat' (first | with_reducible exact hK | (with_reducible refine goL_split (fun _ => ?_) (fun _ => ?_) <;> simp) | with_reducible refine And.intro ?_ ?_ | with_reducible exact okay_rfl rfl | omega)
    refine W_ret ?_
    simp [Fin]
    all_goals omega
  refine W_seq (?_)
  apply W_regS
  · intro K hK
    simp
    repeat' (first | with_reducible exact hK | (with_reducible refine callQ (c0) ?_; simp) | (with_reducible refine callQ (cs) ?_; simp) | (with_reducible refine goL_split (fun _ => ?_) (fun _ => ?_) <;> simp) | with_reducible refine And.intro ?_ ?_ | with_reducible exact okay_rfl rfl | omega)
  refine W_seq (?_)
  apply W_regS
  · intro K hK
    simp
    repeat' (first | with_reducible exact hK | (with_reducible refine callQ (c0) ?_; simp) | (with_reducible refine callQ (ci) ?_; simp) | (with_reducible refine goL_split (fun _ => ?_) (fun _ => ?_) <;> simp) | with_reducible refine And.intro ?_ ?_ | with_reducible exact okay_rfl rfl | omega)
  refine W_seq (W_seq (?_))
  refine W_regB 37 (false) (fun K hK => ?_) ?_
  · simp
    repeat' (first | exact hK _ _ (by clear hK; first | omega | (simp [*]; done) | (simp [*]; omega) | (simp_all; done) | (simp_all; omega) | (rw [Bool.eq_iff_iff]; simp at *; omega)) | (with_reducible refine callQ (ce) ?_; simp) | (with_reducible refine goL_split (fun _ => ?_) (fun _ => ?_) <;> simp) | with_reducible refine And.intro ?_ ?_ | with_reducible exact okay_rfl rfl | omega)
  refine W_cond rfl (fun h => W_seq ?_) (fun h => W_skip ?_)
  · cases h
  refine W_seq (?_)
  apply W_regS
  · intro K hK
    simp
    repeat' (first | with_reducible exact hK | (with_reducible refine goL_split (fun _ => ?_) (fun _ => ?_) <;> simp) | with_reducible refine And.intro ?_ ?_ | with_reducible exact okay_rfl rfl | omega)
  refine W_seq (?_)
  apply W_regS
  · intro K hK
    simp
    repeat' (first | with_reducible exact hK | (with_reducible refine callQ (cm) ?_; simp) | (with_reducible refine goL_split (fun _ => ?_) (fun _ => ?_) <;> simp) | with_reducible refine And.intro ?_ ?_ | with_reducible exact okay_rfl rfl | omega)
  refine W_seq (?_)
  apply W_regS
  · intro K hK
    simp
    repeat' (first | with_reducible exact hK | (with_reducible refine goL_split (fun _ => ?_) (fun _ => ?_) <;> simp) | with_reducible refine And.intro ?_ ?_ | with_reducible exact okay_rfl rfl | omega)
  refine W_seq (?_)
  apply W_regS
  · intro K hK
    simp
    repeat' (first | with_reducible exact hK | (with_reducible refine callQ (ch) ?_; simp) | (with_reducible refine goL_split (fun _ => ?_) (fun _ => ?_) <;> simp) | with_reducible refine And.intro ?_ ?_ | with_reducible exact okay_rfl rfl | omega)
  refine W_seq (W_seq (?_))
  apply W_regS
  · intro K hK
    simp
    repeat' (first | with_reducible exact hK | (with_reducible refine goL_split (fun _ => ?_) (fun _ => ?_) <;> simp) | with_reducible refine And.intro ?_ ?_ | with_reducible exact okay_rfl rfl | omega)
  refine W_cond rfl (fun h => W_seq ?_) (fun h => W_skip ?_)
  · simp at h; omega
  refine W_seq (W_seq (?_))
  apply W_regS
  · intro K hK
    simp
    repeat' (first | with_reducible exact hK | (with_reducible refine goL_split (fun _ => ?_) (fun _ => ?_) <;> simp) | with_reducible refine And.intro ?_ ?_ | with_reducible exact okay_rfl rfl | omega)
  refine W_cond rfl (fun h => W_seq ?_) (fun h => W_skip ?_)
  · simp at h
  refine W_seq (?_)
  apply W_regS
  · intro K hK
    simp
    repeat' (first | with_reducible exact hK | (with_reducible refine callQ (c0) ?_; simp) | (with_reducible refine callQ (ci) ?_; simp) | (with_reducible refine goL_split (fun _ => ?_) (fun _ => ?_) <;> simp) | with_reducible refine And.intro ?_ ?_ | with_reducible exact okay_rfl rfl | omega)
  refine W_seq (W_seq (?_))
  refine W_regB 63 (false) (fun K hK => ?_) ?_
  · simp
    repeat' (first | exact hK _ _ (by clear hK; first | omega | (simp [*]; done) | (simp [*]; omega) | (simp_all; done) | (simp_all; omega) | (rw [Bool.eq_iff_iff]; simp at *; omega)) | (with_reducible refine callQ (ce) ?_; simp) | (with_reducible refine goL_split (fun _ => ?_) (fun _ => ?_) <;> simp) | with_reducible refine And.intro ?_ ?_ | with_reducible exact okay_rfl rfl | omega)
  refine W_cond rfl (fun h => W_seq ?_) (fun h => W_skip ?_)
  · cases h
  refine W_seq (?_)
  apply W_regS
  · intro K hK
    simp
    repeat' (first | with_reducible exact hK | (with_reducible refine goL_split (fun _ => ?_) (fun _ => ?_) <;> simp) | with_reducible refine And.intro ?_ ?_ | with_reducible exact okay_rfl rfl | omega)
  refine W_seq (?_)
  apply W_regS
  · intro K hK
    simp
    repeat' (first | with_reducible exact hK | (with_reducible refine callQ (ch) ?_; simp) | (with_reducible refine goL_split (fun _ => ?_) (fun _ => ?_) <;> simp) | with_reducible refine And.intro ?_ ?_ | with_reducible exact okay_rfl rfl | omega)
  refine W_seq (W_seq (?_))
  apply W_regS
  · intro K hK
    simp
    repeat' (first | with_reducible exact hK | (with_reducible refine goL_split (fun _ => ?_) (fun _ => ?_) <;> simp) | with_reducible refine And.intro ?_ ?_ | with_reducible exact okay_rfl rfl | omega)
  refine W_cond rfl (fun h => W_seq ?_) (fun h => W_skip ?_)
  · simp at h; omega
  refine W_seq (W_seq (?_))
  apply W_regS
  · intro K hK
    simp
    repeat' (first | with_reducible exact hK | (with_reducible refine goL_split (fun _ => ?_) (fun _ => ?_) <;> simp) | with_reducible refine And.intro ?_ ?_ | with_reducible exact okay_rfl rfl | omega)
  refine W_cond rfl (fun h => W_seq ?_) (fun h => W_skip ?_)
  · simp at h
  refine W_seq (?_)
  apply W_regS
  · intro K hK
    simp
    repeat' (first | with_reducible exact hK | (with_reducible refine goL_split (fun _ => ?_) (fun _ => ?_) <;> simp) | with_reducible refine And.intro ?_ ?_ | with_reducible exact okay_rfl rfl | omega)
  refine W_ret ?_
  simp [Fin]
  all_goals omega

end Go.Proofs.Ytjdepagpjkoglaa.Ab

