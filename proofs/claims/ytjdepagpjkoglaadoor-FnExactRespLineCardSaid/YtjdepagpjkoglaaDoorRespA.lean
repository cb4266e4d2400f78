/-
  A part of a proof about the given program; what is proved is said where each theorem stands.
-/
import Derived.Test.YtjdepagpjkoglaaDoorFrameA
import Derived.Test.YtjdepagpjkoglaaDoorFrameB
import Derived.Test.YtjdepagpjkoglaaDoorFrameC
import Derived.Test.YtjdepagpjkoglaaDoorFrameD
import Derived.Test.YtjdepagpjkoglaaDoorFrameE
import Derived.Test.YtjdepagpjkoglaaDoorShelf
import Derived.Test.YtjdepagpjkoglaaDoorCodesResp
set_option linter.unusedSimpArgs false
set_option linter.unusedVariables false
set_option maxRecDepth 100000
namespace Go.Proofs.YtjdepagpjkoglaaDoor.Ab
open Go.Proofs

theorem wrap_id {n : Int} (h1 : -9223372036854775808 ≤ n) (h2 : n ≤ 9223372036854775807) : IntKind.i64.wrap n = n := by
  rw [IntKind.wrap_i64]; omega

theorem ofBytes_bytesD (s : List UInt8) : ofBytes (bytesD s) = some s := by
  induction s with
  | nil => rfl
  | cons x s ih => simp [bytesD, ofBytes] at ih ⊢; exact ih

theorem strOf_bytesD (s : List UInt8) : strOf (.slc 1 (bytesD s)) = out (.d (.str s)) := by
  cases s with
  | nil => rfl
  | cons x s => simp only [strOf, ofBytes_bytesD]; simp [bytesD]

theorem Itoa_ok (n : Int) (h : int64 n) : Valid PP GG 18 [.d (.int .i64 n)] (.d (.str (Lib.itoa n))) [none] := by
  refine lib_int (rv := .string ⟨(Lib.itoa n).toArray⟩) ⟨Tryd.f18, Tryd.func18, by kernel_rfl, by kernel_rfl⟩ (fun w Fz => .str _) fun w hG => ?_
  refine Go.Proofs.YtjdepagpjkoglaaDoor.Tryd.strconv_Itoa n h.1 h.2 w ?_
  obtain ⟨ob, h1, h2⟩ := hG 0 pow10Cells rfl
  unfold Lib.TabIs World.var?
  rw [show Tryd.prog.globalNamed "internal/strconv.uint64pow10" = some 0 by kernel_rfl]
  simp only [Option.bind_some, h1]
  cases ob with
  | cells cs t fr => simp only [pow10Cells] at h2; rw [h2]
  | _ => exact h2.elim

/-- The digits of a number. -/
def digs (n : Nat) : List UInt8 := if h : n = 0 then [] else digs (n / 10) ++ [UInt8.ofNat (48 + n % 10)]
termination_by n
decreasing_by omega

theorem digs_dec : ∀ n, 0 < n → digs n = Lib.decDigits n := by
  intro n
  induction n using Nat.strongRecOn with
  | _ n ih =>
    intro h
    rw [digs, dif_neg (by omega), Lib.decDigits]
    by_cases hn : n < 10
    · rw [dif_pos hn]
      have e : n / 10 = 0 := by omega
      rw [e, digs, dif_pos rfl, Nat.mod_eq_of_lt hn]; rfl
    · rw [dif_neg hn, ih (n / 10) (by omega) (by omega)]

theorem digs_len (n : Nat) : (digs n).length ≤ n := by
  induction n using Nat.strongRecOn with
  | _ n ih =>
    rw [digs]
    split
    · simp
    · have := ih (n / 10) (by omega)
      simp; omega

theorem digs_len2 {n : Nat} (h : n ≤ 9223372036854775808) : (digs n).length ≤ 21 := by
  by_cases h0 : n = 0
  · subst h0; rw [digs]; simp
  · rw [digs_dec n (by omega)]
    by_cases h1 : n ≤ 9223372036854775807
    · have := Lib.itoa_length_le n (by omega) (by omega)
      rw [Lib.itoa_nonneg] at this
      exact this
    · have := Lib.itoa_length_le (-(n : Int)) (by omega) (by omega)
      rw [Lib.itoa_neg n (by omega)] at this
      simp at this; omega

theorem u8_digit (n : Nat) : IntKind.u8.wrap (IntKind.i64.wrap (48 + ((n % 10 : Nat) : Int))) = ((UInt8.ofNat (48 + n % 10)).toNat : Int) := by
  rw [wrap_id (by omega) (by omega), IntKind.wrap_u8, UInt8.toNat_ofNat']
  have : (48 + n % 10) % 2 ^ 8 = 48 + n % 10 := by omega
  rw [this]; omega

theorem bytes_one (v : UInt8) : [[D.int .u8 v.toNat]] = bytesD [v] := rfl

theorem l01Num_ok (x : Int) (hx : int64 x) : Valid PP GG F_S_l01Num [.d (.int .i64 x)] (.d (.str (Lib.itoa x))) [none] := by
  refine v_S_l01Num [.d (.str (Lib.itoa x))] rfl rfl ?_
  unfold int64 at hx
  refine W_seq (?_)
  apply W_regS
  · intro K hK
    simp
    repeat' (first | with_reducible exact hK | (with_reducible refine goL_split (fun _ => ?_) (fun _ => ?_) <;> simp) | with_reducible refine And.intro ?_ ?_ | with_reducible exact okay_rfl rfl | omega)
  refine W_seq (W_seq (?_))
  apply W_regS
  · intro K hK
    simp
    repeat' (first | with_reducible exact hK | (with_reducible refine goL_split (fun _ => ?_) (fun _ => ?_) <;> simp) | with_reducible refine And.intro ?_ ?_ | with_reducible exact okay_rfl rfl | omega)
  refine W_cond rfl (fun h => W_seq ?_) (fun h => W_skip ?_)
  · simp at h
    subst h
    apply W_regS
    · intro K hK
      simp
      repeat' (first | with_reducible exact hK | (with_reducible refine goL_split (fun _ => ?_) (fun _ => ?_) <;> simp) | with_reducible refine And.intro ?_ ?_ | with_reducible exact okay_rfl rfl | omega)
    have : Lib.itoa 0 = [48] := by rw [show (0 : Int) = ((0 : Nat) : Int) from rfl, Lib.itoa_nonneg, Lib.decDigits]; rfl
    refine W_ret ?_
    simp [Fin, this]
    all_goals omega
  simp at h
  obtain ⟨ng, hng⟩ : ∃ ng, ng = decide (x < 0) := ⟨_, rfl⟩
  refine W_seq (?_)
  apply W_regS
  · intro K hK
    simp
    repeat' (first | with_reducible exact hK | (with_reducible refine goL_split (fun _ => ?_) (fun _ => ?_) <;> simp) | with_reducible refine And.intro ?_ ?_ | with_reducible exact okay_rfl rfl | omega)
  refine W_seq (?_)
  apply W_regS
  · intro K hK
    simp [← hng]
    repeat' (first | with_reducible exact hK | (with_reducible refine goL_split (fun _ => ?_) (fun _ => ?_) <;> simp [← hng]) | with_reducible refine And.intro ?_ ?_ | with_reducible exact okay_rfl rfl | omega)
  refine W_seq (?_)
  refine W_block (W_loop (fun n st => ∃ (m : Nat) (out : List UInt8), n = m ∧ digs m ++ out = digs x.natAbs ∧ m ≤ x.natAbs ∧
    st = ⟨[], [(0, .d (.int .i64 (if ng then -(m : Int) else m))), (3, .d (.str out)), (4, .d (.bool ng))], [], 0⟩) _ ⟨x.natAbs, [], rfl, by simp, by omega, by
      simp [gc, closeN, liveA, gcV, gcO, renA, namesAs, namesA, ← hng]; cases ng <;> simp at hng ⊢ <;> omega⟩ ?_)
  rintro m st ⟨m', out, rfl, he, hm, rfl⟩
  have hl : out.length ≤ 21 := by
    have h1 := digs_len2 (n := x.natAbs) (by omega)
    rw [← he] at h1
    simp at h1
    omega
  refine W_seq (W_seq (?_))
  apply W_regS
  · intro K hK
    simp
    repeat' (first | with_reducible exact hK | (with_reducible refine goL_split (fun _ => ?_) (fun _ => ?_) <;> simp) | with_reducible refine And.intro ?_ ?_ | with_reducible exact okay_rfl rfl | omega)
  refine W_cond rfl (fun h2 => W_skip ?_) (fun h2 => W_exit ?_)
  · have hm0 : m ≠ 0 := by rintro rfl; cases ng <;> simp at h2
    have hd := u8_digit m
    obtain ⟨r, hr⟩ : ∃ r : Nat, r = m % 10 := ⟨_, rfl⟩
    obtain ⟨q, hqq⟩ : ∃ q : Nat, q = m / 10 := ⟨_, rfl⟩
    rw [← hr] at hd
    obtain ⟨v, hv⟩ : ∃ v, v = UInt8.ofNat (48 + r) := ⟨_, rfl⟩
    rw [← hv] at hd
    have fin : digs q ++ (v :: out) = digs x.natAbs := by
      rw [← he, digs.eq_1 m, dif_neg hm0, ← hqq, ← hr, ← hv]
      simp
    cases ng with
    | false =>
      have ht : ((m : Int).tmod 10) = (r : Int) := by rw [hr]; rfl
      have hq : IntKind.i64.wrap ((m : Int).tdiv 10) = (q : Int) := by
        have : (m : Int).tdiv 10 = ((m / 10 : Nat) : Int) := rfl
        rw [this, ← hqq]; exact wrap_id (by omega) (by omega)
      simp at hq
      refine W_block (W_seq ?_)
      apply W_regS
      · intro K hK
        simp [ht]
        repeat' (first | with_reducible exact hK | (with_reducible refine goL_split (fun _ => ?_) (fun _ => ?_) <;> simp [ht]) | with_reducible refine And.intro ?_ ?_ | with_reducible exact okay_rfl rfl | omega)
      refine W_seq (W_seq (?_))
      apply W_regS
      · intro K hK
        simp
        repeat' (first | with_reducible exact hK | (with_reducible refine goL_split (fun _ => ?_) (fun _ => ?_) <;> simp) | with_reducible refine And.intro ?_ ?_ | with_reducible exact okay_rfl rfl | omega)
      refine W_cond rfl (fun h3 => ?_) (fun h3 => W_skip ?_)
      · simp at h3; omega
      refine W_seq (?_)
      apply W_regS
      · intro K hK
        simp [hd, litA, bytes_one, strOf_bytesD, maxStr]
        repeat' (first | with_reducible exact hK | (with_reducible refine goL_split (fun _ => ?_) (fun _ => ?_) <;> simp [hd, litA, bytes_one, strOf_bytesD, maxStr]) | with_reducible refine And.intro ?_ ?_ | with_reducible exact okay_rfl rfl | omega)
      apply W_regS
      · intro K hK
        simp [hq]
        repeat' (first | with_reducible exact hK | (with_reducible refine goL_split (fun _ => ?_) (fun _ => ?_) <;> simp [hq]) | with_reducible refine And.intro ?_ ?_ | with_reducible exact okay_rfl rfl | omega)
      exact ⟨q, by omega, q, v :: out, rfl, fin, by omega, by simp [gc, closeN, liveA, gcV, gcO, renA, namesAs, namesA]⟩
    | true =>
      have ht : ((-(m : Int)).tmod 10) = -(r : Int) := by rw [Int.neg_tmod, hr]; rfl
      have hn : IntKind.i64.wrap (0 - -(r : Int)) = (r : Int) := by rw [wrap_id (by omega) (by omega)]; omega
      have hq : IntKind.i64.wrap ((-(m : Int)).tdiv 10) = -(q : Int) := by
        have : (-(m : Int)).tdiv 10 = -((m / 10 : Nat) : Int) := by rw [Int.neg_tdiv]; rfl
        rw [this, ← hqq]; exact wrap_id (by omega) (by omega)
      simp at hn hq
      refine W_block (W_seq ?_)
      apply W_regS
      · intro K hK
        simp [ht]
        repeat' (first | with_reducible exact hK | (with_reducible refine goL_split (fun _ => ?_) (fun _ => ?_) <;> simp [ht]) | with_reducible refine And.intro ?_ ?_ | with_reducible exact okay_rfl rfl | omega)
      refine W_seq (W_seq (?_))
      apply W_regS
      · intro K hK
        simp
        repeat' (first | with_reducible exact hK | (with_reducible refine goL_split (fun _ => ?_) (fun _ => ?_) <;> simp) | with_reducible refine And.intro ?_ ?_ | with_reducible exact okay_rfl rfl | omega)
      refine W_cond rfl (fun h3 => ?_) (fun h3 => W_skip ?_)
      · apply W_regS
        · intro K hK
          simp [hn]
          repeat' (first | with_reducible exact hK | (with_reducible refine goL_split (fun _ => ?_) (fun _ => ?_) <;> simp [hn]) | with_reducible refine And.intro ?_ ?_ | with_reducible exact okay_rfl rfl | omega)
        refine W_seq (?_)
        apply W_regS
        · intro K hK
          simp [hd, litA, bytes_one, strOf_bytesD, maxStr]
          repeat' (first | with_reducible exact hK | (with_reducible refine goL_split (fun _ => ?_) (fun _ => ?_) <;> simp [hd, litA, bytes_one, strOf_bytesD, maxStr]) | with_reducible refine And.intro ?_ ?_ | with_reducible exact okay_rfl rfl | omega)
        apply W_regS
        · intro K hK
          simp [hq]
          repeat' (first | with_reducible exact hK | (with_reducible refine goL_split (fun _ => ?_) (fun _ => ?_) <;> simp [hq]) | with_reducible refine And.intro ?_ ?_ | with_reducible exact okay_rfl rfl | omega)
        exact ⟨q, by omega, q, v :: out, rfl, fin, by omega, by simp [gc, closeN, liveA, gcV, gcO, renA, namesAs, namesA]⟩
      have hn2 : -(r : Int) = (r : Int) := by simp at h3; omega
      refine W_seq (?_)
      apply W_regS
      · intro K hK
        simp [hn2, hd, litA, bytes_one, strOf_bytesD, maxStr]
        repeat' (first | with_reducible exact hK | (with_reducible refine goL_split (fun _ => ?_) (fun _ => ?_) <;> simp [hn2, hd, litA, bytes_one, strOf_bytesD, maxStr]) | with_reducible refine And.intro ?_ ?_ | with_reducible exact okay_rfl rfl | omega)
      apply W_regS
      · intro K hK
        simp [hq]
        repeat' (first | with_reducible exact hK | (with_reducible refine goL_split (fun _ => ?_) (fun _ => ?_) <;> simp [hq]) | with_reducible refine And.intro ?_ ?_ | with_reducible exact okay_rfl rfl | omega)
      exact ⟨q, by omega, q, v :: out, rfl, fin, by omega, by simp [gc, closeN, liveA, gcV, gcO, renA, namesAs, namesA]⟩
  · have hm0 : m = 0 := by cases ng <;> simp at h2 <;> omega
    subst hm0
    rw [if_pos rfl]
    have hz : digs 0 = [] := by rw [digs]; simp
    rw [hz, List.nil_append] at he
    refine W_seq (W_seq (?_))
    apply W_regS
    · intro K hK
      simp
      repeat' (first | with_reducible exact hK | (with_reducible refine goL_split (fun _ => ?_) (fun _ => ?_) <;> simp) | with_reducible refine And.intro ?_ ?_ | with_reducible exact okay_rfl rfl | omega)
    refine W_cond rfl (fun h3 => W_seq ?_) (fun h3 => W_skip ?_)
    · subst h3
      apply W_regS
      · intro K hK
        simp [maxStr]
        repeat' (first | with_reducible exact hK | (with_reducible refine goL_split (fun _ => ?_) (fun _ => ?_) <;> simp [maxStr]) | with_reducible refine And.intro ?_ ?_ | with_reducible exact okay_rfl rfl | omega)
      have : Lib.itoa x = 45 :: out := by
        simp at hng
        unfold Lib.itoa
        rw [if_pos (by omega), he, digs_dec _ (by omega)]
      refine W_ret ?_
      simp [Fin, this]
      all_goals omega
    subst h3
    refine W_seq (?_)
    apply W_regS
    · intro K hK
      simp
      repeat' (first | with_reducible exact hK | (with_reducible refine goL_split (fun _ => ?_) (fun _ => ?_) <;> simp) | with_reducible refine And.intro ?_ ?_ | with_reducible exact okay_rfl rfl | omega)
    have : Lib.itoa x = out := by
      simp at hng
      unfold Lib.itoa
      rw [if_neg (by omega), he, digs_dec _ (by omega)]
      congr 1
      omega
    refine W_ret ?_
    simp [Fin, this]
    all_goals omega

end Go.Proofs.YtjdepagpjkoglaaDoor.Ab


set_option linter.unusedSimpArgs false
set_option linter.unusedVariables false
set_option maxRecDepth 100000
namespace Go.Proofs.YtjdepagpjkoglaaDoor.Ab

abbrev noteC (s a w : Int) (t p : List UInt8) (c m : Int) : List C := [.d (.int .i64 s), .d (.int .i64 a), .d (.int .i64 w), .d (.str t), .d (.str p), .d (.int .i64 c), .d (.int .i64 m)]

def noteT (s a w : Int) (t p : List UInt8) (c m : Int) : List UInt8 := Lib.itoa s ++ [32] ++ Lib.itoa a ++ [32] ++ Lib.itoa w ++ [32] ++ t ++ [32] ++ p ++ [32] ++ Lib.itoa c ++ [32] ++ Lib.itoa m

theorem toNote_ok (s a w : Int) (t p : List UInt8) (c m : Int) : Valid PP GG F_L_toNote [.agg (noteC s a w t p c m)] (.agg (noteC s a w t p c m)) [none] := by
  refine v_L_toNote [.agg (noteC s a w t p c m)] rfl rfl ?_
  refine W_seq (?_)
  apply W_regS
  · intro K hK
    simp
    repeat' (first | with_reducible exact hK | (with_reducible refine goL_split (fun _ => ?_) (fun _ => ?_) <;> simp) | with_reducible refine And.intro ?_ ?_ | with_reducible exact okay_rfl rfl | omega)
  refine W_seq (?_)
  apply W_regS
  · intro K hK
    simp
    repeat' (first | with_reducible exact hK | (with_reducible refine goL_split (fun _ => ?_) (fun _ => ?_) <;> simp) | with_reducible refine And.intro ?_ ?_ | with_reducible exact okay_rfl rfl | omega)
  refine W_seq (?_)
  apply W_regS
  · intro K hK
    simp
    repeat' (first | with_reducible exact hK | (with_reducible refine goL_split (fun _ => ?_) (fun _ => ?_) <;> simp) | with_reducible refine And.intro ?_ ?_ | with_reducible exact okay_rfl rfl | omega)
  refine W_seq (?_)
  apply W_regS
  · intro K hK
    simp
    repeat' (first | with_reducible exact hK | (with_reducible refine goL_split (fun _ => ?_) (fun _ => ?_) <;> simp) | with_reducible refine And.intro ?_ ?_ | with_reducible exact okay_rfl rfl | omega)
  refine W_seq (?_)
  apply W_regS
  · intro K hK
    simp
    repeat' (first | with_reducible exact hK | (with_reducible refine goL_split (fun _ => ?_) (fun _ => ?_) <;> simp) | with_reducible refine And.intro ?_ ?_ | with_reducible exact okay_rfl rfl | omega)
  refine W_seq (?_)
  apply W_regS
  · intro K hK
    simp
    repeat' (first | with_reducible exact hK | (with_reducible refine goL_split (fun _ => ?_) (fun _ => ?_) <;> simp) | with_reducible refine And.intro ?_ ?_ | with_reducible exact okay_rfl rfl | omega)
  refine W_seq (?_)
  apply W_regS
  · intro K hK
    simp
    repeat' (first | with_reducible exact hK | (with_reducible refine goL_split (fun _ => ?_) (fun _ => ?_) <;> simp) | with_reducible refine And.intro ?_ ?_ | with_reducible exact okay_rfl rfl | omega)
  refine W_seq (?_)
  apply W_regS
  · intro K hK
    simp
    repeat' (first | with_reducible exact hK | (with_reducible refine goL_split (fun _ => ?_) (fun _ => ?_) <;> simp) | with_reducible refine And.intro ?_ ?_ | with_reducible exact okay_rfl rfl | omega)
  refine W_seq (?_)
  apply W_regS
  · intro K hK
    simp
    repeat' (first | with_reducible exact hK | (with_reducible refine goL_split (fun _ => ?_) (fun _ => ?_) <;> simp) | with_reducible refine And.intro ?_ ?_ | with_reducible exact okay_rfl rfl | omega)
  refine W_seq (?_)
  apply W_regS
  · intro K hK
    simp
    repeat' (first | with_reducible exact hK | (with_reducible refine goL_split (fun _ => ?_) (fun _ => ?_) <;> simp) | with_reducible refine And.intro ?_ ?_ | with_reducible exact okay_rfl rfl | omega)
  refine W_ret ?_
  simp [Fin]
  all_goals omega

def szNo (t p : List UInt8) (l : Int) : Int := if l - t.length < 0 then -1 else if l - t.length - p.length < 0 then -1 else l - t.length - p.length

theorem szNote_ok (s a w : Int) (t p : List UInt8) (c m l : Int) (hl : 0 ≤ l ∧ l ≤ 1048576) (h1 : t.length ≤ maxLen) (h2 : p.length ≤ maxLen) :
    Valid PP GG F_L_szNote [.agg (noteC s a w t p c m), .d (.int .i64 l)] (.d (.int .i64 (szNo t p l))) [none, none] := by
  refine v_L_szNote [.d (.int .i64 (szNo t p l))] rfl rfl ?_
  unfold maxLen at h1 h2
  have w1 : IntKind.i64.wrap (l - t.length) = l - t.length := wrap_id (by omega) (by omega)
  refine W_seq (?_)
  apply W_regS
  · intro K hK
    simp
    repeat' (first | with_reducible exact hK | (with_reducible refine goL_split (fun _ => ?_) (fun _ => ?_) <;> simp) | with_reducible refine And.intro ?_ ?_ | with_reducible exact okay_rfl rfl | omega)
  refine W_seq (?_)
  apply W_regS
  · intro K hK
    simp [w1]
    repeat' (first | with_reducible exact hK | (with_reducible refine goL_split (fun _ => ?_) (fun _ => ?_) <;> simp [w1]) | with_reducible refine And.intro ?_ ?_ | with_reducible exact okay_rfl rfl | omega)
  refine W_seq (W_seq (?_))
  apply W_regS
  · intro K hK
    simp
    repeat' (first | with_reducible exact hK | (with_reducible refine goL_split (fun _ => ?_) (fun _ => ?_) <;> simp) | with_reducible refine And.intro ?_ ?_ | with_reducible exact okay_rfl rfl | omega)
  refine W_cond rfl (fun h => W_seq ?_) (fun a1 => W_skip ?_)
  · apply W_regS
    · intro K hK
      simp
      repeat' (first | with_reducible exact hK | (with_reducible refine goL_split (fun _ => ?_) (fun _ => ?_) <;> simp) | with_reducible refine And.intro ?_ ?_ | with_reducible exact okay_rfl rfl | omega)
    simp at h
    have : szNo t p l = -1 := by unfold szNo; rw [if_pos h]
    refine W_ret ?_
    simp [Fin, this]
    all_goals omega
  simp at a1
  have w2 : IntKind.i64.wrap (l - t.length - p.length) = l - t.length - p.length := wrap_id (by omega) (by omega)
  refine W_seq (?_)
  apply W_regS
  · intro K hK
    simp [w2]
    repeat' (first | with_reducible exact hK | (with_reducible refine goL_split (fun _ => ?_) (fun _ => ?_) <;> simp [w2]) | with_reducible refine And.intro ?_ ?_ | with_reducible exact okay_rfl rfl | omega)
  refine W_seq (W_seq (?_))
  apply W_regS
  · intro K hK
    simp
    repeat' (first | with_reducible exact hK | (with_reducible refine goL_split (fun _ => ?_) (fun _ => ?_) <;> simp) | with_reducible refine And.intro ?_ ?_ | with_reducible exact okay_rfl rfl | omega)
  refine W_cond rfl (fun h => W_seq ?_) (fun a2 => W_skip ?_)
  · apply W_regS
    · intro K hK
      simp
      repeat' (first | with_reducible exact hK | (with_reducible refine goL_split (fun _ => ?_) (fun _ => ?_) <;> simp) | with_reducible refine And.intro ?_ ?_ | with_reducible exact okay_rfl rfl | omega)
    simp at h
    have : szNo t p l = -1 := by unfold szNo; rw [if_neg (by omega), if_pos h]
    refine W_ret ?_
    simp [Fin, this]
    all_goals omega
  simp at a2
  refine W_seq (?_)
  apply W_regS
  · intro K hK
    simp
    repeat' (first | with_reducible exact hK | (with_reducible refine goL_split (fun _ => ?_) (fun _ => ?_) <;> simp) | with_reducible refine And.intro ?_ ?_ | with_reducible exact okay_rfl rfl | omega)
  have : szNo t p l = l - t.length - p.length := by unfold szNo; rw [if_neg (by omega), if_neg (by omega)]
  refine W_ret ?_
  simp [Fin, this]
  all_goals omega

theorem s_NoteText_ok (s a w : Int) (t p : List UInt8) (c m : Int) (hs : int64 s) (ha : int64 a) (hw : int64 w) (hc : int64 c) (hm : int64 m) (h1 : t.length ≤ 1048576) (h2 : p.length ≤ 1048576) :
    Valid PP GG F_S_NoteText [.agg (noteC s a w t p c m)] (.d (.str (noteT s a w t p c m))) [none] := by
  refine v_S_NoteText [.d (.str (noteT s a w t p c m))] rfl rfl ?_
  have l1 := Lib.itoa_length_le s hs.1 hs.2
  have l2 := Lib.itoa_length_le a ha.1 ha.2
  have l3 := Lib.itoa_length_le w hw.1 hw.2
  have l4 := Lib.itoa_length_le c hc.1 hc.2
  have l5 := Lib.itoa_length_le m hm.1 hm.2
  refine W_seq (?_)
  apply W_regS
  · intro K hK
    simp
    repeat' (first | with_reducible exact hK | (with_reducible refine goL_split (fun _ => ?_) (fun _ => ?_) <;> simp) | with_reducible refine And.intro ?_ ?_ | with_reducible exact okay_rfl rfl | omega)
  refine W_seq (?_)
  apply W_regD
  · intro K hK
    simp [maxStr]
    repeat' (first | with_reducible exact hK | (with_reducible refine callQ (l01Num_ok s hs) ?_; simp [maxStr]) | (with_reducible refine callQ (l01Num_ok a ha) ?_; simp [maxStr]) | (with_reducible refine callQ (l01Num_ok w hw) ?_; simp [maxStr]) | (with_reducible refine callQ (l01Num_ok c hc) ?_; simp [maxStr]) | (with_reducible refine callQ (l01Num_ok m hm) ?_; simp [maxStr]) | (with_reducible refine goL_split (fun _ => ?_) (fun _ => ?_) <;> simp [maxStr]) | with_reducible refine And.intro ?_ ?_ | with_reducible exact okay_rfl rfl | omega)
  refine W_ret ?_
  simp [Fin, noteT]
  all_goals omega

theorem i_NoteText_ok (s a w : Int) (t p : List UInt8) (c m : Int) (hs : int64 s) (ha : int64 a) (hw : int64 w) (hc : int64 c) (hm : int64 m) (h1 : t.length ≤ 1048576) (h2 : p.length ≤ 1048576) :
    Valid PP GG F_I_NoteText [.agg (noteC s a w t p c m)] (.d (.str (noteT s a w t p c m))) [none] := by
  refine v_I_NoteText [.d (.str (noteT s a w t p c m))] rfl rfl ?_
  have l1 := Lib.itoa_length_le s hs.1 hs.2
  have l2 := Lib.itoa_length_le a ha.1 ha.2
  have l3 := Lib.itoa_length_le w hw.1 hw.2
  have l4 := Lib.itoa_length_le c hc.1 hc.2
  have l5 := Lib.itoa_length_le m hm.1 hm.2
  refine W_seq (?_)
  apply W_regS
  · intro K hK
    simp
    repeat' (first | with_reducible exact hK | (with_reducible refine goL_split (fun _ => ?_) (fun _ => ?_) <;> simp) | with_reducible refine And.intro ?_ ?_ | with_reducible exact okay_rfl rfl | omega)
  refine W_seq (?_)
  apply W_regD
  · intro K hK
    simp [maxStr]
    repeat' (first | with_reducible exact hK | (with_reducible refine callQ (Itoa_ok s hs) ?_; simp [maxStr]) | (with_reducible refine callQ (Itoa_ok a ha) ?_; simp [maxStr]) | (with_reducible refine callQ (Itoa_ok w hw) ?_; simp [maxStr]) | (with_reducible refine callQ (Itoa_ok c hc) ?_; simp [maxStr]) | (with_reducible refine callQ (Itoa_ok m hm) ?_; simp [maxStr]) | (with_reducible refine goL_split (fun _ => ?_) (fun _ => ?_) <;> simp [maxStr]) | with_reducible refine And.intro ?_ ?_ | with_reducible exact okay_rfl rfl | omega)
  refine W_ret ?_
  simp [Fin, noteT]
  all_goals omega

theorem law_NoteText (s a w : Int) (t p : List UInt8) (c m : Int) (hs : int64 s) (ha : int64 a) (hw : int64 w) (hc : int64 c) (hm : int64 m) (h1 : t.length ≤ maxLen) (h2 : p.length ≤ maxLen) :
    Valid PP GG F_L_FnExactNoteText [.agg (noteC s a w t p c m)] (.d (.bool true)) [none] := by
  refine v_L_FnExactNoteText [.d (.bool true)] rfl rfl ?_
  refine W_seq (?_)
  apply W_regS
  · intro K hK
    simp
    repeat' (first | with_reducible exact hK | (with_reducible refine goL_split (fun _ => ?_) (fun _ => ?_) <;> simp) | with_reducible refine And.intro ?_ ?_ | with_reducible exact okay_rfl rfl | omega)
  refine W_seq (?_)
  apply W_regS
  · intro K hK
    simp
    repeat' (first | with_reducible exact hK | (with_reducible refine goL_split (fun _ => ?_) (fun _ => ?_) <;> simp) | with_reducible refine And.intro ?_ ?_ | with_reducible exact okay_rfl rfl | omega)
  refine W_seq (?_)
  apply W_regS
  · intro K hK
    simp
    repeat' (first | with_reducible exact hK | (with_reducible refine callQ (szNote_ok s a w t p c m 1048576 (by omega) h1 h2) ?_; simp) | (with_reducible refine goL_split (fun _ => ?_) (fun _ => ?_) <;> simp) | with_reducible refine And.intro ?_ ?_ | with_reducible exact okay_rfl rfl | omega)
  refine W_seq (W_seq (?_))
  apply W_regS
  · intro K hK
    simp
    repeat' (first | with_reducible exact hK | (with_reducible refine goL_split (fun _ => ?_) (fun _ => ?_) <;> simp) | with_reducible refine And.intro ?_ ?_ | with_reducible exact okay_rfl rfl | omega)
  refine W_cond rfl (fun h => W_seq ?_) (fun h => W_skip ?_)
  · apply W_regS
    · intro K hK
      simp
      repeat' (first | with_reducible exact hK | (with_reducible refine goL_split (fun _ => ?_) (fun _ => ?_) <;> simp) | with_reducible refine And.intro ?_ ?_ | with_reducible exact okay_rfl rfl | omega)
    refine W_ret ?_
    simp [Fin]
    all_goals omega
  simp at h
  have hb : t.length ≤ 1048576 ∧ p.length ≤ 1048576 := by
    unfold szNo at h
    split at h
    · omega
    · split at h <;> omega
  refine W_seq (?_)
  apply W_regS
  · intro K hK
    simp
    repeat' (first | with_reducible exact hK | (with_reducible refine callQ (toNote_ok s a w t p c m) ?_; simp) | (with_reducible refine callQ (s_NoteText_ok s a w t p c m hs ha hw hc hm hb.1 hb.2) ?_; simp) | (with_reducible refine goL_split (fun _ => ?_) (fun _ => ?_) <;> simp) | with_reducible refine And.intro ?_ ?_ | with_reducible exact okay_rfl rfl | omega)
  refine W_seq (?_)
  apply W_regS
  · intro K hK
    simp
    repeat' (first | with_reducible exact hK | (with_reducible refine callQ (toNote_ok s a w t p c m) ?_; simp) | (with_reducible refine callQ (i_NoteText_ok s a w t p c m hs ha hw hc hm hb.1 hb.2) ?_; simp) | (with_reducible refine goL_split (fun _ => ?_) (fun _ => ?_) <;> simp) | with_reducible refine And.intro ?_ ?_ | with_reducible exact okay_rfl rfl | omega)
  refine W_seq (W_seq (?_))
  apply W_regS
  · intro K hK
    simp
    repeat' (first | with_reducible exact hK | (with_reducible refine goL_split (fun _ => ?_) (fun _ => ?_) <;> simp) | with_reducible refine And.intro ?_ ?_ | with_reducible exact okay_rfl rfl | omega)
  refine W_cond rfl (fun h => W_seq ?_) (fun h => W_skip ?_)
  · simp at h
  refine W_seq (?_)
  apply W_regS
  · intro K hK
    simp
    repeat' (first | with_reducible exact hK | (with_reducible refine goL_split (fun _ => ?_) (fun _ => ?_) <;> simp) | with_reducible refine And.intro ?_ ?_ | with_reducible exact okay_rfl rfl | omega)
  refine W_ret ?_
  simp [Fin]
  all_goals omega

end Go.Proofs.YtjdepagpjkoglaaDoor.Ab

