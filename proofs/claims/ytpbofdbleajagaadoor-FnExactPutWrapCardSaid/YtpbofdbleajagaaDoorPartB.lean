/-
  A part of a proof about the given program; what is proved is said where each theorem stands.
-/
import Derived.Test.YtpbofdbleajagaaDoorFrameA
import Derived.Test.YtpbofdbleajagaaDoorFrameB
import Derived.Test.YtpbofdbleajagaaDoorFrameC
import Derived.Test.YtpbofdbleajagaaDoorFrameD
import Derived.Test.YtpbofdbleajagaaDoorFrameE
import Derived.Test.YtpbofdbleajagaaDoorShelf
import Derived.Test.YtpbofdbleajagaaDoorShelfB
import Derived.Test.YtpbofdbleajagaaDoorCodesM
import Derived.Test.YtpbofdbleajagaaDoorPartA
namespace Go.Proofs
end Go.Proofs
set_option linter.unusedSimpArgs false
set_option linter.unusedVariables false
set_option maxRecDepth 100000
set_option maxHeartbeats 2000000
namespace Go.Proofs.YtpbofdbleajagaaDoor.Ab
open Go.Proofs
variable {GG : GV}

theorem ofBytes_bytesD (s : List UInt8) : ofBytes (bytesD s) = some s := by
  induction s with
  | nil => rfl
  | cons x s ih => simp [bytesD, ofBytes] at ih ⊢; exact ih

theorem strOf_bytesD (s : List UInt8) : strOf (.slc 1 (bytesD s)) = out (.d (.str s)) := by
  cases s with
  | nil => rfl
  | cons x s => simp only [strOf, ofBytes_bytesD]; simp [bytesD]

theorem digs_len (n : Nat) : (digs n).length ≤ n := by
  induction n using Nat.strongRecOn with
  | _ n ih =>
    rw [digs]
    split
    · simp
    · have := ih (n / 10) (by omega)
      simp; omega

theorem u8_digit (n : Nat) : IntKind.u8.wrap (IntKind.i64.wrap (48 + ((n % 10 : Nat) : Int))) = ((UInt8.ofNat (48 + n % 10)).toNat : Int) := by
  rw [wrap_id (by omega) (by omega), IntKind.wrap_u8, UInt8.toNat_ofNat']
  have : (48 + n % 10) % 2 ^ 8 = 48 + n % 10 := by omega
  rw [this]; omega

theorem bytes_one (v : UInt8) : [[D.int .u8 v.toNat]] = bytesD [v] := rfl

theorem markText_ok (k : Int) (hk : k ≤ 4611686018427387904) : Valid PP GG F_L_markText [.d (.int .i64 k)] (.d (.str (markT k))) [none] := by
  refine v_L_markText [.d (.str (markT k))] rfl rfl ?_
  refine W_seq (?_)
  apply W_regS
  · intro K hK
    simp
    repeat' (first | with_reducible exact hK | (with_reducible refine goL_split (fun _ => ?_) (fun _ => ?_) <;> simp) | with_reducible refine And.intro ?_ ?_ | with_reducible exact okay_rfl rfl | with_reducible assumption | omega)
  refine W_seq (W_seq (?_))
  apply W_regS
  · intro K hK
    simp
    repeat' (first | with_reducible exact hK | (with_reducible refine goL_split (fun _ => ?_) (fun _ => ?_) <;> simp) | with_reducible refine And.intro ?_ ?_ | with_reducible exact okay_rfl rfl | with_reducible assumption | omega)
  refine W_cond rfl (fun h => W_seq ?_) (fun h => W_skip ?_)
  · simp at h
    apply W_regS
    · intro K hK
      simp
      repeat' (first | with_reducible exact hK | (with_reducible refine goL_split (fun _ => ?_) (fun _ => ?_) <;> simp) | with_reducible refine And.intro ?_ ?_ | with_reducible exact okay_rfl rfl | with_reducible assumption | omega)
    have : markT k = [109, 48] := by unfold markT; rw [if_pos h]
    refine W_ret ?_
    simp [Fin, this]
    all_goals omega
  simp at h
  refine W_seq (?_)
  apply W_regS
  · intro K hK
    simp
    repeat' (first | with_reducible exact hK | (with_reducible refine goL_split (fun _ => ?_) (fun _ => ?_) <;> simp) | with_reducible refine And.intro ?_ ?_ | with_reducible exact okay_rfl rfl | with_reducible assumption | omega)
  refine W_seq (?_)
  refine W_block (W_loop (fun n st => ∃ (m : Nat) (out : List UInt8), n = m ∧ digs m ++ out = digs k.toNat ∧ (m : Int) ≤ k ∧
    st = ⟨[], [(0, .d (.int .i64 m)), (3, .d (.str out))], [], 0⟩) _ ⟨k.toNat, [], rfl, by simp, by omega, by simp [gc, closeN, liveA, gcV, gcO, renA, namesAs, namesA]; omega⟩ ?_)
  rintro m st ⟨m', out, rfl, he, hm, rfl⟩
  refine W_seq (W_seq (?_))
  apply W_regS
  · intro K hK
    simp
    repeat' (first | with_reducible exact hK | (with_reducible refine goL_split (fun _ => ?_) (fun _ => ?_) <;> simp) | with_reducible refine And.intro ?_ ?_ | with_reducible exact okay_rfl rfl | with_reducible assumption | omega)
  refine W_cond rfl (fun h2 => W_skip ?_) (fun h2 => W_exit ?_)
  · simp at h2
    have hd := u8_digit m
    have hl : out.length ≤ 4611686018427387904 := by
      have h1 := digs_len k.toNat
      rw [← he] at h1
      simp at h1
      omega
    have ht : ((m : Int).tmod 10) = ((m % 10 : Nat) : Int) := rfl
    have hq : IntKind.i64.wrap ((m : Int).tdiv 10) = ((m / 10 : Nat) : Int) := by
      have : (m : Int).tdiv 10 = ((m / 10 : Nat) : Int) := rfl
      rw [this]; exact wrap_id (by omega) (by omega)
    obtain ⟨r, hr⟩ : ∃ r : Nat, r = m % 10 := ⟨_, rfl⟩
    obtain ⟨q, hqq⟩ : ∃ q : Nat, q = m / 10 := ⟨_, rfl⟩
    rw [← hr] at hd ht
    rw [← hqq] at hq
    obtain ⟨v, hv⟩ : ∃ v, v = UInt8.ofNat (48 + r) := ⟨_, rfl⟩
    rw [← hv] at hd
    simp at hq
    refine W_block (W_seq ?_)
    apply W_regS
    · intro K hK
      simp [ht, hd, litA, bytes_one, strOf_bytesD, maxStr]
      repeat' (first | with_reducible exact hK | (with_reducible refine goL_split (fun _ => ?_) (fun _ => ?_) <;> simp [ht, hd, litA, bytes_one, strOf_bytesD, maxStr]) | with_reducible refine And.intro ?_ ?_ | with_reducible exact okay_rfl rfl | with_reducible assumption | omega)
    apply W_regS
    · intro K hK
      simp [hq]
      repeat' (first | with_reducible exact hK | (with_reducible refine goL_split (fun _ => ?_) (fun _ => ?_) <;> simp [hq]) | with_reducible refine And.intro ?_ ?_ | with_reducible exact okay_rfl rfl | with_reducible assumption | omega)
    refine ⟨q, by omega, q, v :: out, rfl, ?_, by omega, by simp [gc, closeN, liveA, gcV, gcO, renA, namesAs, namesA]⟩
    rw [← he, digs.eq_1 m, dif_neg (by omega), ← hqq, ← hr, ← hv]
    simp
  · simp at h2
    rw [if_pos rfl]
    have : m = 0 := by omega
    subst this
    have hz : digs 0 = [] := by rw [digs]; simp
    rw [hz, List.nil_append] at he
    have hl : out.length ≤ 4611686018427387904 := by
      have h1 := digs_len k.toNat
      rw [← he] at h1
      omega
    refine W_seq (?_)
    apply W_regS
    · intro K hK
      simp [maxStr]
      repeat' (first | with_reducible exact hK | (with_reducible refine goL_split (fun _ => ?_) (fun _ => ?_) <;> simp [maxStr]) | with_reducible refine And.intro ?_ ?_ | with_reducible exact okay_rfl rfl | with_reducible assumption | omega)
    have : markT k = 109 :: out := by unfold markT; rw [if_neg (by omega), he]
    refine W_ret ?_
    simp [Fin, this]
    all_goals omega

theorem marksByte_len (k : Int) (n : Nat) : (marksByte k n).length = n := by simp [marksByte]

theorem byte_of (z : Int) : IntKind.u8.wrap z = ((UInt8.ofNat (z % 256).toNat).toNat : Int) := by
  rw [IntKind.wrap_u8, UInt8.toNat_ofNat']
  omega

theorem marksByte_succ (k : Int) (n : Nat) : bytesD (marksByte k (n + 1)) = bytesD (marksByte k n) ++ [[.int .u8 (IntKind.u8.wrap (k + n))]] := by
  simp [marksByte, List.range_succ, bytesD, byte_of]

theorem marksByte_get (k : Int) {n i : Nat} (h : i < n) : (bytesD (marksByte k n))[i]? = some [.int .u8 (IntKind.u8.wrap (k + i))] := by
  simp [marksByte, h, bytesD, byte_of]

theorem markByteS_ok (rows : List (List D)) (k : Int) (h0 : ∀ r, r ∈ rows → r.length = 1) (h1 : rows.length ≤ 281474976710656) (h2 : 0 ≤ k ∧ k ≤ 281474976710656000) :
    Valid PP GG F_L_markByteS [.own 0 1 rows, .d (.int .i64 k)] (.d (.int .i64 (k + rows.length))) [some (.own 0 1 (bytesD (marksByte k rows.length))), none] := by
  refine v_L_markByteS [.d (.int .i64 (k + rows.length))] rfl rfl ?_
  refine W_seq (?_)
  apply W_regS
  · intro K hK
    simp
    repeat' (first | with_reducible exact hK | (with_reducible refine goL_split (fun _ => ?_) (fun _ => ?_) <;> simp) | with_reducible refine And.intro ?_ ?_ | with_reducible exact okay_rfl rfl | with_reducible assumption | omega)
  refine W_seq (W_seq (?_))
  apply W_regS
  · intro K hK
    simp
    repeat' (first | with_reducible exact hK | (with_reducible refine goL_split (fun _ => ?_) (fun _ => ?_) <;> simp) | with_reducible refine And.intro ?_ ?_ | with_reducible exact okay_rfl rfl | with_reducible assumption | omega)
  refine W_block (W_loop (fun n st => ∃ (i : Nat) (R : List (List D)), n = rows.length - i ∧ i ≤ rows.length ∧ R.length = rows.length ∧ (∀ r, r ∈ R → r.length = 1) ∧ R.take i = bytesD (marksByte k i) ∧
    st = ⟨[], [(0, .sl 0), (1, .d (.int .i64 (k + i))), (5, .d (.int .i64 i))], [(0, .arr 0 0 1 R)], 1⟩) _ ⟨0, rows, rfl, by omega, rfl, h0, rfl, by simp [gc, closeN, liveA, gcV, gcO, renA, renO, namesAs, namesA, namesO, posn]⟩ ?_)
  rintro n st ⟨i, R, rfl, hi, hl, h3, hR, rfl⟩
  refine W_seq (W_seq (?_))
  apply W_regS
  · intro K hK
    simp
    repeat' (first | with_reducible exact hK | (with_reducible refine goL_split (fun _ => ?_) (fun _ => ?_) <;> simp) | with_reducible refine And.intro ?_ ?_ | with_reducible exact okay_rfl rfl | with_reducible assumption | omega)
  refine W_cond rfl (fun h => W_skip ?_) (fun h => W_exit ?_)
  · simp [hl] at h
    obtain ⟨d, hd⟩ := row_one h3 (show i < R.length by omega)
    refine W_seq (W_block (W_seq ?_))
    apply W_regS
    · intro K hK
      simp [hd, hl]
      repeat' (first | with_reducible exact hK | (with_reducible refine goL_split (fun _ => ?_) (fun _ => ?_) <;> simp [hd, hl]) | with_reducible refine And.intro ?_ ?_ | with_reducible exact okay_rfl rfl | with_reducible assumption | omega)
    have hw : IntKind.i64.wrap (k + i + 1) = k + i + 1 := wrap_id (by omega) (by omega)
    apply W_regS
    · intro K hK
      simp [hw]
      repeat' (first | with_reducible exact hK | (with_reducible refine goL_split (fun _ => ?_) (fun _ => ?_) <;> simp [hw]) | with_reducible refine And.intro ?_ ?_ | with_reducible exact okay_rfl rfl | with_reducible assumption | omega)
    apply W_regS
    · intro K hK
      simp
      repeat' (first | with_reducible exact hK | (with_reducible refine goL_split (fun _ => ?_) (fun _ => ?_) <;> simp) | with_reducible refine And.intro ?_ ?_ | with_reducible exact okay_rfl rfl | with_reducible assumption | omega)
    exact ⟨rows.length - (i + 1), by omega, i + 1, R.set i [.int .u8 (IntKind.u8.wrap (k + i))], rfl, h, by simpa using hl, set_one h3, by rw [take_set_succ (by omega), hR, marksByte_succ],
      by simp [gc, closeN, liveA, gcV, gcO, renA, renO, namesAs, namesA, namesO, posn]; exact ⟨by omega, wrap_id (by omega) (by omega)⟩⟩
  · simp [hl] at h
    have e : R = bytesD (marksByte k rows.length) := by
      have : i = rows.length := by omega
      subst this
      rwa [List.take_of_length_le (by omega)] at hR
    have hi' : i = rows.length := by omega
    subst e
    rw [if_pos rfl]
    refine W_seq (?_)
    apply W_regS
    · intro K hK
      simp
      repeat' (first | with_reducible exact hK | (with_reducible refine goL_split (fun _ => ?_) (fun _ => ?_) <;> simp) | with_reducible refine And.intro ?_ ?_ | with_reducible exact okay_rfl rfl | with_reducible assumption | omega)
    refine W_ret ?_
    simp [Fin, hi']
    all_goals omega

theorem heldByteS_ok (n : Nat) (k : Int) (h1 : n ≤ 281474976710656) (h2 : 0 ≤ k ∧ k ≤ 281474976710656000) :
    Valid PP GG F_L_heldByteS [.d (.slc 1 (bytesD (marksByte k n))), .d (.int .i64 k)] (.d (.int .i64 (k + n))) [none, none] := by
  refine v_L_heldByteS [.d (.int .i64 (k + n))] rfl rfl ?_
  have hl : (bytesD (marksByte k n)).length = n := by simp [marksByte_len]
  have hl2 := marksByte_len k n
  have hget : ∀ i : Nat, i < n → (bytesD (marksByte k n))[i]? = some [.int .u8 (IntKind.u8.wrap (k + i))] := fun i h => marksByte_get k h
  generalize bytesD (marksByte k n) = B at hl hget ⊢
  refine W_seq (?_)
  apply W_regS
  · intro K hK
    simp
    repeat' (first | with_reducible exact hK | (with_reducible refine goL_split (fun _ => ?_) (fun _ => ?_) <;> simp) | with_reducible refine And.intro ?_ ?_ | with_reducible exact okay_rfl rfl | with_reducible assumption | omega)
  refine W_seq (W_seq (?_))
  apply W_regS
  · intro K hK
    simp
    repeat' (first | with_reducible exact hK | (with_reducible refine goL_split (fun _ => ?_) (fun _ => ?_) <;> simp) | with_reducible refine And.intro ?_ ?_ | with_reducible exact okay_rfl rfl | with_reducible assumption | omega)
  refine W_block (W_loop (fun m st => ∃ (i : Nat), m = n - i ∧ i ≤ n ∧
    st = ⟨[], [(0, .d (.slc 1 B)), (1, .d (.int .i64 (k + i))), (5, .d (.int .i64 i))], [], 0⟩) _ ⟨0, rfl, by omega, by simp [gc, closeN, liveA, gcV, gcO, renA, renO, namesAs, namesA, namesO, posn]⟩ ?_)
  rintro m st ⟨i, rfl, hi, rfl⟩
  refine W_seq (W_seq (?_))
  apply W_regS
  · intro K hK
    simp
    repeat' (first | with_reducible exact hK | (with_reducible refine goL_split (fun _ => ?_) (fun _ => ?_) <;> simp) | with_reducible refine And.intro ?_ ?_ | with_reducible exact okay_rfl rfl | with_reducible assumption | omega)
  refine W_cond rfl (fun h => W_skip ?_) (fun h => W_exit ?_)
  · simp [hl] at h
    have ha := hget i h
    refine W_seq (W_block (W_seq (W_seq ?_)))
    apply W_regS
    · intro K hK
      simp [ha, hl]
      repeat' (first | with_reducible exact hK | (with_reducible refine goL_split (fun _ => ?_) (fun _ => ?_) <;> simp [ha, hl]) | with_reducible refine And.intro ?_ ?_ | with_reducible exact okay_rfl rfl | with_reducible assumption | omega)
    refine W_cond rfl (fun h4 => ?_) (fun h4 => W_skip ?_)
    · simp at h4
    have hw : IntKind.i64.wrap (k + i + 1) = k + i + 1 := wrap_id (by omega) (by omega)
    apply W_regS
    · intro K hK
      simp [hw]
      repeat' (first | with_reducible exact hK | (with_reducible refine goL_split (fun _ => ?_) (fun _ => ?_) <;> simp [hw]) | with_reducible refine And.intro ?_ ?_ | with_reducible exact okay_rfl rfl | with_reducible assumption | omega)
    apply W_regS
    · intro K hK
      simp
      repeat' (first | with_reducible exact hK | (with_reducible refine goL_split (fun _ => ?_) (fun _ => ?_) <;> simp) | with_reducible refine And.intro ?_ ?_ | with_reducible exact okay_rfl rfl | with_reducible assumption | omega)
    exact ⟨n - (i + 1), by omega, i + 1, rfl, h, by simp [gc, closeN, liveA, gcV, gcO, renA, renO, namesAs, namesA, namesO, posn]; exact ⟨by omega, wrap_id (by omega) (by omega)⟩⟩
  · simp [hl] at h
    have hi' : i = n := by omega
    rw [if_pos rfl]
    refine W_seq (?_)
    apply W_regS
    · intro K hK
      simp
      repeat' (first | with_reducible exact hK | (with_reducible refine goL_split (fun _ => ?_) (fun _ => ?_) <;> simp) | with_reducible refine And.intro ?_ ?_ | with_reducible exact okay_rfl rfl | with_reducible assumption | omega)
    refine W_ret ?_
    simp [Fin, hi']
    all_goals omega

theorem markWrapS_g (a : List GWrap) (k : Int) (hx : a.length + sumBy GWrap.cost a ≤ 1099511627776) (hk : 0 ≤ k ∧ k + (sumBy GWrap.marks a : Nat) ≤ 140737488355328) :
    Valid PP GG F_L_markWrapS [.own 1 6 (rWrap a), .d (.int .i64 k)] (.d (.int .i64 (k + (sumBy GWrap.marks a : Nat)))) [some (.own 1 6 (rWrap (markL GWrap.mark GWrap.marks a k))), none] := by
  refine v_L_markWrapS [.d (.int .i64 (k + (sumBy GWrap.marks a : Nat)))] rfl rfl ?_
  have hml := sumBy_le GWrap.marks_le a
  refine W_seq (?_)
  apply W_regS
  · intro K hK
    simp
    repeat' (first | with_reducible exact hK | (with_reducible refine goL_split (fun _ => ?_) (fun _ => ?_) <;> simp) | with_reducible refine And.intro ?_ ?_ | with_reducible exact okay_rfl rfl | with_reducible assumption | omega)
  refine W_seq (W_seq (?_))
  apply W_regS
  · intro K hK
    simp
    repeat' (first | with_reducible exact hK | (with_reducible refine goL_split (fun _ => ?_) (fun _ => ?_) <;> simp) | with_reducible refine And.intro ?_ ?_ | with_reducible exact okay_rfl rfl | with_reducible assumption | omega)
  refine W_block (W_loop (fun n st => ∃ (i : Nat) (R : List (List D)) (q : Int), n = a.length - i ∧ i ≤ a.length ∧ R = rWrap (markL GWrap.mark GWrap.marks (a.take i) k ++ a.drop i) ∧ q = k + (sumBy GWrap.marks (a.take i) : Nat) ∧
    st = ⟨[], [(0, .sl 0), (1, .d (.int .i64 q)), (5, .d (.int .i64 i))], [(0, .arr 0 1 6 R)], 1⟩) _ ⟨0, rWrap a, k, rfl, by omega, rfl, by simp [sumBy], by simp [gc, closeN, liveA, gcV, gcO, renA, renO, namesAs, namesA, namesO, posn]⟩ ?_)
  rintro n st ⟨i, R, q, rfl, hi, hR, hq, rfl⟩
  have hl : R.length = a.length := by rw [hR]; simp [markL_len]; omega
  refine W_seq (W_seq (?_))
  apply W_regS
  · intro K hK
    simp
    repeat' (first | with_reducible exact hK | (with_reducible refine goL_split (fun _ => ?_) (fun _ => ?_) <;> simp) | with_reducible refine And.intro ?_ ?_ | with_reducible exact okay_rfl rfl | with_reducible assumption | omega)
  refine W_cond rfl (fun h => W_skip ?_) (fun h => W_exit ?_)
  · simp [hl] at h
    have ha := List.getElem?_eq_getElem h
    generalize a[i] = x at ha
    have hg := sumBy_get (f := GWrap.cost) ha
    have hs := sumBy_succ (f := GWrap.marks) ha
    have ht := sumBy_take GWrap.marks a (i + 1)
    have hsucc : R.set i (x.mark q).row = rWrap (markL GWrap.mark GWrap.marks (a.take (i + 1)) k ++ a.drop (i + 1)) := by
      rw [hR, drop_get ha, rWrap_app]
      show (rWrap (markL GWrap.mark GWrap.marks (a.take i) k) ++ x.row :: rWrap (a.drop (i + 1))).set i (x.mark q).row = _
      rw [set_mid (by simp [markL_len]; omega), markL_succ k ha, rWrap_app, rWrap_app, hq]; rfl
    have hd : R[i]? = some x.row := by
      rw [hR, drop_get ha, rWrap_app]
      exact mid_get (by simp [markL_len]; omega)
    have hset := fun y => set_get hd y
    have hme : x.mark q = { fId := q, fEnds := q + 1, fKind := markT (q + 1 + 1), fBox := x.fBox.mark (q + 1 + 1 + 1) } := rfl
    have hms : x.marks = 1 + 1 + 1 + x.fBox.marks := rfl
    have hco : x.cost = x.fKind.length + x.fBox.cost := rfl
    have hcox_fBox : x.fBox.cost = x.fBox.fData.length := rfl
    have hmsx_fBox : x.fBox.marks = 1 + x.fBox.fData.length + 1 := rfl
    have hmex_fBox : ∀ z, x.fBox.mark z = { fNonce := z, fData := marksByte (z + 1) x.fBox.fData.length, fTag := z + 1 + ((x.fBox.fData.length : Nat) : Int) } := fun _ => rfl
    clear hR
    refine W_seq (W_block (W_seq ?_))
    simp only [GWrap.row] at hd
    apply W_regS
    · intro K hK
      simp [hd, hset, hl]
      repeat' (first | with_reducible exact hK | (with_reducible refine goL_split (fun _ => ?_) (fun _ => ?_) <;> simp [hd, hset, hl]) | with_reducible refine And.intro ?_ ?_ | with_reducible exact okay_rfl rfl | with_reducible assumption | omega)
    obtain ⟨q1, hq1⟩ : ∃ z : Int, q + 1 = z := ⟨_, rfl⟩
    have wq1 : IntKind.i64.wrap (q + 1) = q1 := by rw [wrap_id (by omega) (by omega)]; exact hq1
    refine W_seq (?_)
    apply W_regS
    · intro K hK
      simp [wq1]
      repeat' (first | with_reducible exact hK | (with_reducible refine goL_split (fun _ => ?_) (fun _ => ?_) <;> simp [wq1]) | with_reducible refine And.intro ?_ ?_ | with_reducible exact okay_rfl rfl | with_reducible assumption | omega)
    refine W_seq (?_)
    apply W_regS
    · intro K hK
      simp [hd, hset, hl]
      repeat' (first | with_reducible exact hK | (with_reducible refine goL_split (fun _ => ?_) (fun _ => ?_) <;> simp [hd, hset, hl]) | with_reducible refine And.intro ?_ ?_ | with_reducible exact okay_rfl rfl | with_reducible assumption | omega)
    obtain ⟨q2, hq2⟩ : ∃ z : Int, q1 + 1 = z := ⟨_, rfl⟩
    have wq2 : IntKind.i64.wrap (q1 + 1) = q2 := by rw [wrap_id (by omega) (by omega)]; exact hq2
    refine W_seq (?_)
    apply W_regS
    · intro K hK
      simp [wq2]
      repeat' (first | with_reducible exact hK | (with_reducible refine goL_split (fun _ => ?_) (fun _ => ?_) <;> simp [wq2]) | with_reducible refine And.intro ?_ ?_ | with_reducible exact okay_rfl rfl | with_reducible assumption | omega)
    refine W_seq (?_)
    apply W_regS
    · intro K hK
      simp [hd, hset, hl]
      repeat' (first | with_reducible exact hK | (with_reducible refine callQ (markText_ok q2 (by omega)) ?_; simp [hd, hset, hl]) | (with_reducible refine goL_split (fun _ => ?_) (fun _ => ?_) <;> simp [hd, hset, hl]) | with_reducible refine And.intro ?_ ?_ | with_reducible exact okay_rfl rfl | with_reducible assumption | omega)
    obtain ⟨q3, hq3⟩ : ∃ z : Int, q2 + 1 = z := ⟨_, rfl⟩
    have wq3 : IntKind.i64.wrap (q2 + 1) = q3 := by rw [wrap_id (by omega) (by omega)]; exact hq3
    refine W_seq (?_)
    apply W_regS
    · intro K hK
      simp [wq3]
      repeat' (first | with_reducible exact hK | (with_reducible refine goL_split (fun _ => ?_) (fun _ => ?_) <;> simp [wq3]) | with_reducible refine And.intro ?_ ?_ | with_reducible exact okay_rfl rfl | with_reducible assumption | omega)
    refine W_seq (?_)
    apply W_regS
    · intro K hK
      simp [hd, hset, hl]
      repeat' (first | with_reducible exact hK | (with_reducible refine goL_split (fun _ => ?_) (fun _ => ?_) <;> simp [hd, hset, hl]) | with_reducible refine And.intro ?_ ?_ | with_reducible exact okay_rfl rfl | with_reducible assumption | omega)
    obtain ⟨q4, hq4⟩ : ∃ z : Int, q3 + 1 = z := ⟨_, rfl⟩
    have wq4 : IntKind.i64.wrap (q3 + 1) = q4 := by rw [wrap_id (by omega) (by omega)]; exact hq4
    refine W_seq (?_)
    apply W_regS
    · intro K hK
      simp [wq4]
      repeat' (first | with_reducible exact hK | (with_reducible refine goL_split (fun _ => ?_) (fun _ => ?_) <;> simp [wq4]) | with_reducible refine And.intro ?_ ?_ | with_reducible exact okay_rfl rfl | with_reducible assumption | omega)
    have ct := markByteS_ok (GG := GG) (bytesD x.fBox.fData) q4 (by simp [bytesD]) (by simp; omega) (by omega)
    simp only [bytesD_len] at ct
    obtain ⟨q5, hq5⟩ : ∃ z : Int, q4 + x.fBox.fData.length = z := ⟨_, rfl⟩
    rw [hq5] at ct
    refine W_seq (?_)
    apply W_regS
    · intro K hK
      simp [hd, hset, hl]
      repeat' (first | with_reducible exact hK | (with_reducible refine callQ (ct) ?_; simp [hd, hset, hl]) | (with_reducible refine goL_split (fun _ => ?_) (fun _ => ?_) <;> simp [hd, hset, hl]) | with_reducible refine And.intro ?_ ?_ | with_reducible exact okay_rfl rfl | with_reducible assumption | omega)
    clear ct
    refine W_seq (?_)
    apply W_regS
    · intro K hK
      simp [hd, hset, hl]
      repeat' (first | with_reducible exact hK | (with_reducible refine goL_split (fun _ => ?_) (fun _ => ?_) <;> simp [hd, hset, hl]) | with_reducible refine And.intro ?_ ?_ | with_reducible exact okay_rfl rfl | with_reducible assumption | omega)
    obtain ⟨q6, hq6⟩ : ∃ z : Int, q5 + 1 = z := ⟨_, rfl⟩
    have wq6 : IntKind.i64.wrap (q5 + 1) = q6 := by rw [wrap_id (by omega) (by omega)]; exact hq6
    apply W_regS
    · intro K hK
      simp [wq6]
      repeat' (first | with_reducible exact hK | (with_reducible refine goL_split (fun _ => ?_) (fun _ => ?_) <;> simp [wq6]) | with_reducible refine And.intro ?_ ?_ | with_reducible exact okay_rfl rfl | with_reducible assumption | omega)
    apply W_regS
    · intro K hK
      simp
      repeat' (first | with_reducible exact hK | (with_reducible refine goL_split (fun _ => ?_) (fun _ => ?_) <;> simp) | with_reducible refine And.intro ?_ ?_ | with_reducible exact okay_rfl rfl | with_reducible assumption | omega)
    refine ⟨a.length - (i + 1), by omega, i + 1, R.set i (x.mark q).row, q6, rfl, h, hsucc, by omega, ?_⟩
    simp [gc, closeN, liveA, gcV, gcO, renA, renO, namesAs, namesA, namesO, posn]
    refine ⟨wrap_id (by omega) (by omega), ?_⟩
    simp only [hme, hmex_fBox, hq1, hq2, hq3, hq4, hq5, hq6]
  · simp [hl] at h
    have e : R = rWrap (markL GWrap.mark GWrap.marks a k) := by
      rw [List.take_of_length_le h, List.drop_eq_nil_of_le h] at hR; simpa using hR
    rw [List.take_of_length_le h] at hq
    subst e
    rw [if_pos rfl]
    refine W_seq (?_)
    apply W_regS
    · intro K hK
      simp
      repeat' (first | with_reducible exact hK | (with_reducible refine goL_split (fun _ => ?_) (fun _ => ?_) <;> simp) | with_reducible refine And.intro ?_ ?_ | with_reducible exact okay_rfl rfl | with_reducible assumption | omega)
    subst hq
    refine W_ret ?_
    simp [Fin]
    all_goals omega

theorem heldWrapS_g (a : List GWrap) (k : Int) (hx : a.length + sumBy GWrap.cost a ≤ 1099511627776) (hk : 0 ≤ k ∧ k + (sumBy GWrap.marks a : Nat) ≤ 140737488355328) :
    Valid PP GG F_L_heldWrapS [.d (.slc 6 (rWrap (markL GWrap.mark GWrap.marks a k))), .d (.int .i64 k)] (.d (.int .i64 (k + (sumBy GWrap.marks a : Nat)))) [none, none] := by
  refine v_L_heldWrapS [.d (.int .i64 (k + (sumBy GWrap.marks a : Nat)))] rfl rfl ?_
  have hl : (rWrap (markL GWrap.mark GWrap.marks a k)).length = a.length := by simp [markL_len]
  have hget : ∀ (i : Nat) x, a[i]? = some x → (rWrap (markL GWrap.mark GWrap.marks a k))[i]? = some (x.mark (k + (sumBy GWrap.marks (a.take i) : Nat))).row := fun i x h => by rw [rWrap_get, markL_get k h]; rfl
  generalize rWrap (markL GWrap.mark GWrap.marks a k) = B at hl hget ⊢
  refine W_seq (?_)
  apply W_regS
  · intro K hK
    simp
    repeat' (first | with_reducible exact hK | (with_reducible refine goL_split (fun _ => ?_) (fun _ => ?_) <;> simp) | with_reducible refine And.intro ?_ ?_ | with_reducible exact okay_rfl rfl | with_reducible assumption | omega)
  refine W_seq (W_seq (?_))
  apply W_regS
  · intro K hK
    simp
    repeat' (first | with_reducible exact hK | (with_reducible refine goL_split (fun _ => ?_) (fun _ => ?_) <;> simp) | with_reducible refine And.intro ?_ ?_ | with_reducible exact okay_rfl rfl | with_reducible assumption | omega)
  refine W_block (W_loop (fun n st => ∃ (i : Nat) (q : Int), n = a.length - i ∧ i ≤ a.length ∧ q = k + (sumBy GWrap.marks (a.take i) : Nat) ∧
    st = ⟨[], [(0, .d (.slc 6 B)), (1, .d (.int .i64 q)), (5, .d (.int .i64 i))], [], 0⟩) _ ⟨0, k, rfl, by omega, by simp [sumBy], by simp [gc, closeN, liveA, gcV, gcO, renA, renO, namesAs, namesA, namesO, posn]⟩ ?_)
  rintro n st ⟨i, q, rfl, hi, hq, rfl⟩
  refine W_seq (W_seq (?_))
  apply W_regS
  · intro K hK
    simp
    repeat' (first | with_reducible exact hK | (with_reducible refine goL_split (fun _ => ?_) (fun _ => ?_) <;> simp) | with_reducible refine And.intro ?_ ?_ | with_reducible exact okay_rfl rfl | with_reducible assumption | omega)
  refine W_cond rfl (fun h => W_skip ?_) (fun h => W_exit ?_)
  · simp [hl] at h
    have ha := List.getElem?_eq_getElem h
    generalize a[i] = x at ha
    have hg := sumBy_get (f := GWrap.cost) ha
    have hs := sumBy_succ (f := GWrap.marks) ha
    have ht := sumBy_take GWrap.marks a (i + 1)
    have hd := hget i x ha
    rw [← hq] at hd
    have hco : x.cost = x.fKind.length + x.fBox.cost := rfl
    have hms : x.marks = 1 + 1 + 1 + x.fBox.marks := rfl
    have hcox_fBox : x.fBox.cost = x.fBox.fData.length := rfl
    have hmsx_fBox : x.fBox.marks = 1 + x.fBox.fData.length + 1 := rfl
    have hmex_fBox : ∀ z, x.fBox.mark z = { fNonce := z, fData := marksByte (z + 1) x.fBox.fData.length, fTag := z + 1 + ((x.fBox.fData.length : Nat) : Int) } := fun _ => rfl
    simp only [GWrap.row, GWrap.mark, GBox.mark] at hd
    refine W_seq (W_block ?_)
    refine W_seq (W_seq (?_))
    apply W_regS
    · intro K hK
      simp [hd, hl]
      repeat' (first | with_reducible exact hK | (with_reducible refine goL_split (fun _ => ?_) (fun _ => ?_) <;> simp [hd, hl]) | with_reducible refine And.intro ?_ ?_ | with_reducible exact okay_rfl rfl | with_reducible assumption | omega)
    refine W_cond rfl (fun h4 => ?_) (fun h4 => W_skip ?_)
    · simp at h4
    obtain ⟨q1, hq1⟩ : ∃ z : Int, q + 1 = z := ⟨_, rfl⟩
    have wq1 : IntKind.i64.wrap (q + 1) = q1 := by rw [wrap_id (by omega) (by omega)]; exact hq1
    refine W_seq (?_)
    apply W_regS
    · intro K hK
      simp [wq1]
      repeat' (first | with_reducible exact hK | (with_reducible refine goL_split (fun _ => ?_) (fun _ => ?_) <;> simp [wq1]) | with_reducible refine And.intro ?_ ?_ | with_reducible exact okay_rfl rfl | with_reducible assumption | omega)
    simp only [hq1] at hd
    refine W_seq (W_seq (?_))
    apply W_regS
    · intro K hK
      simp [hd, hl]
      repeat' (first | with_reducible exact hK | (with_reducible refine goL_split (fun _ => ?_) (fun _ => ?_) <;> simp [hd, hl]) | with_reducible refine And.intro ?_ ?_ | with_reducible exact okay_rfl rfl | with_reducible assumption | omega)
    refine W_cond rfl (fun h4 => ?_) (fun h4 => W_skip ?_)
    · simp at h4
    obtain ⟨q2, hq2⟩ : ∃ z : Int, q1 + 1 = z := ⟨_, rfl⟩
    have wq2 : IntKind.i64.wrap (q1 + 1) = q2 := by rw [wrap_id (by omega) (by omega)]; exact hq2
    refine W_seq (?_)
    apply W_regS
    · intro K hK
      simp [wq2]
      repeat' (first | with_reducible exact hK | (with_reducible refine goL_split (fun _ => ?_) (fun _ => ?_) <;> simp [wq2]) | with_reducible refine And.intro ?_ ?_ | with_reducible exact okay_rfl rfl | with_reducible assumption | omega)
    simp only [hq2] at hd
    refine W_seq (W_seq (?_))
    apply W_regD
    · intro K hK
      simp [hd, hl]
      repeat' (first | with_reducible exact hK | (with_reducible refine callQ (markText_ok q2 (by omega)) ?_; simp [hd, hl]) | (with_reducible refine goL_split (fun _ => ?_) (fun _ => ?_) <;> simp [hd, hl]) | with_reducible refine And.intro ?_ ?_ | with_reducible exact okay_rfl rfl | with_reducible assumption | omega)
    refine W_cond rfl (fun h4 => ?_) (fun h4 => W_skip ?_)
    · simp at h4
    obtain ⟨q3, hq3⟩ : ∃ z : Int, q2 + 1 = z := ⟨_, rfl⟩
    have wq3 : IntKind.i64.wrap (q2 + 1) = q3 := by rw [wrap_id (by omega) (by omega)]; exact hq3
    refine W_seq (?_)
    apply W_regS
    · intro K hK
      simp [wq3]
      repeat' (first | with_reducible exact hK | (with_reducible refine goL_split (fun _ => ?_) (fun _ => ?_) <;> simp [wq3]) | with_reducible refine And.intro ?_ ?_ | with_reducible exact okay_rfl rfl | with_reducible assumption | omega)
    simp only [hq3] at hd
    refine W_seq (W_seq (?_))
    apply W_regS
    · intro K hK
      simp [hd, hl]
      repeat' (first | with_reducible exact hK | (with_reducible refine goL_split (fun _ => ?_) (fun _ => ?_) <;> simp [hd, hl]) | with_reducible refine And.intro ?_ ?_ | with_reducible exact okay_rfl rfl | with_reducible assumption | omega)
    refine W_cond rfl (fun h4 => ?_) (fun h4 => W_skip ?_)
    · simp at h4
    obtain ⟨q4, hq4⟩ : ∃ z : Int, q3 + 1 = z := ⟨_, rfl⟩
    have wq4 : IntKind.i64.wrap (q3 + 1) = q4 := by rw [wrap_id (by omega) (by omega)]; exact hq4
    refine W_seq (?_)
    apply W_regS
    · intro K hK
      simp [wq4]
      repeat' (first | with_reducible exact hK | (with_reducible refine goL_split (fun _ => ?_) (fun _ => ?_) <;> simp [wq4]) | with_reducible refine And.intro ?_ ?_ | with_reducible exact okay_rfl rfl | with_reducible assumption | omega)
    simp only [hq4] at hd
    have ct := heldByteS_ok (GG := GG) x.fBox.fData.length q4 (by omega) (by omega)
    obtain ⟨q5, hq5⟩ : ∃ z : Int, q4 + x.fBox.fData.length = z := ⟨_, rfl⟩
    rw [hq5] at ct
    refine W_seq (?_)
    apply W_regS
    · intro K hK
      simp [hd, hl]
      repeat' (first | with_reducible exact hK | (with_reducible refine callQ (ct) ?_; simp [hd, hl]) | (with_reducible refine goL_split (fun _ => ?_) (fun _ => ?_) <;> simp [hd, hl]) | with_reducible refine And.intro ?_ ?_ | with_reducible exact okay_rfl rfl | with_reducible assumption | omega)
    clear ct
    simp only [hq5] at hd
    refine W_seq (W_seq (?_))
    apply W_regS
    · intro K hK
      simp
      repeat' (first | with_reducible exact hK | (with_reducible refine goL_split (fun _ => ?_) (fun _ => ?_) <;> simp) | with_reducible refine And.intro ?_ ?_ | with_reducible exact okay_rfl rfl | with_reducible assumption | omega)
    refine W_cond rfl (fun h4 => ?_) (fun h4 => W_skip ?_)
    · simp at h4; omega
    refine W_seq (W_seq (?_))
    apply W_regS
    · intro K hK
      simp [hd, hl]
      repeat' (first | with_reducible exact hK | (with_reducible refine goL_split (fun _ => ?_) (fun _ => ?_) <;> simp [hd, hl]) | with_reducible refine And.intro ?_ ?_ | with_reducible exact okay_rfl rfl | with_reducible assumption | omega)
    refine W_cond rfl (fun h4 => ?_) (fun h4 => W_skip ?_)
    · simp at h4
    obtain ⟨q6, hq6⟩ : ∃ z : Int, q5 + 1 = z := ⟨_, rfl⟩
    have wq6 : IntKind.i64.wrap (q5 + 1) = q6 := by rw [wrap_id (by omega) (by omega)]; exact hq6
    apply W_regS
    · intro K hK
      simp [wq6]
      repeat' (first | with_reducible exact hK | (with_reducible refine goL_split (fun _ => ?_) (fun _ => ?_) <;> simp [wq6]) | with_reducible refine And.intro ?_ ?_ | with_reducible exact okay_rfl rfl | with_reducible assumption | omega)
    apply W_regS
    · intro K hK
      simp
      repeat' (first | with_reducible exact hK | (with_reducible refine goL_split (fun _ => ?_) (fun _ => ?_) <;> simp) | with_reducible refine And.intro ?_ ?_ | with_reducible exact okay_rfl rfl | with_reducible assumption | omega)
    refine ⟨a.length - (i + 1), by omega, i + 1, q6, rfl, h, by omega, ?_⟩
    simp [gc, closeN, liveA, gcV, gcO, renA, renO, namesAs, namesA, namesO, posn]
    rw [wrap_id (by omega) (by omega)]
  · simp [hl] at h
    rw [List.take_of_length_le h] at hq
    rw [if_pos rfl]
    refine W_seq (?_)
    apply W_regS
    · intro K hK
      simp
      repeat' (first | with_reducible exact hK | (with_reducible refine goL_split (fun _ => ?_) (fun _ => ?_) <;> simp) | with_reducible refine And.intro ?_ ?_ | with_reducible exact okay_rfl rfl | with_reducible assumption | omega)
    subst hq
    refine W_ret ?_
    simp [Fin]
    all_goals omega

theorem markRack_g (x : GRack) (k : Int) (hx : x.cost ≤ 1099511627776) (hk : 0 ≤ k ∧ k + (x.marksIn : Nat) ≤ 140737488355328) :
    Valid PP GG F_L_markRack [.agg x.o, .d (.int .i64 k)] (.d (.int .i64 (k + (x.marksIn : Nat)))) [some (.agg (x.markIn k).o), none] := by
  refine v_L_markRack [.d (.int .i64 (k + (x.marksIn : Nat)))] rfl rfl ?_
  have hco : x.cost = (x.fWraps.length + sumBy GWrap.cost x.fWraps) := rfl
  have hms : x.marksIn = sumBy GWrap.marks x.fWraps := rfl
  refine W_seq (?_)
  apply W_regS
  · intro K hK
    simp
    repeat' (first | with_reducible exact hK | (with_reducible refine goL_split (fun _ => ?_) (fun _ => ?_) <;> simp) | with_reducible refine And.intro ?_ ?_ | with_reducible exact okay_rfl rfl | with_reducible assumption | omega)
  have ct := markWrapS_g (GG := GG) x.fWraps k (by omega) (by omega)
  refine W_seq (?_)
  apply W_regS
  · intro K hK
    simp
    repeat' (first | with_reducible exact hK | (with_reducible refine callQ (ct) ?_; simp) | (with_reducible refine goL_split (fun _ => ?_) (fun _ => ?_) <;> simp) | with_reducible refine And.intro ?_ ?_ | with_reducible exact okay_rfl rfl | with_reducible assumption | omega)
  refine W_seq (?_)
  apply W_regS
  · intro K hK
    simp
    repeat' (first | with_reducible exact hK | (with_reducible refine goL_split (fun _ => ?_) (fun _ => ?_) <;> simp) | with_reducible refine And.intro ?_ ?_ | with_reducible exact okay_rfl rfl | with_reducible assumption | omega)
  have hfin : (k + ((sumBy GWrap.marks x.fWraps : Nat) : Int)) = k + (x.marksIn : Nat) := by omega
  simp only [GRack.markIn]
  refine W_ret ?_
  simp [Fin, hfin]
  all_goals omega

theorem heldRack_g (x : GRack) (k : Int) (hx : x.cost ≤ 1099511627776) (hk : 0 ≤ k ∧ k + (x.marksIn : Nat) ≤ 140737488355328) :
    Valid PP GG F_L_heldRack [.agg (x.markIn k).c, .d (.int .i64 k)] (.d (.int .i64 (k + (x.marksIn : Nat)))) [none, none] := by
  refine v_L_heldRack [.d (.int .i64 (k + (x.marksIn : Nat)))] rfl rfl ?_
  have hco : x.cost = (x.fWraps.length + sumBy GWrap.cost x.fWraps) := rfl
  have hms : x.marksIn = sumBy GWrap.marks x.fWraps := rfl
  simp only [GRack.markIn]
  refine W_seq (?_)
  apply W_regS
  · intro K hK
    simp
    repeat' (first | with_reducible exact hK | (with_reducible refine goL_split (fun _ => ?_) (fun _ => ?_) <;> simp) | with_reducible refine And.intro ?_ ?_ | with_reducible exact okay_rfl rfl | with_reducible assumption | omega)
  have ct := heldWrapS_g (GG := GG) x.fWraps k (by omega) (by omega)
  refine W_seq (?_)
  apply W_regS
  · intro K hK
    simp
    repeat' (first | with_reducible exact hK | (with_reducible refine callQ (ct) ?_; simp) | (with_reducible refine goL_split (fun _ => ?_) (fun _ => ?_) <;> simp) | with_reducible refine And.intro ?_ ?_ | with_reducible exact okay_rfl rfl | with_reducible assumption | omega)
  refine W_seq (W_seq (?_))
  apply W_regS
  · intro K hK
    simp
    repeat' (first | with_reducible exact hK | (with_reducible refine goL_split (fun _ => ?_) (fun _ => ?_) <;> simp) | with_reducible refine And.intro ?_ ?_ | with_reducible exact okay_rfl rfl | with_reducible assumption | omega)
  refine W_cond rfl (fun h => ?_) (fun h => W_skip ?_)
  · simp at h; omega
  refine W_seq (?_)
  apply W_regS
  · intro K hK
    simp
    repeat' (first | with_reducible exact hK | (with_reducible refine goL_split (fun _ => ?_) (fun _ => ?_) <;> simp) | with_reducible refine And.intro ?_ ?_ | with_reducible exact okay_rfl rfl | with_reducible assumption | omega)
  have hfin : (k + ((sumBy GWrap.marks x.fWraps : Nat) : Int)) = k + (x.marksIn : Nat) := by omega

  refine W_ret ?_
  simp [Fin, hfin]
  all_goals omega

theorem typ_GBox {k : Nat} {ds : List D} (h : Typ Tryd.prog (k + 3) 111 ds) : ∃ x : GBox, ds = x.row ∧ x.ok := by
  obtain ⟨hl, hf⟩ := typ_struct Tryd.underlying111 h
  rw [show Tryd.prog.cellsOf 111 = 3 by kernel_rfl] at hl
  match ds, hl, hf with
  | [a0, a1, a2], _, hf =>
    obtain ⟨x0, e0, i0⟩ := typ_int (ds := [a0]) Tryd.underlying3 (typ_field hf 0 rfl (n := 1) (by kernel_rfl))
    obtain ⟨x1, e1, i1a⟩ := typ_bytes (ds := [a1]) Tryd.underlying22 Tryd.underlying5 (by kernel_rfl) (typ_field hf 1 rfl (n := 1) (by kernel_rfl))
    obtain ⟨x2, e2, i2⟩ := typ_int (ds := [a2]) Tryd.underlying3 (typ_field hf 2 rfl (n := 1) (by kernel_rfl))
    cases e0; cases e1; cases e2
    exact ⟨{ fNonce := x0, fData := x1, fTag := x2 }, rfl, ⟨i0, i1a, i2⟩⟩

theorem typ_GWrap {k : Nat} {ds : List D} (h : Typ Tryd.prog (k + 4) 113 ds) : ∃ x : GWrap, ds = x.row ∧ x.ok := by
  obtain ⟨hl, hf⟩ := typ_struct Tryd.underlying113 h
  rw [show Tryd.prog.cellsOf 113 = 6 by kernel_rfl] at hl
  match ds, hl, hf with
  | [a0, a1, a2, a3, a4, a5], _, hf =>
    obtain ⟨x0, e0, i0⟩ := typ_int (ds := [a0]) Tryd.underlying3 (typ_field hf 0 rfl (n := 1) (by kernel_rfl))
    obtain ⟨x1, e1, i1⟩ := typ_int (ds := [a1]) Tryd.underlying3 (typ_field hf 1 rfl (n := 1) (by kernel_rfl))
    obtain ⟨x2, e2, i2⟩ := typ_str (ds := [a2]) Tryd.underlying9 (typ_field hf 2 rfl (n := 1) (by kernel_rfl))
    obtain ⟨x3, e3, i3⟩ := typ_GBox (ds := [a3, a4, a5]) (typ_field hf 3 rfl (n := 3) (by kernel_rfl))
    cases e0; cases e1; cases e2; cases e3
    exact ⟨{ fId := x0, fEnds := x1, fKind := x2, fBox := x3 }, rfl, ⟨i0, i1, i2, i3⟩⟩

theorem typ_GRack {k : Nat} {ds : List D} (h : Typ Tryd.prog (k + 6) 42 ds) : ∃ x : GRack, ds = x.row ∧ x.ok := by
  obtain ⟨hl, hf⟩ := typ_struct Tryd.underlying42 h
  rw [show Tryd.prog.cellsOf 42 = 3 by kernel_rfl] at hl
  match ds, hl, hf with
  | [a0, a1, a2], _, hf =>
    obtain ⟨x0, e0, i0⟩ := typ_int (ds := [a0]) Tryd.underlying3 (typ_field hf 0 rfl (n := 1) (by kernel_rfl))
    obtain ⟨x1, e1, i1⟩ := typ_int (ds := [a1]) Tryd.underlying3 (typ_field hf 1 rfl (n := 1) (by kernel_rfl))
    obtain ⟨r2, e2, i2a, w2⟩ := typ_slc (ds := [a2]) Tryd.underlying40 (typ_field hf 2 rfl (n := 1) (by kernel_rfl))
    rw [show Tryd.prog.cellsOf 113 = 6 by kernel_rfl] at e2
    obtain ⟨x2, rfl, i2b⟩ := rows_of (p := GWrap.ok) (f := GWrap.row) r2 fun r hr => typ_GWrap (w2 r hr)
    rw [List.length_map] at i2a
    cases e0; cases e1; cases e2
    exact ⟨{ fKey := x0, fNext := x1, fWraps := x2 }, rfl, ⟨i0, i1, i2a, i2b⟩⟩

end Go.Proofs.YtpbofdbleajagaaDoor.Ab

