/-
  A part of a proof about the given program; what is proved is said where each theorem stands.
-/
import Derived.Test.YtpbofdbleajagaaDoorFrameA
import Derived.Test.YtpbofdbleajagaaDoorFrameB
import Derived.Test.YtpbofdbleajagaaDoorFrameC
import Derived.Test.YtpbofdbleajagaaDoorFrameD
import Derived.Test.YtpbofdbleajagaaDoorFrameE
import Derived.Test.YtpbofdbleajagaaDoorShelf
import Derived.Test.YtpbofdbleajagaaDoorCodesA
import Derived.Test.YtpbofdbleajagaaDoorCodesB
import Derived.Test.YtpbofdbleajagaaDoorCodesC
import Derived.Test.YtpbofdbleajagaaDoorPartA
import Derived.Test.YtpbofdbleajagaaDoorPartB
import Derived.Test.YtpbofdbleajagaaDoorPartC
import Derived.Test.YtpbofdbleajagaaDoorPartD
import Derived.Test.YtpbofdbleajagaaDoorCodesD
import Derived.Test.YtpbofdbleajagaaDoorPartF
namespace Go.Proofs
end Go.Proofs
set_option linter.unusedSimpArgs false
set_option linter.unusedVariables false
set_option maxRecDepth 100000
set_option maxHeartbeats 2000000
namespace Go.Proofs.YtpbofdbleajagaaDoor.Ab
open Go.Proofs
variable {GG : GV}

theorem l01Bytes_ok (a : List UInt8) (ha : a.length ≤ 70368744177664) : Valid PP GG F_S_l01Bytes [.d (.slc 1 (bytesD a))] (.own 0 1 (bytesD a)) [none] := by
  refine v_S_l01Bytes [.own 0 1 (bytesD a)] rfl rfl ?_
  refine W_seq (?_)
  apply W_regS
  · intro K hK
    simp
    repeat' (first | with_reducible exact hK | (with_reducible refine goL_split (fun _ => ?_) (fun _ => ?_) <;> simp) | with_reducible refine And.intro ?_ ?_ | with_reducible exact okay_rfl rfl | with_reducible assumption | omega)
  refine W_seq (?_)
  apply W_regS
  · intro K hK
    simp [litA]
    repeat' (first | with_reducible exact hK | (with_reducible refine goL_split (fun _ => ?_) (fun _ => ?_) <;> simp [litA]) | with_reducible refine And.intro ?_ ?_ | with_reducible exact okay_rfl rfl | with_reducible assumption | omega)
  refine W_seq (W_seq (?_))
  apply W_regS
  · intro K hK
    simp
    repeat' (first | with_reducible exact hK | (with_reducible refine goL_split (fun _ => ?_) (fun _ => ?_) <;> simp) | with_reducible refine And.intro ?_ ?_ | with_reducible exact okay_rfl rfl | with_reducible assumption | omega)
  refine W_block (W_loop (fun n st => ∃ i : Nat, n = a.length - i ∧ i ≤ a.length ∧
    st = ⟨[], [(0, .d (.slc 1 (bytesD a))), (3, .sl 0), (4, .d (.int .i64 i))], [(0, .arr 0 0 1 (bytesD (a.take i)))], 1⟩) _ ⟨0, rfl, by omega, rfl⟩ ?_)
  rintro n st ⟨i, rfl, hi, rfl⟩
  refine W_seq (W_seq (?_))
  apply W_regS
  · intro K hK
    simp
    repeat' (first | with_reducible exact hK | (with_reducible refine goL_split (fun _ => ?_) (fun _ => ?_) <;> simp) | with_reducible refine And.intro ?_ ?_ | with_reducible exact okay_rfl rfl | with_reducible assumption | omega)
  refine W_cond rfl (fun h => W_skip ?_) (fun h => W_exit ?_)
  · simp at h
    have hx := List.getElem?_eq_getElem h
    generalize a[i] = x at hx
    have hl : (a.take i).length ≤ a.length := by rw [List.length_take]; omega
    refine W_seq (W_block ?_)
    apply W_regS
    · intro K hK
      simp [hx, limit]
      repeat' (first | with_reducible exact hK | (with_reducible refine goL_split (fun _ => ?_) (fun _ => ?_) <;> simp [hx, limit]) | with_reducible refine And.intro ?_ ?_ | with_reducible exact okay_rfl rfl | with_reducible assumption | omega)
    apply W_regS
    · intro K hK
      simp
      repeat' (first | with_reducible exact hK | (with_reducible refine goL_split (fun _ => ?_) (fun _ => ?_) <;> simp) | with_reducible refine And.intro ?_ ?_ | with_reducible exact okay_rfl rfl | with_reducible assumption | omega)
    exact ⟨a.length - (i + 1), by omega, i + 1, rfl, h, by simp [gc, closeN, liveA, gcV, gcO, renA, renAs, renO, namesAs, namesA, namesO, posn, bytesD_succ hx]; exact wrap_id (by omega) (by omega)⟩
  · simp at h
    rw [if_pos rfl]
    refine W_seq (?_)
    apply W_regS
    · intro K hK
      simp [List.take_of_length_le h]
      repeat' (first | with_reducible exact hK | (with_reducible refine goL_split (fun _ => ?_) (fun _ => ?_) <;> simp [List.take_of_length_le h]) | with_reducible refine And.intro ?_ ?_ | with_reducible exact okay_rfl rfl | with_reducible assumption | omega)
    refine W_ret ?_
    simp [Fin]
    all_goals omega

theorem l01Join_ok (a b : List UInt8) (ha : a.length + b.length ≤ 70368744177664) : Valid PP GG F_S_l01Join [.d (.slc 1 (bytesD a)), .d (.slc 1 (bytesD b))] (.own 0 1 (bytesD (a ++ b))) [none, none] := by
  refine v_S_l01Join [.own 0 1 (bytesD (a ++ b))] rfl rfl ?_
  have cb := l01Bytes_ok (GG := GG) a (by omega)
  have happ : ∀ x y : List UInt8, bytesD (x ++ y) = bytesD x ++ bytesD y := fun x y => by simp [bytesD]
  refine W_seq (?_)
  apply W_regS
  · intro K hK
    simp
    repeat' (first | with_reducible exact hK | (with_reducible refine goL_split (fun _ => ?_) (fun _ => ?_) <;> simp) | with_reducible refine And.intro ?_ ?_ | with_reducible exact okay_rfl rfl | with_reducible assumption | omega)
  refine W_seq (?_)
  apply W_regS
  · intro K hK
    simp
    repeat' (first | with_reducible exact hK | (with_reducible refine callQ (cb) ?_; simp) | (with_reducible refine goL_split (fun _ => ?_) (fun _ => ?_) <;> simp) | with_reducible refine And.intro ?_ ?_ | with_reducible exact okay_rfl rfl | with_reducible assumption | omega)
  refine W_seq (W_seq (?_))
  apply W_regS
  · intro K hK
    simp
    repeat' (first | with_reducible exact hK | (with_reducible refine goL_split (fun _ => ?_) (fun _ => ?_) <;> simp) | with_reducible refine And.intro ?_ ?_ | with_reducible exact okay_rfl rfl | with_reducible assumption | omega)
  refine W_block (W_loop (fun n st => ∃ i : Nat, n = b.length - i ∧ i ≤ b.length ∧
    st = ⟨[], [(1, .d (.slc 1 (bytesD b))), (5, .sl 0), (6, .d (.int .i64 i))], [(0, .arr 0 0 1 (bytesD (a ++ b.take i)))], 1⟩) _ ⟨0, rfl, by omega, by simp [gc, closeN, liveA, gcV, gcO, renA, renAs, renO, namesAs, namesA, namesO, posn]⟩ ?_)
  rintro n st ⟨i, rfl, hi, rfl⟩
  refine W_seq (W_seq (?_))
  apply W_regS
  · intro K hK
    simp
    repeat' (first | with_reducible exact hK | (with_reducible refine goL_split (fun _ => ?_) (fun _ => ?_) <;> simp) | with_reducible refine And.intro ?_ ?_ | with_reducible exact okay_rfl rfl | with_reducible assumption | omega)
  refine W_cond rfl (fun h => W_skip ?_) (fun h => W_exit ?_)
  · simp at h
    have hx := List.getElem?_eq_getElem h
    generalize b[i] = x at hx
    have hl : (a ++ b.take i).length ≤ a.length + b.length := by rw [List.length_append, List.length_take]; omega
    have hs := bytesD_succ hx
    obtain ⟨w, hw⟩ : ∃ w, a ++ b.take i = w := ⟨_, rfl⟩
    have hw2 : bytesD (a ++ b.take (i + 1)) = bytesD w ++ [[.int .u8 x.toNat]] := by rw [happ, hs, ← hw, happ, List.append_assoc]
    rw [hw] at hl ⊢
    refine W_seq (W_block ?_)
    apply W_regS
    · intro K hK
      simp [hx, limit]
      repeat' (first | with_reducible exact hK | (with_reducible refine goL_split (fun _ => ?_) (fun _ => ?_) <;> simp [hx, limit]) | with_reducible refine And.intro ?_ ?_ | with_reducible exact okay_rfl rfl | with_reducible assumption | omega)
    apply W_regS
    · intro K hK
      simp
      repeat' (first | with_reducible exact hK | (with_reducible refine goL_split (fun _ => ?_) (fun _ => ?_) <;> simp) | with_reducible refine And.intro ?_ ?_ | with_reducible exact okay_rfl rfl | with_reducible assumption | omega)
    exact ⟨b.length - (i + 1), by omega, i + 1, rfl, h, by simp [gc, closeN, liveA, gcV, gcO, renA, renAs, renO, namesAs, namesA, namesO, posn, hw2]; exact wrap_id (by omega) (by omega)⟩
  · simp at h
    rw [if_pos rfl]
    refine W_seq (?_)
    apply W_regS
    · intro K hK
      simp [List.take_of_length_le h]
      repeat' (first | with_reducible exact hK | (with_reducible refine goL_split (fun _ => ?_) (fun _ => ?_) <;> simp [List.take_of_length_le h]) | with_reducible refine And.intro ?_ ?_ | with_reducible exact okay_rfl rfl | with_reducible assumption | omega)
    refine W_ret ?_
    simp [Fin]
    all_goals omega

def wideB (x : Int) (i : Nat) : UInt8 := UInt8.ofNat ((x.toNat / 2 ^ (8 * i)) % 256)

def wide (x : Int) : List UInt8 := (List.range 8).map (wideB x)

theorem wide_sh {x : Int} (hx : 0 ≤ x) {i q : Nat} (hi : i < 8) (hq : x.toNat / 2 ^ (8 * i) = q) : shBin .shr .i64 x (8 * (i : Int)) = some (.int .i64 (q : Int)) := by
  rw [shBin_shr _ _ _ (by omega)]
  have e1 : (8 * (i : Int)).toNat = 8 * i := by omega
  have e2 : min (8 * i) IntKind.i64.bits = 8 * i := by
    show min (8 * i) 64 = 8 * i
    omega
  have e4 : ((2 : Int) ^ (8 * i)) = ((2 ^ (8 * i) : Nat) : Int) := by simp
  obtain ⟨m, rfl⟩ : ∃ m : Nat, x = m := ⟨x.toNat, by omega⟩
  rw [e1, e2, e4, Int.fdiv_eq_ediv_of_nonneg _ (Int.natCast_nonneg _), ← hq]
  rfl

theorem wide_and (q : Nat) : intBin .and .i64 (q : Int) 255 = some (.int .i64 ((q % 256 : Nat) : Int)) := by
  have e : (BitVec.ofInt IntKind.i64.bits (q : Int) &&& BitVec.ofInt IntKind.i64.bits 255).toNat = q % 256 := by
    show (BitVec.ofInt 64 (q : Int) &&& 255#64).toNat = q % 256
    rw [BitVec.toNat_and, show (255#64).toNat = 2 ^ 8 - 1 from rfl, Nat.and_two_pow_sub_one_eq_mod, BitVec.ofInt_natCast, BitVec.toNat_ofNat]
    omega
  show some (D.int .i64 (IntKind.i64.wrap (((BitVec.ofInt IntKind.i64.bits (q : Int) &&& BitVec.ofInt IntKind.i64.bits 255).toNat : Nat) : Int))) = _
  rw [e, wrap_id (by omega) (by omega)]

theorem wide_u8 {x : Int} {i q : Nat} (hq : x.toNat / 2 ^ (8 * i) = q) : IntKind.u8.wrap (q : Int) = ((wideB x i).toNat : Int) := by
  unfold wideB
  rw [hq, IntKind.wrap_u8, UInt8.toNat_ofNat']; omega

theorem wide_u8' {x : Int} {i q : Nat} (hq : x.toNat / 2 ^ (8 * i) = q) : IntKind.u8.wrap ((q : Int) % 256) = ((wideB x i).toNat : Int) := by
  unfold wideB
  rw [hq, IntKind.wrap_u8, UInt8.toNat_ofNat']; omega

theorem wide_succ (x : Int) (i : Nat) : bytesD ((List.range (i + 1)).map (wideB x)) = bytesD ((List.range i).map (wideB x)) ++ [[.int .u8 (wideB x i).toNat]] := by
  simp [List.range_succ, bytesD]

theorem s_PutWide_ok (x : Int) (hk : keyB x = true) : Valid PP GG F_S_PutWide [.d (.int .i64 x)] (.own 0 1 (bytesD (wide x))) [none] := by
  refine v_S_PutWide [.own 0 1 (bytesD (wide x))] rfl rfl ?_
  have ck := l04Key_ok (GG := GG) x
  rw [hk] at ck
  have hx := inB_true hk
  refine W_seq (?_)
  apply W_regS
  · intro K hK
    simp
    repeat' (first | with_reducible exact hK | (with_reducible refine goL_split (fun _ => ?_) (fun _ => ?_) <;> simp) | with_reducible refine And.intro ?_ ?_ | with_reducible exact okay_rfl rfl | with_reducible assumption | omega)
  refine W_seq (?_)
  apply W_regS
  · intro K hK
    simp [litA]
    repeat' (first | with_reducible exact hK | (with_reducible refine goL_split (fun _ => ?_) (fun _ => ?_) <;> simp [litA]) | with_reducible refine And.intro ?_ ?_ | with_reducible exact okay_rfl rfl | with_reducible assumption | omega)
  refine W_seq (W_seq (?_))
  apply W_regS
  · intro K hK
    simp
    repeat' (first | with_reducible exact hK | (with_reducible refine callQ (ck) ?_; simp) | (with_reducible refine goL_split (fun _ => ?_) (fun _ => ?_) <;> simp) | with_reducible refine And.intro ?_ ?_ | with_reducible exact okay_rfl rfl | with_reducible assumption | omega)
  refine W_cond rfl (fun h => ?_) (fun h => W_skip ?_)
  · simp at h
  refine W_seq (W_seq (?_))
  apply W_regS
  · intro K hK
    simp
    repeat' (first | with_reducible exact hK | (with_reducible refine goL_split (fun _ => ?_) (fun _ => ?_) <;> simp) | with_reducible refine And.intro ?_ ?_ | with_reducible exact okay_rfl rfl | with_reducible assumption | omega)
  refine W_block (W_loop (fun n st => ∃ i : Nat, n = 8 - i ∧ i ≤ 8 ∧
    st = ⟨[], [(0, .d (.int .i64 x)), (3, .sl 0), (4, .d (.int .i64 i))], [(0, .arr 0 0 1 (bytesD ((List.range i).map (wideB x))))], 1⟩) _ ⟨0, rfl, by omega, rfl⟩ ?_)
  rintro n st ⟨i, rfl, hi, rfl⟩
  refine W_seq (W_seq (?_))
  apply W_regS
  · intro K hK
    simp
    repeat' (first | with_reducible exact hK | (with_reducible refine goL_split (fun _ => ?_) (fun _ => ?_) <;> simp) | with_reducible refine And.intro ?_ ?_ | with_reducible exact okay_rfl rfl | with_reducible assumption | omega)
  refine W_cond rfl (fun h => W_skip ?_) (fun h => W_exit ?_)
  · simp at h
    obtain ⟨q, hq⟩ : ∃ q : Nat, x.toNat / 2 ^ (8 * i) = q := ⟨_, rfl⟩
    have f1 := wide_sh hx.1 (by omega) hq
    have f2 := wide_and q
    have f3 := wide_u8' hq
    have f4 : IntKind.i64.wrap (8 * (i : Int)) = 8 * i := wrap_id (by omega) (by omega)
    have f5 : IntKind.u64.wrap (8 * (i : Int)) = 8 * i := by rw [IntKind.wrap_u64]; omega
    have hs := wide_succ x i
    have hl : ((List.range i).map (wideB x)).length = i := by simp
    generalize (List.range i).map (wideB x) = w at hs hl ⊢
    generalize wideB x i = b at f3 hs
    refine W_seq (W_block ?_)
    apply W_regS
    · intro K hK
      simp [f4, f5, f1, f2, f3, limit]
      repeat' (first | with_reducible exact hK | (with_reducible refine goL_split (fun _ => ?_) (fun _ => ?_) <;> simp [f4, f5, f1, f2, f3, limit]) | with_reducible refine And.intro ?_ ?_ | with_reducible exact okay_rfl rfl | with_reducible assumption | omega)
    apply W_regS
    · intro K hK
      simp
      repeat' (first | with_reducible exact hK | (with_reducible refine goL_split (fun _ => ?_) (fun _ => ?_) <;> simp) | with_reducible refine And.intro ?_ ?_ | with_reducible exact okay_rfl rfl | with_reducible assumption | omega)
    exact ⟨8 - (i + 1), by omega, i + 1, rfl, by omega, by rw [hs]; simp [gc, closeN, liveA, gcV, gcO, renA, renAs, renO, namesAs, namesA, namesO, posn]; exact wrap_id (by omega) (by omega)⟩
  · simp at h
    have hi8 : i = 8 := by omega
    subst hi8
    rw [if_pos rfl]
    refine W_seq (?_)
    apply W_regS
    · intro K hK
      simp
      repeat' (first | with_reducible exact hK | (with_reducible refine goL_split (fun _ => ?_) (fun _ => ?_) <;> simp) | with_reducible refine And.intro ?_ ?_ | with_reducible exact okay_rfl rfl | with_reducible assumption | omega)
    refine W_ret ?_
    simp [Fin, wide]
    all_goals omega

theorem i_putWide_ok (x : Int) (hk : keyB x = true) : Valid PP GG F_I_putWide [.d (.int .i64 x)] (.own 0 1 (bytesD (wide x))) [none] := by
  refine v_I_putWide [.own 0 1 (bytesD (wide x))] rfl rfl ?_
  have hx := inB_true hk
  refine W_seq (?_)
  apply W_regS
  · intro K hK
    simp
    repeat' (first | with_reducible exact hK | (with_reducible refine goL_split (fun _ => ?_) (fun _ => ?_) <;> simp) | with_reducible refine And.intro ?_ ?_ | with_reducible exact okay_rfl rfl | with_reducible assumption | omega)
  refine W_seq (?_)
  apply W_regS
  · intro K hK
    simp [mkA, limit]
    repeat' (first | with_reducible exact hK | (with_reducible refine goL_split (fun _ => ?_) (fun _ => ?_) <;> simp [mkA, limit]) | with_reducible refine And.intro ?_ ?_ | with_reducible exact okay_rfl rfl | with_reducible assumption | omega)
  refine W_seq (W_seq (?_))
  apply W_regS
  · intro K hK
    simp
    repeat' (first | with_reducible exact hK | (with_reducible refine goL_split (fun _ => ?_) (fun _ => ?_) <;> simp) | with_reducible refine And.intro ?_ ?_ | with_reducible exact okay_rfl rfl | with_reducible assumption | omega)
  refine W_block (W_loop (fun n st => ∃ (i : Nat) (R : List (List D)), n = 8 - i ∧ i ≤ 8 ∧ R.length = 8 ∧ (∀ r, r ∈ R → r.length = 1) ∧ R.take i = bytesD ((List.range i).map (wideB x)) ∧
    st = ⟨[], [(0, .d (.int .i64 x)), (3, .sl 0), (7, .d (.int .i64 8)), (8, .d (.int .i64 i))], [(0, .arr 0 0 1 R)], 1⟩) _ ⟨0, List.replicate 8 [.int .u8 0], rfl, by omega, by simp, by simp, rfl, rfl⟩ ?_)
  rintro n st ⟨i, R, rfl, hi, hl, h1, hR, rfl⟩
  refine W_seq (?_)
  apply W_regS
  · intro K hK
    simp
    repeat' (first | with_reducible exact hK | (with_reducible refine goL_split (fun _ => ?_) (fun _ => ?_) <;> simp) | with_reducible refine And.intro ?_ ?_ | with_reducible exact okay_rfl rfl | with_reducible assumption | omega)
  refine W_seq (?_)
  refine W_cond rfl (fun h => W_skip ?_) (fun h => W_exit ?_)
  · simp at h
    obtain ⟨d, hd⟩ := row_one h1 (show i < R.length by omega)
    obtain ⟨q, hq⟩ : ∃ q : Nat, x.toNat / 2 ^ (8 * i) = q := ⟨_, rfl⟩
    have f1 := wide_sh hx.1 (by omega) hq
    have f3 := wide_u8 hq
    have f4 : IntKind.i64.wrap (8 * (i : Int)) = 8 * i := wrap_id (by omega) (by omega)
    have hs := wide_succ x i
    generalize wideB x i = b at f3 hs
    refine W_seq (W_block (W_seq ?_))
    apply W_regS
    · intro K hK
      simp
      repeat' (first | with_reducible exact hK | (with_reducible refine goL_split (fun _ => ?_) (fun _ => ?_) <;> simp) | with_reducible refine And.intro ?_ ?_ | with_reducible exact okay_rfl rfl | with_reducible assumption | omega)
    apply W_regS
    · intro K hK
      simp [f4, f1, f3, hd, hl]
      repeat' (first | with_reducible exact hK | (with_reducible refine goL_split (fun _ => ?_) (fun _ => ?_) <;> simp [f4, f1, f3, hd, hl]) | with_reducible refine And.intro ?_ ?_ | with_reducible exact okay_rfl rfl | with_reducible assumption | omega)
    apply W_regS
    · intro K hK
      simp
      repeat' (first | with_reducible exact hK | (with_reducible refine goL_split (fun _ => ?_) (fun _ => ?_) <;> simp) | with_reducible refine And.intro ?_ ?_ | with_reducible exact okay_rfl rfl | with_reducible assumption | omega)
    exact ⟨8 - (i + 1), by omega, i + 1, R.set i [.int .u8 b.toNat], rfl, by omega, by simpa using hl, set_one h1, by rw [take_set_succ (by omega), hR, hs], by simp [gc, closeN, liveA, gcV, gcO, renA, renAs, renO, namesAs, namesA, namesO, posn]; exact wrap_id (by omega) (by omega)⟩
  · simp at h
    have hi8 : i = 8 := by omega
    subst hi8
    have eR : R = bytesD (wide x) := by rwa [List.take_of_length_le (by omega)] at hR
    subst eR
    rw [if_pos rfl]
    refine W_seq (?_)
    apply W_regS
    · intro K hK
      simp
      repeat' (first | with_reducible exact hK | (with_reducible refine goL_split (fun _ => ?_) (fun _ => ?_) <;> simp) | with_reducible refine And.intro ?_ ?_ | with_reducible exact okay_rfl rfl | with_reducible assumption | omega)
    refine W_ret ?_
    simp [Fin]
    all_goals omega

end Go.Proofs.YtpbofdbleajagaaDoor.Ab


namespace Go.Proofs
end Go.Proofs
set_option linter.unusedSimpArgs false
set_option linter.unusedVariables false
set_option maxRecDepth 100000
set_option maxHeartbeats 2000000
namespace Go.Proofs.YtpbofdbleajagaaDoor.Ab
open Go.Proofs
variable {GG : GV}

theorem digs_dec : ∀ n, 0 < n → digs n = Lib.decDigits n := by
  intro n
  induction n using Nat.strongRecOn with
  | _ n ih =>
    intro h
    rw [digs, dif_neg (by omega), Lib.decDigits]
    by_cases hn : n < 10
    · rw [dif_pos hn]
      have e : n / 10 = 0 := by omega
      rw [e, digs, dif_pos rfl, Nat.mod_eq_of_lt hn]; rfl
    · rw [dif_neg hn, ih (n / 10) (by omega) (by omega)]

theorem digs_len2 {n : Nat} (h : n ≤ 9223372036854775808) : (digs n).length ≤ 21 := by
  by_cases h0 : n = 0
  · subst h0; rw [digs]; simp
  · rw [digs_dec n (by omega)]
    by_cases h1 : n ≤ 9223372036854775807
    · have := Lib.itoa_length_le n (by omega) (by omega)
      rw [Lib.itoa_nonneg] at this
      exact this
    · have := Lib.itoa_length_le (-(n : Int)) (by omega) (by omega)
      rw [Lib.itoa_neg n (by omega)] at this
      simp at this; omega

theorem l01Num_ok (x : Int) (hx : int64 x) : Valid PP GG F_S_l01Num [.d (.int .i64 x)] (.d (.str (Lib.itoa x))) [none] := by
  refine v_S_l01Num [.d (.str (Lib.itoa x))] rfl rfl ?_
  unfold int64 at hx
  refine W_seq (?_)
  apply W_regS
  · intro K hK
    simp
    repeat' (first | with_reducible exact hK | (with_reducible refine goL_split (fun _ => ?_) (fun _ => ?_) <;> simp) | with_reducible refine And.intro ?_ ?_ | with_reducible exact okay_rfl rfl | with_reducible assumption | omega)
  refine W_seq (W_seq (?_))
  apply W_regS
  · intro K hK
    simp
    repeat' (first | with_reducible exact hK | (with_reducible refine goL_split (fun _ => ?_) (fun _ => ?_) <;> simp) | with_reducible refine And.intro ?_ ?_ | with_reducible exact okay_rfl rfl | with_reducible assumption | omega)
  refine W_cond rfl (fun h => W_seq ?_) (fun h => W_skip ?_)
  · simp at h
    subst h
    apply W_regS
    · intro K hK
      simp
      repeat' (first | with_reducible exact hK | (with_reducible refine goL_split (fun _ => ?_) (fun _ => ?_) <;> simp) | with_reducible refine And.intro ?_ ?_ | with_reducible exact okay_rfl rfl | with_reducible assumption | omega)
    have : Lib.itoa 0 = [48] := by rw [show (0 : Int) = ((0 : Nat) : Int) from rfl, Lib.itoa_nonneg, Lib.decDigits]; rfl
    refine W_ret ?_
    simp [Fin, this]
    all_goals omega
  simp at h
  obtain ⟨ng, hng⟩ : ∃ ng, ng = decide (x < 0) := ⟨_, rfl⟩
  refine W_seq (?_)
  apply W_regS
  · intro K hK
    simp
    repeat' (first | with_reducible exact hK | (with_reducible refine goL_split (fun _ => ?_) (fun _ => ?_) <;> simp) | with_reducible refine And.intro ?_ ?_ | with_reducible exact okay_rfl rfl | with_reducible assumption | omega)
  refine W_seq (?_)
  apply W_regS
  · intro K hK
    simp [← hng]
    repeat' (first | with_reducible exact hK | (with_reducible refine goL_split (fun _ => ?_) (fun _ => ?_) <;> simp [← hng]) | with_reducible refine And.intro ?_ ?_ | with_reducible exact okay_rfl rfl | with_reducible assumption | omega)
  refine W_seq (?_)
  refine W_block (W_loop (fun n st => ∃ (m : Nat) (out : List UInt8), n = m ∧ digs m ++ out = digs x.natAbs ∧ m ≤ x.natAbs ∧
    st = ⟨[], [(0, .d (.int .i64 (if ng then -(m : Int) else m))), (3, .d (.str out)), (4, .d (.bool ng))], [], 0⟩) _ ⟨x.natAbs, [], rfl, by simp, by omega, by
      simp [gc, closeN, liveA, gcV, gcO, renA, namesAs, namesA, ← hng]; cases ng <;> simp at hng ⊢ <;> omega⟩ ?_)
  rintro m st ⟨m', out, rfl, he, hm, rfl⟩
  have hl : out.length ≤ 21 := by
    have h1 := digs_len2 (n := x.natAbs) (by omega)
    rw [← he] at h1
    simp at h1
    omega
  refine W_seq (W_seq (?_))
  apply W_regS
  · intro K hK
    simp
    repeat' (first | with_reducible exact hK | (with_reducible refine goL_split (fun _ => ?_) (fun _ => ?_) <;> simp) | with_reducible refine And.intro ?_ ?_ | with_reducible exact okay_rfl rfl | with_reducible assumption | omega)
  refine W_cond rfl (fun h2 => W_skip ?_) (fun h2 => W_exit ?_)
  · have hm0 : m ≠ 0 := by rintro rfl; cases ng <;> simp at h2
    have hd := u8_digit m
    obtain ⟨r, hr⟩ : ∃ r : Nat, r = m % 10 := ⟨_, rfl⟩
    obtain ⟨q, hqq⟩ : ∃ q : Nat, q = m / 10 := ⟨_, rfl⟩
    rw [← hr] at hd
    obtain ⟨v, hv⟩ : ∃ v, v = UInt8.ofNat (48 + r) := ⟨_, rfl⟩
    rw [← hv] at hd
    have fin : digs q ++ (v :: out) = digs x.natAbs := by
      rw [← he, digs.eq_1 m, dif_neg hm0, ← hqq, ← hr, ← hv]
      simp
    cases ng with
    | false =>
      have ht : ((m : Int).tmod 10) = (r : Int) := by rw [hr]; rfl
      have hq : IntKind.i64.wrap ((m : Int).tdiv 10) = (q : Int) := by
        have : (m : Int).tdiv 10 = ((m / 10 : Nat) : Int) := rfl
        rw [this, ← hqq]; exact wrap_id (by omega) (by omega)
      simp at hq
      refine W_block (W_seq ?_)
      apply W_regS
      · intro K hK
        simp [ht]
        repeat' (first | with_reducible exact hK | (with_reducible refine goL_split (fun _ => ?_) (fun _ => ?_) <;> simp [ht]) | with_reducible refine And.intro ?_ ?_ | with_reducible exact okay_rfl rfl | with_reducible assumption | omega)
      refine W_seq (W_seq (?_))
      apply W_regS
      · intro K hK
        simp
        repeat' (first | with_reducible exact hK | (with_reducible refine goL_split (fun _ => ?_) (fun _ => ?_) <;> simp) | with_reducible refine And.intro ?_ ?_ | with_reducible exact okay_rfl rfl | with_reducible assumption | omega)
      refine W_cond rfl (fun h3 => ?_) (fun h3 => W_skip ?_)
      · simp at h3; omega
      refine W_seq (?_)
      apply W_regS
      · intro K hK
        simp [hd, litA, bytes_one, strOf_bytesD, maxStr]
        repeat' (first | with_reducible exact hK | (with_reducible refine goL_split (fun _ => ?_) (fun _ => ?_) <;> simp [hd, litA, bytes_one, strOf_bytesD, maxStr]) | with_reducible refine And.intro ?_ ?_ | with_reducible exact okay_rfl rfl | with_reducible assumption | omega)
      apply W_regS
      · intro K hK
        simp [hq]
        repeat' (first | with_reducible exact hK | (with_reducible refine goL_split (fun _ => ?_) (fun _ => ?_) <;> simp [hq]) | with_reducible refine And.intro ?_ ?_ | with_reducible exact okay_rfl rfl | with_reducible assumption | omega)
      exact ⟨q, by omega, q, v :: out, rfl, fin, by omega, by simp [gc, closeN, liveA, gcV, gcO, renA, namesAs, namesA]⟩
    | true =>
      have ht : ((-(m : Int)).tmod 10) = -(r : Int) := by rw [Int.neg_tmod, hr]; rfl
      have hn : IntKind.i64.wrap (0 - -(r : Int)) = (r : Int) := by rw [wrap_id (by omega) (by omega)]; omega
      have hq : IntKind.i64.wrap ((-(m : Int)).tdiv 10) = -(q : Int) := by
        have : (-(m : Int)).tdiv 10 = -((m / 10 : Nat) : Int) := by rw [Int.neg_tdiv]; rfl
        rw [this, ← hqq]; exact wrap_id (by omega) (by omega)
      simp at hn hq
      refine W_block (W_seq ?_)
      apply W_regS
      · intro K hK
        simp [ht]
        repeat' (first | with_reducible exact hK | (with_reducible refine goL_split (fun _ => ?_) (fun _ => ?_) <;> simp [ht]) | with_reducible refine And.intro ?_ ?_ | with_reducible exact okay_rfl rfl | with_reducible assumption | omega)
      refine W_seq (W_seq (?_))
      apply W_regS
      · intro K hK
        simp
        repeat' (first | with_reducible exact hK | (with_reducible refine goL_split (fun _ => ?_) (fun _ => ?_) <;> simp) | with_reducible refine And.intro ?_ ?_ | with_reducible exact okay_rfl rfl | with_reducible assumption | omega)
      refine W_cond rfl (fun h3 => ?_) (fun h3 => W_skip ?_)
      · apply W_regS
        · intro K hK
          simp [hn]
          repeat' (first | with_reducible exact hK | (with_reducible refine goL_split (fun _ => ?_) (fun _ => ?_) <;> simp [hn]) | with_reducible refine And.intro ?_ ?_ | with_reducible exact okay_rfl rfl | with_reducible assumption | omega)
        refine W_seq (?_)
        apply W_regS
        · intro K hK
          simp [hd, litA, bytes_one, strOf_bytesD, maxStr]
          repeat' (first | with_reducible exact hK | (with_reducible refine goL_split (fun _ => ?_) (fun _ => ?_) <;> simp [hd, litA, bytes_one, strOf_bytesD, maxStr]) | with_reducible refine And.intro ?_ ?_ | with_reducible exact okay_rfl rfl | with_reducible assumption | omega)
        apply W_regS
        · intro K hK
          simp [hq]
          repeat' (first | with_reducible exact hK | (with_reducible refine goL_split (fun _ => ?_) (fun _ => ?_) <;> simp [hq]) | with_reducible refine And.intro ?_ ?_ | with_reducible exact okay_rfl rfl | with_reducible assumption | omega)
        exact ⟨q, by omega, q, v :: out, rfl, fin, by omega, by simp [gc, closeN, liveA, gcV, gcO, renA, namesAs, namesA]⟩
      have hn2 : -(r : Int) = (r : Int) := by simp at h3; omega
      refine W_seq (?_)
      apply W_regS
      · intro K hK
        simp [hn2, hd, litA, bytes_one, strOf_bytesD, maxStr]
        repeat' (first | with_reducible exact hK | (with_reducible refine goL_split (fun _ => ?_) (fun _ => ?_) <;> simp [hn2, hd, litA, bytes_one, strOf_bytesD, maxStr]) | with_reducible refine And.intro ?_ ?_ | with_reducible exact okay_rfl rfl | with_reducible assumption | omega)
      apply W_regS
      · intro K hK
        simp [hq]
        repeat' (first | with_reducible exact hK | (with_reducible refine goL_split (fun _ => ?_) (fun _ => ?_) <;> simp [hq]) | with_reducible refine And.intro ?_ ?_ | with_reducible exact okay_rfl rfl | with_reducible assumption | omega)
      exact ⟨q, by omega, q, v :: out, rfl, fin, by omega, by simp [gc, closeN, liveA, gcV, gcO, renA, namesAs, namesA]⟩
  · have hm0 : m = 0 := by cases ng <;> simp at h2 <;> omega
    subst hm0
    rw [if_pos rfl]
    have hz : digs 0 = [] := by rw [digs]; simp
    rw [hz, List.nil_append] at he
    refine W_seq (W_seq (?_))
    apply W_regS
    · intro K hK
      simp
      repeat' (first | with_reducible exact hK | (with_reducible refine goL_split (fun _ => ?_) (fun _ => ?_) <;> simp) | with_reducible refine And.intro ?_ ?_ | with_reducible exact okay_rfl rfl | with_reducible assumption | omega)
    refine W_cond rfl (fun h3 => W_seq ?_) (fun h3 => W_skip ?_)
    · subst h3
      apply W_regS
      · intro K hK
        simp [maxStr]
        repeat' (first | with_reducible exact hK | (with_reducible refine goL_split (fun _ => ?_) (fun _ => ?_) <;> simp [maxStr]) | with_reducible refine And.intro ?_ ?_ | with_reducible exact okay_rfl rfl | with_reducible assumption | omega)
      have : Lib.itoa x = 45 :: out := by
        simp at hng
        unfold Lib.itoa
        rw [if_pos (by omega), he, digs_dec _ (by omega)]
      refine W_ret ?_
      simp [Fin, this]
      all_goals omega
    subst h3
    refine W_seq (?_)
    apply W_regS
    · intro K hK
      simp
      repeat' (first | with_reducible exact hK | (with_reducible refine goL_split (fun _ => ?_) (fun _ => ?_) <;> simp) | with_reducible refine And.intro ?_ ?_ | with_reducible exact okay_rfl rfl | with_reducible assumption | omega)
    have : Lib.itoa x = out := by
      simp at hng
      unfold Lib.itoa
      rw [if_neg (by omega), he, digs_dec _ (by omega)]
      congr 1
      omega
    refine W_ret ?_
    simp [Fin, this]
    all_goals omega

def dA (l : List UInt8) : Nat := l.foldl (fun p b => (131 * p + b.toNat + 1) % 2147483647) 7

def dB (l : List UInt8) : Nat := l.foldl (fun p b => (137 * p + b.toNat + 3) % 2147483629) 11

def digN (l : List UInt8) : Int := 2147483648 * (dA l : Int) + (dB l : Int)

theorem dA_lt (l : List UInt8) : dA l < 2147483647 := by
  rcases List.eq_nil_or_concat l with rfl | ⟨r, x, rfl⟩
  · simp [dA]
  · simp only [dA, List.concat_eq_append, List.foldl_append, List.foldl_cons, List.foldl_nil]; omega

theorem dB_lt (l : List UInt8) : dB l < 2147483629 := by
  rcases List.eq_nil_or_concat l with rfl | ⟨r, x, rfl⟩
  · simp [dB]
  · simp only [dB, List.concat_eq_append, List.foldl_append, List.foldl_cons, List.foldl_nil]; omega

theorem dA_succ {l : List UInt8} {i : Nat} {x : UInt8} (h : l[i]? = some x) : dA (l.take (i + 1)) = (131 * dA (l.take i) + x.toNat + 1) % 2147483647 := by
  rw [List.take_add_one, h]; simp [dA, List.foldl_append]

theorem dB_succ {l : List UInt8} {i : Nat} {x : UInt8} (h : l[i]? = some x) : dB (l.take (i + 1)) = (137 * dB (l.take i) + x.toNat + 3) % 2147483629 := by
  rw [List.take_add_one, h]; simp [dB, List.foldl_append]

theorem stepA (p : Nat) (x : UInt8) (hp : p < 2147483647) : (IntKind.i64.wrap (IntKind.i64.wrap (IntKind.i64.wrap (131 * (p : Int)) + IntKind.i64.wrap (x.toNat : Int)) + 1)).tmod 2147483647 = (((131 * p + x.toNat + 1) % 2147483647 : Nat) : Int) := by
  have hx := x.toNat_lt
  rw [wrap_id (n := 131 * (p : Int)) (by omega) (by omega), wrap_id (n := (x.toNat : Int)) (by omega) (by omega), wrap_id (n := 131 * (p : Int) + x.toNat) (by omega) (by omega), wrap_id (by omega) (by omega)]
  rw [Int.tmod_eq_emod_of_nonneg (by omega)]
  omega

theorem stepB (p : Nat) (x : UInt8) (hp : p < 2147483629) : (IntKind.i64.wrap (IntKind.i64.wrap (IntKind.i64.wrap (137 * (p : Int)) + IntKind.i64.wrap (x.toNat : Int)) + 3)).tmod 2147483629 = (((137 * p + x.toNat + 3) % 2147483629 : Nat) : Int) := by
  have hx := x.toNat_lt
  rw [wrap_id (n := 137 * (p : Int)) (by omega) (by omega), wrap_id (n := (x.toNat : Int)) (by omega) (by omega), wrap_id (n := 137 * (p : Int) + x.toNat) (by omega) (by omega), wrap_id (by omega) (by omega)]
  rw [Int.tmod_eq_emod_of_nonneg (by omega)]
  omega

theorem digFin (l : List UInt8) : IntKind.i64.wrap (IntKind.i64.wrap (2147483648 * (dA l : Int)) + (dB l : Int)) = digN l := by
  have := dA_lt l
  have := dB_lt l
  rw [wrap_id (n := 2147483648 * (dA l : Int)) (by omega) (by omega), wrap_id (by omega) (by omega)]; rfl

theorem Digest_ok (a : List UInt8) (ha : a.length ≤ 140737488355328) : Valid PP GG F_S_Digest [.d (.slc 1 (bytesD a))] (.d (.int .i64 (digN a))) [none] := by
  refine v_S_Digest [.d (.int .i64 (digN a))] rfl rfl ?_
  refine W_seq (?_)
  apply W_regS
  · intro K hK
    simp
    repeat' (first | with_reducible exact hK | (with_reducible refine goL_split (fun _ => ?_) (fun _ => ?_) <;> simp) | with_reducible refine And.intro ?_ ?_ | with_reducible exact okay_rfl rfl | with_reducible assumption | omega)
  refine W_seq (?_)
  apply W_regS
  · intro K hK
    simp
    repeat' (first | with_reducible exact hK | (with_reducible refine goL_split (fun _ => ?_) (fun _ => ?_) <;> simp) | with_reducible refine And.intro ?_ ?_ | with_reducible exact okay_rfl rfl | with_reducible assumption | omega)
  refine W_seq (?_)
  apply W_regS
  · intro K hK
    simp
    repeat' (first | with_reducible exact hK | (with_reducible refine goL_split (fun _ => ?_) (fun _ => ?_) <;> simp) | with_reducible refine And.intro ?_ ?_ | with_reducible exact okay_rfl rfl | with_reducible assumption | omega)
  refine W_seq (W_seq (?_))
  apply W_regS
  · intro K hK
    simp
    repeat' (first | with_reducible exact hK | (with_reducible refine goL_split (fun _ => ?_) (fun _ => ?_) <;> simp) | with_reducible refine And.intro ?_ ?_ | with_reducible exact okay_rfl rfl | with_reducible assumption | omega)
  refine W_block (W_loop (fun n st => ∃ (i : Nat), n = a.length - i ∧ i ≤ a.length ∧
    st = ⟨[], [(0, .d (.slc 1 (bytesD a))), (3, .d (.int .i64 (dA (a.take i)))), (4, .d (.int .i64 (dB (a.take i)))), (5, .d (.int .i64 i))], [], 0⟩) _ ⟨0, rfl, by omega, rfl⟩ ?_)
  rintro n st ⟨i, rfl, hi, rfl⟩
  refine W_seq (W_seq (?_))
  apply W_regS
  · intro K hK
    simp
    repeat' (first | with_reducible exact hK | (with_reducible refine goL_split (fun _ => ?_) (fun _ => ?_) <;> simp) | with_reducible refine And.intro ?_ ?_ | with_reducible exact okay_rfl rfl | with_reducible assumption | omega)
  refine W_cond rfl (fun h => W_skip ?_) (fun h => W_exit ?_)
  · simp at h
    have hx := List.getElem?_eq_getElem h
    generalize a[i] = x at hx
    have sA := stepA _ x (dA_lt (a.take i))
    have sB := stepB _ x (dB_lt (a.take i))
    rw [← dA_succ hx] at sA
    rw [← dB_succ hx] at sB
    refine W_seq (W_block (W_seq ?_))
    apply W_regS
    · intro K hK
      simp [hx, sA]
      repeat' (first | with_reducible exact hK | (with_reducible refine goL_split (fun _ => ?_) (fun _ => ?_) <;> simp [hx, sA]) | with_reducible refine And.intro ?_ ?_ | with_reducible exact okay_rfl rfl | with_reducible assumption | omega)
    apply W_regS
    · intro K hK
      simp [hx, sB]
      repeat' (first | with_reducible exact hK | (with_reducible refine goL_split (fun _ => ?_) (fun _ => ?_) <;> simp [hx, sB]) | with_reducible refine And.intro ?_ ?_ | with_reducible exact okay_rfl rfl | with_reducible assumption | omega)
    apply W_regS
    · intro K hK
      simp
      repeat' (first | with_reducible exact hK | (with_reducible refine goL_split (fun _ => ?_) (fun _ => ?_) <;> simp) | with_reducible refine And.intro ?_ ?_ | with_reducible exact okay_rfl rfl | with_reducible assumption | omega)
    exact ⟨a.length - (i + 1), by omega, i + 1, rfl, h, by
      simp [gc, closeN, liveA, gcV, gcO, renA, namesAs, namesA]
      rw [wrap_id (by omega) (by omega)]⟩
  · simp at h
    rw [if_pos rfl]
    refine W_seq (?_)
    apply W_regS
    · intro K hK
      simp [List.take_of_length_le h, digFin]
      repeat' (first | with_reducible exact hK | (with_reducible refine goL_split (fun _ => ?_) (fun _ => ?_) <;> simp [List.take_of_length_le h, digFin]) | with_reducible refine And.intro ?_ ?_ | with_reducible exact okay_rfl rfl | with_reducible assumption | omega)
    refine W_ret ?_
    simp [Fin]
    all_goals omega

theorem digest_ok (a : List UInt8) (ha : a.length ≤ 140737488355328) : Valid PP GG F_I_digest [.d (.slc 1 (bytesD a))] (.d (.int .i64 (digN a))) [none] := by
  refine v_I_digest [.d (.int .i64 (digN a))] rfl rfl ?_
  refine W_seq (?_)
  apply W_regS
  · intro K hK
    simp
    repeat' (first | with_reducible exact hK | (with_reducible refine goL_split (fun _ => ?_) (fun _ => ?_) <;> simp) | with_reducible refine And.intro ?_ ?_ | with_reducible exact okay_rfl rfl | with_reducible assumption | omega)
  refine W_seq (?_)
  apply W_regS
  · intro K hK
    simp
    repeat' (first | with_reducible exact hK | (with_reducible refine goL_split (fun _ => ?_) (fun _ => ?_) <;> simp) | with_reducible refine And.intro ?_ ?_ | with_reducible exact okay_rfl rfl | with_reducible assumption | omega)
  refine W_seq (W_seq (?_))
  apply W_regS
  · intro K hK
    simp
    repeat' (first | with_reducible exact hK | (with_reducible refine goL_split (fun _ => ?_) (fun _ => ?_) <;> simp) | with_reducible refine And.intro ?_ ?_ | with_reducible exact okay_rfl rfl | with_reducible assumption | omega)
  refine W_block (W_loop (fun n st => ∃ (i : Nat), n = a.length - i ∧ i ≤ a.length ∧
    st = ⟨[], [(3, .d (.int .i64 (dA (a.take i)))), (4, .d (.int .i64 (dB (a.take i)))), (7, .d (.slc 1 (bytesD a))), (8, .d (.int .i64 a.length)), (9, .d (.int .i64 i))], [], 0⟩) _ ⟨0, rfl, by omega, rfl⟩ ?_)
  rintro n st ⟨i, rfl, hi, rfl⟩
  refine W_seq (?_)
  apply W_regS
  · intro K hK
    simp
    repeat' (first | with_reducible exact hK | (with_reducible refine goL_split (fun _ => ?_) (fun _ => ?_) <;> simp) | with_reducible refine And.intro ?_ ?_ | with_reducible exact okay_rfl rfl | with_reducible assumption | omega)
  refine W_seq (?_)
  refine W_cond rfl (fun h => W_skip ?_) (fun h => W_exit ?_)
  · simp at h
    have hx := List.getElem?_eq_getElem h
    generalize a[i] = x at hx
    have sA := stepA _ x (dA_lt (a.take i))
    have sB := stepB _ x (dB_lt (a.take i))
    rw [← dA_succ hx] at sA
    rw [← dB_succ hx] at sB
    refine W_seq (W_block (W_seq ?_))
    apply W_regS
    · intro K hK
      simp [hx]
      repeat' (first | with_reducible exact hK | (with_reducible refine goL_split (fun _ => ?_) (fun _ => ?_) <;> simp [hx]) | with_reducible refine And.intro ?_ ?_ | with_reducible exact okay_rfl rfl | with_reducible assumption | omega)
    refine W_seq (?_)
    apply W_regS
    · intro K hK
      simp [hx, sA]
      repeat' (first | with_reducible exact hK | (with_reducible refine goL_split (fun _ => ?_) (fun _ => ?_) <;> simp [hx, sA]) | with_reducible refine And.intro ?_ ?_ | with_reducible exact okay_rfl rfl | with_reducible assumption | omega)
    apply W_regS
    · intro K hK
      simp [hx, sB]
      repeat' (first | with_reducible exact hK | (with_reducible refine goL_split (fun _ => ?_) (fun _ => ?_) <;> simp [hx, sB]) | with_reducible refine And.intro ?_ ?_ | with_reducible exact okay_rfl rfl | with_reducible assumption | omega)
    apply W_regS
    · intro K hK
      simp
      repeat' (first | with_reducible exact hK | (with_reducible refine goL_split (fun _ => ?_) (fun _ => ?_) <;> simp) | with_reducible refine And.intro ?_ ?_ | with_reducible exact okay_rfl rfl | with_reducible assumption | omega)
    exact ⟨a.length - (i + 1), by omega, i + 1, rfl, h, by
      simp [gc, closeN, liveA, gcV, gcO, renA, namesAs, namesA]
      rw [wrap_id (by omega) (by omega)]⟩
  · simp at h
    rw [if_pos rfl]
    refine W_seq (?_)
    apply W_regS
    · intro K hK
      simp [List.take_of_length_le h, digFin]
      repeat' (first | with_reducible exact hK | (with_reducible refine goL_split (fun _ => ?_) (fun _ => ?_) <;> simp [List.take_of_length_le h, digFin]) | with_reducible refine And.intro ?_ ?_ | with_reducible exact okay_rfl rfl | with_reducible assumption | omega)
    refine W_ret ?_
    simp [Fin]
    all_goals omega

theorem wide_len (x : Int) : (wide x).length = 8 := by simp [wide]

theorem digN_range (l : List UInt8) : 0 ≤ digN l ∧ digN l ≤ 4611686018427387904 := by
  have h1 := dA_lt l
  have h2 := dB_lt l
  unfold digN
  omega

def saltV (c : GChain) (t : List UInt8) : List UInt8 := if chainOk c = true ∧ t.length ≤ 2000 then 104 :: Lib.itoa (digN (wide c.fSalt ++ t)) else []

theorem chain_key {c : GChain} (h : chainOk c = true) : keyB c.fSalt = true := by
  simp only [chainOk, Bool.and_eq_true] at h; exact h.1.1.2

theorem s_Salted_ok (c : GChain) (t : List UInt8) (hc : c.cost ≤ 1048576) (ht : t.length ≤ 1048576) : Valid PP GG F_S_Salted [.agg c.c, .d (.str t)] (.d (.str (saltV c t))) [none, none] := by
  refine v_S_Salted [.d (.str (saltV c t))] rfl rfl ?_
  have cc := s_ChainOk_ok (GG := GG) c hc
  have hkey := chain_key (c := c)
  have hr : saltV c t = if chainOk c = true ∧ t.length ≤ 2000 then 104 :: Lib.itoa (digN (wide c.fSalt ++ t)) else [] := rfl
  generalize saltV c t = v at hr ⊢
  generalize chainOk c = b at cc hkey hr
  refine W_seq (?_)
  apply W_regS
  · intro K hK
    simp
    repeat' (first | with_reducible exact hK | (with_reducible refine goL_split (fun _ => ?_) (fun _ => ?_) <;> simp) | with_reducible refine And.intro ?_ ?_ | with_reducible exact okay_rfl rfl | with_reducible assumption | omega)
  refine W_seq (W_seq (?_))
  refine W_regB 12 (decide (¬ (b = true ∧ t.length ≤ 2000))) (fun K hK => ?_) ?_
  · simp
    repeat' (first | exact hK _ _ (by clear hK; first | omega | (exact decide_eq_false (by omega)) | (exact decide_eq_true (by omega)) | (exact (decide_eq_true (by omega)).symm) | (exact (decide_eq_false (by omega)).symm) | (exact decide_eq_decide.2 (by omega)) | (simp [*]; done) | (simp [*]; omega) | (simp_all; done) | (simp_all; omega) | (rw [Bool.eq_iff_iff]; simp at *; omega)) | (with_reducible refine callQ (cc) ?_; simp) | (with_reducible refine goL_split (fun _ => ?_) (fun _ => ?_) <;> simp) | with_reducible refine And.intro ?_ ?_ | with_reducible exact okay_rfl rfl | with_reducible assumption | omega)
  refine W_cond rfl (fun h => W_seq ?_) (fun h => W_skip ?_)
  · rw [h]
    rw [if_neg (of_decide_eq_true h)] at hr
    subst hr
    apply W_regS
    · intro K hK
      simp
      repeat' (first | with_reducible exact hK | (with_reducible refine goL_split (fun _ => ?_) (fun _ => ?_) <;> simp) | with_reducible refine And.intro ?_ ?_ | with_reducible exact okay_rfl rfl | with_reducible assumption | omega)
    refine W_ret ?_
    simp [Fin]
    all_goals omega
  rw [h]
  have hcond := Decidable.not_not.1 (of_decide_eq_false h)
  rw [if_pos hcond] at hr
  have cp := s_PutWide_ok (GG := GG) c.fSalt (hkey hcond.1)
  have hwl := wide_len c.fSalt
  have hind := ind_bytes (wide c.fSalt)
  have cj := l01Join_ok (GG := GG) (wide c.fSalt) t (by omega)
  have hind2 := ind_bytes (wide c.fSalt ++ t)
  have cd := Digest_ok (GG := GG) (wide c.fSalt ++ t) (by simp; omega)
  have hd := digN_range (wide c.fSalt ++ t)
  generalize digN (wide c.fSalt ++ t) = m at cd hd hr
  have cn := l01Num_ok (GG := GG) m ⟨by omega, by omega⟩
  have hln := Lib.itoa_length_le m (by omega) (by omega)
  refine W_seq (?_)
  apply W_regS
  · intro K hK
    simp [maxStr]
    repeat' (first | with_reducible exact hK | (with_reducible refine callQ (cp) ?_; simp [maxStr]) | (with_reducible refine callQ (cj) ?_; simp [maxStr]) | (with_reducible refine callQ (cd) ?_; simp [maxStr]) | (with_reducible refine callQ (cn) ?_; simp [maxStr]) | (with_reducible refine goL_split (fun _ => ?_) (fun _ => ?_) <;> simp [maxStr]) | with_reducible refine And.intro ?_ ?_ | with_reducible exact okay_rfl rfl | with_reducible assumption | omega)
  refine W_ret ?_
  simp [Fin, hr]
  all_goals omega

theorem ItoaB_ok [P10 GG] (n : Int) (h : int64 n) : Valid PP GG 76 [.d (.int .i64 n)] (.d (.str (Lib.itoa n))) [none] := by
  refine lib_int (rv := .string ⟨(Lib.itoa n).toArray⟩) ⟨Tryd.f76, Tryd.func76, by kernel_rfl, by kernel_rfl⟩ (fun w Fz => .str _) fun w hG => ?_
  refine Go.Proofs.YtpbofdbleajagaaDoor.Tryd.strconv_Itoa n h.1 h.2 w ?_
  obtain ⟨ob, h1, h2⟩ := hG 2 _ P10.h
  unfold Lib.TabIs World.var?
  rw [show Tryd.prog.globalNamed "internal/strconv.uint64pow10" = some 2 by kernel_rfl]
  simp only [Option.bind_some, h1]
  cases ob with
  | cells cs t fr => simp only [pow10Cells] at h2; rw [h2]
  | _ => exact h2.elim

theorem i_Salted_ok [P10 GG] [MaxL GG] (c : GChain) (t : List UInt8) (hc : c.cost ≤ 1048576) (ht : t.length ≤ 1048576) : Valid PP GG F_I_Salted [.agg c.c, .d (.str t)] (.d (.str (saltV c t))) [none, none] := by
  refine v_I_Salted [.d (.str (saltV c t))] rfl rfl ?_
  have cc := isChain_ok (GG := GG) c hc
  have hkey := chain_key (c := c)
  have hr : saltV c t = if chainOk c = true ∧ t.length ≤ 2000 then 104 :: Lib.itoa (digN (wide c.fSalt ++ t)) else [] := rfl
  generalize saltV c t = v at hr ⊢
  generalize chainOk c = b at cc hkey hr
  refine W_seq (?_)
  apply W_regS
  · intro K hK
    simp
    repeat' (first | with_reducible exact hK | (with_reducible refine goL_split (fun _ => ?_) (fun _ => ?_) <;> simp) | with_reducible refine And.intro ?_ ?_ | with_reducible exact okay_rfl rfl | with_reducible assumption | omega)
  refine W_seq (W_seq (?_))
  refine W_regB 12 (decide (¬ (b = true ∧ t.length ≤ 2000))) (fun K hK => ?_) ?_
  · simp
    repeat' (first | exact hK _ _ (by clear hK; first | omega | (exact decide_eq_false (by omega)) | (exact decide_eq_true (by omega)) | (exact (decide_eq_true (by omega)).symm) | (exact (decide_eq_false (by omega)).symm) | (exact decide_eq_decide.2 (by omega)) | (simp [*]; done) | (simp [*]; omega) | (simp_all; done) | (simp_all; omega) | (rw [Bool.eq_iff_iff]; simp at *; omega)) | (with_reducible refine callQ (cc) ?_; simp) | (with_reducible refine goL_split (fun _ => ?_) (fun _ => ?_) <;> simp) | with_reducible refine And.intro ?_ ?_ | with_reducible exact okay_rfl rfl | with_reducible assumption | omega)
  refine W_cond rfl (fun h => W_seq ?_) (fun h => W_skip ?_)
  · rw [h]
    rw [if_neg (of_decide_eq_true h)] at hr
    subst hr
    apply W_regS
    · intro K hK
      simp
      repeat' (first | with_reducible exact hK | (with_reducible refine goL_split (fun _ => ?_) (fun _ => ?_) <;> simp) | with_reducible refine And.intro ?_ ?_ | with_reducible exact okay_rfl rfl | with_reducible assumption | omega)
    refine W_ret ?_
    simp [Fin]
    all_goals omega
  rw [h]
  have hcond := Decidable.not_not.1 (of_decide_eq_false h)
  rw [if_pos hcond] at hr
  have cp := i_putWide_ok (GG := GG) c.fSalt (hkey hcond.1)
  have hwl := wide_len c.fSalt
  have hind := ind_bytes (wide c.fSalt)
  have hind2 := ind_bytes (wide c.fSalt ++ t)
  have happ : bytesD (wide c.fSalt) ++ bytesD t = bytesD (wide c.fSalt ++ t) := by simp [bytesD]
  have cd := digest_ok (GG := GG) (wide c.fSalt ++ t) (by simp; omega)
  have hd := digN_range (wide c.fSalt ++ t)
  generalize digN (wide c.fSalt ++ t) = m at cd hd hr
  have cn := ItoaB_ok (GG := GG) m ⟨by omega, by omega⟩
  have hln := Lib.itoa_length_le m (by omega) (by omega)
  have hblen : (bytesD (wide c.fSalt)).length + t.length ≤ 1048600 := by simp; omega
  refine W_seq (?_)
  apply W_regS
  · intro K hK
    simp [maxStr, limit, happ]
    repeat' (first | with_reducible exact hK | (with_reducible refine callQ (cp) ?_; simp [maxStr, limit, happ]) | (with_reducible refine callQ (cd) ?_; simp [maxStr, limit, happ]) | (with_reducible refine callQ (cn) ?_; simp [maxStr, limit, happ]) | (with_reducible refine goL_split (fun _ => ?_) (fun _ => ?_) <;> simp [maxStr, limit, happ]) | with_reducible refine And.intro ?_ ?_ | with_reducible exact okay_rfl rfl | with_reducible assumption | omega)
  refine W_ret ?_
  simp [Fin, hr]
  all_goals omega

end Go.Proofs.YtpbofdbleajagaaDoor.Ab


namespace Go.Proofs
end Go.Proofs
set_option linter.unusedSimpArgs false
set_option linter.unusedVariables false
set_option maxRecDepth 100000
set_option maxHeartbeats 2000000
namespace Go.Proofs.YtpbofdbleajagaaDoor.Ab
open Go.Proofs
variable {GG : GV}

theorem law_Salted [P10 GG] [MaxL GG] (c : GChain) (t : List UInt8) (hok : c.ok) (ht : t.length ≤ maxLen) : Valid PP GG F_L_FnExactSalted [.agg c.c, .d (.str t)] (.d (.bool true)) [none, none] := by
  refine v_L_FnExactSalted [.d (.bool true)] rfl rfl ?_
  refine W_seq (?_)
  apply W_regS
  · intro K hK
    simp
    repeat' (first | with_reducible exact hK | (with_reducible refine goL_split (fun _ => ?_) (fun _ => ?_) <;> simp) | with_reducible refine And.intro ?_ ?_ | with_reducible exact okay_rfl rfl | with_reducible assumption | omega)
  refine W_seq (?_)
  refine W_seq (?_)
  apply W_regS
  · intro K hK
    simp
    repeat' (first | with_reducible exact hK | (with_reducible refine goL_split (fun _ => ?_) (fun _ => ?_) <;> simp) | with_reducible refine And.intro ?_ ?_ | with_reducible exact okay_rfl rfl | with_reducible assumption | omega)
  refine W_cond rfl (fun h => W_seq ?_) (fun h => W_skip ?_)
  · apply W_regS
    · intro K hK
      simp
      repeat' (first | with_reducible exact hK | (with_reducible refine goL_split (fun _ => ?_) (fun _ => ?_) <;> simp) | with_reducible refine And.intro ?_ ?_ | with_reducible exact okay_rfl rfl | with_reducible assumption | omega)
    refine W_ret ?_
    simp [Fin]
    all_goals omega
  simp at h
  have htl : t.length ≤ 1048576 := by omega
  refine W_seq (?_)
  apply W_regS
  · intro K hK
    simp
    repeat' (first | with_reducible exact hK | (with_reducible refine goL_split (fun _ => ?_) (fun _ => ?_) <;> simp) | with_reducible refine And.intro ?_ ?_ | with_reducible exact okay_rfl rfl | with_reducible assumption | omega)
  refine W_seq (?_)
  apply W_regS
  · intro K hK
    simp
    repeat' (first | with_reducible exact hK | (with_reducible refine callQ (szChain_g c 1048576 hok ⟨by omega, by omega⟩) ?_; simp) | (with_reducible refine goL_split (fun _ => ?_) (fun _ => ?_) <;> simp) | with_reducible refine And.intro ?_ ?_ | with_reducible exact okay_rfl rfl | with_reducible assumption | omega)
  refine W_seq (?_)
  refine W_seq (?_)
  apply W_regS
  · intro K hK
    simp
    repeat' (first | with_reducible exact hK | (with_reducible refine goL_split (fun _ => ?_) (fun _ => ?_) <;> simp) | with_reducible refine And.intro ?_ ?_ | with_reducible exact okay_rfl rfl | with_reducible assumption | omega)
  refine W_cond rfl (fun h => W_seq ?_) (fun h => W_skip ?_)
  · apply W_regS
    · intro K hK
      simp
      repeat' (first | with_reducible exact hK | (with_reducible refine goL_split (fun _ => ?_) (fun _ => ?_) <;> simp) | with_reducible refine And.intro ?_ ?_ | with_reducible exact okay_rfl rfl | with_reducible assumption | omega)
    refine W_ret ?_
    simp [Fin]
    all_goals omega
  simp at h
  have hcost : c.cost ≤ 1048576 := by unfold leftR at h; split at h <;> omega
  have ct := toChain_g (GG := GG) c (by omega)
  have ce := eqChain_g (GG := GG) c c (by omega) (by omega)
  rw [decide_eq_true rfl] at ce
  have cs := s_Salted_ok (GG := GG) c t hcost htl
  have ci := i_Salted_ok (GG := GG) c t hcost htl
  generalize saltV c t = r at cs ci
  refine W_seq (?_)
  apply W_regS
  · intro K hK
    simp
    repeat' (first | with_reducible exact hK | (with_reducible refine callQ (ct) ?_; simp) | (with_reducible refine callQ (cs) ?_; simp) | (with_reducible refine goL_split (fun _ => ?_) (fun _ => ?_) <;> simp) | with_reducible refine And.intro ?_ ?_ | with_reducible exact okay_rfl rfl | with_reducible assumption | omega)
  refine W_seq (?_)
  apply W_regS
  · intro K hK
    simp
    repeat' (first | with_reducible exact hK | (with_reducible refine callQ (ct) ?_; simp) | (with_reducible refine goL_split (fun _ => ?_) (fun _ => ?_) <;> simp) | with_reducible refine And.intro ?_ ?_ | with_reducible exact okay_rfl rfl | with_reducible assumption | omega)
  refine W_seq (?_)
  apply W_regS
  · intro K hK
    simp
    repeat' (first | with_reducible exact hK | (with_reducible refine callQ (ci) ?_; simp) | (with_reducible refine goL_split (fun _ => ?_) (fun _ => ?_) <;> simp) | with_reducible refine And.intro ?_ ?_ | with_reducible exact okay_rfl rfl | with_reducible assumption | omega)
  refine W_seq (?_)
  refine W_seq (?_)
  refine W_regB 28 (false) (fun K hK => ?_) ?_
  · simp
    repeat' (first | exact hK _ _ (by clear hK; first | omega | (exact decide_eq_false (by omega)) | (exact decide_eq_true (by omega)) | (exact (decide_eq_true (by omega)).symm) | (exact (decide_eq_false (by omega)).symm) | (exact decide_eq_decide.2 (by omega)) | (simp [*]; done) | (simp [*]; omega) | (simp_all; done) | (simp_all; omega) | (rw [Bool.eq_iff_iff]; simp at *; omega)) | (with_reducible refine goL_split (fun _ => ?_) (fun _ => ?_) <;> simp) | with_reducible refine And.intro ?_ ?_ | with_reducible exact okay_rfl rfl | with_reducible assumption | omega)
  refine W_cond rfl (fun h => ?_) (fun h => W_skip ?_)
  · first | (cases h; done) | (simp at h; done) | (simp at h; omega)
  refine W_seq (?_)
  refine W_seq (?_)
  apply W_regD
  · intro K hK
    simp
    repeat' (first | with_reducible exact hK | (with_reducible refine callQ (ct) ?_; simp) | (with_reducible refine callQ (ce) ?_; simp) | (with_reducible refine goL_split (fun _ => ?_) (fun _ => ?_) <;> simp) | with_reducible refine And.intro ?_ ?_ | with_reducible exact okay_rfl rfl | with_reducible assumption | omega)
  refine W_cond rfl (fun h => ?_) (fun h => W_skip ?_)
  · first | (cases h; done) | (simp at h; done) | (simp at h; omega)
  refine W_seq (?_)
  apply W_regS
  · intro K hK
    simp
    repeat' (first | with_reducible exact hK | (with_reducible refine goL_split (fun _ => ?_) (fun _ => ?_) <;> simp) | with_reducible refine And.intro ?_ ?_ | with_reducible exact okay_rfl rfl | with_reducible assumption | omega)
  refine W_ret ?_
  simp [Fin]
  all_goals omega

end Go.Proofs.YtpbofdbleajagaaDoor.Ab

