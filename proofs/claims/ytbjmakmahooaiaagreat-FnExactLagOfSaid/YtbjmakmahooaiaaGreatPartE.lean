/-
  A part of a proof about the given program; what is proved is said where each theorem stands.
-/
import Derived.Test.YtbjmakmahooaiaaGreatFrameA
import Derived.Test.YtbjmakmahooaiaaGreatFrameB
import Derived.Test.YtbjmakmahooaiaaGreatFrameC
import Derived.Test.YtbjmakmahooaiaaGreatFrameD
import Derived.Test.YtbjmakmahooaiaaGreatHead
import Derived.Test.YtbjmakmahooaiaaGreatShelf
import Derived.Test.YtbjmakmahooaiaaGreatPartA
import Derived.Test.YtbjmakmahooaiaaGreatPartB
import Derived.Test.YtbjmakmahooaiaaGreatPartC
import Derived.Test.YtbjmakmahooaiaaGreatPartD
namespace Go.Proofs
end Go.Proofs
set_option linter.unusedSimpArgs false
set_option linter.unusedVariables false
set_option maxRecDepth 100000
set_option maxHeartbeats 2000000
namespace Go.Proofs.YtbjmakmahooaiaaGreat.Ab
open Go.Proofs
variable {GG : GV}
theorem putU_len : ∀ (n u : Nat), u < 128 ^ n → 0 < n → (putU u).length ≤ n
  | 0, _, _, h => absurd h (by omega)
  | n + 1, u, hu, _ => by
    rw [putU]
    split
    · simp
    · rename_i h
      rw [Nat.pow_succ] at hu
      have hn : 0 < n := by
        rcases Nat.eq_zero_or_pos n with rfl | h0
        · simp at hu; omega
        · exact h0
      have := putU_len n (u / 128) (by omega) hn
      simp only [List.length_cons]; omega
theorem and127_bin {u : Nat} (h : u < 9223372036854775808) : intBin .and .i64 (u : Int) 127 = some (.int .i64 ((u % 128 : Nat) : Int)) := by
  rw [intBin_andI]; exact congrArg (fun z => some (D.int .i64 z)) (and_num (b := 127) h (by omega) (and_127 u))
theorem or_bin {a k : Nat} (b : Nat) (h : a < 2 ^ k) (hc : a + b * 2 ^ k < 9223372036854775808) : intBin .or .i64 (a : Int) ((b * 2 ^ k : Nat) : Int) = some (.int .i64 ((a + b * 2 ^ k : Nat) : Int)) := by
  rw [intBin_orI]; exact congrArg (fun z => some (D.int .i64 z)) (or_num (by omega) (by omega) (or_add b h) hc)
theorem put_loop_step {o p : List UInt8} {u v : Nat} (h : p ++ putU u = o ++ putU v) (hu : 128 ≤ u) : p ++ [UInt8.ofNat (128 + u % 128)] ++ putU (u / 128) = o ++ putU v := by
  rw [← h]
  conv => rhs; rw [putU, if_neg (by omega)]
  simp
theorem put_loop_end {o p : List UInt8} {u v : Nat} (h : p ++ putU u = o ++ putU v) (hu : u < 128) : p ++ [UInt8.ofNat u] = o ++ putU v := by
  rw [← h, putU, if_pos hu]
theorem zig_neg {x : Int} (h : x < 0) : -2 * x - 1 = ((zig x : Nat) : Int) := by unfold zig; rw [if_pos h]; omega
theorem zig_pos {x : Int} (h : ¬ x < 0) : 2 * x = ((zig x : Nat) : Int) := by unfold zig; rw [if_neg h]; omega
theorem put_shr (u : Nat) : (u : Int).fdiv 128 = ((u / 128 : Nat) : Int) := shr_num u (k := 7) (by omega)
theorem putNum_ok (x : Int) (o : List UInt8) (h1 : -1099511627776 ≤ x) (h2 : x ≤ 1099511627776) (ho : o.length ≤ 1000000) :
    Valid PP GG 134 [.own 0 1 (bytesD o), .d (.int .i64 x)] (.own 0 1 (bytesD (o ++ putN x))) [none, none] := by
  refine cv Tryz.func134 [.own 0 1 (bytesD (o ++ putN x))] ?_
  have w1 : IntKind.i64.wrap (2 * x) = 2 * x := wrap_id (by omega) (by omega)
  have w2 : IntKind.i64.wrap (-2 * x) = -2 * x := wrap_id (by omega) (by omega)
  have w3 : IntKind.i64.wrap (-2 * x - 1) = -2 * x - 1 := wrap_id (by omega) (by omega)
  have hz : zig x ≤ 2199023255552 := by unfold zig; split <;> omega
  refine W_seq (?_)
  apply W_regS
  · intro K hK
    simp
    repeat' (first | with_reducible exact hK | (with_reducible refine goL_split (fun _ => ?_) (fun _ => ?_) <;> simp) | with_reducible refine And.intro ?_ ?_ | with_reducible exact okay_rfl rfl | with_reducible assumption | omega)
  refine W_seq (?_)
  apply W_regS
  · intro K hK
    simp [w1]
    repeat' (first | with_reducible exact hK | (with_reducible refine goL_split (fun _ => ?_) (fun _ => ?_) <;> simp [w1]) | with_reducible refine And.intro ?_ ?_ | with_reducible exact okay_rfl rfl | with_reducible assumption | omega)
  refine W_cut [0, 5] (fun st => st = ⟨[], [(0, .sl 0), (5, .d (.int .i64 (zig x)))], [(0, .arr 0 0 1 (bytesD o))], 1⟩) ?_ ?_
  · refine W_seq (?_)
    apply W_regS
    · intro K hK
      simp
      repeat' (first | with_reducible exact hK | (with_reducible refine goL_split (fun _ => ?_) (fun _ => ?_) <;> simp) | with_reducible refine And.intro ?_ ?_ | with_reducible exact okay_rfl rfl | with_reducible assumption | omega)
    refine W_cond rfl (fun h => ?_) (fun h => W_skip ?_)
    · simp at h
      have hq := zig_neg h
      rw [hq] at w3
      apply W_regS
      · intro K hK
        simp [w2, w3, hq]
        repeat' (first | with_reducible exact hK | (with_reducible refine goL_split (fun _ => ?_) (fun _ => ?_) <;> simp [w2, w3, hq]) | with_reducible refine And.intro ?_ ?_ | with_reducible exact okay_rfl rfl | with_reducible assumption | omega)
      simp [gc, closeN, liveA, gcV, gcO, renA, renAs, renO, namesAs, namesA, namesO, posn]
    · simp at h
      have hq := zig_pos (show ¬ x < 0 by omega)
      simp [gc, closeN, liveA, gcV, gcO, renA, renAs, renO, namesAs, namesA, namesO, posn, hq]
  rintro st rfl
  generalize hv : zig x = v at hz
  refine W_seq (W_block (W_loop (fun n st => ∃ (u : Nat) (p : List UInt8), n = u ∧ u ≤ v ∧ p ++ putU u = o ++ putU v ∧ p.length ≤ 1000000 + (v - u) ∧
    st = ⟨[], [(0, .sl 0), (5, .d (.int .i64 u))], [(0, .arr 0 0 1 (bytesD p))], 1⟩) _ ⟨v, o, rfl, by omega, rfl, by omega, rfl⟩ ?_))
  rintro n st ⟨u, p, rfl, hu, hp, hpl, rfl⟩
  refine W_seq (W_seq (?_))
  refine W_regB 14 (decide (127 < n)) (fun K hK => ?_) ?_
  · simp
    repeat' (first | exact hK _ _ (by clear hK; first | omega | (exact decide_eq_false (by omega)) | (exact decide_eq_true (by omega)) | (exact (decide_eq_true (by omega)).symm) | (exact (decide_eq_false (by omega)).symm) | (exact decide_eq_decide.2 (by omega)) | (simp only [← decide_not]; exact decide_eq_decide.2 (by omega)) | (simp [*]; done) | (simp [*]; omega) | (simp_all; done) | (simp_all; omega) | (rw [Bool.eq_iff_iff]; simp at *; omega)) | (with_reducible refine goL_split (fun _ => ?_) (fun _ => ?_) <;> simp) | with_reducible refine And.intro ?_ ?_ | with_reducible exact okay_rfl rfl | with_reducible assumption | omega)
  refine W_cond rfl (fun h => W_skip ?_) (fun h => W_exit ?_)
  · simp at h
    have hst := put_loop_step hp (by omega)
    have f1 := and127_bin (show n < 9223372036854775808 by omega)
    have f2 := or_bin (a := n % 128) (k := 7) 1 (by omega) (by omega)
    have f3 : IntKind.u8.wrap ((n % 128 + 1 * 2 ^ 7 : Nat) : Int) = ((UInt8.ofNat (128 + n % 128)).toNat : Int) := by rw [IntKind.wrap_u8, UInt8.toNat_ofNat']; omega
    have f4 := put_shr n
    have hd : n / 128 < n := by omega
    generalize UInt8.ofNat (128 + n % 128) = b at hst f3
    generalize n % 128 + 1 * 2 ^ 7 = r at f2 f3
    generalize n % 128 = r' at f1 f2
    have e7 : ((1 * 2 ^ 7 : Nat) : Int) = 128 := rfl
    rw [e7] at f2
    generalize n / 128 = m at hst f4 hd
    refine W_seq (W_block ?_)
    apply W_regS
    · intro K hK
      simp [f1, f2, f3, limit]
      repeat' (first | with_reducible exact hK | (with_reducible refine goL_split (fun _ => ?_) (fun _ => ?_) <;> simp [f1, f2, f3, limit]) | with_reducible refine And.intro ?_ ?_ | with_reducible exact okay_rfl rfl | with_reducible assumption | omega)
    apply W_regS
    · intro K hK
      simp [f4]
      repeat' (first | with_reducible exact hK | (with_reducible refine goL_split (fun _ => ?_) (fun _ => ?_) <;> simp [f4]) | with_reducible refine And.intro ?_ ?_ | with_reducible exact okay_rfl rfl | with_reducible assumption | omega)
    exact ⟨m, by omega, m, p ++ [b], rfl, by omega, hst, by simp; omega, by simp [gc, closeN, liveA, gcV, gcO, renA, renAs, renO, namesAs, namesA, namesO, posn, bytesD]⟩
  · simp at h
    have hst := put_loop_end hp (by omega)
    have f3 : IntKind.u8.wrap (n : Int) = ((UInt8.ofNat n).toNat : Int) := be_u8 n
    generalize UInt8.ofNat n = b at hst f3
    have e : bytesD (o ++ putN x) = bytesD p ++ [[.int .u8 b.toNat]] := by unfold putN; rw [hv, ← hst, bytesD_app]; rfl
    rw [if_pos rfl, e]
    refine W_seq (?_)
    apply W_regS
    · intro K hK
      simp [f3, limit]
      repeat' (first | with_reducible exact hK | (with_reducible refine goL_split (fun _ => ?_) (fun _ => ?_) <;> simp [f3, limit]) | with_reducible refine And.intro ?_ ?_ | with_reducible exact okay_rfl rfl | with_reducible assumption | omega)
    refine W_ret ?_
    simp [Fin]
    all_goals omega
theorem s_PutNum_ok (x : Int) (h1 : -4398046511104 ≤ x) (h2 : x ≤ 4398046511104) :
    Valid PP GG 125 [.d (.int .i64 x)] (.own 0 1 (bytesD (if -1099511627776 ≤ x ∧ x ≤ 1099511627776 then putN x else []))) [none] := by
  refine cv Tryz.func125 [.own 0 1 (bytesD (if -1099511627776 ≤ x ∧ x ≤ 1099511627776 then putN x else []))] ?_
  have ci : Valid PP GG 11 [.d (.int .i64 x), .d (.int .i64 (-1099511627776)), .d (.int .i64 1099511627776)] (.d (.bool (inB x (-1099511627776) 1099511627776))) [none, none, none] := l01In_ok _ _ _
  have hi : inB x (-1099511627776) 1099511627776 = decide (-1099511627776 ≤ x ∧ x ≤ 1099511627776) := by unfold inB; rw [Bool.eq_iff_iff]; simp
  generalize inB x (-1099511627776) 1099511627776 = q at ci hi
  have w1 : IntKind.i64.wrap (2 * x) = 2 * x := wrap_id (by omega) (by omega)
  have w2 : IntKind.i64.wrap (-2 * x) = -2 * x := wrap_id (by omega) (by omega)
  have w3 : IntKind.i64.wrap (-2 * x - 1) = -2 * x - 1 := wrap_id (by omega) (by omega)
  have hz : zig x ≤ 8796093022208 := by unfold zig; split <;> omega
  refine W_seq (?_)
  apply W_regS
  · intro K hK
    simp
    repeat' (first | with_reducible exact hK | (with_reducible refine goL_split (fun _ => ?_) (fun _ => ?_) <;> simp) | with_reducible refine And.intro ?_ ?_ | with_reducible exact okay_rfl rfl | with_reducible assumption | omega)
  refine W_seq (?_)
  apply W_regS
  · intro K hK
    simp [litA]
    repeat' (first | with_reducible exact hK | (with_reducible refine goL_split (fun _ => ?_) (fun _ => ?_) <;> simp [litA]) | with_reducible refine And.intro ?_ ?_ | with_reducible exact okay_rfl rfl | with_reducible assumption | omega)
  refine W_seq (W_seq (?_))
  apply W_regS
  · intro K hK
    simp
    repeat' (first | with_reducible exact hK | (with_reducible refine callQ (ci) ?_; simp) | (with_reducible refine goL_split (fun _ => ?_) (fun _ => ?_) <;> simp) | with_reducible refine And.intro ?_ ?_ | with_reducible exact okay_rfl rfl | with_reducible assumption | omega)
  refine W_cond rfl (fun h => W_seq ?_) (fun h => W_skip ?_)
  · apply W_regS
    · intro K hK
      simp
      repeat' (first | with_reducible exact hK | (with_reducible refine goL_split (fun _ => ?_) (fun _ => ?_) <;> simp) | with_reducible refine And.intro ?_ ?_ | with_reducible exact okay_rfl rfl | with_reducible assumption | omega)
    have hq : ¬ (-1099511627776 ≤ x ∧ x ≤ 1099511627776) := by intro hh; rw [decide_eq_true hh] at hi; subst hi; simp at h
    rw [if_neg hq]
    refine W_ret ?_
    simp [Fin, bytesD]
    all_goals omega
  have hq : -1099511627776 ≤ x ∧ x ≤ 1099511627776 := by
    apply Classical.byContradiction; intro hh; rw [decide_eq_false hh] at hi; subst hi; simp at h
  rw [if_pos hq]
  clear ci h hi
  refine W_seq (?_)
  apply W_regS
  · intro K hK
    simp [w1]
    repeat' (first | with_reducible exact hK | (with_reducible refine goL_split (fun _ => ?_) (fun _ => ?_) <;> simp [w1]) | with_reducible refine And.intro ?_ ?_ | with_reducible exact okay_rfl rfl | with_reducible assumption | omega)
  refine W_cut [3, 4] (fun st => st = ⟨[], [(3, .sl 0), (4, .d (.int .i64 (zig x)))], [(0, .arr 0 0 1 [])], 1⟩) ?_ ?_
  · refine W_seq (?_)
    apply W_regS
    · intro K hK
      simp
      repeat' (first | with_reducible exact hK | (with_reducible refine goL_split (fun _ => ?_) (fun _ => ?_) <;> simp) | with_reducible refine And.intro ?_ ?_ | with_reducible exact okay_rfl rfl | with_reducible assumption | omega)
    refine W_cond rfl (fun h => ?_) (fun h => W_skip ?_)
    · simp at h
      have hq := zig_neg h
      rw [hq] at w3
      apply W_regS
      · intro K hK
        simp [w2, w3, hq]
        repeat' (first | with_reducible exact hK | (with_reducible refine goL_split (fun _ => ?_) (fun _ => ?_) <;> simp [w2, w3, hq]) | with_reducible refine And.intro ?_ ?_ | with_reducible exact okay_rfl rfl | with_reducible assumption | omega)
      simp [gc, closeN, liveA, gcV, gcO, renA, renAs, renO, namesAs, namesA, namesO, posn]
    · simp at h
      have hq := zig_pos (show ¬ x < 0 by omega)
      simp [gc, closeN, liveA, gcV, gcO, renA, renAs, renO, namesAs, namesA, namesO, posn, hq]
  rintro st rfl
  generalize hv : zig x = v at hz
  refine W_seq (W_block (W_loop (fun n st => ∃ (u : Nat) (p : List UInt8), n = u ∧ u ≤ v ∧ p ++ putU u = putU v ∧ p.length ≤ v - u ∧
    st = ⟨[], [(3, .sl 0), (4, .d (.int .i64 u))], [(0, .arr 0 0 1 (bytesD p))], 1⟩) _ ⟨v, [], rfl, by omega, rfl, by simp, rfl⟩ ?_))
  rintro n st ⟨u, p, rfl, hu, hp, hpl, rfl⟩
  refine W_seq (W_seq (?_))
  refine W_regB 17 (decide (127 < n)) (fun K hK => ?_) ?_
  · simp
    repeat' (first | exact hK _ _ (by clear hK; first | omega | (exact decide_eq_false (by omega)) | (exact decide_eq_true (by omega)) | (exact (decide_eq_true (by omega)).symm) | (exact (decide_eq_false (by omega)).symm) | (exact decide_eq_decide.2 (by omega)) | (simp only [← decide_not]; exact decide_eq_decide.2 (by omega)) | (simp [*]; done) | (simp [*]; omega) | (simp_all; done) | (simp_all; omega) | (rw [Bool.eq_iff_iff]; simp at *; omega)) | (with_reducible refine goL_split (fun _ => ?_) (fun _ => ?_) <;> simp) | with_reducible refine And.intro ?_ ?_ | with_reducible exact okay_rfl rfl | with_reducible assumption | omega)
  refine W_cond rfl (fun h => W_skip ?_) (fun h => W_exit ?_)
  · simp at h
    have hst := put_loop_step (o := []) hp (by omega)
    rw [List.nil_append] at hst
    have f1 : (n : Int).tmod 128 = ((n % 128 : Nat) : Int) := rfl
    have f2 : (n : Int).tdiv 128 = ((n / 128 : Nat) : Int) := rfl
    have f3 : IntKind.i64.wrap (128 + ((n % 128 : Nat) : Int)) = ((128 + n % 128 : Nat) : Int) := by rw [wrap_id (by omega) (by omega)]; omega
    have f4 : IntKind.u8.wrap ((128 + n % 128 : Nat) : Int) = ((UInt8.ofNat (128 + n % 128)).toNat : Int) := be_u8 _
    have hd : n / 128 < n := by omega
    generalize UInt8.ofNat (128 + n % 128) = b at hst f4
    generalize 128 + n % 128 = r at f3 f4
    generalize n % 128 = r' at f1 f3
    generalize n / 128 = m at hst f2 hd
    have f5 : IntKind.i64.wrap (m : Int) = m := wrap_id (by omega) (by omega)
    refine W_block (W_seq ?_)
    apply W_regS
    · intro K hK
      simp [f1, f3, f4, limit]
      repeat' (first | with_reducible exact hK | (with_reducible refine goL_split (fun _ => ?_) (fun _ => ?_) <;> simp [f1, f3, f4, limit]) | with_reducible refine And.intro ?_ ?_ | with_reducible exact okay_rfl rfl | with_reducible assumption | omega)
    apply W_regS
    · intro K hK
      simp [f2, f5]
      repeat' (first | with_reducible exact hK | (with_reducible refine goL_split (fun _ => ?_) (fun _ => ?_) <;> simp [f2, f5]) | with_reducible refine And.intro ?_ ?_ | with_reducible exact okay_rfl rfl | with_reducible assumption | omega)
    exact ⟨m, by omega, m, p ++ [b], rfl, by omega, hst, by simp; omega, by simp [gc, closeN, liveA, gcV, gcO, renA, renAs, renO, namesAs, namesA, namesO, posn, bytesD]⟩
  · simp at h
    have hst := put_loop_end (o := []) hp (by omega)
    rw [List.nil_append] at hst
    have f3 : IntKind.u8.wrap (n : Int) = ((UInt8.ofNat n).toNat : Int) := be_u8 n
    generalize UInt8.ofNat n = b at hst f3
    have e : bytesD (putN x) = bytesD p ++ [[.int .u8 b.toNat]] := by unfold putN; rw [hv, ← hst, bytesD_app]; rfl
    rw [if_pos rfl, e]
    refine W_seq (?_)
    apply W_regS
    · intro K hK
      simp [f3, limit]
      repeat' (first | with_reducible exact hK | (with_reducible refine goL_split (fun _ => ?_) (fun _ => ?_) <;> simp [f3, limit]) | with_reducible refine And.intro ?_ ?_ | with_reducible exact okay_rfl rfl | with_reducible assumption | omega)
    refine W_ret ?_
    simp [Fin]
    all_goals omega
theorem takeV_none {l : List UInt8} (h : ∀ j x, j < 6 → l[j]? = some x → 128 ≤ x.toNat) : takeV l = none := by
  have : (l.take 6).findIdx? (fun x => decide (x.toNat < 128)) = none := by
    rw [List.findIdx?_eq_none_iff]
    intro x hx
    obtain ⟨j, hj⟩ := List.mem_iff_getElem?.1 hx
    rw [List.getElem?_take] at hj
    split at hj
    · rename_i h6
      have := h j x h6 hj
      exact decide_eq_false (by omega)
    · cases hj
  unfold takeV
  rw [this]
theorem takeV_at {l : List UInt8} {i : Nat} {x : UInt8} (hi : i < 6) (hx : l[i]? = some x) (hlt : x.toNat < 128) (h : ∀ j y, j < i → l[j]? = some y → 128 ≤ y.toNat) :
    takeV l = if putN (unzig (uval (l.take (i + 1)))) = l.take (i + 1) ∧ -1099511627776 ≤ unzig (uval (l.take (i + 1))) ∧ unzig (uval (l.take (i + 1))) ≤ 1099511627776 then some (unzig (uval (l.take (i + 1))), i + 1) else none := by
  have hil := (List.getElem?_eq_some_iff.1 hx).1
  have : (l.take 6).findIdx? (fun x => decide (x.toNat < 128)) = some i := by
    rw [List.findIdx?_eq_some_iff_getElem]
    refine ⟨by rw [List.length_take]; omega, ?_, ?_⟩
    · rw [List.getElem_take, (List.getElem?_eq_some_iff.1 hx).2]; exact decide_eq_true hlt
    · intro j hj
      rw [List.getElem_take]
      have := h j _ hj (List.getElem?_eq_getElem (by omega))
      simp; omega
  unfold takeV
  rw [this]
theorem unzig_far {u : Nat} (h : 4398046511104 ≤ u) : ¬ (-1099511627776 ≤ unzig u ∧ unzig u ≤ 1099511627776) := by
  unfold unzig; split <;> omega
theorem takeV_step {l : List UInt8} {i : Nat} {x : UInt8} {v : Int} (hi : i ≤ 6) (hx : l[i]? = some x) (hlt : x.toNat < 128) (h : ∀ j y, j < i → l[j]? = some y → 128 ≤ y.toNat) (hv : unzig (uval (l.take (i + 1))) = v) :
    takeV l = if (x.toNat = 0 ∧ 0 < i) ∨ ¬ (-1099511627776 ≤ v ∧ v ≤ 1099511627776) then none else some (v, i + 1) := by
  have hil := (List.getElem?_eq_some_iff.1 hx).1
  by_cases h6 : i < 6
  · rw [takeV_at h6 hx hlt h, hv]
    have ht : l.take (i + 1) = l.take i ++ [x] := by rw [List.take_add_one, hx]; rfl
    have hp := putU_uval (l.take i) x (fun y hy => by
      obtain ⟨j, hj⟩ := List.mem_iff_getElem?.1 hy
      rw [List.getElem?_take] at hj
      split at hj
      · rename_i hji; exact h j y hji hj
      · cases hj) hlt
    rw [← ht] at hp
    have hz : putN v = putU (uval (l.take (i + 1))) := by unfold putN; rw [← hv, zig_unzig]
    have he : l.take i = [] ↔ i = 0 := by
      constructor
      · intro e; have := congrArg List.length e; rw [List.length_take, Nat.min_eq_left (by omega)] at this; exact this
      · rintro rfl; rfl
    have hp2 : putN v = l.take (i + 1) ↔ (i = 0 ∨ x.toNat ≠ 0) := by rw [hz, hp, he]
    by_cases hq : (x.toNat = 0 ∧ 0 < i) ∨ ¬ (-1099511627776 ≤ v ∧ v ≤ 1099511627776)
    · rw [if_pos hq, if_neg]
      rintro ⟨h1, h2⟩
      have := hp2.1 h1
      omega
    · rw [if_neg hq, if_pos ⟨hp2.2 (by omega), by omega⟩]
  · rw [takeV_none (fun j y hj hy => h j y (by omega) hy), if_pos]
    by_cases h0 : x.toNat = 0
    · exact .inl ⟨h0, by omega⟩
    · right
      rw [← hv, uval_take hx]
      have h6' : i = 6 := by omega
      subst h6'
      exact unzig_far (by omega)
theorem and8_bin (x : UInt8) : intBin .and .u8 (x.toNat : Int) 127 = some (.int .u8 ((x.toNat % 128 : Nat) : Int)) := by
  have hx := x.toNat_lt
  have e : (BitVec.ofInt 8 (x.toNat : Int) &&& BitVec.ofInt 8 127).toNat = x.toNat % 128 := by
    rw [BitVec.toNat_and, BitVec.toNat_ofInt, show (BitVec.ofInt 8 127).toNat = 127 from rfl]
    rw [show ((x.toNat : Int) % ((2 ^ 8 : Nat) : Int)).toNat = x.toNat by omega]
    exact and_127 _
  show some (D.int .u8 (IntKind.u8.wrap (((BitVec.ofInt 8 (x.toNat : Int) &&& BitVec.ofInt 8 127).toNat : Nat) : Int))) = _
  rw [e, IntKind.wrap_u8]
  congr 2; omega
theorem pow_seven (i : Nat) : (128 : Nat) ^ i = 2 ^ (7 * i) := by rw [Nat.pow_mul]
theorem uval_bound {l : List UInt8} {i : Nat} (h : i ≤ 7) : uval (l.take i) < 2 ^ (7 * i) := by
  have h1 := uval_lt (l.take i)
  rw [pow_seven] at h1
  refine Nat.lt_of_lt_of_le h1 (Nat.pow_le_pow_right (by omega) ?_)
  rw [List.length_take]; omega
theorem pow_le_49 {i : Nat} (h : i ≤ 7) : 2 ^ (7 * i) ≤ 562949953421312 := by
  have := Nat.pow_le_pow_right (show 2 > 0 by omega) (show 7 * i ≤ 49 by omega)
  omega
theorem unzig_even {u : Nat} (h : ¬ u % 2 = 1) : unzig u = ((u / 2 : Nat) : Int) := by unfold unzig; rw [if_neg h]
theorem unzig_odd {u : Nat} (h : u % 2 = 1) : unzig u = -((u / 2 : Nat) : Int) - 1 := by unfold unzig; rw [if_pos h]
theorem unzig_range (u : Nat) : -((u / 2 : Nat) : Int) - 1 ≤ unzig u ∧ unzig u ≤ ((u / 2 : Nat) : Int) := by unfold unzig; split <;> omega
theorem shl_num {g i s : Nat} (h : g * 2 ^ (7 * i) = s) (hi : i ≤ 7) (hs : s < 9223372036854775808) : IntKind.i64.wrap ((g : Int) * 2 ^ (min (7 * i) 64)) = (s : Int) := by
  rw [Nat.min_eq_left (by omega), show ((g : Int) * 2 ^ (7 * i)) = ((g * 2 ^ (7 * i) : Nat) : Int) by simp, h]
  exact wrap_id (by omega) (by omega)
theorem takeNum_ok (b : List UInt8) (a : Nat) (t : Option (Int × Nat)) (ht : takeV (b.drop a) = t) (hb : b.length ≤ 1000000) (ha : a ≤ 1000000) :
    Valid PP GG 106 [.d (.slc 1 (bytesD b)), .d (.int .i64 a)] (.tup [.d (.int .i64 ((t.map (·.1)).getD 0)), .d (.int .i64 ((t.map fun p => ((a + p.2 : Nat) : Int)).getD 0)), .d (.bool t.isSome)]) [none, none] := by
  refine cv Tryz.func106 [.d (.int .i64 ((t.map (·.1)).getD 0)), .d (.int .i64 ((t.map fun p => ((a + p.2 : Nat) : Int)).getD 0)), .d (.bool t.isSome)] ?_
  obtain ⟨l, hl⟩ : ∃ l, b.drop a = l := ⟨_, rfl⟩
  rw [hl] at ht
  have hlen : l.length = b.length - a := by rw [← hl, List.length_drop]
  have hget : ∀ i, b[a + i]? = l[i]? := fun i => by rw [← hl, List.getElem?_drop]
  have hw7 : IntKind.i64.wrap ((a : Int) + 7) = (a : Int) + 7 := wrap_id (by omega) (by omega)
  refine W_seq (?_)
  apply W_regS
  · intro K hK
    simp
    repeat' (first | with_reducible exact hK | (with_reducible refine goL_split (fun _ => ?_) (fun _ => ?_) <;> simp) | with_reducible refine And.intro ?_ ?_ | with_reducible exact okay_rfl rfl | with_reducible assumption | omega)
  refine W_seq (W_seq (?_))
  refine W_regB 11 (false) (fun K hK => ?_) ?_
  · simp
    repeat' (first | exact hK _ _ (by clear hK; first | omega | (exact decide_eq_false (by omega)) | (exact decide_eq_true (by omega)) | (exact (decide_eq_true (by omega)).symm) | (exact (decide_eq_false (by omega)).symm) | (exact decide_eq_decide.2 (by omega)) | (simp only [← decide_not]; exact decide_eq_decide.2 (by omega)) | (simp [*]; done) | (simp [*]; omega) | (simp_all; done) | (simp_all; omega) | (rw [Bool.eq_iff_iff]; simp at *; omega)) | (with_reducible refine goL_split (fun _ => ?_) (fun _ => ?_) <;> simp) | with_reducible refine And.intro ?_ ?_ | with_reducible exact okay_rfl rfl | with_reducible assumption | omega)
  refine W_cond rfl (fun h => ?_) (fun h => W_skip ?_)
  · cases h
  refine W_seq (?_)
  apply W_regS
  · intro K hK
    simp
    repeat' (first | with_reducible exact hK | (with_reducible refine goL_split (fun _ => ?_) (fun _ => ?_) <;> simp) | with_reducible refine And.intro ?_ ?_ | with_reducible exact okay_rfl rfl | with_reducible assumption | omega)
  refine W_seq (W_seq (?_))
  apply W_regS
  · intro K hK
    simp
    repeat' (first | with_reducible exact hK | (with_reducible refine goL_split (fun _ => ?_) (fun _ => ?_) <;> simp) | with_reducible refine And.intro ?_ ?_ | with_reducible exact okay_rfl rfl | with_reducible assumption | omega)
  refine W_block (W_loop (fun n st => ∃ (i p u : Nat), n = 7 - i ∧ i ≤ 7 ∧ p = a + i ∧ (∀ j y, j < i → l[j]? = some y → 128 ≤ y.toNat) ∧ (i ≤ l.length) ∧ u = uval (l.take i) ∧
    st = ⟨[], [(0, .d (.slc 1 (bytesD b))), (1, .d (.int .i64 a)), (7, .d (.int .i64 u)), (8, .d (.int .i64 p))], [], 0⟩) _ ⟨0, a, 0, rfl, by omega, rfl, fun j y hj => by omega, by omega, rfl, rfl⟩ ?_)
  rintro n st ⟨i, p, u, rfl, hi, hpa, hbig, hil, hu, rfl⟩
  refine W_seq (W_seq (?_))
  refine W_regB 22 (decide (i < l.length ∧ i < 7)) (fun K hK => ?_) ?_
  · simp [hw7]
    repeat' (first | exact hK _ _ (by clear hK; first | omega | (exact decide_eq_false (by omega)) | (exact decide_eq_true (by omega)) | (exact (decide_eq_true (by omega)).symm) | (exact (decide_eq_false (by omega)).symm) | (exact decide_eq_decide.2 (by omega)) | (simp only [← decide_not]; exact decide_eq_decide.2 (by omega)) | (simp [*]; done) | (simp [*]; omega) | (simp_all; done) | (simp_all; omega) | (rw [Bool.eq_iff_iff]; simp at *; omega)) | (with_reducible refine goL_split (fun _ => ?_) (fun _ => ?_) <;> simp [hw7]) | with_reducible refine And.intro ?_ ?_ | with_reducible exact okay_rfl rfl | with_reducible assumption | omega)
  refine W_cond rfl (fun h => W_skip ?_) (fun h => W_exit ?_)
  · simp at h
    have hx := List.getElem?_eq_getElem h.1
    generalize l[i]'_ = x at hx
    have hbx : b[p]? = some x := by rw [hpa, hget, hx]
    have hxl := x.toNat_lt
    have hut := uval_take hx
    rw [← hu, pow_seven] at hut
    have hub := uval_bound (l := l) (i := i) (by omega)
    rw [← hu] at hub
    have hub2 := uval_bound (l := l) (i := i + 1) (by omega)
    have hp49 := pow_le_49 (i := i + 1) (by omega)
    obtain ⟨v, hv⟩ : ∃ v, uval (l.take (i + 1)) = v := ⟨_, rfl⟩
    have hstep := fun hlt => takeV_step (v := unzig v) (show i ≤ 6 by omega) hx hlt hbig (by rw [hv])
    rw [hv] at hut hub2
    obtain ⟨s, hs⟩ : ∃ s, x.toNat % 128 * 2 ^ (7 * i) = s := ⟨_, rfl⟩
    have hsb : s < 9223372036854775808 := by omega
    have f1 := and8_bin x
    have f2 : IntKind.i64.wrap ((x.toNat % 128 : Nat) : Int) = ((x.toNat % 128 : Nat) : Int) := wrap_id (by omega) (by omega)
    have f3 : IntKind.i64.wrap ((p : Int) - a) = i := by rw [wrap_id (by omega) (by omega)]; omega
    have f4 : IntKind.i64.wrap (7 * (i : Int)) = 7 * i := wrap_id (by omega) (by omega)
    have f5 : (7 * (i : Int)).toNat = 7 * i := by omega
    have f6 : (0 : Int) ≤ 7 * (i : Int) := by omega
    have f7 := shl_num hs (show i ≤ 7 by omega) hsb
    have f8 := or_bin (x.toNat % 128) hub (by omega)
    rw [hs] at hut f8
    rw [← hut] at f8
    have hvs : v < 562949953421312 := by omega
    clear hsb hub hub2 hp49 hs
    have g1 : (v : Int).tdiv 2 = ((v / 2 : Nat) : Int) := rfl
    have g2 : (v : Int).tmod 2 = ((v % 2 : Nat) : Int) := rfl
    have hur := unzig_range v
    have e1 := @unzig_even v
    have e2 := @unzig_odd v
    obtain ⟨m, hm⟩ : ∃ m, v / 2 = m := ⟨_, rfl⟩
    rw [hm] at g1 hur e1 e2
    have g3 : IntKind.i64.wrap (m : Int) = m := wrap_id (by omega) (by omega)
    refine W_seq (W_block (W_seq ?_))
    generalize hg : x.toNat % 128 = g at f1 f2 f7
    apply W_regS
    · intro K hK
      simp [-intBin_and8, hbx, f1, f2, f3, f4, f5, f6, f7, f8]
      repeat' (first | with_reducible exact hK | (with_reducible refine goL_split (fun _ => ?_) (fun _ => ?_) <;> simp [-intBin_and8, hbx, f1, f2, f3, f4, f5, f6, f7, f8]) | with_reducible refine And.intro ?_ ?_ | with_reducible exact okay_rfl rfl | with_reducible assumption | omega)
    refine W_seq (W_seq (?_))
    refine W_regB 42 (decide (127 < x.toNat)) (fun K hK => ?_) ?_
    · simp [hbx]
      repeat' (first | exact hK _ _ (by clear hK; first | omega | (exact decide_eq_false (by omega)) | (exact decide_eq_true (by omega)) | (exact (decide_eq_true (by omega)).symm) | (exact (decide_eq_false (by omega)).symm) | (exact decide_eq_decide.2 (by omega)) | (simp only [← decide_not]; exact decide_eq_decide.2 (by omega)) | (simp [*]; done) | (simp [*]; omega) | (simp_all; done) | (simp_all; omega) | (rw [Bool.eq_iff_iff]; simp at *; omega)) | (with_reducible refine goL_split (fun _ => ?_) (fun _ => ?_) <;> simp [hbx]) | with_reducible refine And.intro ?_ ?_ | with_reducible exact okay_rfl rfl | with_reducible assumption | omega)
    refine W_cond rfl (fun h3 => W_exit ?_) (fun h3 => W_skip ?_)
    · simp at h3
      apply W_regS
      · intro K hK
        simp
        repeat' (first | with_reducible exact hK | (with_reducible refine goL_split (fun _ => ?_) (fun _ => ?_) <;> simp) | with_reducible refine And.intro ?_ ?_ | with_reducible exact okay_rfl rfl | with_reducible assumption | omega)
      refine ⟨7 - (i + 1), by omega, i + 1, p + 1, v, rfl, by omega, by omega, ?_, by omega, hv.symm, ?_⟩
      · intro j y hj hy
        by_cases e : j = i
        · subst e; rw [hx] at hy; cases hy; omega
        · exact hbig j y (by omega) hy
      · simp [gc, closeN, liveA, gcV, gcO, renA, renAs, renO, namesAs, namesA, namesO, posn]
        exact wrap_id (by omega) (by omega)
    simp at h3
    have hst := hstep (by omega)
    clear hstep
    rw [ht] at hst
    refine W_seq (?_)
    apply W_regS
    · intro K hK
      simp [g1, g3]
      repeat' (first | with_reducible exact hK | (with_reducible refine goL_split (fun _ => ?_) (fun _ => ?_) <;> simp [g1, g3]) | with_reducible refine And.intro ?_ ?_ | with_reducible exact okay_rfl rfl | with_reducible assumption | omega)
    refine W_cut [0, 1, 8, 9] (fun st => st = ⟨[], [(0, .d (.slc 1 (bytesD b))), (1, .d (.int .i64 a)), (8, .d (.int .i64 p)), (9, .d (.int .i64 (unzig v)))], [], 0⟩) ?_ ?_
    · refine W_seq (?_)
      refine W_regB 47 (decide (v % 2 = 1)) (fun K hK => ?_) ?_
      · simp [g2]
        repeat' (first | exact hK _ _ (by clear hK; first | omega | (exact decide_eq_false (by omega)) | (exact decide_eq_true (by omega)) | (exact (decide_eq_true (by omega)).symm) | (exact (decide_eq_false (by omega)).symm) | (exact decide_eq_decide.2 (by omega)) | (simp only [← decide_not]; exact decide_eq_decide.2 (by omega)) | (simp [*]; done) | (simp [*]; omega) | (simp_all; done) | (simp_all; omega) | (rw [Bool.eq_iff_iff]; simp at *; omega)) | (with_reducible refine goL_split (fun _ => ?_) (fun _ => ?_) <;> simp [g2]) | with_reducible refine And.intro ?_ ?_ | with_reducible exact okay_rfl rfl | with_reducible assumption | omega)
      refine W_cond rfl (fun h4 => ?_) (fun h4 => W_skip ?_)
      · simp at h4
        have e := e2 h4
        have g4 : IntKind.i64.wrap (-(m : Int)) = -(m : Int) := wrap_id (by omega) (by omega)
        have g5 : IntKind.i64.wrap (-(m : Int) - 1) = unzig v := by rw [wrap_id (by omega) (by omega), e]
        apply W_regS
        · intro K hK
          simp [g4, g5]
          repeat' (first | with_reducible exact hK | (with_reducible refine goL_split (fun _ => ?_) (fun _ => ?_) <;> simp [g4, g5]) | with_reducible refine And.intro ?_ ?_ | with_reducible exact okay_rfl rfl | with_reducible assumption | omega)
        simp [gc, closeN, liveA, gcV, gcO, renA, renAs, renO, namesAs, namesA, namesO, posn]
      · simp at h4
        have e := e1 (show ¬ v % 2 = 1 by omega)
        simp [gc, closeN, liveA, gcV, gcO, renA, renAs, renO, namesAs, namesA, namesO, posn, e]
    rintro st rfl
    generalize hz : unzig v = z at hst hur
    have cw : Valid PP GG 14 [.d (.int .i64 z), .d (.int .i64 (-1099511627776)), .d (.int .i64 1099511627776)] (.d (.bool (inB z (-1099511627776) 1099511627776))) [none, none, none] := within_ok _ _ _
    have hib : inB z (-1099511627776) 1099511627776 = decide (-1099511627776 ≤ z ∧ z ≤ 1099511627776) := by unfold inB; rw [Bool.eq_iff_iff]; simp
    rw [hib] at cw
    obtain ⟨q, hq⟩ : ∃ q, decide (-1099511627776 ≤ z ∧ z ≤ 1099511627776) = q := ⟨_, rfl⟩
    rw [hq] at cw
    have hq2 : decide ((x.toNat = 0 ∧ 0 < i) ∨ ¬ (-1099511627776 ≤ z ∧ z ≤ 1099511627776)) = (decide (x.toNat = 0 ∧ 0 < i) || !q) := by rw [← hq, ← decide_not]; exact Bool.decide_or _ _
    refine W_seq (W_seq (?_))
    refine W_regB 65 ((decide (x.toNat = 0 ∧ 0 < i) || !q)) (fun K hK => ?_) ?_
    · simp [hbx]
      repeat' (first | exact hK _ _ (by clear hK; first | omega | (exact decide_eq_false (by omega)) | (exact decide_eq_true (by omega)) | (exact (decide_eq_true (by omega)).symm) | (exact (decide_eq_false (by omega)).symm) | (exact decide_eq_decide.2 (by omega)) | (simp only [← decide_not]; exact decide_eq_decide.2 (by omega)) | (simp [*]; done) | (simp [*]; omega) | (simp_all; done) | (simp_all; omega) | (rw [Bool.eq_iff_iff]; simp at *; omega)) | (with_reducible refine callQ (cw) ?_; simp [hbx]) | (with_reducible refine goL_split (fun _ => ?_) (fun _ => ?_) <;> simp [hbx]) | with_reducible refine And.intro ?_ ?_ | with_reducible exact okay_rfl rfl | with_reducible assumption | omega)
    refine W_cond rfl (fun h5 => W_exit ?_) (fun h5 => W_skip ?_)
    · rw [← hq2, decide_eq_true_eq] at h5
      rw [if_pos h5] at hst
      subst hst
      rw [if_pos rfl]
      refine W_seq (?_)
      apply W_regS
      · intro K hK
        simp
        repeat' (first | with_reducible exact hK | (with_reducible refine goL_split (fun _ => ?_) (fun _ => ?_) <;> simp) | with_reducible refine And.intro ?_ ?_ | with_reducible exact okay_rfl rfl | with_reducible assumption | omega)
      refine W_ret ?_
      simp [Fin]
      all_goals omega
    · rw [← hq2, decide_eq_false_iff_not] at h5
      rw [if_neg h5] at hst
      subst hst
      have g6 : IntKind.i64.wrap ((p : Int) + 1) = ((a + (i + 1) : Nat) : Int) := by rw [wrap_id (by omega) (by omega)]; omega
      refine W_seq (?_)
      apply W_regS
      · intro K hK
        simp [g6]
        repeat' (first | with_reducible exact hK | (with_reducible refine goL_split (fun _ => ?_) (fun _ => ?_) <;> simp [g6]) | with_reducible refine And.intro ?_ ?_ | with_reducible exact okay_rfl rfl | with_reducible assumption | omega)
      refine W_ret ?_
      simp [Fin]
      all_goals omega
  · simp at h
    have hn : t = none := by
      rw [← ht]
      apply takeV_none
      intro j y hj hy
      have := (List.getElem?_eq_some_iff.1 hy).1
      exact hbig j y (by omega) hy
    subst hn
    rw [if_pos rfl]
    refine W_seq (?_)
    apply W_regS
    · intro K hK
      simp
      repeat' (first | with_reducible exact hK | (with_reducible refine goL_split (fun _ => ?_) (fun _ => ?_) <;> simp) | with_reducible refine And.intro ?_ ?_ | with_reducible exact okay_rfl rfl | with_reducible assumption | omega)
    refine W_ret ?_
    simp [Fin]
    all_goals omega
theorem bytesD_cut {b l : List UInt8} {a : Nat} (h : b.drop a = l) (k : Nat) : ((bytesD b).take (a + k)).drop a = bytesD (l.take k) := by
  unfold bytesD
  rw [← List.map_take, ← List.map_drop, ← h, List.drop_take, Nat.add_sub_cancel_left]
theorem s_TakeNum_ok (b : List UInt8) (a : Nat) (t : Option (Int × Nat)) (ht : takeV (b.drop a) = t) (hb : b.length ≤ 1000000) (ha : a ≤ 1000000) :
    Valid PP GG 95 [.d (.slc 1 (bytesD b)), .d (.int .i64 a)] (.tup [.d (.int .i64 ((t.map (·.1)).getD 0)), .d (.int .i64 ((t.map fun p => ((a + p.2 : Nat) : Int)).getD 0)), .d (.bool t.isSome)]) [none, none] := by
  refine cv Tryz.func95 [.d (.int .i64 ((t.map (·.1)).getD 0)), .d (.int .i64 ((t.map fun p => ((a + p.2 : Nat) : Int)).getD 0)), .d (.bool t.isSome)] ?_
  obtain ⟨l, hl⟩ : ∃ l, b.drop a = l := ⟨_, rfl⟩
  rw [hl] at ht
  have hlen : l.length = b.length - a := by rw [← hl, List.length_drop]
  have hget : ∀ i, b[a + i]? = l[i]? := fun i => by rw [← hl, List.getElem?_drop]
  refine W_seq (?_)
  apply W_regS
  · intro K hK
    simp
    repeat' (first | with_reducible exact hK | (with_reducible refine goL_split (fun _ => ?_) (fun _ => ?_) <;> simp) | with_reducible refine And.intro ?_ ?_ | with_reducible exact okay_rfl rfl | with_reducible assumption | omega)
  refine W_seq (W_seq (?_))
  refine W_regB 18 (decide (b.length ≤ a)) (fun K hK => ?_) ?_
  · simp
    repeat' (first | exact hK _ _ (by clear hK; first | omega | (exact decide_eq_false (by omega)) | (exact decide_eq_true (by omega)) | (exact (decide_eq_true (by omega)).symm) | (exact (decide_eq_false (by omega)).symm) | (exact decide_eq_decide.2 (by omega)) | (simp only [← decide_not]; exact decide_eq_decide.2 (by omega)) | (simp [*]; done) | (simp [*]; omega) | (simp_all; done) | (simp_all; omega) | (rw [Bool.eq_iff_iff]; simp at *; omega)) | (with_reducible refine goL_split (fun _ => ?_) (fun _ => ?_) <;> simp) | with_reducible refine And.intro ?_ ?_ | with_reducible exact okay_rfl rfl | with_reducible assumption | omega)
  refine W_cond rfl (fun h => W_seq ?_) (fun h => W_skip ?_)
  · simp at h
    have e : l = [] := List.eq_nil_of_length_eq_zero (by omega)
    subst e
    have e2 : takeV [] = none := rfl
    rw [e2] at ht
    subst ht
    apply W_regS
    · intro K hK
      simp
      repeat' (first | with_reducible exact hK | (with_reducible refine goL_split (fun _ => ?_) (fun _ => ?_) <;> simp) | with_reducible refine And.intro ?_ ?_ | with_reducible exact okay_rfl rfl | with_reducible assumption | omega)
    refine W_ret ?_
    simp [Fin]
    all_goals omega
  simp at h
  have hw7 : IntKind.i64.wrap ((b.length : Int) - a) = ((b.length - a : Nat) : Int) := by rw [wrap_id (by omega) (by omega)]; omega
  refine W_seq (?_)
  apply W_regS
  · intro K hK
    simp
    repeat' (first | with_reducible exact hK | (with_reducible refine goL_split (fun _ => ?_) (fun _ => ?_) <;> simp) | with_reducible refine And.intro ?_ ?_ | with_reducible exact okay_rfl rfl | with_reducible assumption | omega)
  refine W_seq (W_seq (?_))
  apply W_regS
  · intro K hK
    simp
    repeat' (first | with_reducible exact hK | (with_reducible refine goL_split (fun _ => ?_) (fun _ => ?_) <;> simp) | with_reducible refine And.intro ?_ ?_ | with_reducible exact okay_rfl rfl | with_reducible assumption | omega)
  refine W_block (W_loop (fun n st => ∃ (i u : Nat), n = 6 - i ∧ i ≤ 6 ∧ (∀ j y, j < i → l[j]? = some y → 128 ≤ y.toNat) ∧ (i ≤ l.length) ∧ u = uval (l.take i) ∧
    st = ⟨[], [(0, .d (.slc 1 (bytesD b))), (1, .d (.int .i64 a)), (7, .d (.int .i64 u)), (8, .d (.int .i64 i))], [], 0⟩) _ ⟨0, 0, rfl, by omega, fun j y hj => by omega, by omega, rfl, rfl⟩ ?_)
  rintro n st ⟨i, u, rfl, hi, hbig, hil, hu, rfl⟩
  refine W_seq (W_seq (?_))
  refine W_regB 28 (decide (i < 6 ∧ i < b.length - a)) (fun K hK => ?_) ?_
  · simp [hw7]
    repeat' (first | exact hK _ _ (by clear hK; first | omega | (exact decide_eq_false (by omega)) | (exact decide_eq_true (by omega)) | (exact (decide_eq_true (by omega)).symm) | (exact (decide_eq_false (by omega)).symm) | (exact decide_eq_decide.2 (by omega)) | (simp only [← decide_not]; exact decide_eq_decide.2 (by omega)) | (simp [*]; done) | (simp [*]; omega) | (simp_all; done) | (simp_all; omega) | (rw [Bool.eq_iff_iff]; simp at *; omega)) | (with_reducible refine goL_split (fun _ => ?_) (fun _ => ?_) <;> simp [hw7]) | with_reducible refine And.intro ?_ ?_ | with_reducible exact okay_rfl rfl | with_reducible assumption | omega)
  refine W_cond rfl (fun h => W_skip ?_) (fun h => W_exit ?_)
  · simp at h
    have hx := List.getElem?_eq_getElem (show i < l.length by omega)
    generalize l[i]'_ = x at hx
    obtain ⟨p, hpa⟩ : ∃ p, a + i = p := ⟨_, rfl⟩
    have hbx : b[p]? = some x := by rw [← hpa, hget, hx]
    have hxl := x.toNat_lt
    have hut := uval_take hx
    rw [← hu, pow_seven] at hut
    have hub := uval_bound (l := l) (i := i) (by omega)
    rw [← hu] at hub
    have hub2 := uval_bound (l := l) (i := i + 1) (by omega)
    have hp49 := pow_le_49 (i := i + 1) (by omega)
    have hp42 : 2 ^ (7 * (i + 1)) ≤ 4398046511104 := by
      have := Nat.pow_le_pow_right (show 2 > 0 by omega) (show 7 * (i + 1) ≤ 42 by omega)
      omega
    have hcut := bytesD_cut hl (i + 1)
    obtain ⟨pl, hpl⟩ : ∃ pl, l.take (i + 1) = pl := ⟨_, rfl⟩
    have hpll : pl.length ≤ 1000000 := by rw [← hpl, List.length_take]; omega
    obtain ⟨v, hv⟩ : ∃ v, uval pl = v := ⟨_, rfl⟩
    have hstep := fun hlt => takeV_at h.1 hx hlt hbig
    rw [ht, hpl, hv] at hstep
    rw [hpl, hv] at hut hub2
    rw [hpl] at hcut
    obtain ⟨s, hs⟩ : ∃ s, x.toNat % 128 * 2 ^ (7 * i) = s := ⟨_, rfl⟩
    have hsb : s < 9223372036854775808 := by omega
    rw [hs] at hut
    have f2 : IntKind.i64.wrap (x.toNat : Int) = x.toNat := wrap_id (by omega) (by omega)
    have f3 : IntKind.i64.wrap ((a : Int) + i) = p := by rw [wrap_id (by omega) (by omega)]; omega
    have f4 : IntKind.i64.wrap (7 * (i : Int)) = 7 * i := wrap_id (by omega) (by omega)
    have f4b : IntKind.u64.wrap (7 * (i : Int)) = 7 * i := by rw [IntKind.wrap_u64]; omega
    have f5 : (7 * (i : Int)).toNat = 7 * i := by omega
    have f6 : (0 : Int) ≤ 7 * (i : Int) := by omega
    have f7 := shl_num hs (show i ≤ 7 by omega) hsb
    have f8 : IntKind.i64.wrap ((u : Int) + s) = v := by rw [wrap_id (by omega) (by omega)]; omega
    have f9 : (x.toNat : Int).tmod 128 = ((x.toNat % 128 : Nat) : Int) := rfl
    have hvs : v < 4398046511104 := by omega
    clear hsb hub hub2 hp49 hs hp42
    have g1 : (v : Int).tdiv 2 = ((v / 2 : Nat) : Int) := rfl
    have g2 : (v : Int).tmod 2 = ((v % 2 : Nat) : Int) := rfl
    have hur := unzig_range v
    have e1 := @unzig_even v
    have e2 := @unzig_odd v
    obtain ⟨m, hm⟩ : ∃ m, v / 2 = m := ⟨_, rfl⟩
    rw [hm] at g1 hur e1 e2
    have g3 : IntKind.i64.wrap (m : Int) = m := wrap_id (by omega) (by omega)
    refine W_seq (W_block (W_seq ?_))
    generalize hg : x.toNat % 128 = g at f9 f7
    apply W_regS
    · intro K hK
      simp [hbx, f2, f3]
      repeat' (first | with_reducible exact hK | (with_reducible refine goL_split (fun _ => ?_) (fun _ => ?_) <;> simp [hbx, f2, f3]) | with_reducible refine And.intro ?_ ?_ | with_reducible exact okay_rfl rfl | with_reducible assumption | omega)
    refine W_seq (?_)
    apply W_regS
    · intro K hK
      simp [f9, f4, f4b, f5, f6, f7, f8]
      repeat' (first | with_reducible exact hK | (with_reducible refine goL_split (fun _ => ?_) (fun _ => ?_) <;> simp [f9, f4, f4b, f5, f6, f7, f8]) | with_reducible refine And.intro ?_ ?_ | with_reducible exact okay_rfl rfl | with_reducible assumption | omega)
    refine W_seq (W_seq (?_))
    refine W_regB 47 (decide (127 < x.toNat)) (fun K hK => ?_) ?_
    · simp
      repeat' (first | exact hK _ _ (by clear hK; first | omega | (exact decide_eq_false (by omega)) | (exact decide_eq_true (by omega)) | (exact (decide_eq_true (by omega)).symm) | (exact (decide_eq_false (by omega)).symm) | (exact decide_eq_decide.2 (by omega)) | (simp only [← decide_not]; exact decide_eq_decide.2 (by omega)) | (simp [*]; done) | (simp [*]; omega) | (simp_all; done) | (simp_all; omega) | (rw [Bool.eq_iff_iff]; simp at *; omega)) | (with_reducible refine goL_split (fun _ => ?_) (fun _ => ?_) <;> simp) | with_reducible refine And.intro ?_ ?_ | with_reducible exact okay_rfl rfl | with_reducible assumption | omega)
    refine W_cond rfl (fun h3 => W_exit ?_) (fun h3 => W_skip ?_)
    · simp at h3
      apply W_regS
      · intro K hK
        simp
        repeat' (first | with_reducible exact hK | (with_reducible refine goL_split (fun _ => ?_) (fun _ => ?_) <;> simp) | with_reducible refine And.intro ?_ ?_ | with_reducible exact okay_rfl rfl | with_reducible assumption | omega)
      refine ⟨6 - (i + 1), by omega, i + 1, v, rfl, by omega, ?_, by omega, by rw [hpl, hv], ?_⟩
      · intro j y hj hy
        by_cases e : j = i
        · subst e; rw [hx] at hy; cases hy; omega
        · exact hbig j y (by omega) hy
      · simp [gc, closeN, liveA, gcV, gcO, renA, renAs, renO, namesAs, namesA, namesO, posn]
        exact wrap_id (by omega) (by omega)
    simp at h3
    have hst := hstep (by omega)
    clear hstep
    refine W_seq (?_)
    apply W_regS
    · intro K hK
      simp [g1, g3]
      repeat' (first | with_reducible exact hK | (with_reducible refine goL_split (fun _ => ?_) (fun _ => ?_) <;> simp [g1, g3]) | with_reducible refine And.intro ?_ ?_ | with_reducible exact okay_rfl rfl | with_reducible assumption | omega)
    refine W_cut [0, 1, 8, 10] (fun st => st = ⟨[], [(0, .d (.slc 1 (bytesD b))), (1, .d (.int .i64 a)), (8, .d (.int .i64 i)), (10, .d (.int .i64 (unzig v)))], [], 0⟩) ?_ ?_
    · refine W_seq (?_)
      refine W_regB 52 (decide (v % 2 = 1)) (fun K hK => ?_) ?_
      · simp [g2]
        repeat' (first | exact hK _ _ (by clear hK; first | omega | (exact decide_eq_false (by omega)) | (exact decide_eq_true (by omega)) | (exact (decide_eq_true (by omega)).symm) | (exact (decide_eq_false (by omega)).symm) | (exact decide_eq_decide.2 (by omega)) | (simp only [← decide_not]; exact decide_eq_decide.2 (by omega)) | (simp [*]; done) | (simp [*]; omega) | (simp_all; done) | (simp_all; omega) | (rw [Bool.eq_iff_iff]; simp at *; omega)) | (with_reducible refine goL_split (fun _ => ?_) (fun _ => ?_) <;> simp [g2]) | with_reducible refine And.intro ?_ ?_ | with_reducible exact okay_rfl rfl | with_reducible assumption | omega)
      refine W_cond rfl (fun h4 => ?_) (fun h4 => W_skip ?_)
      · simp at h4
        have e := e2 h4
        have g4 : IntKind.i64.wrap (-(m : Int)) = -(m : Int) := wrap_id (by omega) (by omega)
        have g5 : IntKind.i64.wrap (-(m : Int) - 1) = unzig v := by rw [wrap_id (by omega) (by omega), e]
        apply W_regS
        · intro K hK
          simp [g4, g5]
          repeat' (first | with_reducible exact hK | (with_reducible refine goL_split (fun _ => ?_) (fun _ => ?_) <;> simp [g4, g5]) | with_reducible refine And.intro ?_ ?_ | with_reducible exact okay_rfl rfl | with_reducible assumption | omega)
        simp [gc, closeN, liveA, gcV, gcO, renA, renAs, renO, namesAs, namesA, namesO, posn]
      · simp at h4
        have e := e1 (show ¬ v % 2 = 1 by omega)
        simp [gc, closeN, liveA, gcV, gcO, renA, renAs, renO, namesAs, namesA, namesO, posn, e]
    rintro st rfl
    generalize hz : unzig v = z at hst hur
    have cp := s_PutNum_ok (GG := GG) z (by omega) (by omega)
    obtain ⟨w, hw⟩ : ∃ w, (if -1099511627776 ≤ z ∧ z ≤ 1099511627776 then putN z else []) = w := ⟨_, rfl⟩
    rw [hw] at cp
    have hwl : w.length ≤ 1000000 := by
      rw [← hw]
      split
      · have hzl : zig z < 128 ^ 10 := by unfold zig; split <;> omega
        have := putU_len 10 (zig z) hzl (by omega)
        unfold putN; omega
      · simp
    have cs := l01Same_ok (GG := GG) w pl (by omega) (by omega)
    have hq2 : decide (w = pl) = decide (putN z = pl ∧ -1099511627776 ≤ z ∧ z ≤ 1099511627776) := by
      apply decide_eq_decide.2
      rw [← hw]
      constructor
      · intro e
        split at e
        · rename_i hr; exact ⟨e, hr⟩
        · exfalso
          have := congrArg List.length e
          rw [← hpl, List.length_take] at this
          simp at this; omega
      · rintro ⟨e, hr⟩
        rw [if_pos hr]; exact e
    generalize hqq : decide (w = pl) = q at cs hq2
    have f10 : IntKind.i64.wrap ((p : Int) + 1) = ((a + (i + 1) : Nat) : Int) := by rw [wrap_id (by omega) (by omega)]; omega
    have f11 : a + (i + 1) ≤ b.length := by omega
    have hcut2 : List.drop a (List.take (a + (i + 1)) (bytesD b)) = bytesD pl := hcut
    generalize hpp : a + (i + 1) = pe at f10 f11 hcut2
    refine W_seq (W_seq (?_))
    apply W_regD
    · intro K hK
      simp [f3, f10, hcut2]
      repeat' (first | with_reducible exact hK | (with_reducible refine callQ (cp) ?_; simp [f3, f10, hcut2]) | (with_reducible refine callQ (cs) ?_; simp [f3, f10, hcut2]) | (with_reducible refine goL_split (fun _ => ?_) (fun _ => ?_) <;> simp [f3, f10, hcut2]) | with_reducible refine And.intro ?_ ?_ | with_reducible exact okay_rfl rfl | with_reducible assumption | omega)
    refine W_cond rfl (fun h5 => W_seq ?_) (fun h5 => W_skip ?_)
    · simp at h5
      subst h5
      have hno := of_decide_eq_false hq2.symm
      rw [if_neg hno] at hst
      subst hst
      apply W_regS
      · intro K hK
        simp
        repeat' (first | with_reducible exact hK | (with_reducible refine goL_split (fun _ => ?_) (fun _ => ?_) <;> simp) | with_reducible refine And.intro ?_ ?_ | with_reducible exact okay_rfl rfl | with_reducible assumption | omega)
      refine W_ret ?_
      simp [Fin]
      all_goals omega
    · simp at h5
      subst h5
      have hno := of_decide_eq_true hq2.symm
      rw [if_pos hno] at hst
      subst hst
      have f12 : ((pe : Nat) : Int) = ((a + (i + 1) : Nat) : Int) := by omega
      refine W_seq (?_)
      apply W_regS
      · intro K hK
        simp [f3, f10, f12]
        repeat' (first | with_reducible exact hK | (with_reducible refine goL_split (fun _ => ?_) (fun _ => ?_) <;> simp [f3, f10, f12]) | with_reducible refine And.intro ?_ ?_ | with_reducible exact okay_rfl rfl | with_reducible assumption | omega)
      refine W_ret ?_
      simp [Fin]
      all_goals omega
  · simp at h
    have hn : t = none := by
      rw [← ht]
      apply takeV_none
      intro j y hj hy
      have := (List.getElem?_eq_some_iff.1 hy).1
      exact hbig j y (by omega) hy
    subst hn
    rw [if_pos rfl]
    refine W_seq (?_)
    apply W_regS
    · intro K hK
      simp
      repeat' (first | with_reducible exact hK | (with_reducible refine goL_split (fun _ => ?_) (fun _ => ?_) <;> simp) | with_reducible refine And.intro ?_ ?_ | with_reducible exact okay_rfl rfl | with_reducible assumption | omega)
    refine W_ret ?_
    simp [Fin]
    all_goals omega
theorem takeV_some {l : List UInt8} {x : Int} {k : Nat} (h : takeV l = some (x, k)) : l.take k = putN x ∧ k ≤ l.length ∧ 0 < k ∧ -1099511627776 ≤ x ∧ x ≤ 1099511627776 := by
  unfold takeV at h
  split at h
  · cases h
  · rename_i i hi
    rw [List.findIdx?_eq_some_iff_getElem] at hi
    have hl := hi.1
    rw [List.length_take] at hl
    dsimp only at h
    split at h
    · rename_i hc
      cases h
      exact ⟨hc.1.symm, by omega, by omega, hc.2.1, hc.2.2⟩
    · cases h
def takesV (b : List UInt8) (a : Nat) : Nat → Option (List Int × Nat)
  | 0 => some ([], a)
  | n + 1 => match takesV b a n with
    | none => none
    | some (xs, a') => match takeV (b.drop a') with
      | none => none
      | some (x, k) => some (xs ++ [x], a' + k)
def textsV (b : List UInt8) (a : Nat) : Nat → Option (List (List UInt8) × Nat)
  | 0 => some ([], a)
  | n + 1 => match textsV b a n with
    | none => none
    | some (ts, a') => match takeV (b.drop a') with
      | none => none
      | some (x, k) => if 0 ≤ x ∧ x ≤ ((b.length - (a' + k) : Nat) : Int) then some (ts ++ [(b.drop (a' + k)).take x.toNat], a' + k + x.toNat) else none
theorem takesV_stop {b : List UInt8} {a i : Nat} (h : takesV b a i = none) : ∀ n, i ≤ n → takesV b a n = none := by
  intro n hn
  induction n with
  | zero => have : i = 0 := by omega
            subst this; exact h
  | succ n ih =>
    by_cases e : i = n + 1
    · subst e; exact h
    · have := ih (by omega)
      simp only [takesV, this]
theorem textsV_stop {b : List UInt8} {a i : Nat} (h : textsV b a i = none) : ∀ n, i ≤ n → textsV b a n = none := by
  intro n hn
  induction n with
  | zero => have : i = 0 := by omega
            subst this; exact h
  | succ n ih =>
    by_cases e : i = n + 1
    · subst e; exact h
    · have := ih (by omega)
      simp only [textsV, this]
def putText (s : List UInt8) : List UInt8 := putN s.length ++ s
theorem take_split {b : List UInt8} {a k : Nat} {p : List UInt8} (h : (b.drop a).take k = p) : b.take (a + k) = b.take a ++ p := by
  rw [List.take_add, h]
theorem takesV_some {b : List UInt8} {a : Nat} (ha : a ≤ b.length) : ∀ {n : Nat} {xs : List Int} {a' : Nat}, takesV b a n = some (xs, a') →
    xs.length = n ∧ a ≤ a' ∧ a' ≤ b.length ∧ b.take a' = b.take a ++ (xs.map putN).flatten ∧ ∀ x, x ∈ xs → -1099511627776 ≤ x ∧ x ≤ 1099511627776
  | 0, xs, a', h => by cases h; exact ⟨rfl, Nat.le_refl _, ha, by simp, fun x hx => by simp at hx⟩
  | n + 1, xs, a', h => by
    simp only [takesV] at h
    split at h
    · cases h
    · rename_i ys c hy
      obtain ⟨h1, h2, h3, h4, h5⟩ := takesV_some ha hy
      split at h
      · cases h
      · rename_i x k hx
        cases h
        obtain ⟨g1, g2, g3, g4, g5⟩ := takeV_some hx
        rw [List.length_drop] at g2
        refine ⟨by simp [h1], by omega, by omega, ?_, ?_⟩
        · rw [take_split g1, h4]; simp
        · intro z hz
          rcases List.mem_append.1 hz with hz | hz
          · exact h5 z hz
          · simp at hz; subst hz; exact ⟨g4, g5⟩
theorem textsV_some {b : List UInt8} {a : Nat} (ha : a ≤ b.length) : ∀ {n : Nat} {ts : List (List UInt8)} {a' : Nat}, textsV b a n = some (ts, a') →
    ts.length = n ∧ a ≤ a' ∧ a' ≤ b.length ∧ b.take a' = b.take a ++ (ts.map putText).flatten ∧ ∀ t, t ∈ ts → t.length ≤ b.length
  | 0, xs, a', h => by cases h; exact ⟨rfl, Nat.le_refl _, ha, by simp, fun x hx => by simp at hx⟩
  | n + 1, xs, a', h => by
    simp only [textsV] at h
    split at h
    · cases h
    · rename_i ys c hy
      obtain ⟨h1, h2, h3, h4, h5⟩ := textsV_some ha hy
      split at h
      · cases h
      · rename_i x k hx
        split at h
        · rename_i hr
          cases h
          obtain ⟨g1, g2, g3, g4, g5⟩ := takeV_some hx
          rw [List.length_drop] at g2
          have hl : ((b.drop (c + k)).take x.toNat).length = x.toNat := by rw [List.length_take, List.length_drop]; omega
          refine ⟨by simp [h1], by omega, by omega, ?_, ?_⟩
          · rw [take_split (k := x.toNat) rfl, take_split g1, h4]
            have hp : putText ((b.drop (c + k)).take x.toNat) = putN x ++ (b.drop (c + k)).take x.toNat := by
              unfold putText; rw [hl, show ((x.toNat : Nat) : Int) = x by omega]
            simp [hp]
          · intro z hz
            rcases List.mem_append.1 hz with hz | hz
            · exact h5 z hz
            · simp at hz; subst hz; rw [hl]; omega
        · cases h
abbrev Rec := Int × List Int × List (List UInt8)
def bodyV (xs : List Int) (ts : List (List UInt8)) : List UInt8 := putN xs.length ++ (xs.map putN).flatten ++ putN ts.length ++ (ts.map putText).flatten
def encV (k : Nat) (xs : List Int) (ts : List (List UInt8)) : Option (List UInt8) :=
  if recOk k xs ts = true ∧ (UInt8.ofNat k :: bodyV xs ts).length ≤ 4000 then some (UInt8.ofNat k :: bodyV xs ts) else none
def decV (b : List UInt8) : Option Rec :=
  if 3 ≤ b.length ∧ b.length ≤ 4000 then
    match takeV (b.drop 1) with
    | none => none
    | some (n, k) => if 0 ≤ n ∧ n ≤ 40 then
      match takesV b (1 + k) n.toNat with
      | none => none
      | some (xs, a) => match takeV (b.drop a) with
        | none => none
        | some (m, k2) => if 0 ≤ m ∧ m ≤ 40 then
          match textsV b (a + k2) m.toNat with
          | none => none
          | some (ts, a2) => if a2 = b.length ∧ recOk (b.headD 0).toNat xs ts = true then some ((b.headD 0).toNat, xs, ts) else none
          else none
      else none
  else none
def endI (b : List UInt8) (xs : List Int) (ts : List (List UInt8)) : Option Rec :=
  if encV (b.headD 0).toNat xs ts = some b then some ((b.headD 0).toNat, xs, ts) else none
def decI (b : List UInt8) : Option Rec :=
  if 1 ≤ b.length ∧ b.length ≤ 4000 then
    match takeV (b.drop 1) with
    | none => none
    | some (n, k) => if n ≤ 40 then
      match takesV b (1 + k) n.toNat with
      | none => none
      | some (xs, a) => match takeV (b.drop a) with
        | none => none
        | some (m, k2) => if m ≤ 40 then
          match textsV b (a + k2) m.toNat with
          | none => none
          | some (ts, _) => endI b xs ts
          else none
      else none
  else none
theorem putN_neg {x : Int} (h : x < 0) : ∃ y t, putN x = y :: t ∧ y ≠ 0 := by
  unfold putN
  have hz : (zig x) % 2 = 1 := by unfold zig; rw [if_pos h]; omega
  generalize zig x = u at hz
  rw [putU]
  split
  · rename_i hu
    refine ⟨_, _, rfl, fun e => ?_⟩
    have := congrArg UInt8.toNat e
    rw [UInt8.toNat_ofNat'] at this
    simp at this; omega
  · refine ⟨_, _, rfl, fun e => ?_⟩
    have := congrArg UInt8.toNat e
    rw [UInt8.toNat_ofNat'] at this
    simp at this; omega
theorem putN_zero : putN 0 = [0] := by
  unfold putN zig
  simp
  rw [putU]; simp
theorem decI_eq (b : List UInt8) : decI b = decV b := by
  unfold decI decV
  by_cases hl : 1 ≤ b.length ∧ b.length ≤ 4000
  · rw [if_pos hl]
    cases hb : b with
    | nil => rw [hb] at hl; simp at hl
    | cons y r =>
      have hyk : UInt8.ofNat y.toNat = y := by simp
      rw [← hb]
      have hhd : b.headD 0 = y := by rw [hb]; rfl
      have h1b : b.take 1 = [y] := by rw [hb]; rfl
      rw [hhd]
      cases ht : takeV (b.drop 1) with
      | none => simp
      | some p =>
        obtain ⟨n, k⟩ := p
        obtain ⟨a1, a2, a3, a4, a5⟩ := takeV_some ht
        rw [List.length_drop] at a2
        have hb1 := take_split a1
        dsimp only
        by_cases hn : n ≤ 40
        · rw [if_pos hn]
          cases hx : takesV b (1 + k) n.toNat with
          | none => simp
          | some p =>
            obtain ⟨xs, a⟩ := p
            obtain ⟨b1, b2, b3, b4, b5⟩ := takesV_some (by omega) hx
            dsimp only
            cases hm : takeV (b.drop a) with
            | none => simp
            | some p =>
              obtain ⟨m, k2⟩ := p
              obtain ⟨c1, c2, c3, c4, c5⟩ := takeV_some hm
              rw [List.length_drop] at c2
              have hb2 := take_split c1
              dsimp only
              by_cases hm4 : m ≤ 40
              · rw [if_pos hm4]
                cases hs : textsV b (a + k2) m.toNat with
                | none => simp
                | some p =>
                  obtain ⟨ts, e⟩ := p
                  obtain ⟨d1, d2, d3, d4, d5⟩ := textsV_some (by omega) hs
                  dsimp only
                  rw [hb2, b4, hb1, h1b] at d4
                  have hlen3 : 3 ≤ b.length := by omega
                  rw [if_pos (show 3 ≤ b.length ∧ b.length ≤ 4000 from ⟨hlen3, hl.2⟩)]
                  unfold endI encV
                  rw [hhd, hyk]
                  by_cases hn0 : 0 ≤ n
                  · rw [if_pos (show 0 ≤ n ∧ n ≤ 40 from ⟨hn0, hn⟩)]
                    have hnx : ((xs.length : Nat) : Int) = n := by omega
                    by_cases hm0 : 0 ≤ m
                    · rw [if_pos (show 0 ≤ m ∧ m ≤ 40 from ⟨hm0, hm4⟩)]
                      have hmt : ((ts.length : Nat) : Int) = m := by omega
                      have hbody : y :: bodyV xs ts = b.take e := by
                        unfold bodyV; rw [hnx, hmt, d4]; simp
                      rw [hbody]
                      by_cases he : e = b.length
                      · subst he
                        rw [List.take_length]
                        by_cases hr : recOk (y.toNat : Nat) xs ts = true
                        · have h0 : (if recOk (y.toNat : Nat) xs ts = true ∧ b.length ≤ 4000 then some b else none) = some b := if_pos ⟨hr, hl.2⟩
                          rw [if_pos h0, if_pos (show b.length = b.length ∧ recOk (y.toNat : Nat) xs ts = true from ⟨rfl, hr⟩)]
                        · have h0 : (if recOk (y.toNat : Nat) xs ts = true ∧ b.length ≤ 4000 then some b else none) = none := if_neg (fun h => hr h.1)
                          rw [h0, if_neg (show ¬ (b.length = b.length ∧ recOk (y.toNat : Nat) xs ts = true) from fun h => hr h.2), if_neg]
                          intro hh; cases hh
                      · rw [if_neg (show ¬ (e = b.length ∧ _) from fun h => he h.1), if_neg]
                        intro hh
                        split at hh
                        · have := congrArg List.length (Option.some.inj hh)
                          rw [List.length_take] at this; omega
                        · cases hh
                    · rw [if_neg (show ¬ (0 ≤ m ∧ m ≤ 40) by omega), if_neg]
                      intro hh
                      split at hh
                      · have h2 := Option.some.inj hh
                        have htn : m.toNat = 0 := by omega
                        rw [htn] at d1
                        have hts : ts = [] := List.eq_nil_of_length_eq_zero d1
                        obtain ⟨z, tl, hz, hz0⟩ := putN_neg (show m < 0 by omega)
                        have h3 := congrArg (List.take e) h2
                        rw [d4, hts] at h3
                        unfold bodyV at h3
                        rw [hnx, hz] at h3
                        have hp0 : putN (([] : List (List UInt8)).length : Nat) = [0] := putN_zero
                        rw [hp0] at h3
                        have h4 : List.take e ([y] ++ putN n ++ (xs.map putN).flatten ++ [0]) = [y] ++ putN n ++ (xs.map putN).flatten ++ z :: tl := by simpa using h3
                        have h5 := congrArg List.length h4
                        generalize hpp : [y] ++ putN n ++ (xs.map putN).flatten = pp at h4 h5
                        have h6 : (List.take e (pp ++ [0]))[pp.length]? = (pp ++ z :: tl)[pp.length]? := by rw [h4]
                        rw [List.getElem?_take] at h6
                        split at h6
                        · rw [List.getElem?_append_right (Nat.le_refl _), List.getElem?_append_right (Nat.le_refl _)] at h6
                          simp at h6; exact hz0 h6.symm
                        · rw [List.getElem?_append_right (Nat.le_refl _)] at h6
                          simp at h6
                      · cases hh
                  · rw [if_neg (show ¬ (0 ≤ n ∧ n ≤ 40) by omega), if_neg]
                    intro hh
                    split at hh
                    · have h2 := Option.some.inj hh
                      have htn : n.toNat = 0 := by omega
                      rw [htn] at b1
                      have hxs : xs = [] := List.eq_nil_of_length_eq_zero b1
                      obtain ⟨z, tl, hz, hz0⟩ := putN_neg (show n < 0 by omega)
                      have hp0 : putN (([] : List Int).length : Nat) = [0] := putN_zero
                      have h3 := congrArg (List.take e) h2
                      rw [d4, hxs, hz] at h3
                      unfold bodyV at h3
                      rw [hp0] at h3
                      have h6 : (List.take e b)[1]? = some z := by rw [d4, hz]; rfl
                      rw [List.getElem?_take] at h6
                      split at h6
                      · rw [← h2, hxs] at h6
                        unfold bodyV at h6
                        rw [hp0] at h6
                        simp at h6; exact hz0 h6.symm
                      · cases h6
                    · cases hh
              · rw [if_neg hm4]
                rw [if_neg (show ¬ (0 ≤ m ∧ m ≤ 40) by omega)]; simp
        · rw [if_neg hn]
          rw [if_neg (show ¬ (0 ≤ n ∧ n ≤ 40) by omega)]; simp
  · rw [if_neg hl, if_neg (by omega)]
theorem putN_len {x : Int} (h1 : -1099511627776 ≤ x) (h2 : x ≤ 1099511627776) : (putN x).length ≤ 10 := by
  have hz : zig x < 128 ^ 10 := by unfold zig; split <;> omega
  exact putU_len 10 _ hz (by omega)
theorem flat_step {α : Type} (f : α → List UInt8) {l : List α} {i : Nat} {x : α} (h : l[i]? = some x) : ((l.take (i + 1)).map f).flatten = ((l.take i).map f).flatten ++ f x := by
  rw [List.take_add_one, h]; simp
theorem recOk_parts {k : Int} {xs : List Int} {ts : List (List UInt8)} (h : recOk k xs ts = true) : xs.length ≤ 40 ∧ ts.length ≤ 40 ∧ (∀ x, x ∈ xs → -1099511627776 ≤ x ∧ x ≤ 1099511627776) ∧ ∀ t, t ∈ ts → t.length ≤ 300 := by
  simp only [recOk, numOk, textOk, Bool.and_eq_true, decide_eq_true_eq, List.all_eq_true] at h
  obtain ⟨_, h1, h2, h3, h4⟩ := h
  exact ⟨by omega, by omega, h3, fun t ht => by have := h4 t ht; omega⟩
theorem encodeRecord_ok (k : Nat) (xs : List Int) (ts : List (List UInt8)) (o : Option (List UInt8)) (ho : encV k xs ts = o) (hk : k < 256) (h1 : xs.length ≤ 1000000) (h2 : ts.length ≤ 1000000) :
    Valid PP GG 107 [.agg [.d (.int .i64 k), .d (.slc 1 (intsD xs)), .d (.slc 1 (strsD ts))]] (.tup [.own 0 1 (bytesD (o.getD [])), .d (.bool o.isSome)]) [none] := by
  refine cv Tryz.func107 [.own 0 1 (bytesD (o.getD [])), .d (.bool o.isSome)] ?_
  have cr := isRecord_ok (GG := GG) k xs ts (by omega) (by omega)
  unfold encV at ho
  have hrp := @recOk_parts k xs ts
  generalize recOk k xs ts = q at cr ho hrp
  refine W_seq (?_)
  apply W_regS
  · intro K hK
    simp
    repeat' (first | with_reducible exact hK | (with_reducible refine goL_split (fun _ => ?_) (fun _ => ?_) <;> simp) | with_reducible refine And.intro ?_ ?_ | with_reducible exact okay_rfl rfl | with_reducible assumption | omega)
  refine W_seq (W_seq (?_))
  apply W_regS
  · intro K hK
    simp
    repeat' (first | with_reducible exact hK | (with_reducible refine callQ (cr) ?_; simp) | (with_reducible refine goL_split (fun _ => ?_) (fun _ => ?_) <;> simp) | with_reducible refine And.intro ?_ ?_ | with_reducible exact okay_rfl rfl | with_reducible assumption | omega)
  refine W_cond rfl (fun h => W_seq ?_) (fun h => W_skip ?_)
  · simp at h
    subst h
    rw [if_neg (by simp)] at ho
    subst ho
    apply W_regS
    · intro K hK
      simp
      repeat' (first | with_reducible exact hK | (with_reducible refine goL_split (fun _ => ?_) (fun _ => ?_) <;> simp) | with_reducible refine And.intro ?_ ?_ | with_reducible exact okay_rfl rfl | with_reducible assumption | omega)
    refine W_ret ?_
    simp [Fin, bytesD]
    all_goals omega
  simp at h
  subst h
  obtain ⟨p1, p2, p3, p4⟩ := hrp rfl
  clear hrp cr
  have hb : IntKind.u8.wrap (k : Int) = ((UInt8.ofNat k).toNat : Int) := be_u8 k
  generalize UInt8.ofNat k = y at hb ho
  have cn := putNum_ok (GG := GG) (xs.length : Nat) [y] (by omega) (by omega) (by simp)
  have cn' : bytesD [y] = [[.int .u8 y.toNat]] := rfl
  rw [cn'] at cn
  have hl1 := putN_len (x := (xs.length : Nat)) (by omega) (by omega)
  generalize hpl : [y] ++ putN (xs.length : Nat) = pl at cn
  have hpll : pl.length ≤ 11 := by rw [← hpl]; simp; omega
  refine W_seq (?_)
  apply W_regS
  · intro K hK
    simp [hb, litA]
    repeat' (first | with_reducible exact hK | (with_reducible refine callQ (cn) ?_; simp [hb, litA]) | (with_reducible refine goL_split (fun _ => ?_) (fun _ => ?_) <;> simp [hb, litA]) | with_reducible refine And.intro ?_ ?_ | with_reducible exact okay_rfl rfl | with_reducible assumption | omega)
  refine W_seq (W_seq (?_))
  apply W_regS
  · intro K hK
    simp
    repeat' (first | with_reducible exact hK | (with_reducible refine goL_split (fun _ => ?_) (fun _ => ?_) <;> simp) | with_reducible refine And.intro ?_ ?_ | with_reducible exact okay_rfl rfl | with_reducible assumption | omega)
  refine W_block (W_loop (fun n st => ∃ (i : Nat) (p : List UInt8), n = xs.length - i ∧ i ≤ xs.length ∧ p = pl ++ ((xs.take i).map putN).flatten ∧ p.length ≤ 11 + 10 * i ∧
    st = ⟨[], [(1, .ptr 0 0), (4, .sl 1), (21, .d (.slc 1 (intsD xs))), (22, .d (.int .i64 xs.length)), (23, .d (.int .i64 i))], [(0, .box [.d (.int .i64 k), .d (.slc 1 (intsD xs)), .d (.slc 1 (strsD ts))]), (1, .arr 0 0 1 (bytesD p))], 2⟩) _ ⟨0, pl, rfl, by omega, by simp, by omega, by simp [gc, closeN, liveA, gcV, gcO, renA, renAs, renO, namesAs, namesA, namesO, posn]⟩ ?_)
  rintro n st ⟨i, p, rfl, hi, hp, hpb, rfl⟩
  refine W_seq (?_)
  apply W_regS
  · intro K hK
    simp
    repeat' (first | with_reducible exact hK | (with_reducible refine goL_split (fun _ => ?_) (fun _ => ?_) <;> simp) | with_reducible refine And.intro ?_ ?_ | with_reducible exact okay_rfl rfl | with_reducible assumption | omega)
  refine W_seq (?_)
  refine W_cond rfl (fun h => W_skip ?_) (fun h => W_exit ?_)
  · simp at h
    have hx := List.getElem?_eq_getElem h
    have hxm := List.getElem_mem h
    generalize xs[i] = x at hx hxm
    have hxr := p3 x hxm
    have cp := putNum_ok (GG := GG) x p hxr.1 hxr.2 (by omega)
    have hxl := putN_len hxr.1 hxr.2
    have hst := flat_step putN hx
    generalize hw : p ++ putN x = w at cp
    have hwl : w.length ≤ 11 + 10 * (i + 1) := by rw [← hw, List.length_append]; omega
    have hww : w = pl ++ ((xs.take (i + 1)).map putN).flatten := by rw [← hw, hp, hst, List.append_assoc]
    refine W_seq (W_block (W_seq ?_))
    apply W_regS
    · intro K hK
      simp [hx]
      repeat' (first | with_reducible exact hK | (with_reducible refine goL_split (fun _ => ?_) (fun _ => ?_) <;> simp [hx]) | with_reducible refine And.intro ?_ ?_ | with_reducible exact okay_rfl rfl | with_reducible assumption | omega)
    apply W_regS
    · intro K hK
      simp
      repeat' (first | with_reducible exact hK | (with_reducible refine callQ (cp) ?_; simp) | (with_reducible refine goL_split (fun _ => ?_) (fun _ => ?_) <;> simp) | with_reducible refine And.intro ?_ ?_ | with_reducible exact okay_rfl rfl | with_reducible assumption | omega)
    apply W_regS
    · intro K hK
      simp
      repeat' (first | with_reducible exact hK | (with_reducible refine goL_split (fun _ => ?_) (fun _ => ?_) <;> simp) | with_reducible refine And.intro ?_ ?_ | with_reducible exact okay_rfl rfl | with_reducible assumption | omega)
    refine ⟨xs.length - (i + 1), by omega, i + 1, w, rfl, h, hww, hwl, ?_⟩
    simp [gc, closeN, liveA, gcV, gcO, renA, renAs, renO, namesAs, namesA, namesO, posn]
    exact wrap_id (by omega) (by omega)
  · simp at h
    rw [List.take_of_length_le h] at hp
    rw [if_pos rfl]
    have cn2 := putNum_ok (GG := GG) (ts.length : Nat) p (by omega) (by omega) (by omega)
    have hl2 := putN_len (x := (ts.length : Nat)) (by omega) (by omega)
    generalize hql : p ++ putN (ts.length : Nat) = ql at cn2
    have hqll : ql.length ≤ 500 := by rw [← hql, List.length_append]; omega
    refine W_seq (?_)
    apply W_regS
    · intro K hK
      simp
      repeat' (first | with_reducible exact hK | (with_reducible refine callQ (cn2) ?_; simp) | (with_reducible refine goL_split (fun _ => ?_) (fun _ => ?_) <;> simp) | with_reducible refine And.intro ?_ ?_ | with_reducible exact okay_rfl rfl | with_reducible assumption | omega)
    refine W_seq (W_seq (?_))
    apply W_regS
    · intro K hK
      simp
      repeat' (first | with_reducible exact hK | (with_reducible refine goL_split (fun _ => ?_) (fun _ => ?_) <;> simp) | with_reducible refine And.intro ?_ ?_ | with_reducible exact okay_rfl rfl | with_reducible assumption | omega)
    refine W_block (W_loop (fun n st => ∃ (i : Nat) (p : List UInt8), n = ts.length - i ∧ i ≤ ts.length ∧ p = ql ++ ((ts.take i).map putText).flatten ∧ p.length ≤ 500 + 310 * i ∧
      st = ⟨[], [(4, .sl 0), (37, .d (.slc 1 (strsD ts))), (38, .d (.int .i64 ts.length)), (39, .d (.int .i64 i))], [(0, .arr 0 0 1 (bytesD p))], 1⟩) _ ⟨0, ql, rfl, by omega, by simp, by omega, by simp [gc, closeN, liveA, gcV, gcO, renA, renAs, renO, namesAs, namesA, namesO, posn]⟩ ?_)
    rintro n st ⟨i, p', rfl, hi, hp', hpb, rfl⟩
    refine W_seq (?_)
    apply W_regS
    · intro K hK
      simp
      repeat' (first | with_reducible exact hK | (with_reducible refine goL_split (fun _ => ?_) (fun _ => ?_) <;> simp) | with_reducible refine And.intro ?_ ?_ | with_reducible exact okay_rfl rfl | with_reducible assumption | omega)
    refine W_seq (?_)
    refine W_cond rfl (fun h => W_skip ?_) (fun h => W_exit ?_)
    · simp at h
      have hx := List.getElem?_eq_getElem h
      have hxm := List.getElem_mem h
      generalize ts[i] = x at hx hxm
      have hxr := p4 x hxm
      have cp := putNum_ok (GG := GG) (x.length : Nat) p' (by omega) (by omega) (by omega)
      have hxl := putN_len (x := (x.length : Nat)) (by omega) (by omega)
      have hst := flat_step putText hx
      generalize hw : p' ++ putN (x.length : Nat) = w at cp
      have hwl : (w ++ x).length ≤ 500 + 310 * (i + 1) := by rw [← hw, List.length_append, List.length_append]; omega
      have hww : w ++ x = ql ++ ((ts.take (i + 1)).map putText).flatten := by rw [← hw, hp', hst]; unfold putText; simp
      have hwl2 : w.length + x.length ≤ 20000 := by rw [← List.length_append]; omega
      refine W_seq (W_block (W_seq ?_))
      apply W_regS
      · intro K hK
        simp [hx]
        repeat' (first | with_reducible exact hK | (with_reducible refine goL_split (fun _ => ?_) (fun _ => ?_) <;> simp [hx]) | with_reducible refine And.intro ?_ ?_ | with_reducible exact okay_rfl rfl | with_reducible assumption | omega)
      apply W_regS
      · intro K hK
        simp [limit]
        repeat' (first | with_reducible exact hK | (with_reducible refine callQ (cp) ?_; simp [limit]) | (with_reducible refine goL_split (fun _ => ?_) (fun _ => ?_) <;> simp [limit]) | with_reducible refine And.intro ?_ ?_ | with_reducible exact okay_rfl rfl | with_reducible assumption | omega)
      apply W_regS
      · intro K hK
        simp
        repeat' (first | with_reducible exact hK | (with_reducible refine goL_split (fun _ => ?_) (fun _ => ?_) <;> simp) | with_reducible refine And.intro ?_ ?_ | with_reducible exact okay_rfl rfl | with_reducible assumption | omega)
      refine ⟨ts.length - (i + 1), by omega, i + 1, w ++ x, rfl, h, hww, hwl, ?_⟩
      rw [bytesD_app]
      simp [gc, closeN, liveA, gcV, gcO, renA, renAs, renO, namesAs, namesA, namesO, posn]
      exact wrap_id (by omega) (by omega)
    · simp at h
      rw [List.take_of_length_le h] at hp'
      rw [if_pos rfl]
      have e : y :: bodyV xs ts = p' := by rw [hp', ← hql, hp, ← hpl]; unfold bodyV; simp
      rw [e] at ho
      refine W_seq (W_seq (?_))
      refine W_regB 52 (decide (4000 < p'.length)) (fun K hK => ?_) ?_
      · simp
        repeat' (first | exact hK _ _ (by clear hK; first | omega | (exact decide_eq_false (by omega)) | (exact decide_eq_true (by omega)) | (exact (decide_eq_true (by omega)).symm) | (exact (decide_eq_false (by omega)).symm) | (exact decide_eq_decide.2 (by omega)) | (simp only [← decide_not]; exact decide_eq_decide.2 (by omega)) | (simp [*]; done) | (simp [*]; omega) | (simp_all; done) | (simp_all; omega) | (rw [Bool.eq_iff_iff]; simp at *; omega)) | (with_reducible refine goL_split (fun _ => ?_) (fun _ => ?_) <;> simp) | with_reducible refine And.intro ?_ ?_ | with_reducible exact okay_rfl rfl | with_reducible assumption | omega)
      refine W_cond rfl (fun h => W_seq ?_) (fun h => W_skip ?_)
      · simp at h
        rw [if_neg (by omega)] at ho
        subst ho
        apply W_regS
        · intro K hK
          simp
          repeat' (first | with_reducible exact hK | (with_reducible refine goL_split (fun _ => ?_) (fun _ => ?_) <;> simp) | with_reducible refine And.intro ?_ ?_ | with_reducible exact okay_rfl rfl | with_reducible assumption | omega)
        refine W_ret ?_
        simp [Fin, bytesD]
        all_goals omega
      · simp at h
        rw [if_pos ⟨rfl, by omega⟩] at ho
        subst ho
        refine W_seq (?_)
        apply W_regS
        · intro K hK
          simp
          repeat' (first | with_reducible exact hK | (with_reducible refine goL_split (fun _ => ?_) (fun _ => ?_) <;> simp) | with_reducible refine And.intro ?_ ?_ | with_reducible exact okay_rfl rfl | with_reducible assumption | omega)
        refine W_ret ?_
        simp [Fin]
        all_goals omega
theorem takeNum_none {b : List UInt8} {a : Nat} (h : takeV (b.drop a) = none) (hb : b.length ≤ 1000000) (ha : a ≤ 1000000) :
    Valid PP GG 106 [.d (.slc 1 (bytesD b)), .d (.int .i64 a)] (.tup [.d (.int .i64 0), .d (.int .i64 0), .d (.bool false)]) [none, none] := takeNum_ok b a none h hb ha
theorem takeNum_some {b : List UInt8} {a c k : Nat} {x : Int} (h : takeV (b.drop a) = some (x, k)) (e : a + k = c) (hb : b.length ≤ 1000000) (ha : a ≤ 1000000) :
    Valid PP GG 106 [.d (.slc 1 (bytesD b)), .d (.int .i64 a)] (.tup [.d (.int .i64 x), .d (.int .i64 c), .d (.bool true)]) [none, none] := by
  subst e; exact takeNum_ok b a (some (x, k)) h hb ha
theorem s_TakeNum_none {b : List UInt8} {a : Nat} (h : takeV (b.drop a) = none) (hb : b.length ≤ 1000000) (ha : a ≤ 1000000) :
    Valid PP GG 95 [.d (.slc 1 (bytesD b)), .d (.int .i64 a)] (.tup [.d (.int .i64 0), .d (.int .i64 0), .d (.bool false)]) [none, none] := s_TakeNum_ok b a none h hb ha
theorem s_TakeNum_some {b : List UInt8} {a c k : Nat} {x : Int} (h : takeV (b.drop a) = some (x, k)) (e : a + k = c) (hb : b.length ≤ 1000000) (ha : a ≤ 1000000) :
    Valid PP GG 95 [.d (.slc 1 (bytesD b)), .d (.int .i64 a)] (.tup [.d (.int .i64 x), .d (.int .i64 c), .d (.bool true)]) [none, none] := by
  subst e; exact s_TakeNum_ok b a (some (x, k)) h hb ha
def rcdC : Option Rec → List C
  | none => [.d (.int .i64 0), .own 0 1 [], .own 0 1 []]
  | some (k, xs, ts) => [.d (.int .i64 k), .own 0 1 (intsD xs), .own 0 1 (strsD ts)]
theorem takesV_next {b : List UInt8} {a i c : Nat} {xs : List Int} (h : takesV b a i = some (xs, c)) : (takeV (b.drop c) = none → takesV b a (i + 1) = none) ∧ ∀ x k d, takeV (b.drop c) = some (x, k) → c + k = d → takesV b a (i + 1) = some (xs ++ [x], d) := by
  constructor
  · intro e; simp only [takesV, h, e]
  · rintro x k d e rfl; simp only [takesV, h, e]
theorem textsV_next {b : List UInt8} {a i c : Nat} {ts : List (List UInt8)} (h : textsV b a i = some (ts, c)) : (takeV (b.drop c) = none → textsV b a (i + 1) = none) ∧
    ∀ x k d, takeV (b.drop c) = some (x, k) → c + k = d → (¬ (0 ≤ x ∧ x ≤ ((b.length - d : Nat) : Int)) → textsV b a (i + 1) = none) ∧ (0 ≤ x ∧ x ≤ ((b.length - d : Nat) : Int) → textsV b a (i + 1) = some (ts ++ [(b.drop d).take x.toNat], d + x.toNat)) := by
  constructor
  · intro e; simp only [textsV, h, e]
  · rintro x k d e rfl
    constructor
    · intro g; simp only [textsV, h, e]; rw [if_neg g]
    · intro g; simp only [textsV, h, e]; rw [if_pos g]
theorem decodeRecord_ok (b : List UInt8) (r : Option Rec) (hr : decI b = r) (hb : b.length ≤ 1000000) :
    Valid PP GG 70 [.d (.slc 1 (bytesD b))] (.tup [.agg (rcdC r), .d (.bool r.isSome)]) [none] := by
  refine cv Tryz.func70 [.agg (rcdC r), .d (.bool r.isSome)] ?_
  unfold decI at hr
  have cl : Valid PP GG 14 [.d (.int .i64 (b.length : Nat)), .d (.int .i64 1), .d (.int .i64 4000)] (.d (.bool (inB (b.length : Nat) 1 4000))) [none, none, none] := within_ok _ _ _
  have hi : inB (b.length : Nat) 1 4000 = decide (1 ≤ b.length ∧ b.length ≤ 4000) := by unfold inB; rw [Bool.eq_iff_iff]; simp; omega
  generalize inB (b.length : Nat) 1 4000 = q at cl hi
  refine W_seq (?_)
  apply W_regS
  · intro K hK
    simp
    repeat' (first | with_reducible exact hK | (with_reducible refine goL_split (fun _ => ?_) (fun _ => ?_) <;> simp) | with_reducible refine And.intro ?_ ?_ | with_reducible exact okay_rfl rfl | with_reducible assumption | omega)
  refine W_seq (W_seq (?_))
  apply W_regS
  · intro K hK
    simp
    repeat' (first | with_reducible exact hK | (with_reducible refine callQ (cl) ?_; simp) | (with_reducible refine goL_split (fun _ => ?_) (fun _ => ?_) <;> simp) | with_reducible refine And.intro ?_ ?_ | with_reducible exact okay_rfl rfl | with_reducible assumption | omega)
  refine W_cond rfl (fun h => W_seq ?_) (fun h => W_skip ?_)
  · simp at h
    subst h
    rw [if_neg (of_decide_eq_false hi.symm)] at hr
    subst hr
    apply W_regS
    · intro K hK
      simp
      repeat' (first | with_reducible exact hK | (with_reducible refine goL_split (fun _ => ?_) (fun _ => ?_) <;> simp) | with_reducible refine And.intro ?_ ?_ | with_reducible exact okay_rfl rfl | with_reducible assumption | omega)
    refine W_ret ?_
    simp [Fin, rcdC]
    all_goals omega
  simp at h
  subst h
  have hlen := of_decide_eq_true hi.symm
  rw [if_pos hlen] at hr
  clear cl hi
  cases hbe : b with
  | nil => rw [hbe] at hlen; simp at hlen
  | cons y tl =>
  have hy : b[0]? = some y := by rw [hbe]; rfl
  have hhd : b.headD 0 = y := by rw [hbe]; rfl
  rw [← hbe]
  have hyl := y.toNat_lt
  have hyw : IntKind.i64.wrap (y.toNat : Int) = y.toNat := wrap_id (by omega) (by omega)
  refine W_seq (?_)
  apply W_regS
  · intro K hK
    simp [hy, hyw]
    repeat' (first | with_reducible exact hK | (with_reducible refine goL_split (fun _ => ?_) (fun _ => ?_) <;> simp [hy, hyw]) | with_reducible refine And.intro ?_ ?_ | with_reducible exact okay_rfl rfl | with_reducible assumption | omega)
  refine W_nilP 4 1 rfl rfl rfl ?_
  refine W_nilP 4 2 rfl rfl rfl ?_
  cases ht : takeV (b.drop 1) with
  | none =>
    rw [ht] at hr
    dsimp only at hr
    subst hr
    have c1 : Valid PP GG 106 [.d (.slc 1 (bytesD b)), .d (.int .i64 1)] (.tup [.d (.int .i64 0), .d (.int .i64 0), .d (.bool false)]) [none, none] := takeNum_none (a := 1) ht hb (by omega)
    refine W_seq (?_)
    apply W_regS
    · intro K hK
      simp
      repeat' (first | with_reducible exact hK | (with_reducible refine callQ (c1) ?_; simp) | (with_reducible refine goL_split (fun _ => ?_) (fun _ => ?_) <;> simp) | with_reducible refine And.intro ?_ ?_ | with_reducible exact okay_rfl rfl | with_reducible assumption | omega)
    refine W_seq (W_seq (?_))
    apply W_regS
    · intro K hK
      simp
      repeat' (first | with_reducible exact hK | (with_reducible refine goL_split (fun _ => ?_) (fun _ => ?_) <;> simp) | with_reducible refine And.intro ?_ ?_ | with_reducible exact okay_rfl rfl | with_reducible assumption | omega)
    refine W_cond rfl (fun h => W_seq ?_) (fun h => ?_)
    · apply W_regS
      · intro K hK
        simp
        repeat' (first | with_reducible exact hK | (with_reducible refine goL_split (fun _ => ?_) (fun _ => ?_) <;> simp) | with_reducible refine And.intro ?_ ?_ | with_reducible exact okay_rfl rfl | with_reducible assumption | omega)
      refine W_ret ?_
      simp [Fin, rcdC]
      all_goals omega
    · cases h
  | some p =>
  obtain ⟨n, k⟩ := p
  rw [ht] at hr
  dsimp only at hr
  obtain ⟨a1, a2, a3, a4, a5⟩ := takeV_some ht
  rw [List.length_drop] at a2
  obtain ⟨a, ha⟩ : ∃ a, 1 + k = a := ⟨_, rfl⟩
  have c1 : Valid PP GG 106 [.d (.slc 1 (bytesD b)), .d (.int .i64 1)] (.tup [.d (.int .i64 n), .d (.int .i64 a), .d (.bool true)]) [none, none] := takeNum_some (a := 1) ht ha hb (by omega)
  rw [ha] at hr
  refine W_seq (?_)
  apply W_regS
  · intro K hK
    simp
    repeat' (first | with_reducible exact hK | (with_reducible refine callQ (c1) ?_; simp) | (with_reducible refine goL_split (fun _ => ?_) (fun _ => ?_) <;> simp) | with_reducible refine And.intro ?_ ?_ | with_reducible exact okay_rfl rfl | with_reducible assumption | omega)
  refine W_seq (W_seq (?_))
  refine W_regB 32 (decide (40 < n)) (fun K hK => ?_) ?_
  · simp
    repeat' (first | exact hK _ _ (by clear hK; first | omega | (exact decide_eq_false (by omega)) | (exact decide_eq_true (by omega)) | (exact (decide_eq_true (by omega)).symm) | (exact (decide_eq_false (by omega)).symm) | (exact decide_eq_decide.2 (by omega)) | (simp only [← decide_not]; exact decide_eq_decide.2 (by omega)) | (simp [*]; done) | (simp [*]; omega) | (simp_all; done) | (simp_all; omega) | (rw [Bool.eq_iff_iff]; simp at *; omega)) | (with_reducible refine goL_split (fun _ => ?_) (fun _ => ?_) <;> simp) | with_reducible refine And.intro ?_ ?_ | with_reducible exact okay_rfl rfl | with_reducible assumption | omega)
  refine W_cond rfl (fun h => W_seq ?_) (fun h => W_skip ?_)
  · simp at h
    rw [if_neg (by omega)] at hr
    subst hr
    apply W_regS
    · intro K hK
      simp
      repeat' (first | with_reducible exact hK | (with_reducible refine goL_split (fun _ => ?_) (fun _ => ?_) <;> simp) | with_reducible refine And.intro ?_ ?_ | with_reducible exact okay_rfl rfl | with_reducible assumption | omega)
    refine W_ret ?_
    simp [Fin, rcdC]
    all_goals omega
  simp at h
  rw [if_pos (by omega)] at hr
  refine W_seq (W_seq (?_))
  apply W_regS
  · intro K hK
    simp
    repeat' (first | with_reducible exact hK | (with_reducible refine goL_split (fun _ => ?_) (fun _ => ?_) <;> simp) | with_reducible refine And.intro ?_ ?_ | with_reducible exact okay_rfl rfl | with_reducible assumption | omega)
  refine W_block (W_loop (fun m st => ∃ (i c : Nat) (xs : List Int), m = n.toNat - i ∧ i ≤ n.toNat ∧ takesV b a i = some (xs, c) ∧
    st = ⟨[], [(0, .d (.slc 1 (bytesD b))), (2, .ptr 0 0), (4, .ptr 1 0), (6, .d (.int .i64 c)), (34, .d (.int .i64 n)), (35, .d (.int .i64 i))], [(0, .box [.d (.int .i64 0), .nil 0 1, .nil 0 1]), (1, .box [.d (.int .i64 y.toNat), .sl 2, .sl 3]), (2, .arr 0 0 1 (intsD xs)), (3, .arr 0 0 1 [])], 4⟩) _
    ⟨0, a, [], rfl, by omega, rfl, by simp [gc, closeN, liveA, gcV, gcO, renA, renAs, renO, namesAs, namesA, namesO, posn, intsD]⟩ ?_)
  rintro m st ⟨i, c, xs, rfl, hi, hx, rfl⟩
  obtain ⟨x1, x2, x3, x4, x5⟩ := takesV_some (by omega) hx
  refine W_seq (?_)
  refine W_regB 36 (decide (i < n.toNat)) (fun K hK => ?_) ?_
  · simp
    repeat' (first | exact hK _ _ (by clear hK; first | omega | (exact decide_eq_false (by omega)) | (exact decide_eq_true (by omega)) | (exact (decide_eq_true (by omega)).symm) | (exact (decide_eq_false (by omega)).symm) | (exact decide_eq_decide.2 (by omega)) | (simp only [← decide_not]; exact decide_eq_decide.2 (by omega)) | (simp [*]; done) | (simp [*]; omega) | (simp_all; done) | (simp_all; omega) | (rw [Bool.eq_iff_iff]; simp at *; omega)) | (with_reducible refine goL_split (fun _ => ?_) (fun _ => ?_) <;> simp) | with_reducible refine And.intro ?_ ?_ | with_reducible exact okay_rfl rfl | with_reducible assumption | omega)
  refine W_seq (?_)
  refine W_cond rfl (fun h2 => W_skip ?_) (fun h2 => W_exit ?_)
  · simp at h2
    have hnx := takesV_next hx
    refine W_seq (W_block (W_seq ?_))
    apply W_regS
    · intro K hK
      simp
      repeat' (first | with_reducible exact hK | (with_reducible refine goL_split (fun _ => ?_) (fun _ => ?_) <;> simp) | with_reducible refine And.intro ?_ ?_ | with_reducible exact okay_rfl rfl | with_reducible assumption | omega)
    cases htx : takeV (b.drop c) with
    | none =>
      rw [takesV_stop (hnx.1 htx) _ (by omega)] at hr
      dsimp only at hr
      subst hr
      have c2 := takeNum_none (GG := GG) htx hb (by omega)
      refine W_seq (W_seq (?_))
      apply W_regS
      · intro K hK
        simp
        repeat' (first | with_reducible exact hK | (with_reducible refine callQ (c2) ?_; simp) | (with_reducible refine goL_split (fun _ => ?_) (fun _ => ?_) <;> simp) | with_reducible refine And.intro ?_ ?_ | with_reducible exact okay_rfl rfl | with_reducible assumption | omega)
      refine W_seq (?_)
      apply W_regS
      · intro K hK
        simp
        repeat' (first | with_reducible exact hK | (with_reducible refine goL_split (fun _ => ?_) (fun _ => ?_) <;> simp) | with_reducible refine And.intro ?_ ?_ | with_reducible exact okay_rfl rfl | with_reducible assumption | omega)
      refine W_cond rfl (fun h => W_seq ?_) (fun h => ?_)
      · apply W_regS
        · intro K hK
          simp
          repeat' (first | with_reducible exact hK | (with_reducible refine goL_split (fun _ => ?_) (fun _ => ?_) <;> simp) | with_reducible refine And.intro ?_ ?_ | with_reducible exact okay_rfl rfl | with_reducible assumption | omega)
        refine W_ret ?_
        simp [Fin, rcdC]
        all_goals omega
      · cases h
    | some p =>
      obtain ⟨x, k'⟩ := p
      obtain ⟨d1, d2, d3, d4, d5⟩ := takeV_some htx
      rw [List.length_drop] at d2
      obtain ⟨d, hd⟩ : ∃ d, c + k' = d := ⟨_, rfl⟩
      have c2 := takeNum_some (GG := GG) htx hd hb (by omega)
      have hst := hnx.2 x k' d htx hd
      refine W_seq (W_seq (?_))
      apply W_regS
      · intro K hK
        simp
        repeat' (first | with_reducible exact hK | (with_reducible refine callQ (c2) ?_; simp) | (with_reducible refine goL_split (fun _ => ?_) (fun _ => ?_) <;> simp) | with_reducible refine And.intro ?_ ?_ | with_reducible exact okay_rfl rfl | with_reducible assumption | omega)
      refine W_seq (?_)
      apply W_regS
      · intro K hK
        simp
        repeat' (first | with_reducible exact hK | (with_reducible refine goL_split (fun _ => ?_) (fun _ => ?_) <;> simp) | with_reducible refine And.intro ?_ ?_ | with_reducible exact okay_rfl rfl | with_reducible assumption | omega)
      refine W_cond rfl (fun h => ?_) (fun h => W_skip ?_)
      · cases h
      apply W_regS
      · intro K hK
        simp [litA, limit]
        repeat' (first | with_reducible exact hK | (with_reducible refine goL_split (fun _ => ?_) (fun _ => ?_) <;> simp [litA, limit]) | with_reducible refine And.intro ?_ ?_ | with_reducible exact okay_rfl rfl | with_reducible assumption | omega)
      apply W_regS
      · intro K hK
        simp
        repeat' (first | with_reducible exact hK | (with_reducible refine goL_split (fun _ => ?_) (fun _ => ?_) <;> simp) | with_reducible refine And.intro ?_ ?_ | with_reducible exact okay_rfl rfl | with_reducible assumption | omega)
      refine ⟨n.toNat - (i + 1), by omega, i + 1, d, xs ++ [x], rfl, by omega, hst, ?_⟩
      simp [gc, closeN, liveA, gcV, gcO, renA, renAs, renO, namesAs, namesA, namesO, posn, intsD]
      exact wrap_id (by omega) (by omega)
  simp at h2
  rw [if_pos rfl]
  have hin : i = n.toNat := by omega
  subst hin
  rw [hx] at hr
  dsimp only at hr
  clear h2
  cases htm : takeV (b.drop c) with
  | none =>
    rw [htm] at hr
    dsimp only at hr
    subst hr
    have c3 := takeNum_none (GG := GG) htm hb (by omega)
    refine W_seq (W_seq (?_))
    apply W_regS
    · intro K hK
      simp
      repeat' (first | with_reducible exact hK | (with_reducible refine callQ (c3) ?_; simp) | (with_reducible refine goL_split (fun _ => ?_) (fun _ => ?_) <;> simp) | with_reducible refine And.intro ?_ ?_ | with_reducible exact okay_rfl rfl | with_reducible assumption | omega)
    refine W_seq (?_)
    apply W_regS
    · intro K hK
      simp
      repeat' (first | with_reducible exact hK | (with_reducible refine goL_split (fun _ => ?_) (fun _ => ?_) <;> simp) | with_reducible refine And.intro ?_ ?_ | with_reducible exact okay_rfl rfl | with_reducible assumption | omega)
    refine W_cond rfl (fun h => W_seq ?_) (fun h => ?_)
    · apply W_regS
      · intro K hK
        simp
        repeat' (first | with_reducible exact hK | (with_reducible refine goL_split (fun _ => ?_) (fun _ => ?_) <;> simp) | with_reducible refine And.intro ?_ ?_ | with_reducible exact okay_rfl rfl | with_reducible assumption | omega)
      refine W_ret ?_
      simp [Fin, rcdC]
      all_goals omega
    · cases h
  | some p =>
  obtain ⟨mm, k2⟩ := p
  rw [htm] at hr
  dsimp only at hr
  obtain ⟨g1, g2, g3, g4, g5⟩ := takeV_some htm
  rw [List.length_drop] at g2
  obtain ⟨e, he⟩ : ∃ e, c + k2 = e := ⟨_, rfl⟩
  have c3 := takeNum_some (GG := GG) htm he hb (by omega)
  rw [he] at hr
  refine W_seq (W_seq (?_))
  apply W_regS
  · intro K hK
    simp
    repeat' (first | with_reducible exact hK | (with_reducible refine callQ (c3) ?_; simp) | (with_reducible refine goL_split (fun _ => ?_) (fun _ => ?_) <;> simp) | with_reducible refine And.intro ?_ ?_ | with_reducible exact okay_rfl rfl | with_reducible assumption | omega)
  refine W_seq (?_)
  refine W_regB 66 (decide (40 < mm)) (fun K hK => ?_) ?_
  · simp
    repeat' (first | exact hK _ _ (by clear hK; first | omega | (exact decide_eq_false (by omega)) | (exact decide_eq_true (by omega)) | (exact (decide_eq_true (by omega)).symm) | (exact (decide_eq_false (by omega)).symm) | (exact decide_eq_decide.2 (by omega)) | (simp only [← decide_not]; exact decide_eq_decide.2 (by omega)) | (simp [*]; done) | (simp [*]; omega) | (simp_all; done) | (simp_all; omega) | (rw [Bool.eq_iff_iff]; simp at *; omega)) | (with_reducible refine goL_split (fun _ => ?_) (fun _ => ?_) <;> simp) | with_reducible refine And.intro ?_ ?_ | with_reducible exact okay_rfl rfl | with_reducible assumption | omega)
  refine W_cond rfl (fun h => W_seq ?_) (fun h => W_skip ?_)
  · simp at h
    rw [if_neg (by omega)] at hr
    subst hr
    apply W_regS
    · intro K hK
      simp
      repeat' (first | with_reducible exact hK | (with_reducible refine goL_split (fun _ => ?_) (fun _ => ?_) <;> simp) | with_reducible refine And.intro ?_ ?_ | with_reducible exact okay_rfl rfl | with_reducible assumption | omega)
    refine W_ret ?_
    simp [Fin, rcdC]
    all_goals omega
  simp at h
  rw [if_pos (by omega)] at hr
  refine W_seq (W_seq (?_))
  apply W_regS
  · intro K hK
    simp
    repeat' (first | with_reducible exact hK | (with_reducible refine goL_split (fun _ => ?_) (fun _ => ?_) <;> simp) | with_reducible refine And.intro ?_ ?_ | with_reducible exact okay_rfl rfl | with_reducible assumption | omega)
  refine W_block (W_loop (fun m st => ∃ (i c : Nat) (ts : List (List UInt8)), m = mm.toNat - i ∧ i ≤ mm.toNat ∧ textsV b e i = some (ts, c) ∧
    st = ⟨[], [(0, .d (.slc 1 (bytesD b))), (2, .ptr 0 0), (4, .ptr 1 0), (6, .d (.int .i64 c)), (68, .d (.int .i64 mm)), (69, .d (.int .i64 i))], [(0, .box [.d (.int .i64 0), .nil 0 1, .nil 0 1]), (1, .box [.d (.int .i64 y.toNat), .sl 2, .sl 3]), (2, .arr 0 0 1 (intsD xs)), (3, .arr 0 0 1 (strsD ts))], 4⟩) _
    ⟨0, e, [], rfl, by omega, rfl, by simp [gc, closeN, liveA, gcV, gcO, renA, renAs, renO, namesAs, namesA, namesO, posn, strsD]⟩ ?_)
  rintro m st ⟨i, c', ts, rfl, hi, hx2, rfl⟩
  obtain ⟨y1, y2, y3, y4, y5⟩ := textsV_some (by omega) hx2
  refine W_seq (?_)
  refine W_regB 70 (decide (i < mm.toNat)) (fun K hK => ?_) ?_
  · simp
    repeat' (first | exact hK _ _ (by clear hK; first | omega | (exact decide_eq_false (by omega)) | (exact decide_eq_true (by omega)) | (exact (decide_eq_true (by omega)).symm) | (exact (decide_eq_false (by omega)).symm) | (exact decide_eq_decide.2 (by omega)) | (simp only [← decide_not]; exact decide_eq_decide.2 (by omega)) | (simp [*]; done) | (simp [*]; omega) | (simp_all; done) | (simp_all; omega) | (rw [Bool.eq_iff_iff]; simp at *; omega)) | (with_reducible refine goL_split (fun _ => ?_) (fun _ => ?_) <;> simp) | with_reducible refine And.intro ?_ ?_ | with_reducible exact okay_rfl rfl | with_reducible assumption | omega)
  refine W_seq (?_)
  refine W_cond rfl (fun h2 => W_skip ?_) (fun h2 => W_exit ?_)
  · simp at h2
    have hnx := textsV_next hx2
    refine W_seq (W_block (W_seq ?_))
    apply W_regS
    · intro K hK
      simp
      repeat' (first | with_reducible exact hK | (with_reducible refine goL_split (fun _ => ?_) (fun _ => ?_) <;> simp) | with_reducible refine And.intro ?_ ?_ | with_reducible exact okay_rfl rfl | with_reducible assumption | omega)
    cases htx : takeV (b.drop c') with
    | none =>
      rw [textsV_stop (hnx.1 htx) _ (by omega)] at hr
      dsimp only at hr
      subst hr
      have c2 := takeNum_none (GG := GG) htx hb (by omega)
      refine W_seq (W_seq (?_))
      apply W_regS
      · intro K hK
        simp
        repeat' (first | with_reducible exact hK | (with_reducible refine callQ (c2) ?_; simp) | (with_reducible refine goL_split (fun _ => ?_) (fun _ => ?_) <;> simp) | with_reducible refine And.intro ?_ ?_ | with_reducible exact okay_rfl rfl | with_reducible assumption | omega)
      refine W_seq (?_)
      apply W_regS
      · intro K hK
        simp
        repeat' (first | with_reducible exact hK | (with_reducible refine goL_split (fun _ => ?_) (fun _ => ?_) <;> simp) | with_reducible refine And.intro ?_ ?_ | with_reducible exact okay_rfl rfl | with_reducible assumption | omega)
      refine W_cond rfl (fun h => W_seq ?_) (fun h => ?_)
      · apply W_regS
        · intro K hK
          simp
          repeat' (first | with_reducible exact hK | (with_reducible refine goL_split (fun _ => ?_) (fun _ => ?_) <;> simp) | with_reducible refine And.intro ?_ ?_ | with_reducible exact okay_rfl rfl | with_reducible assumption | omega)
        refine W_ret ?_
        simp [Fin, rcdC]
        all_goals omega
      · cases h
    | some p =>
      obtain ⟨x, k'⟩ := p
      obtain ⟨d1, d2, d3, d4, d5⟩ := takeV_some htx
      rw [List.length_drop] at d2
      obtain ⟨d, hd⟩ : ∃ d, c' + k' = d := ⟨_, rfl⟩
      have c2 := takeNum_some (GG := GG) htx hd hb (by omega)
      have hst := hnx.2 x k' d htx hd
      have hw1 : IntKind.i64.wrap ((b.length : Int) - d) = ((b.length - d : Nat) : Int) := by rw [wrap_id (by omega) (by omega)]; omega
      have cw : Valid PP GG 14 [.d (.int .i64 x), .d (.int .i64 0), .d (.int .i64 (b.length - d : Nat))] (.d (.bool (inB x 0 (b.length - d : Nat)))) [none, none, none] := within_ok _ _ _
      have hib : inB x 0 (b.length - d : Nat) = decide (0 ≤ x ∧ x ≤ ((b.length - d : Nat) : Int)) := by unfold inB; rw [Bool.eq_iff_iff]; simp
      generalize hbl : b.length - d = bl at hw1 cw hib hst
      generalize inB x 0 (bl : Nat) = q at cw hib
      refine W_seq (W_seq (?_))
      apply W_regS
      · intro K hK
        simp
        repeat' (first | with_reducible exact hK | (with_reducible refine callQ (c2) ?_; simp) | (with_reducible refine goL_split (fun _ => ?_) (fun _ => ?_) <;> simp) | with_reducible refine And.intro ?_ ?_ | with_reducible exact okay_rfl rfl | with_reducible assumption | omega)
      refine W_seq (?_)
      apply W_regS
      · intro K hK
        simp [hw1]
        repeat' (first | with_reducible exact hK | (with_reducible refine callQ (cw) ?_; simp [hw1]) | (with_reducible refine goL_split (fun _ => ?_) (fun _ => ?_) <;> simp [hw1]) | with_reducible refine And.intro ?_ ?_ | with_reducible exact okay_rfl rfl | with_reducible assumption | omega)
      refine W_cond rfl (fun h => W_seq ?_) (fun h => W_skip ?_)
      · simp at h
        subst h
        rw [textsV_stop (hst.1 (of_decide_eq_false hib.symm)) _ (by omega)] at hr
        dsimp only at hr
        subst hr
        apply W_regS
        · intro K hK
          simp
          repeat' (first | with_reducible exact hK | (with_reducible refine goL_split (fun _ => ?_) (fun _ => ?_) <;> simp) | with_reducible refine And.intro ?_ ?_ | with_reducible exact okay_rfl rfl | with_reducible assumption | omega)
        refine W_ret ?_
        simp [Fin, rcdC]
        all_goals omega
      simp at h
      subst h
      have hxr := of_decide_eq_true hib.symm
      have hst2 := hst.2 hxr
      obtain ⟨s, hs⟩ : ∃ s : Nat, x.toNat = s := ⟨_, rfl⟩
      have hxs : x = s := by omega
      subst hxs
      rw [hs] at hst2
      have hcut := bytesD_cut (l := b.drop d) rfl s
      obtain ⟨z, hz⟩ : ∃ z, (b.drop d).take s = z := ⟨_, rfl⟩
      rw [hz] at hcut hst2
      obtain ⟨ds, hds⟩ : ∃ ds, d + s = ds := ⟨_, rfl⟩
      rw [hds] at hcut hst2
      have hw2 : IntKind.i64.wrap ((d : Int) + s) = ds := by rw [wrap_id (by omega) (by omega)]; omega
      refine W_seq (?_)
      apply W_regD
      · intro K hK
        simp [hw2, hcut, strOf_bytesD, litA, limit]
        repeat' (first | with_reducible exact hK | (with_reducible refine goL_split (fun _ => ?_) (fun _ => ?_) <;> simp [hw2, hcut, strOf_bytesD, litA, limit]) | with_reducible refine And.intro ?_ ?_ | with_reducible exact okay_rfl rfl | with_reducible assumption | omega)
      apply W_regS
      · intro K hK
        simp [hw2]
        repeat' (first | with_reducible exact hK | (with_reducible refine goL_split (fun _ => ?_) (fun _ => ?_) <;> simp [hw2]) | with_reducible refine And.intro ?_ ?_ | with_reducible exact okay_rfl rfl | with_reducible assumption | omega)
      apply W_regS
      · intro K hK
        simp
        repeat' (first | with_reducible exact hK | (with_reducible refine goL_split (fun _ => ?_) (fun _ => ?_) <;> simp) | with_reducible refine And.intro ?_ ?_ | with_reducible exact okay_rfl rfl | with_reducible assumption | omega)
      refine ⟨mm.toNat - (i + 1), by omega, i + 1, ds, ts ++ [z], rfl, by omega, hst2, ?_⟩
      simp [gc, closeN, liveA, gcV, gcO, renA, renAs, renO, namesAs, namesA, namesO, posn, strsD]
      exact wrap_id (by omega) (by omega)
  simp at h2
  rw [if_pos rfl]
  have hin : i = mm.toNat := by omega
  subst hin
  rw [hx2] at hr
  dsimp only at hr
  unfold endI at hr
  rw [hhd] at hr
  obtain ⟨o, ho⟩ : ∃ o, encV y.toNat xs ts = o := ⟨_, rfl⟩
  rw [ho] at hr
  have ce := encodeRecord_ok (GG := GG) y.toNat xs ts o ho (by omega) (by omega) (by omega)
  have ind0 := ind_bytes []
  cases o with
  | none =>
    rw [if_neg (by simp)] at hr
    subst hr
    refine W_seq (?_)
    apply W_regS
    · intro K hK
      simp
      repeat' (first | with_reducible exact hK | (with_reducible refine callQ (ce) ?_; simp) | (with_reducible refine goL_split (fun _ => ?_) (fun _ => ?_) <;> simp) | with_reducible refine And.intro ?_ ?_ | with_reducible exact okay_rfl rfl | with_reducible assumption | omega)
    refine W_seq (W_seq (?_))
    apply W_regS
    · intro K hK
      simp
      repeat' (first | with_reducible exact hK | (with_reducible refine goL_split (fun _ => ?_) (fun _ => ?_) <;> simp) | with_reducible refine And.intro ?_ ?_ | with_reducible exact okay_rfl rfl | with_reducible assumption | omega)
    refine W_cond rfl (fun h => W_seq ?_) (fun h => ?_)
    · apply W_regS
      · intro K hK
        simp
        repeat' (first | with_reducible exact hK | (with_reducible refine goL_split (fun _ => ?_) (fun _ => ?_) <;> simp) | with_reducible refine And.intro ?_ ?_ | with_reducible exact okay_rfl rfl | with_reducible assumption | omega)
      refine W_ret ?_
      simp [Fin, rcdC]
      all_goals omega
    · cases h
  | some o =>
    have cq := bytes_Equal_ok (GG := GG) o b
    have ind1 := ind_bytes o
    refine W_seq (?_)
    apply W_regS
    · intro K hK
      simp
      repeat' (first | with_reducible exact hK | (with_reducible refine callQ (ce) ?_; simp) | (with_reducible refine goL_split (fun _ => ?_) (fun _ => ?_) <;> simp) | with_reducible refine And.intro ?_ ?_ | with_reducible exact okay_rfl rfl | with_reducible assumption | omega)
    refine W_seq (W_seq (?_))
    apply W_regS
    · intro K hK
      simp
      repeat' (first | with_reducible exact hK | (with_reducible refine callQ (cq) ?_; simp) | (with_reducible refine goL_split (fun _ => ?_) (fun _ => ?_) <;> simp) | with_reducible refine And.intro ?_ ?_ | with_reducible exact okay_rfl rfl | with_reducible assumption | omega)
    refine W_cond rfl (fun h => W_seq ?_) (fun h => W_skip ?_)
    · simp at h
      rw [if_neg (by simpa using h)] at hr
      subst hr
      apply W_regS
      · intro K hK
        simp
        repeat' (first | with_reducible exact hK | (with_reducible refine goL_split (fun _ => ?_) (fun _ => ?_) <;> simp) | with_reducible refine And.intro ?_ ?_ | with_reducible exact okay_rfl rfl | with_reducible assumption | omega)
      refine W_ret ?_
      simp [Fin, rcdC]
      all_goals omega
    · simp at h
      subst h
      rw [if_pos rfl] at hr
      subst hr
      refine W_seq (?_)
      apply W_regS
      · intro K hK
        simp
        repeat' (first | with_reducible exact hK | (with_reducible refine goL_split (fun _ => ?_) (fun _ => ?_) <;> simp) | with_reducible refine And.intro ?_ ?_ | with_reducible exact okay_rfl rfl | with_reducible assumption | omega)
      refine W_ret ?_
      simp [Fin, rcdC]
      all_goals omega
theorem s_DecodeRecord_ok (b : List UInt8) (r : Option Rec) (hr : decV b = r) (hb : b.length ≤ 1000000) :
    Valid PP GG 54 [.d (.slc 1 (bytesD b))] (.tup [.agg (rcdC r), .d (.bool r.isSome)]) [none] := by
  refine cv Tryz.func54 [.agg (rcdC r), .d (.bool r.isSome)] ?_
  unfold decV at hr
  have cl : Valid PP GG 11 [.d (.int .i64 (b.length : Nat)), .d (.int .i64 3), .d (.int .i64 4000)] (.d (.bool (inB (b.length : Nat) 3 4000))) [none, none, none] := l01In_ok _ _ _
  have hi : inB (b.length : Nat) 3 4000 = decide (3 ≤ b.length ∧ b.length ≤ 4000) := by unfold inB; rw [Bool.eq_iff_iff]; simp; omega
  generalize inB (b.length : Nat) 3 4000 = q at cl hi
  refine W_seq (?_)
  apply W_regS
  · intro K hK
    simp
    repeat' (first | with_reducible exact hK | (with_reducible refine goL_split (fun _ => ?_) (fun _ => ?_) <;> simp) | with_reducible refine And.intro ?_ ?_ | with_reducible exact okay_rfl rfl | with_reducible assumption | omega)
  refine W_seq (?_)
  apply W_regS
  · intro K hK
    simp
    repeat' (first | with_reducible exact hK | (with_reducible refine goL_split (fun _ => ?_) (fun _ => ?_) <;> simp) | with_reducible refine And.intro ?_ ?_ | with_reducible exact okay_rfl rfl | with_reducible assumption | omega)
  refine W_seq (W_seq (?_))
  apply W_regS
  · intro K hK
    simp
    repeat' (first | with_reducible exact hK | (with_reducible refine callQ (cl) ?_; simp) | (with_reducible refine goL_split (fun _ => ?_) (fun _ => ?_) <;> simp) | with_reducible refine And.intro ?_ ?_ | with_reducible exact okay_rfl rfl | with_reducible assumption | omega)
  refine W_cond rfl (fun h => W_seq ?_) (fun h => W_skip ?_)
  · simp at h
    subst h
    rw [if_neg (of_decide_eq_false hi.symm)] at hr
    subst hr
    apply W_regS
    · intro K hK
      simp
      repeat' (first | with_reducible exact hK | (with_reducible refine goL_split (fun _ => ?_) (fun _ => ?_) <;> simp) | with_reducible refine And.intro ?_ ?_ | with_reducible exact okay_rfl rfl | with_reducible assumption | omega)
    refine W_ret ?_
    simp [Fin, rcdC]
    all_goals omega
  simp at h
  subst h
  have hlen := of_decide_eq_true hi.symm
  rw [if_pos hlen] at hr
  clear cl hi
  cases hbe : b with
  | nil => rw [hbe] at hlen; simp at hlen
  | cons y tl =>
  have hy : b[0]? = some y := by rw [hbe]; rfl
  have hhd : b.headD 0 = y := by rw [hbe]; rfl
  rw [← hbe]
  have hyl := y.toNat_lt
  have hyw : IntKind.i64.wrap (y.toNat : Int) = y.toNat := wrap_id (by omega) (by omega)
  rw [hhd] at hr
  refine W_seq (?_)
  apply W_regS
  · intro K hK
    simp [hy, hyw]
    repeat' (first | with_reducible exact hK | (with_reducible refine goL_split (fun _ => ?_) (fun _ => ?_) <;> simp [hy, hyw]) | with_reducible refine And.intro ?_ ?_ | with_reducible exact okay_rfl rfl | with_reducible assumption | omega)
  refine W_nilP 5 1 rfl rfl rfl ?_
  refine W_nilP 5 2 rfl rfl rfl ?_
  cases ht : takeV (b.drop 1) with
  | none =>
    rw [ht] at hr
    dsimp only at hr
    subst hr
    have c1 : Valid PP GG 95 [.d (.slc 1 (bytesD b)), .d (.int .i64 1)] (.tup [.d (.int .i64 0), .d (.int .i64 0), .d (.bool false)]) [none, none] := s_TakeNum_none (a := 1) ht hb (by omega)
    refine W_seq (?_)
    apply W_regS
    · intro K hK
      simp
      repeat' (first | with_reducible exact hK | (with_reducible refine callQ (c1) ?_; simp) | (with_reducible refine goL_split (fun _ => ?_) (fun _ => ?_) <;> simp) | with_reducible refine And.intro ?_ ?_ | with_reducible exact okay_rfl rfl | with_reducible assumption | omega)
    refine W_seq (W_seq (?_))
    apply W_regS
    · intro K hK
      simp
      repeat' (first | with_reducible exact hK | (with_reducible refine goL_split (fun _ => ?_) (fun _ => ?_) <;> simp) | with_reducible refine And.intro ?_ ?_ | with_reducible exact okay_rfl rfl | with_reducible assumption | omega)
    refine W_cond rfl (fun h => W_seq ?_) (fun h => ?_)
    · apply W_regS
      · intro K hK
        simp
        repeat' (first | with_reducible exact hK | (with_reducible refine goL_split (fun _ => ?_) (fun _ => ?_) <;> simp) | with_reducible refine And.intro ?_ ?_ | with_reducible exact okay_rfl rfl | with_reducible assumption | omega)
      refine W_ret ?_
      simp [Fin, rcdC]
      all_goals omega
    · cases h
  | some p =>
  obtain ⟨n, k⟩ := p
  rw [ht] at hr
  dsimp only at hr
  obtain ⟨a1, a2, a3, a4, a5⟩ := takeV_some ht
  rw [List.length_drop] at a2
  obtain ⟨a, ha⟩ : ∃ a, 1 + k = a := ⟨_, rfl⟩
  have c1 : Valid PP GG 95 [.d (.slc 1 (bytesD b)), .d (.int .i64 1)] (.tup [.d (.int .i64 n), .d (.int .i64 a), .d (.bool true)]) [none, none] := s_TakeNum_some (a := 1) ht ha hb (by omega)
  rw [ha] at hr
  have cn : Valid PP GG 11 [.d (.int .i64 n), .d (.int .i64 0), .d (.int .i64 40)] (.d (.bool (inB n 0 40))) [none, none, none] := l01In_ok _ _ _
  have hin : inB n 0 40 = decide (0 ≤ n ∧ n ≤ 40) := by unfold inB; rw [Bool.eq_iff_iff]; simp
  generalize inB n 0 40 = q at cn hin
  refine W_seq (?_)
  apply W_regS
  · intro K hK
    simp
    repeat' (first | with_reducible exact hK | (with_reducible refine callQ (c1) ?_; simp) | (with_reducible refine goL_split (fun _ => ?_) (fun _ => ?_) <;> simp) | with_reducible refine And.intro ?_ ?_ | with_reducible exact okay_rfl rfl | with_reducible assumption | omega)
  refine W_seq (W_seq (?_))
  apply W_regS
  · intro K hK
    simp
    repeat' (first | with_reducible exact hK | (with_reducible refine callQ (cn) ?_; simp) | (with_reducible refine goL_split (fun _ => ?_) (fun _ => ?_) <;> simp) | with_reducible refine And.intro ?_ ?_ | with_reducible exact okay_rfl rfl | with_reducible assumption | omega)
  refine W_cond rfl (fun h => W_seq ?_) (fun h => W_skip ?_)
  · simp at h
    subst h
    rw [if_neg (of_decide_eq_false hin.symm)] at hr
    subst hr
    apply W_regS
    · intro K hK
      simp
      repeat' (first | with_reducible exact hK | (with_reducible refine goL_split (fun _ => ?_) (fun _ => ?_) <;> simp) | with_reducible refine And.intro ?_ ?_ | with_reducible exact okay_rfl rfl | with_reducible assumption | omega)
    refine W_ret ?_
    simp [Fin, rcdC]
    all_goals omega
  simp at h
  subst h
  have hnr := of_decide_eq_true hin.symm
  rw [if_pos hnr] at hr
  clear cn hin
  refine W_seq (W_seq (?_))
  apply W_regS
  · intro K hK
    simp
    repeat' (first | with_reducible exact hK | (with_reducible refine goL_split (fun _ => ?_) (fun _ => ?_) <;> simp) | with_reducible refine And.intro ?_ ?_ | with_reducible exact okay_rfl rfl | with_reducible assumption | omega)
  refine W_block (W_loop (fun m st => ∃ (i c : Nat) (xs : List Int), m = n.toNat - i ∧ i ≤ n.toNat ∧ takesV b a i = some (xs, c) ∧
    st = ⟨[], [(0, .d (.slc 1 (bytesD b))), (2, .ptr 0 0), (4, .ptr 1 0), (5, .ptr 2 0), (6, .d (.int .i64 n)), (7, .d (.int .i64 c)), (9, .d (.int .i64 i))], [(0, .box [.d (.int .i64 0), .nil 0 1, .nil 0 1]), (1, .box [.d (.int .i64 0), .nil 0 1, .nil 0 1]), (2, .box [.d (.int .i64 y.toNat), .sl 3, .sl 4]), (3, .arr 0 0 1 (intsD xs)), (4, .arr 0 0 1 [])], 5⟩) _
    ⟨0, a, [], rfl, by omega, rfl, by simp [gc, closeN, liveA, gcV, gcO, renA, renAs, renO, namesAs, namesA, namesO, posn, intsD]⟩ ?_)
  rintro m st ⟨i, c, xs, rfl, hi, hx, rfl⟩
  obtain ⟨x1, x2, x3, x4, x5⟩ := takesV_some (by omega) hx
  refine W_seq (W_seq (?_))
  refine W_regB 41 (decide (i < n.toNat)) (fun K hK => ?_) ?_
  · simp
    repeat' (first | exact hK _ _ (by clear hK; first | omega | (exact decide_eq_false (by omega)) | (exact decide_eq_true (by omega)) | (exact (decide_eq_true (by omega)).symm) | (exact (decide_eq_false (by omega)).symm) | (exact decide_eq_decide.2 (by omega)) | (simp only [← decide_not]; exact decide_eq_decide.2 (by omega)) | (simp [*]; done) | (simp [*]; omega) | (simp_all; done) | (simp_all; omega) | (rw [Bool.eq_iff_iff]; simp at *; omega)) | (with_reducible refine goL_split (fun _ => ?_) (fun _ => ?_) <;> simp) | with_reducible refine And.intro ?_ ?_ | with_reducible exact okay_rfl rfl | with_reducible assumption | omega)
  refine W_cond rfl (fun h2 => W_skip ?_) (fun h2 => W_exit ?_)
  · simp at h2
    have hnx := takesV_next hx
    refine W_seq (W_block (W_seq ?_))
    apply W_regS
    · intro K hK
      simp
      repeat' (first | with_reducible exact hK | (with_reducible refine goL_split (fun _ => ?_) (fun _ => ?_) <;> simp) | with_reducible refine And.intro ?_ ?_ | with_reducible exact okay_rfl rfl | with_reducible assumption | omega)
    cases htx : takeV (b.drop c) with
    | none =>
      rw [takesV_stop (hnx.1 htx) _ (by omega)] at hr
      dsimp only at hr
      subst hr
      have c2 := s_TakeNum_none (GG := GG) htx hb (by omega)
      refine W_seq (?_)
      apply W_regS
      · intro K hK
        simp
        repeat' (first | with_reducible exact hK | (with_reducible refine callQ (c2) ?_; simp) | (with_reducible refine goL_split (fun _ => ?_) (fun _ => ?_) <;> simp) | with_reducible refine And.intro ?_ ?_ | with_reducible exact okay_rfl rfl | with_reducible assumption | omega)
      refine W_seq (W_seq (?_))
      apply W_regS
      · intro K hK
        simp
        repeat' (first | with_reducible exact hK | (with_reducible refine goL_split (fun _ => ?_) (fun _ => ?_) <;> simp) | with_reducible refine And.intro ?_ ?_ | with_reducible exact okay_rfl rfl | with_reducible assumption | omega)
      refine W_cond rfl (fun h => W_seq ?_) (fun h => ?_)
      · apply W_regS
        · intro K hK
          simp
          repeat' (first | with_reducible exact hK | (with_reducible refine goL_split (fun _ => ?_) (fun _ => ?_) <;> simp) | with_reducible refine And.intro ?_ ?_ | with_reducible exact okay_rfl rfl | with_reducible assumption | omega)
        refine W_ret ?_
        simp [Fin, rcdC]
        all_goals omega
      · cases h
    | some p =>
      obtain ⟨x, k'⟩ := p
      obtain ⟨d1, d2, d3, d4, d5⟩ := takeV_some htx
      rw [List.length_drop] at d2
      obtain ⟨d, hd⟩ : ∃ d, c + k' = d := ⟨_, rfl⟩
      have c2 := s_TakeNum_some (GG := GG) htx hd hb (by omega)
      have hst := hnx.2 x k' d htx hd
      refine W_seq (?_)
      apply W_regS
      · intro K hK
        simp
        repeat' (first | with_reducible exact hK | (with_reducible refine callQ (c2) ?_; simp) | (with_reducible refine goL_split (fun _ => ?_) (fun _ => ?_) <;> simp) | with_reducible refine And.intro ?_ ?_ | with_reducible exact okay_rfl rfl | with_reducible assumption | omega)
      refine W_seq (W_seq (?_))
      apply W_regS
      · intro K hK
        simp
        repeat' (first | with_reducible exact hK | (with_reducible refine goL_split (fun _ => ?_) (fun _ => ?_) <;> simp) | with_reducible refine And.intro ?_ ?_ | with_reducible exact okay_rfl rfl | with_reducible assumption | omega)
      refine W_cond rfl (fun h => ?_) (fun h => W_skip ?_)
      · cases h
      apply W_regS
      · intro K hK
        simp [litA, limit]
        repeat' (first | with_reducible exact hK | (with_reducible refine goL_split (fun _ => ?_) (fun _ => ?_) <;> simp [litA, limit]) | with_reducible refine And.intro ?_ ?_ | with_reducible exact okay_rfl rfl | with_reducible assumption | omega)
      apply W_regS
      · intro K hK
        simp
        repeat' (first | with_reducible exact hK | (with_reducible refine goL_split (fun _ => ?_) (fun _ => ?_) <;> simp) | with_reducible refine And.intro ?_ ?_ | with_reducible exact okay_rfl rfl | with_reducible assumption | omega)
      refine ⟨n.toNat - (i + 1), by omega, i + 1, d, xs ++ [x], rfl, by omega, hst, ?_⟩
      simp [gc, closeN, liveA, gcV, gcO, renA, renAs, renO, namesAs, namesA, namesO, posn, intsD]
      exact wrap_id (by omega) (by omega)
  simp at h2
  rw [if_pos rfl]
  have hin : i = n.toNat := by omega
  subst hin
  rw [hx] at hr
  dsimp only at hr
  clear h2
  cases htm : takeV (b.drop c) with
  | none =>
    rw [htm] at hr
    dsimp only at hr
    subst hr
    have c3 := s_TakeNum_none (GG := GG) htm hb (by omega)
    refine W_seq (?_)
    apply W_regS
    · intro K hK
      simp
      repeat' (first | with_reducible exact hK | (with_reducible refine goL_split (fun _ => ?_) (fun _ => ?_) <;> simp) | with_reducible refine And.intro ?_ ?_ | with_reducible exact okay_rfl rfl | with_reducible assumption | omega)
    refine W_seq (?_)
    apply W_regS
    · intro K hK
      simp
      repeat' (first | with_reducible exact hK | (with_reducible refine callQ (c3) ?_; simp) | (with_reducible refine goL_split (fun _ => ?_) (fun _ => ?_) <;> simp) | with_reducible refine And.intro ?_ ?_ | with_reducible exact okay_rfl rfl | with_reducible assumption | omega)
    refine W_seq (W_seq (?_))
    apply W_regS
    · intro K hK
      simp
      repeat' (first | with_reducible exact hK | (with_reducible refine goL_split (fun _ => ?_) (fun _ => ?_) <;> simp) | with_reducible refine And.intro ?_ ?_ | with_reducible exact okay_rfl rfl | with_reducible assumption | omega)
    refine W_cond rfl (fun h => W_seq ?_) (fun h => ?_)
    · apply W_regS
      · intro K hK
        simp
        repeat' (first | with_reducible exact hK | (with_reducible refine goL_split (fun _ => ?_) (fun _ => ?_) <;> simp) | with_reducible refine And.intro ?_ ?_ | with_reducible exact okay_rfl rfl | with_reducible assumption | omega)
      refine W_ret ?_
      simp [Fin, rcdC]
      all_goals omega
    · cases h
  | some p =>
  obtain ⟨mm, k2⟩ := p
  rw [htm] at hr
  dsimp only at hr
  obtain ⟨g1, g2, g3, g4, g5⟩ := takeV_some htm
  rw [List.length_drop] at g2
  obtain ⟨e, he⟩ : ∃ e, c + k2 = e := ⟨_, rfl⟩
  have c3 := s_TakeNum_some (GG := GG) htm he hb (by omega)
  rw [he] at hr
  have cn : Valid PP GG 11 [.d (.int .i64 mm), .d (.int .i64 0), .d (.int .i64 40)] (.d (.bool (inB mm 0 40))) [none, none, none] := l01In_ok _ _ _
  have hin : inB mm 0 40 = decide (0 ≤ mm ∧ mm ≤ 40) := by unfold inB; rw [Bool.eq_iff_iff]; simp
  generalize inB mm 0 40 = q at cn hin
  refine W_seq (?_)
  apply W_regS
  · intro K hK
    simp
    repeat' (first | with_reducible exact hK | (with_reducible refine goL_split (fun _ => ?_) (fun _ => ?_) <;> simp) | with_reducible refine And.intro ?_ ?_ | with_reducible exact okay_rfl rfl | with_reducible assumption | omega)
  refine W_seq (?_)
  apply W_regS
  · intro K hK
    simp
    repeat' (first | with_reducible exact hK | (with_reducible refine callQ (c3) ?_; simp) | (with_reducible refine goL_split (fun _ => ?_) (fun _ => ?_) <;> simp) | with_reducible refine And.intro ?_ ?_ | with_reducible exact okay_rfl rfl | with_reducible assumption | omega)
  refine W_seq (W_seq (?_))
  apply W_regS
  · intro K hK
    simp
    repeat' (first | with_reducible exact hK | (with_reducible refine callQ (cn) ?_; simp) | (with_reducible refine goL_split (fun _ => ?_) (fun _ => ?_) <;> simp) | with_reducible refine And.intro ?_ ?_ | with_reducible exact okay_rfl rfl | with_reducible assumption | omega)
  refine W_cond rfl (fun h => W_seq ?_) (fun h => W_skip ?_)
  · simp at h
    subst h
    rw [if_neg (of_decide_eq_false hin.symm)] at hr
    subst hr
    apply W_regS
    · intro K hK
      simp
      repeat' (first | with_reducible exact hK | (with_reducible refine goL_split (fun _ => ?_) (fun _ => ?_) <;> simp) | with_reducible refine And.intro ?_ ?_ | with_reducible exact okay_rfl rfl | with_reducible assumption | omega)
    refine W_ret ?_
    simp [Fin, rcdC]
    all_goals omega
  simp at h
  subst h
  have hmr := of_decide_eq_true hin.symm
  rw [if_pos hmr] at hr
  clear cn hin
  refine W_seq (W_seq (?_))
  apply W_regS
  · intro K hK
    simp
    repeat' (first | with_reducible exact hK | (with_reducible refine goL_split (fun _ => ?_) (fun _ => ?_) <;> simp) | with_reducible refine And.intro ?_ ?_ | with_reducible exact okay_rfl rfl | with_reducible assumption | omega)
  refine W_block (W_loop (fun m st => ∃ (i c : Nat) (ts : List (List UInt8)), m = mm.toNat - i ∧ i ≤ mm.toNat ∧ textsV b e i = some (ts, c) ∧
    st = ⟨[], [(0, .d (.slc 1 (bytesD b))), (2, .ptr 0 0), (4, .ptr 1 0), (5, .ptr 2 0), (7, .d (.int .i64 c)), (11, .d (.int .i64 mm)), (12, .d (.int .i64 i))], [(0, .box [.d (.int .i64 0), .nil 0 1, .nil 0 1]), (1, .box [.d (.int .i64 0), .nil 0 1, .nil 0 1]), (2, .box [.d (.int .i64 y.toNat), .sl 3, .sl 4]), (3, .arr 0 0 1 (intsD xs)), (4, .arr 0 0 1 (strsD ts))], 5⟩) _
    ⟨0, e, [], rfl, by omega, rfl, by simp [gc, closeN, liveA, gcV, gcO, renA, renAs, renO, namesAs, namesA, namesO, posn, strsD]⟩ ?_)
  rintro m st ⟨i, c', ts, rfl, hi, hx2, rfl⟩
  obtain ⟨y1, y2, y3, y4, y5⟩ := textsV_some (by omega) hx2
  refine W_seq (W_seq (?_))
  refine W_regB 77 (decide (i < mm.toNat)) (fun K hK => ?_) ?_
  · simp
    repeat' (first | exact hK _ _ (by clear hK; first | omega | (exact decide_eq_false (by omega)) | (exact decide_eq_true (by omega)) | (exact (decide_eq_true (by omega)).symm) | (exact (decide_eq_false (by omega)).symm) | (exact decide_eq_decide.2 (by omega)) | (simp only [← decide_not]; exact decide_eq_decide.2 (by omega)) | (simp [*]; done) | (simp [*]; omega) | (simp_all; done) | (simp_all; omega) | (rw [Bool.eq_iff_iff]; simp at *; omega)) | (with_reducible refine goL_split (fun _ => ?_) (fun _ => ?_) <;> simp) | with_reducible refine And.intro ?_ ?_ | with_reducible exact okay_rfl rfl | with_reducible assumption | omega)
  refine W_cond rfl (fun h2 => W_skip ?_) (fun h2 => W_exit ?_)
  · simp at h2
    have hnx := textsV_next hx2
    refine W_seq (W_block (W_seq ?_))
    apply W_regS
    · intro K hK
      simp
      repeat' (first | with_reducible exact hK | (with_reducible refine goL_split (fun _ => ?_) (fun _ => ?_) <;> simp) | with_reducible refine And.intro ?_ ?_ | with_reducible exact okay_rfl rfl | with_reducible assumption | omega)
    cases htx : takeV (b.drop c') with
    | none =>
      rw [textsV_stop (hnx.1 htx) _ (by omega)] at hr
      dsimp only at hr
      subst hr
      have c2 := s_TakeNum_none (GG := GG) htx hb (by omega)
      refine W_seq (?_)
      apply W_regS
      · intro K hK
        simp
        repeat' (first | with_reducible exact hK | (with_reducible refine callQ (c2) ?_; simp) | (with_reducible refine goL_split (fun _ => ?_) (fun _ => ?_) <;> simp) | with_reducible refine And.intro ?_ ?_ | with_reducible exact okay_rfl rfl | with_reducible assumption | omega)
      refine W_seq (W_seq (?_))
      apply W_regS
      · intro K hK
        simp
        repeat' (first | with_reducible exact hK | (with_reducible refine goL_split (fun _ => ?_) (fun _ => ?_) <;> simp) | with_reducible refine And.intro ?_ ?_ | with_reducible exact okay_rfl rfl | with_reducible assumption | omega)
      refine W_cond rfl (fun h => W_seq ?_) (fun h => ?_)
      · apply W_regS
        · intro K hK
          simp
          repeat' (first | with_reducible exact hK | (with_reducible refine goL_split (fun _ => ?_) (fun _ => ?_) <;> simp) | with_reducible refine And.intro ?_ ?_ | with_reducible exact okay_rfl rfl | with_reducible assumption | omega)
        refine W_ret ?_
        simp [Fin, rcdC]
        all_goals omega
      · cases h
    | some p =>
      obtain ⟨x, k'⟩ := p
      obtain ⟨d1, d2, d3, d4, d5⟩ := takeV_some htx
      rw [List.length_drop] at d2
      obtain ⟨d, hd⟩ : ∃ d, c' + k' = d := ⟨_, rfl⟩
      have c2 := s_TakeNum_some (GG := GG) htx hd hb (by omega)
      have hst := hnx.2 x k' d htx hd
      have hw1 : IntKind.i64.wrap ((b.length : Int) - d) = ((b.length - d : Nat) : Int) := by rw [wrap_id (by omega) (by omega)]; omega
      generalize hbl : b.length - d = bl at hw1 hst
      refine W_seq (?_)
      apply W_regS
      · intro K hK
        simp
        repeat' (first | with_reducible exact hK | (with_reducible refine callQ (c2) ?_; simp) | (with_reducible refine goL_split (fun _ => ?_) (fun _ => ?_) <;> simp) | with_reducible refine And.intro ?_ ?_ | with_reducible exact okay_rfl rfl | with_reducible assumption | omega)
      refine W_seq (W_seq (?_))
      refine W_regB 100 (!decide (0 ≤ x ∧ x ≤ (bl : Int))) (fun K hK => ?_) ?_
      · simp [hw1]
        repeat' (first | exact hK _ _ (by clear hK; first | omega | (exact decide_eq_false (by omega)) | (exact decide_eq_true (by omega)) | (exact (decide_eq_true (by omega)).symm) | (exact (decide_eq_false (by omega)).symm) | (exact decide_eq_decide.2 (by omega)) | (simp only [← decide_not]; exact decide_eq_decide.2 (by omega)) | (simp [*]; done) | (simp [*]; omega) | (simp_all; done) | (simp_all; omega) | (rw [Bool.eq_iff_iff]; simp at *; omega)) | (with_reducible refine goL_split (fun _ => ?_) (fun _ => ?_) <;> simp [hw1]) | with_reducible refine And.intro ?_ ?_ | with_reducible exact okay_rfl rfl | with_reducible assumption | omega)
      refine W_cond rfl (fun h => W_seq ?_) (fun h => W_skip ?_)
      · rw [Bool.not_eq_true', decide_eq_false_iff_not] at h
        rw [textsV_stop (hst.1 h) _ (by omega)] at hr
        dsimp only at hr
        subst hr
        apply W_regS
        · intro K hK
          simp
          repeat' (first | with_reducible exact hK | (with_reducible refine goL_split (fun _ => ?_) (fun _ => ?_) <;> simp) | with_reducible refine And.intro ?_ ?_ | with_reducible exact okay_rfl rfl | with_reducible assumption | omega)
        refine W_ret ?_
        simp [Fin, rcdC]
        all_goals omega
      rw [Bool.not_eq_false', decide_eq_true_eq] at h
      have hst2 := hst.2 h
      obtain ⟨s, hs⟩ : ∃ s : Nat, x.toNat = s := ⟨_, rfl⟩
      have hxs : x = s := by omega
      subst hxs
      rw [hs] at hst2
      have hcut := bytesD_cut (l := b.drop d) rfl s
      obtain ⟨z, hz⟩ : ∃ z, (b.drop d).take s = z := ⟨_, rfl⟩
      rw [hz] at hcut hst2
      obtain ⟨ds, hds⟩ : ∃ ds, d + s = ds := ⟨_, rfl⟩
      rw [hds] at hcut hst2
      have hw2 : IntKind.i64.wrap ((d : Int) + s) = ds := by rw [wrap_id (by omega) (by omega)]; omega
      refine W_seq (?_)
      apply W_regD
      · intro K hK
        simp [hw2, hcut, strOf_bytesD, litA, limit]
        repeat' (first | with_reducible exact hK | (with_reducible refine goL_split (fun _ => ?_) (fun _ => ?_) <;> simp [hw2, hcut, strOf_bytesD, litA, limit]) | with_reducible refine And.intro ?_ ?_ | with_reducible exact okay_rfl rfl | with_reducible assumption | omega)
      apply W_regS
      · intro K hK
        simp [hw2]
        repeat' (first | with_reducible exact hK | (with_reducible refine goL_split (fun _ => ?_) (fun _ => ?_) <;> simp [hw2]) | with_reducible refine And.intro ?_ ?_ | with_reducible exact okay_rfl rfl | with_reducible assumption | omega)
      apply W_regS
      · intro K hK
        simp
        repeat' (first | with_reducible exact hK | (with_reducible refine goL_split (fun _ => ?_) (fun _ => ?_) <;> simp) | with_reducible refine And.intro ?_ ?_ | with_reducible exact okay_rfl rfl | with_reducible assumption | omega)
      refine ⟨mm.toNat - (i + 1), by omega, i + 1, ds, ts ++ [z], rfl, by omega, hst2, ?_⟩
      simp [gc, closeN, liveA, gcV, gcO, renA, renAs, renO, namesAs, namesA, namesO, posn, strsD]
      exact wrap_id (by omega) (by omega)
  simp at h2
  rw [if_pos rfl]
  have hin : i = mm.toNat := by omega
  rw [← hin, hx2] at hr
  dsimp only at hr
  have cr := s_RecordOk_ok (GG := GG) y.toNat xs ts (by omega) (by omega)
  generalize recOk y.toNat xs ts = q at cr hr
  obtain ⟨u, hu⟩ : ∃ u, decide (c' = b.length) = u := ⟨_, rfl⟩
  have he2 : ((c' : Int) != (b.length : Int)) = !u := by rw [← hu, Bool.eq_iff_iff]; simp; omega
  cases u with
  | false =>
    rw [if_neg (fun h => of_decide_eq_false hu h.1)] at hr
    subst hr
    refine W_seq (W_seq (?_))
    apply W_regS
    · intro K hK
      simp [he2]
      repeat' (first | with_reducible exact hK | (with_reducible refine goL_split (fun _ => ?_) (fun _ => ?_) <;> simp [he2]) | with_reducible refine And.intro ?_ ?_ | with_reducible exact okay_rfl rfl | with_reducible assumption | omega)
    refine W_cond rfl (fun h => W_seq ?_) (fun h => ?_)
    · apply W_regS
      · intro K hK
        simp
        repeat' (first | with_reducible exact hK | (with_reducible refine goL_split (fun _ => ?_) (fun _ => ?_) <;> simp) | with_reducible refine And.intro ?_ ?_ | with_reducible exact okay_rfl rfl | with_reducible assumption | omega)
      refine W_ret ?_
      simp [Fin, rcdC]
      all_goals omega
    · cases h
  | true =>
    have hcb := of_decide_eq_true hu
    refine W_seq (W_seq (?_))
    apply W_regS
    · intro K hK
      simp [he2]
      repeat' (first | with_reducible exact hK | (with_reducible refine callQ (cr) ?_; simp [he2]) | (with_reducible refine goL_split (fun _ => ?_) (fun _ => ?_) <;> simp [he2]) | with_reducible refine And.intro ?_ ?_ | with_reducible exact okay_rfl rfl | with_reducible assumption | omega)
    refine W_cond rfl (fun h => W_seq ?_) (fun h => W_skip ?_)
    · simp at h
      subst h
      rw [if_neg (by simp)] at hr
      subst hr
      apply W_regS
      · intro K hK
        simp
        repeat' (first | with_reducible exact hK | (with_reducible refine goL_split (fun _ => ?_) (fun _ => ?_) <;> simp) | with_reducible refine And.intro ?_ ?_ | with_reducible exact okay_rfl rfl | with_reducible assumption | omega)
      refine W_ret ?_
      simp [Fin, rcdC]
      all_goals omega
    · simp at h
      subst h
      rw [if_pos ⟨hcb, rfl⟩] at hr
      subst hr
      refine W_seq (?_)
      apply W_regS
      · intro K hK
        simp
        repeat' (first | with_reducible exact hK | (with_reducible refine goL_split (fun _ => ?_) (fun _ => ?_) <;> simp) | with_reducible refine And.intro ?_ ?_ | with_reducible exact okay_rfl rfl | with_reducible assumption | omega)
      refine W_ret ?_
      simp [Fin, rcdC]
      all_goals omega
def frameV (b : List UInt8) (a : Nat) : Except Int (Rec × Nat) :=
  let rest := b.drop a
  if rest.length < 2 then .error 1 else
  let n := 256 * (rest[0]?.getD 0).toNat + (rest[1]?.getD 0).toNat
  if ¬ (3 ≤ n ∧ n ≤ 4000) then .error 2 else
  if rest.length < n + 6 then .error 1 else
  match decV ((rest.drop 2).take n) with
  | none => .error 2
  | some r => if beN (digN ((rest.drop 2).take n) % 4294967296).toNat 4 = (rest.drop (2 + n)).take 4 then .ok (r, a + (n + 6)) else .error 2
def scanF (b : List UInt8) : Nat → Nat → List Rec → List Rec × Nat × Int
  | 0, a, l => (l, a, 0)
  | n + 1, a, l => if a < b.length then
      match frameV b a with
      | .error c => (l, a, c)
      | .ok (r, a') => scanF b n a' (l ++ [r])
    else (l, a, 0)
def scanV (b : List UInt8) : List Rec × Nat × Int := if b.length ≤ 40000 then scanF b b.length 0 [] else ([], 0, 2)
theorem scanF_end {b : List UInt8} {n a : Nat} {l : List Rec} (h : b.length ≤ a) : scanF b n a l = (l, a, 0) := by
  cases n with
  | zero => rfl
  | succ n => simp only [scanF]; rw [if_neg (by omega)]
def recRow (r : Rec) : List D := [.int .i64 r.1, .slc 1 (intsD r.2.1), .slc 1 (strsD r.2.2)]
def rRec (l : List Rec) : List (List D) := l.map recRow
@[simp] theorem rRec_len (l : List Rec) : (rRec l).length = l.length := by simp [rRec]
theorem bytesD_drop {b l : List UInt8} {a : Nat} (h : b.drop a = l) : (bytesD b).drop a = bytesD l := by
  unfold bytesD; rw [← List.map_drop, h]
end Go.Proofs.YtbjmakmahooaiaaGreat.Ab
