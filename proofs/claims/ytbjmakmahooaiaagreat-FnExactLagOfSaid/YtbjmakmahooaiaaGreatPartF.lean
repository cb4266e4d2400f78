/-
  A part of a proof about the given program; what is proved is said where each theorem stands.
-/
import Derived.Test.YtbjmakmahooaiaaGreatFrameA
import Derived.Test.YtbjmakmahooaiaaGreatFrameB
import Derived.Test.YtbjmakmahooaiaaGreatFrameC
import Derived.Test.YtbjmakmahooaiaaGreatFrameD
import Derived.Test.YtbjmakmahooaiaaGreatHead
import Derived.Test.YtbjmakmahooaiaaGreatShelf
import Derived.Test.YtbjmakmahooaiaaGreatPartA
import Derived.Test.YtbjmakmahooaiaaGreatPartB
import Derived.Test.YtbjmakmahooaiaaGreatPartC
import Derived.Test.YtbjmakmahooaiaaGreatPartD
import Derived.Test.YtbjmakmahooaiaaGreatPartE
namespace Go.Proofs
end Go.Proofs
set_option linter.unusedSimpArgs false
set_option linter.unusedVariables false
set_option maxRecDepth 100000
set_option maxHeartbeats 2000000
namespace Go.Proofs.YtbjmakmahooaiaaGreat.Ab
open Go.Proofs
variable {GG : GV}
theorem i_scanFrames_ok (b : List UInt8) (l : List Rec) (a : Nat) (c : Int) (hr : scanV b = (l, a, c)) (hb : b.length ≤ 1000000) :
    Valid PP GG 34 [.d (.slc 1 (bytesD b))] (.tup [.own 1 3 (rRec l), .d (.int .i64 a), .d (.int .i64 c)]) [none] := by
  refine cv Tryz.func34 [.own 1 3 (rRec l), .d (.int .i64 a), .d (.int .i64 c)] ?_
  unfold scanV at hr
  refine W_seq (?_)
  apply W_regS
  · intro K hK
    simp
    repeat' (first | with_reducible exact hK | (with_reducible refine goL_split (fun _ => ?_) (fun _ => ?_) <;> simp) | with_reducible refine And.intro ?_ ?_ | with_reducible exact okay_rfl rfl | with_reducible assumption | omega)
  refine W_seq (W_seq (?_))
  refine W_regB 13 (decide (40000 < b.length)) (fun K hK => ?_) ?_
  · simp
    repeat' (first | exact hK _ _ (by clear hK; first | omega | (exact decide_eq_false (by omega)) | (exact decide_eq_true (by omega)) | (exact (decide_eq_true (by omega)).symm) | (exact (decide_eq_false (by omega)).symm) | (exact decide_eq_decide.2 (by omega)) | (simp only [← decide_not]; exact decide_eq_decide.2 (by omega)) | (simp [*]; done) | (simp [*]; omega) | (simp_all; done) | (simp_all; omega) | (rw [Bool.eq_iff_iff]; simp at *; omega)) | (with_reducible refine goL_split (fun _ => ?_) (fun _ => ?_) <;> simp) | with_reducible refine And.intro ?_ ?_ | with_reducible exact okay_rfl rfl | with_reducible assumption | omega)
  refine W_cond rfl (fun h => W_seq ?_) (fun h => W_skip ?_)
  · simp at h
    rw [if_neg (by omega)] at hr
    cases hr
    apply W_regS
    · intro K hK
      simp
      repeat' (first | with_reducible exact hK | (with_reducible refine goL_split (fun _ => ?_) (fun _ => ?_) <;> simp) | with_reducible refine And.intro ?_ ?_ | with_reducible exact okay_rfl rfl | with_reducible assumption | omega)
    refine W_ret ?_
    simp [Fin, rRec]
    all_goals omega
  simp at h
  rw [if_pos (by omega)] at hr
  refine W_seq (?_)
  apply W_regS
  · intro K hK
    simp
    repeat' (first | with_reducible exact hK | (with_reducible refine goL_split (fun _ => ?_) (fun _ => ?_) <;> simp) | with_reducible refine And.intro ?_ ?_ | with_reducible exact okay_rfl rfl | with_reducible assumption | omega)
  refine W_nilV 5 rfl ?_
  refine W_seq (?_)
  apply W_regS
  · intro K hK
    simp
    repeat' (first | with_reducible exact hK | (with_reducible refine goL_split (fun _ => ?_) (fun _ => ?_) <;> simp) | with_reducible refine And.intro ?_ ?_ | with_reducible exact okay_rfl rfl | with_reducible assumption | omega)
  refine W_seq (W_block (W_loop (fun m st => ∃ (p : Nat) (ls : List Rec), scanF b m p ls = (l, a, c) ∧ p ≤ b.length ∧ b.length ≤ p + m ∧ ls.length ≤ p ∧
    st = ⟨[], [(0, .d (.slc 1 (bytesD b))), (5, .sl 0), (6, .d (.int .i64 p))], [(0, .arr 0 1 3 (rRec ls))], 1⟩) _
    ⟨0, [], hr, by omega, by omega, by simp, by simp [gc, closeN, liveA, gcV, gcO, renA, renAs, renO, namesAs, namesA, namesO, posn, rRec]⟩ ?_))
  rintro m st ⟨p, ls, hs, hp, hpm, hll, rfl⟩
  refine W_seq (W_seq (?_))
  refine W_regB 17 (decide (p < b.length)) (fun K hK => ?_) ?_
  · simp
    repeat' (first | exact hK _ _ (by clear hK; first | omega | (exact decide_eq_false (by omega)) | (exact decide_eq_true (by omega)) | (exact (decide_eq_true (by omega)).symm) | (exact (decide_eq_false (by omega)).symm) | (exact decide_eq_decide.2 (by omega)) | (simp only [← decide_not]; exact decide_eq_decide.2 (by omega)) | (simp [*]; done) | (simp [*]; omega) | (simp_all; done) | (simp_all; omega) | (rw [Bool.eq_iff_iff]; simp at *; omega)) | (with_reducible refine goL_split (fun _ => ?_) (fun _ => ?_) <;> simp) | with_reducible refine And.intro ?_ ?_ | with_reducible exact okay_rfl rfl | with_reducible assumption | omega)
  refine W_cond rfl (fun h2 => W_skip ?_) (fun h2 => W_exit ?_)
  · simp at h2
    obtain ⟨m, rfl⟩ : ∃ k, m = k + 1 := ⟨m - 1, by omega⟩
    simp only [scanF] at hs
    rw [if_pos h2] at hs
    obtain ⟨rest, hrest⟩ : ∃ rest, b.drop p = rest := ⟨_, rfl⟩
    have hrl : rest.length = b.length - p := by rw [← hrest, List.length_drop]
    have hdr := bytesD_drop hrest
    unfold frameV at hs
    rw [hrest] at hs
    dsimp only at hs
    have htl : List.take b.length (bytesD b) = bytesD b := List.take_of_length_le (by simp)
    refine W_block (W_seq ?_)
    apply W_regS
    · intro K hK
      simp [hdr, htl]
      repeat' (first | with_reducible exact hK | (with_reducible refine goL_split (fun _ => ?_) (fun _ => ?_) <;> simp [hdr, htl]) | with_reducible refine And.intro ?_ ?_ | with_reducible exact okay_rfl rfl | with_reducible assumption | omega)
    refine W_seq (W_seq (?_))
    refine W_regB 23 (decide (rest.length < 2)) (fun K hK => ?_) ?_
    · simp
      repeat' (first | exact hK _ _ (by clear hK; first | omega | (exact decide_eq_false (by omega)) | (exact decide_eq_true (by omega)) | (exact (decide_eq_true (by omega)).symm) | (exact (decide_eq_false (by omega)).symm) | (exact decide_eq_decide.2 (by omega)) | (simp only [← decide_not]; exact decide_eq_decide.2 (by omega)) | (simp [*]; done) | (simp [*]; omega) | (simp_all; done) | (simp_all; omega) | (rw [Bool.eq_iff_iff]; simp at *; omega)) | (with_reducible refine goL_split (fun _ => ?_) (fun _ => ?_) <;> simp) | with_reducible refine And.intro ?_ ?_ | with_reducible exact okay_rfl rfl | with_reducible assumption | omega)
    refine W_cond rfl (fun h3 => W_seq ?_) (fun h3 => W_skip ?_)
    · simp at h3
      rw [if_pos h3] at hs
      cases hs
      apply W_regS
      · intro K hK
        simp
        repeat' (first | with_reducible exact hK | (with_reducible refine goL_split (fun _ => ?_) (fun _ => ?_) <;> simp) | with_reducible refine And.intro ?_ ?_ | with_reducible exact okay_rfl rfl | with_reducible assumption | omega)
      refine W_ret ?_
      simp [Fin]
      all_goals omega
    simp at h3
    rw [if_neg (by omega)] at hs
    have hx0 := List.getElem?_eq_getElem (show 0 < rest.length by omega)
    have hx1 := List.getElem?_eq_getElem (show 1 < rest.length by omega)
    generalize rest[0]'_ = x0 at hx0
    generalize rest[1]'_ = x1 at hx1
    rw [hx0, hx1] at hs
    simp only [Option.getD_some] at hs
    have hl0 := x0.toNat_lt
    have hl1 := x1.toNat_lt
    obtain ⟨n, hn⟩ : ∃ n, 256 * x0.toNat + x1.toNat = n := ⟨_, rfl⟩
    rw [hn] at hs
    have f0 : IntKind.i64.wrap (x0.toNat : Int) = x0.toNat := wrap_id (by omega) (by omega)
    have f1 : IntKind.i64.wrap (x1.toNat : Int) = x1.toNat := wrap_id (by omega) (by omega)
    have f2 : IntKind.i64.wrap ((x0.toNat : Int) * 256) = ((x0.toNat * 256 : Nat) : Int) := by rw [wrap_id (by omega) (by omega)]; omega
    have f3 : intBin .or .i64 ((x0.toNat * 256 : Nat) : Int) (x1.toNat : Int) = some (.int .i64 (n : Int)) := by
      rw [intBin_orI]
      refine congrArg (fun z => some (D.int .i64 z)) (or_num (by omega) (by omega) ?_ (by omega))
      rw [Nat.or_comm]
      have := or_add (a := x1.toNat) (k := 8) x0.toNat (by omega)
      rw [show x0.toNat * 256 = x0.toNat * 2 ^ 8 from rfl, this]; omega
    obtain ⟨z, hz⟩ : ∃ z, x0.toNat * 256 = z := ⟨_, rfl⟩
    rw [hz] at f2 f3
    have ci : Valid PP GG 14 [.d (.int .i64 n), .d (.int .i64 3), .d (.int .i64 4000)] (.d (.bool (inB n 3 4000))) [none, none, none] := within_ok _ _ _
    have hin : inB n 3 4000 = decide (3 ≤ n ∧ n ≤ 4000) := by unfold inB; rw [Bool.eq_iff_iff]; simp; omega
    generalize inB n 3 4000 = q at ci hin
    refine W_seq (?_)
    apply W_regD
    · intro K hK
      simp [hx0, hx1, f0, f1, f2, f3]
      repeat' (first | with_reducible exact hK | (with_reducible refine goL_split (fun _ => ?_) (fun _ => ?_) <;> simp [hx0, hx1, f0, f1, f2, f3]) | with_reducible refine And.intro ?_ ?_ | with_reducible exact okay_rfl rfl | with_reducible assumption | omega)
    refine W_seq (W_seq (?_))
    apply W_regS
    · intro K hK
      simp
      repeat' (first | with_reducible exact hK | (with_reducible refine callQ (ci) ?_; simp) | (with_reducible refine goL_split (fun _ => ?_) (fun _ => ?_) <;> simp) | with_reducible refine And.intro ?_ ?_ | with_reducible exact okay_rfl rfl | with_reducible assumption | omega)
    refine W_cond rfl (fun h4 => W_seq ?_) (fun h4 => W_skip ?_)
    · simp at h4
      subst h4
      rw [if_pos (of_decide_eq_false hin.symm)] at hs
      cases hs
      apply W_regS
      · intro K hK
        simp
        repeat' (first | with_reducible exact hK | (with_reducible refine goL_split (fun _ => ?_) (fun _ => ?_) <;> simp) | with_reducible refine And.intro ?_ ?_ | with_reducible exact okay_rfl rfl | with_reducible assumption | omega)
      refine W_ret ?_
      simp [Fin]
      all_goals omega
    simp at h4
    subst h4
    have hnr := of_decide_eq_true hin.symm
    rw [if_neg (by omega)] at hs
    clear ci hin f2 f3
    have f4 : IntKind.i64.wrap ((n : Int) + 6) = ((n + 6 : Nat) : Int) := by rw [wrap_id (by omega) (by omega)]; omega
    obtain ⟨n6, hn6⟩ : ∃ n6, n + 6 = n6 := ⟨_, rfl⟩
    rw [hn6] at f4
    refine W_seq (W_seq (?_))
    refine W_regB 45 (decide (rest.length < n6)) (fun K hK => ?_) ?_
    · simp [f4]
      repeat' (first | exact hK _ _ (by clear hK; first | omega | (exact decide_eq_false (by omega)) | (exact decide_eq_true (by omega)) | (exact (decide_eq_true (by omega)).symm) | (exact (decide_eq_false (by omega)).symm) | (exact decide_eq_decide.2 (by omega)) | (simp only [← decide_not]; exact decide_eq_decide.2 (by omega)) | (simp [*]; done) | (simp [*]; omega) | (simp_all; done) | (simp_all; omega) | (rw [Bool.eq_iff_iff]; simp at *; omega)) | (with_reducible refine goL_split (fun _ => ?_) (fun _ => ?_) <;> simp [f4]) | with_reducible refine And.intro ?_ ?_ | with_reducible exact okay_rfl rfl | with_reducible assumption | omega)
    refine W_cond rfl (fun h5 => W_seq ?_) (fun h5 => W_skip ?_)
    · simp at h5
      rw [if_pos (by omega)] at hs
      cases hs
      apply W_regS
      · intro K hK
        simp
        repeat' (first | with_reducible exact hK | (with_reducible refine goL_split (fun _ => ?_) (fun _ => ?_) <;> simp) | with_reducible refine And.intro ?_ ?_ | with_reducible exact okay_rfl rfl | with_reducible assumption | omega)
      refine W_ret ?_
      simp [Fin]
      all_goals omega
    simp at h5
    rw [if_neg (by omega)] at hs
    have hcut := bytesD_cut (b := rest) (a := 2) rfl n
    obtain ⟨body, hbody⟩ : ∃ body, (rest.drop 2).take n = body := ⟨_, rfl⟩
    have hbl : body.length = n := by rw [← hbody, List.length_take, List.length_drop]; omega
    rw [hbody] at hcut hs
    have f5 : IntKind.i64.wrap (2 + (n : Int)) = ((2 + n : Nat) : Int) := by rw [wrap_id (by omega) (by omega)]; omega
    have hcut2 := bytesD_cut (b := rest) (a := 2 + n) rfl 4
    obtain ⟨sum, hsum⟩ : ∃ sum, (rest.drop (2 + n)).take 4 = sum := ⟨_, rfl⟩
    have hsl : sum.length = 4 := by rw [← hsum, List.length_take, List.length_drop]; omega
    rw [hsum] at hcut2 hs
    have f6 : IntKind.i64.wrap (6 + (n : Int)) = (n6 : Int) := by rw [wrap_id (by omega) (by omega)]; omega
    rw [show 2 + n + 4 = n6 by omega] at hcut2
    obtain ⟨n2, hn2⟩ : ∃ n2, 2 + n = n2 := ⟨_, rfl⟩
    rw [hn2] at hcut hcut2 f5
    obtain ⟨r, hdr2⟩ : ∃ r, decV body = r := ⟨_, rfl⟩
    have cd := decodeRecord_ok (GG := GG) body r (by rw [decI_eq]; exact hdr2) (by omega)
    rw [hdr2] at hs
    cases r with
    | none =>
      cases hs
      refine W_seq (?_)
      apply W_regS
      · intro K hK
        simp [f5, hcut, rcdC]
        repeat' (first | with_reducible exact hK | (with_reducible refine callQ (cd) ?_; simp [f5, hcut, rcdC]) | (with_reducible refine goL_split (fun _ => ?_) (fun _ => ?_) <;> simp [f5, hcut, rcdC]) | with_reducible refine And.intro ?_ ?_ | with_reducible exact okay_rfl rfl | with_reducible assumption | omega)
      refine W_seq (W_seq (?_))
      apply W_regD
      · intro K hK
        simp
        repeat' (first | with_reducible exact hK | (with_reducible refine goL_split (fun _ => ?_) (fun _ => ?_) <;> simp) | with_reducible refine And.intro ?_ ?_ | with_reducible exact okay_rfl rfl | with_reducible assumption | omega)
      refine W_cond rfl (fun h6 => W_seq ?_) (fun h6 => ?_)
      · apply W_regS
        · intro K hK
          simp
          repeat' (first | with_reducible exact hK | (with_reducible refine goL_split (fun _ => ?_) (fun _ => ?_) <;> simp) | with_reducible refine And.intro ?_ ?_ | with_reducible exact okay_rfl rfl | with_reducible assumption | omega)
        refine W_ret ?_
        simp [Fin]
        all_goals omega
      · cases h6
    | some r =>
      obtain ⟨k, xs, ts⟩ := r
      dsimp only at hs
      have hdg := digN_range body
      obtain ⟨dg, hdg2⟩ : ∃ dg : Nat, digN body % 4294967296 = dg := ⟨(digN body % 4294967296).toNat, by omega⟩
      have hdl : dg < 4294967296 := by omega
      have f7 : (digN body).tmod 4294967296 = (dg : Int) := by rw [Int.tmod_eq_emod_of_nonneg hdg.1, hdg2]
      have f8 : (digN body % 4294967296).toNat = dg := by omega
      rw [f8] at hs
      have cdg := digest_ok (GG := GG) body (by omega)
      generalize digN body = dgi at f7 cdg
      have cbe : Valid PP GG 72 [.own 0 1 [], .d (.int .i64 dg), .d (.int .i64 4)] (.own 0 1 (bytesD (beN dg 4))) [none, none, none] := bigEndian_ok dg 4 [] (by omega) (by omega) (by simp)
      have cq := bytes_Equal_ok (GG := GG) (beN dg 4) sum
      generalize beN dg 4 = w at cbe cq hs
      have ind0 := ind_bytes w
      obtain ⟨q, hq⟩ : ∃ q, decide (w = sum) = q := ⟨_, rfl⟩
      rw [hq] at cq
      refine W_seq (?_)
      apply W_regS
      · intro K hK
        simp [f5, hcut, rcdC]
        repeat' (first | with_reducible exact hK | (with_reducible refine callQ (cd) ?_; simp [f5, hcut, rcdC]) | (with_reducible refine goL_split (fun _ => ?_) (fun _ => ?_) <;> simp [f5, hcut, rcdC]) | with_reducible refine And.intro ?_ ?_ | with_reducible exact okay_rfl rfl | with_reducible assumption | omega)
      refine W_seq (W_seq (?_))
      apply W_regD
      · intro K hK
        simp [f5, f6, f7, hcut, hcut2]
        repeat' (first | with_reducible exact hK | (with_reducible refine callQ (cdg) ?_; simp [f5, f6, f7, hcut, hcut2]) | (with_reducible refine callQ (cbe) ?_; simp [f5, f6, f7, hcut, hcut2]) | (with_reducible refine callQ (cq) ?_; simp [f5, f6, f7, hcut, hcut2]) | (with_reducible refine goL_split (fun _ => ?_) (fun _ => ?_) <;> simp [f5, f6, f7, hcut, hcut2]) | with_reducible refine And.intro ?_ ?_ | with_reducible exact okay_rfl rfl | with_reducible assumption | omega)
      refine W_cond rfl (fun h6 => W_seq ?_) (fun h6 => W_skip ?_)
      · simp at h6
        subst h6
        rw [if_neg (of_decide_eq_false hq)] at hs
        cases hs
        apply W_regS
        · intro K hK
          simp
          repeat' (first | with_reducible exact hK | (with_reducible refine goL_split (fun _ => ?_) (fun _ => ?_) <;> simp) | with_reducible refine And.intro ?_ ?_ | with_reducible exact okay_rfl rfl | with_reducible assumption | omega)
        refine W_ret ?_
        simp [Fin]
        all_goals omega
      simp at h6
      subst h6
      rw [if_pos (of_decide_eq_true hq)] at hs
      have f9 : IntKind.i64.wrap ((p : Int) + n6) = ((p + n6 : Nat) : Int) := by rw [wrap_id (by omega) (by omega)]; omega
      refine W_seq (?_)
      apply W_regS
      · intro K hK
        simp [litA, limit]
        repeat' (first | with_reducible exact hK | (with_reducible refine goL_split (fun _ => ?_) (fun _ => ?_) <;> simp [litA, limit]) | with_reducible refine And.intro ?_ ?_ | with_reducible exact okay_rfl rfl | with_reducible assumption | omega)
      apply W_regS
      · intro K hK
        simp [f4, f9]
        repeat' (first | with_reducible exact hK | (with_reducible refine goL_split (fun _ => ?_) (fun _ => ?_) <;> simp [f4, f9]) | with_reducible refine And.intro ?_ ?_ | with_reducible exact okay_rfl rfl | with_reducible assumption | omega)
      rw [hn6] at hs
      refine ⟨m, by omega, p + n6, ls ++ [(k, xs, ts)], hs, by omega, by omega, by simp; omega, ?_⟩
      simp [gc, closeN, liveA, gcV, gcO, renA, renAs, renO, namesAs, namesA, namesO, posn, rRec, recRow]
  · simp at h2
    rw [scanF_end h2] at hs
    cases hs
    rw [if_pos rfl]
    refine W_seq (?_)
    apply W_regS
    · intro K hK
      simp
      repeat' (first | with_reducible exact hK | (with_reducible refine goL_split (fun _ => ?_) (fun _ => ?_) <;> simp) | with_reducible refine And.intro ?_ ?_ | with_reducible exact okay_rfl rfl | with_reducible assumption | omega)
    refine W_ret ?_
    simp [Fin]
    all_goals omega
theorem s_ScanFrames_ok (b : List UInt8) (l : List Rec) (a : Nat) (c : Int) (hr : scanV b = (l, a, c)) (hb : b.length ≤ 1000000) :
    Valid PP GG 24 [.d (.slc 1 (bytesD b))] (.tup [.own 1 3 (rRec l), .d (.int .i64 a), .d (.int .i64 c)]) [none] := by
  refine cv Tryz.func24 [.own 1 3 (rRec l), .d (.int .i64 a), .d (.int .i64 c)] ?_
  unfold scanV at hr
  refine W_seq (?_)
  apply W_regS
  · intro K hK
    simp
    repeat' (first | with_reducible exact hK | (with_reducible refine goL_split (fun _ => ?_) (fun _ => ?_) <;> simp) | with_reducible refine And.intro ?_ ?_ | with_reducible exact okay_rfl rfl | with_reducible assumption | omega)
  refine W_seq (W_seq (?_))
  refine W_regB 13 (decide (40000 < b.length)) (fun K hK => ?_) ?_
  · simp
    repeat' (first | exact hK _ _ (by clear hK; first | omega | (exact decide_eq_false (by omega)) | (exact decide_eq_true (by omega)) | (exact (decide_eq_true (by omega)).symm) | (exact (decide_eq_false (by omega)).symm) | (exact decide_eq_decide.2 (by omega)) | (simp only [← decide_not]; exact decide_eq_decide.2 (by omega)) | (simp [*]; done) | (simp [*]; omega) | (simp_all; done) | (simp_all; omega) | (rw [Bool.eq_iff_iff]; simp at *; omega)) | (with_reducible refine goL_split (fun _ => ?_) (fun _ => ?_) <;> simp) | with_reducible refine And.intro ?_ ?_ | with_reducible exact okay_rfl rfl | with_reducible assumption | omega)
  refine W_cond rfl (fun h => W_seq ?_) (fun h => W_skip ?_)
  · simp at h
    rw [if_neg (by omega)] at hr
    cases hr
    apply W_regS
    · intro K hK
      simp
      repeat' (first | with_reducible exact hK | (with_reducible refine goL_split (fun _ => ?_) (fun _ => ?_) <;> simp) | with_reducible refine And.intro ?_ ?_ | with_reducible exact okay_rfl rfl | with_reducible assumption | omega)
    refine W_ret ?_
    simp [Fin, rRec]
    all_goals omega
  simp at h
  rw [if_pos (by omega)] at hr
  refine W_seq (?_)
  apply W_regS
  · intro K hK
    simp [litA]
    repeat' (first | with_reducible exact hK | (with_reducible refine goL_split (fun _ => ?_) (fun _ => ?_) <;> simp [litA]) | with_reducible refine And.intro ?_ ?_ | with_reducible exact okay_rfl rfl | with_reducible assumption | omega)
  refine W_seq (?_)
  apply W_regS
  · intro K hK
    simp
    repeat' (first | with_reducible exact hK | (with_reducible refine goL_split (fun _ => ?_) (fun _ => ?_) <;> simp) | with_reducible refine And.intro ?_ ?_ | with_reducible exact okay_rfl rfl | with_reducible assumption | omega)
  refine W_seq (W_block (W_loop (fun m st => ∃ (p : Nat) (ls : List Rec), scanF b m p ls = (l, a, c) ∧ p ≤ b.length ∧ b.length ≤ p + m ∧ ls.length ≤ p ∧
    st = ⟨[], [(0, .d (.slc 1 (bytesD b))), (5, .sl 0), (6, .d (.int .i64 p))], [(0, .arr 0 1 3 (rRec ls))], 1⟩) _
    ⟨0, [], hr, by omega, by omega, by simp, by simp [gc, closeN, liveA, gcV, gcO, renA, renAs, renO, namesAs, namesA, namesO, posn, rRec]⟩ ?_))
  rintro m st ⟨p, ls, hs, hp, hpm, hll, rfl⟩
  refine W_seq (W_seq (?_))
  refine W_regB 18 (decide (p < b.length)) (fun K hK => ?_) ?_
  · simp
    repeat' (first | exact hK _ _ (by clear hK; first | omega | (exact decide_eq_false (by omega)) | (exact decide_eq_true (by omega)) | (exact (decide_eq_true (by omega)).symm) | (exact (decide_eq_false (by omega)).symm) | (exact decide_eq_decide.2 (by omega)) | (simp only [← decide_not]; exact decide_eq_decide.2 (by omega)) | (simp [*]; done) | (simp [*]; omega) | (simp_all; done) | (simp_all; omega) | (rw [Bool.eq_iff_iff]; simp at *; omega)) | (with_reducible refine goL_split (fun _ => ?_) (fun _ => ?_) <;> simp) | with_reducible refine And.intro ?_ ?_ | with_reducible exact okay_rfl rfl | with_reducible assumption | omega)
  refine W_cond rfl (fun h2 => W_skip ?_) (fun h2 => W_exit ?_)
  · simp at h2
    obtain ⟨m, rfl⟩ : ∃ k, m = k + 1 := ⟨m - 1, by omega⟩
    simp only [scanF] at hs
    rw [if_pos h2] at hs
    obtain ⟨rest, hrest⟩ : ∃ rest, b.drop p = rest := ⟨_, rfl⟩
    have hrl : rest.length = b.length - p := by rw [← hrest, List.length_drop]
    unfold frameV at hs
    rw [hrest] at hs
    dsimp only at hs
    have f10 : IntKind.i64.wrap ((b.length : Int) - p) = (rest.length : Int) := by rw [wrap_id (by omega) (by omega)]; omega
    refine W_block (W_seq ?_)
    apply W_regS
    · intro K hK
      simp [f10]
      repeat' (first | with_reducible exact hK | (with_reducible refine goL_split (fun _ => ?_) (fun _ => ?_) <;> simp [f10]) | with_reducible refine And.intro ?_ ?_ | with_reducible exact okay_rfl rfl | with_reducible assumption | omega)
    refine W_seq (W_seq (?_))
    refine W_regB 24 (decide (rest.length < 2)) (fun K hK => ?_) ?_
    · simp
      repeat' (first | exact hK _ _ (by clear hK; first | omega | (exact decide_eq_false (by omega)) | (exact decide_eq_true (by omega)) | (exact (decide_eq_true (by omega)).symm) | (exact (decide_eq_false (by omega)).symm) | (exact decide_eq_decide.2 (by omega)) | (simp only [← decide_not]; exact decide_eq_decide.2 (by omega)) | (simp [*]; done) | (simp [*]; omega) | (simp_all; done) | (simp_all; omega) | (rw [Bool.eq_iff_iff]; simp at *; omega)) | (with_reducible refine goL_split (fun _ => ?_) (fun _ => ?_) <;> simp) | with_reducible refine And.intro ?_ ?_ | with_reducible exact okay_rfl rfl | with_reducible assumption | omega)
    refine W_cond rfl (fun h3 => W_seq ?_) (fun h3 => W_skip ?_)
    · simp at h3
      rw [if_pos h3] at hs
      cases hs
      apply W_regS
      · intro K hK
        simp
        repeat' (first | with_reducible exact hK | (with_reducible refine goL_split (fun _ => ?_) (fun _ => ?_) <;> simp) | with_reducible refine And.intro ?_ ?_ | with_reducible exact okay_rfl rfl | with_reducible assumption | omega)
      refine W_ret ?_
      simp [Fin]
      all_goals omega
    simp at h3
    rw [if_neg (by omega)] at hs
    have hx0 := List.getElem?_eq_getElem (show 0 < rest.length by omega)
    have hx1 := List.getElem?_eq_getElem (show 1 < rest.length by omega)
    generalize rest[0]'_ = x0 at hx0
    generalize rest[1]'_ = x1 at hx1
    rw [hx0, hx1] at hs
    simp only [Option.getD_some] at hs
    have hl0 := x0.toNat_lt
    have hl1 := x1.toNat_lt
    obtain ⟨n, hn⟩ : ∃ n, 256 * x0.toNat + x1.toNat = n := ⟨_, rfl⟩
    rw [hn] at hs
    have hb0 : b[p]? = some x0 := by rw [← hx0, ← hrest, List.getElem?_drop, Nat.add_zero]
    obtain ⟨p1, hp1⟩ : ∃ p1, p + 1 = p1 := ⟨_, rfl⟩
    have hb1 : b[p1]? = some x1 := by rw [← hx1, ← hrest, List.getElem?_drop, hp1]
    have fp1 : IntKind.i64.wrap ((p : Int) + 1) = (p1 : Int) := by rw [wrap_id (by omega) (by omega)]; omega
    have f0 : IntKind.i64.wrap (x0.toNat : Int) = x0.toNat := wrap_id (by omega) (by omega)
    have f1 : IntKind.i64.wrap (x1.toNat : Int) = x1.toNat := wrap_id (by omega) (by omega)
    obtain ⟨z, hz⟩ : ∃ z, 256 * x0.toNat = z := ⟨_, rfl⟩
    have f2 : IntKind.i64.wrap (256 * (x0.toNat : Int)) = (z : Int) := by rw [wrap_id (by omega) (by omega)]; omega
    have f3 : IntKind.i64.wrap ((z : Int) + x1.toNat) = (n : Int) := by rw [wrap_id (by omega) (by omega)]; omega
    have ci : Valid PP GG 11 [.d (.int .i64 n), .d (.int .i64 3), .d (.int .i64 4000)] (.d (.bool (inB n 3 4000))) [none, none, none] := l01In_ok _ _ _
    have hin : inB n 3 4000 = decide (3 ≤ n ∧ n ≤ 4000) := by unfold inB; rw [Bool.eq_iff_iff]; simp; omega
    generalize inB n 3 4000 = q at ci hin
    refine W_seq (?_)
    apply W_regD
    · intro K hK
      simp [hb0, hb1, fp1, f0, f1, f2, f3]
      repeat' (first | with_reducible exact hK | (with_reducible refine goL_split (fun _ => ?_) (fun _ => ?_) <;> simp [hb0, hb1, fp1, f0, f1, f2, f3]) | with_reducible refine And.intro ?_ ?_ | with_reducible exact okay_rfl rfl | with_reducible assumption | omega)
    refine W_seq (W_seq (?_))
    apply W_regS
    · intro K hK
      simp
      repeat' (first | with_reducible exact hK | (with_reducible refine callQ (ci) ?_; simp) | (with_reducible refine goL_split (fun _ => ?_) (fun _ => ?_) <;> simp) | with_reducible refine And.intro ?_ ?_ | with_reducible exact okay_rfl rfl | with_reducible assumption | omega)
    refine W_cond rfl (fun h4 => W_seq ?_) (fun h4 => W_skip ?_)
    · simp at h4
      subst h4
      rw [if_pos (of_decide_eq_false hin.symm)] at hs
      cases hs
      apply W_regS
      · intro K hK
        simp
        repeat' (first | with_reducible exact hK | (with_reducible refine goL_split (fun _ => ?_) (fun _ => ?_) <;> simp) | with_reducible refine And.intro ?_ ?_ | with_reducible exact okay_rfl rfl | with_reducible assumption | omega)
      refine W_ret ?_
      simp [Fin]
      all_goals omega
    simp at h4
    subst h4
    have hnr := of_decide_eq_true hin.symm
    rw [if_neg (by omega)] at hs
    clear ci hin f2 f3
    have f4 : IntKind.i64.wrap ((n : Int) + 6) = ((n + 6 : Nat) : Int) := by rw [wrap_id (by omega) (by omega)]; omega
    obtain ⟨n6, hn6⟩ : ∃ n6, n + 6 = n6 := ⟨_, rfl⟩
    rw [hn6] at f4
    refine W_seq (W_seq (?_))
    refine W_regB 48 (decide (rest.length < n6)) (fun K hK => ?_) ?_
    · simp [f4]
      repeat' (first | exact hK _ _ (by clear hK; first | omega | (exact decide_eq_false (by omega)) | (exact decide_eq_true (by omega)) | (exact (decide_eq_true (by omega)).symm) | (exact (decide_eq_false (by omega)).symm) | (exact decide_eq_decide.2 (by omega)) | (simp only [← decide_not]; exact decide_eq_decide.2 (by omega)) | (simp [*]; done) | (simp [*]; omega) | (simp_all; done) | (simp_all; omega) | (rw [Bool.eq_iff_iff]; simp at *; omega)) | (with_reducible refine goL_split (fun _ => ?_) (fun _ => ?_) <;> simp [f4]) | with_reducible refine And.intro ?_ ?_ | with_reducible exact okay_rfl rfl | with_reducible assumption | omega)
    refine W_cond rfl (fun h5 => W_seq ?_) (fun h5 => W_skip ?_)
    · simp at h5
      rw [if_pos (by omega)] at hs
      cases hs
      apply W_regS
      · intro K hK
        simp
        repeat' (first | with_reducible exact hK | (with_reducible refine goL_split (fun _ => ?_) (fun _ => ?_) <;> simp) | with_reducible refine And.intro ?_ ?_ | with_reducible exact okay_rfl rfl | with_reducible assumption | omega)
      refine W_ret ?_
      simp [Fin]
      all_goals omega
    simp at h5
    rw [if_neg (by omega)] at hs
    obtain ⟨p2, hp2⟩ : ∃ p2, p + 2 = p2 := ⟨_, rfl⟩
    obtain ⟨p2n, hp2n⟩ : ∃ p2n, p2 + n = p2n := ⟨_, rfl⟩
    obtain ⟨p6, hp6⟩ : ∃ p6, p + 6 = p6 := ⟨_, rfl⟩
    obtain ⟨p6n, hp6n⟩ : ∃ p6n, p6 + n = p6n := ⟨_, rfl⟩
    have g2 : IntKind.i64.wrap ((p : Int) + 2) = (p2 : Int) := by rw [wrap_id (by omega) (by omega)]; omega
    have g2n : IntKind.i64.wrap ((p2 : Int) + n) = (p2n : Int) := by rw [wrap_id (by omega) (by omega)]; omega
    have g6 : IntKind.i64.wrap ((p : Int) + 6) = (p6 : Int) := by rw [wrap_id (by omega) (by omega)]; omega
    have g6n : IntKind.i64.wrap ((p6 : Int) + n) = (p6n : Int) := by rw [wrap_id (by omega) (by omega)]; omega
    have hcut := bytesD_cut (b := b) (a := p2) (l := rest.drop 2) (by rw [← hrest, List.drop_drop, hp2]) n
    obtain ⟨body, hbody⟩ : ∃ body, (rest.drop 2).take n = body := ⟨_, rfl⟩
    have hbl : body.length = n := by rw [← hbody, List.length_take, List.length_drop]; omega
    rw [hbody] at hcut hs
    rw [hp2n] at hcut
    have hcut2 := bytesD_cut (b := b) (a := p2n) (l := rest.drop (2 + n)) (by rw [← hrest, List.drop_drop]; congr 1; omega) 4
    obtain ⟨sum, hsum⟩ : ∃ sum, (rest.drop (2 + n)).take 4 = sum := ⟨_, rfl⟩
    have hsl : sum.length = 4 := by rw [← hsum, List.length_take, List.length_drop]; omega
    rw [hsum] at hcut2 hs
    rw [show p2n + 4 = p6n by omega] at hcut2
    obtain ⟨r, hdr2⟩ : ∃ r, decV body = r := ⟨_, rfl⟩
    have cd := s_DecodeRecord_ok (GG := GG) body r hdr2 (by omega)
    rw [hdr2] at hs
    cases r with
    | none =>
      cases hs
      refine W_seq (?_)
      apply W_regS
      · intro K hK
        simp [g2, g2n, hcut, rcdC]
        repeat' (first | with_reducible exact hK | (with_reducible refine callQ (cd) ?_; simp [g2, g2n, hcut, rcdC]) | (with_reducible refine goL_split (fun _ => ?_) (fun _ => ?_) <;> simp [g2, g2n, hcut, rcdC]) | with_reducible refine And.intro ?_ ?_ | with_reducible exact okay_rfl rfl | with_reducible assumption | omega)
      refine W_seq (W_seq (?_))
      apply W_regD
      · intro K hK
        simp
        repeat' (first | with_reducible exact hK | (with_reducible refine goL_split (fun _ => ?_) (fun _ => ?_) <;> simp) | with_reducible refine And.intro ?_ ?_ | with_reducible exact okay_rfl rfl | with_reducible assumption | omega)
      refine W_cond rfl (fun h6 => W_seq ?_) (fun h6 => ?_)
      · apply W_regS
        · intro K hK
          simp
          repeat' (first | with_reducible exact hK | (with_reducible refine goL_split (fun _ => ?_) (fun _ => ?_) <;> simp) | with_reducible refine And.intro ?_ ?_ | with_reducible exact okay_rfl rfl | with_reducible assumption | omega)
        refine W_ret ?_
        simp [Fin]
        all_goals omega
      · cases h6
    | some r =>
      obtain ⟨k, xs, ts⟩ := r
      dsimp only at hs
      have hdg := digN_range body
      obtain ⟨dg, hdg2⟩ : ∃ dg : Nat, digN body % 4294967296 = dg := ⟨(digN body % 4294967296).toNat, by omega⟩
      have hdl : dg < 4294967296 := by omega
      have f7 : (digN body).tmod 4294967296 = (dg : Int) := by rw [Int.tmod_eq_emod_of_nonneg hdg.1, hdg2]
      have f8 : (digN body % 4294967296).toNat = dg := by omega
      rw [f8] at hs
      have cdg := Digest_ok (GG := GG) body (by omega)
      generalize digN body = dgi at f7 cdg
      have cbe : Valid PP GG 56 [.d (.int .i64 dg), .d (.int .i64 4)] (.own 0 1 (bytesD (beN dg 4))) [none, none] := l05Wide_ok dg 4 (by omega) (by omega)
      have hw4 : (beN dg 4).length = 4 := rfl
      have cq := l01Same_ok (GG := GG) sum (beN dg 4) (by omega) (by omega)
      generalize beN dg 4 = w at cbe cq hs hw4
      have ind0 := ind_bytes w
      obtain ⟨q, hq⟩ : ∃ q, decide (sum = w) = q := ⟨_, rfl⟩
      rw [hq] at cq
      refine W_seq (?_)
      apply W_regS
      · intro K hK
        simp [g2, g2n, hcut, rcdC]
        repeat' (first | with_reducible exact hK | (with_reducible refine callQ (cd) ?_; simp [g2, g2n, hcut, rcdC]) | (with_reducible refine goL_split (fun _ => ?_) (fun _ => ?_) <;> simp [g2, g2n, hcut, rcdC]) | with_reducible refine And.intro ?_ ?_ | with_reducible exact okay_rfl rfl | with_reducible assumption | omega)
      refine W_seq (W_seq (?_))
      apply W_regD
      · intro K hK
        simp [g2, g2n, g6, g6n, f7, hcut, hcut2]
        repeat' (first | with_reducible exact hK | (with_reducible refine callQ (cdg) ?_; simp [g2, g2n, g6, g6n, f7, hcut, hcut2]) | (with_reducible refine callQ (cbe) ?_; simp [g2, g2n, g6, g6n, f7, hcut, hcut2]) | (with_reducible refine callQ (cq) ?_; simp [g2, g2n, g6, g6n, f7, hcut, hcut2]) | (with_reducible refine goL_split (fun _ => ?_) (fun _ => ?_) <;> simp [g2, g2n, g6, g6n, f7, hcut, hcut2]) | with_reducible refine And.intro ?_ ?_ | with_reducible exact okay_rfl rfl | with_reducible assumption | omega)
      refine W_cond rfl (fun h6 => W_seq ?_) (fun h6 => W_skip ?_)
      · simp at h6
        subst h6
        rw [if_neg (fun e => of_decide_eq_false hq e.symm)] at hs
        cases hs
        apply W_regS
        · intro K hK
          simp
          repeat' (first | with_reducible exact hK | (with_reducible refine goL_split (fun _ => ?_) (fun _ => ?_) <;> simp) | with_reducible refine And.intro ?_ ?_ | with_reducible exact okay_rfl rfl | with_reducible assumption | omega)
        refine W_ret ?_
        simp [Fin]
        all_goals omega
      simp at h6
      subst h6
      rw [if_pos (of_decide_eq_true hq).symm] at hs
      obtain ⟨pn, hpn⟩ : ∃ pn, p + n = pn := ⟨_, rfl⟩
      have f9 : IntKind.i64.wrap ((p : Int) + n) = (pn : Int) := by rw [wrap_id (by omega) (by omega)]; omega
      have f9b : IntKind.i64.wrap ((pn : Int) + 6) = ((p + n6 : Nat) : Int) := by rw [wrap_id (by omega) (by omega)]; omega
      refine W_seq (?_)
      apply W_regS
      · intro K hK
        simp [litA, limit]
        repeat' (first | with_reducible exact hK | (with_reducible refine goL_split (fun _ => ?_) (fun _ => ?_) <;> simp [litA, limit]) | with_reducible refine And.intro ?_ ?_ | with_reducible exact okay_rfl rfl | with_reducible assumption | omega)
      apply W_regS
      · intro K hK
        simp [f9, f9b]
        repeat' (first | with_reducible exact hK | (with_reducible refine goL_split (fun _ => ?_) (fun _ => ?_) <;> simp [f9, f9b]) | with_reducible refine And.intro ?_ ?_ | with_reducible exact okay_rfl rfl | with_reducible assumption | omega)
      rw [hn6] at hs
      refine ⟨m, by omega, p + n6, ls ++ [(k, xs, ts)], hs, by omega, by omega, by simp; omega, ?_⟩
      simp [gc, closeN, liveA, gcV, gcO, renA, renAs, renO, namesAs, namesA, namesO, posn, rRec, recRow]
  · simp at h2
    rw [scanF_end h2] at hs
    cases hs
    rw [if_pos rfl]
    refine W_seq (?_)
    apply W_regS
    · intro K hK
      simp
      repeat' (first | with_reducible exact hK | (with_reducible refine goL_split (fun _ => ?_) (fun _ => ?_) <;> simp) | with_reducible refine And.intro ?_ ?_ | with_reducible exact okay_rfl rfl | with_reducible assumption | omega)
    refine W_ret ?_
    simp [Fin]
    all_goals omega
theorem scanF_len {b : List UInt8} : ∀ (n a : Nat) (l : List Rec), (scanF b n a l).1.length ≤ l.length + n
  | 0, a, l => by simp [scanF]
  | n + 1, a, l => by
    simp only [scanF]
    split
    · split
      · simp
      · rename_i r a' _
        have := scanF_len (b := b) n a' (l ++ [r])
        rw [List.length_append] at this
        simp at this ⊢; omega
    · simp
theorem scanV_len (b : List UInt8) : (scanV b).1.length ≤ b.length := by
  unfold scanV
  split
  · have := scanF_len (b := b) b.length 0 []
    simpa using this
  · simp
theorem ind_rRec (l : List Rec) : ∀ row, row ∈ rRec l → ∀ d, d ∈ row → IndD 1 d := by
  intro row hr d hd
  simp only [rRec, List.mem_map] at hr
  obtain ⟨x, _, rfl⟩ := hr
  simp only [recRow, List.mem_cons, List.not_mem_nil, or_false] at hd
  rcases hd with rfl | rfl | rfl
  · trivial
  · exact ind_ints _
  · exact ind_strs _
def logV (a b : List UInt8) : List Rec × Int := if a.length + b.length ≤ 40000 then ((scanV (a ++ b)).1, (scanV (a ++ b)).2.2) else ([], 3)
theorem logV_len (a b : List UInt8) : (logV a b).1.length ≤ a.length + b.length := by
  unfold logV
  split
  · have := scanV_len (a ++ b); rwa [List.length_append] at this
  · simp
def lagV (same : Int) (q : List Rec × Int) : Int := if q.2 = 0 ∧ 0 ≤ same ∧ same ≤ ((q.1.length : Nat) : Int) then (q.1.length : Nat) - same else -1
theorem s_DiskOk_ok (a b : List UInt8) (h : a.length + b.length ≤ 1048576) : Valid PP GG 23 [.agg [.d (.slc 1 (bytesD a)), .d (.slc 1 (bytesD b))]] (.d (.bool (decide (a.length + b.length ≤ 40000)))) [none] := by
  refine cv Tryz.func23 [.d (.bool (decide (a.length + b.length ≤ 40000)))] ?_
  have hw : IntKind.i64.wrap (40000 - (a.length : Int)) = 40000 - (a.length : Int) := wrap_id (by omega) (by omega)
  refine W_seq (?_)
  apply W_regS
  · intro K hK
    simp
    repeat' (first | with_reducible exact hK | (with_reducible refine goL_split (fun _ => ?_) (fun _ => ?_) <;> simp) | with_reducible refine And.intro ?_ ?_ | with_reducible exact okay_rfl rfl | with_reducible assumption | omega)
  refine W_seq (?_)
  refine W_regB 2 (decide (a.length + b.length ≤ 40000)) (fun K hK => ?_) ?_
  · simp [hw]
    repeat' (first | exact hK _ _ (by clear hK; first | omega | (exact decide_eq_false (by omega)) | (exact decide_eq_true (by omega)) | (exact (decide_eq_true (by omega)).symm) | (exact (decide_eq_false (by omega)).symm) | (exact decide_eq_decide.2 (by omega)) | (simp only [← decide_not]; exact decide_eq_decide.2 (by omega)) | (simp [*]; done) | (simp [*]; omega) | (simp_all; done) | (simp_all; omega) | (rw [Bool.eq_iff_iff]; simp at *; omega)) | (with_reducible refine goL_split (fun _ => ?_) (fun _ => ?_) <;> simp [hw]) | with_reducible refine And.intro ?_ ?_ | with_reducible exact okay_rfl rfl | with_reducible assumption | omega)
  refine W_ret ?_
  simp [Fin]
  all_goals omega
theorem i_isDisk_ok (a b : List UInt8) (h : a.length + b.length ≤ 1048576) : Valid PP GG 33 [.agg [.d (.slc 1 (bytesD a)), .d (.slc 1 (bytesD b))]] (.d (.bool (decide (a.length + b.length ≤ 40000)))) [none] := by
  refine cv Tryz.func33 [.d (.bool (decide (a.length + b.length ≤ 40000)))] ?_
  have hw : IntKind.i64.wrap ((a.length : Int) + b.length) = (a.length : Int) + b.length := wrap_id (by omega) (by omega)
  refine W_seq (?_)
  apply W_regS
  · intro K hK
    simp
    repeat' (first | with_reducible exact hK | (with_reducible refine goL_split (fun _ => ?_) (fun _ => ?_) <;> simp) | with_reducible refine And.intro ?_ ?_ | with_reducible exact okay_rfl rfl | with_reducible assumption | omega)
  refine W_seq (?_)
  refine W_regB 2 (decide (a.length + b.length ≤ 40000)) (fun K hK => ?_) ?_
  · simp [hw]
    repeat' (first | exact hK _ _ (by clear hK; first | omega | (exact decide_eq_false (by omega)) | (exact decide_eq_true (by omega)) | (exact (decide_eq_true (by omega)).symm) | (exact (decide_eq_false (by omega)).symm) | (exact decide_eq_decide.2 (by omega)) | (simp only [← decide_not]; exact decide_eq_decide.2 (by omega)) | (simp [*]; done) | (simp [*]; omega) | (simp_all; done) | (simp_all; omega) | (rw [Bool.eq_iff_iff]; simp at *; omega)) | (with_reducible refine goL_split (fun _ => ?_) (fun _ => ?_) <;> simp [hw]) | with_reducible refine And.intro ?_ ?_ | with_reducible exact okay_rfl rfl | with_reducible assumption | omega)
  refine W_ret ?_
  simp [Fin]
  all_goals omega
theorem whole_ok (a b : List UInt8) (h : a.length + b.length ≤ 1048576) : Valid PP GG 35 [.agg [.d (.slc 1 (bytesD a)), .d (.slc 1 (bytesD b))]] (.own 0 1 (bytesD (a ++ b))) [none] := by
  refine cv Tryz.func35 [.own 0 1 (bytesD (a ++ b))] ?_
  have cc : Valid PP GG 74 [.d (.slc 1 [[.slc 1 (bytesD a)], [.slc 1 (bytesD b)]])] (.own 0 1 (bytesD (a ++ b))) [none] := by
    have := Concat_ok (GG := GG) [a, b] (by simp) (by simp; omega)
    simpa [bytesL] using this
  have i1 := ind_bytes a
  have i2 := ind_bytes b
  have i3 := ind_bytes (a ++ b)
  refine W_seq (?_)
  apply W_regS
  · intro K hK
    simp
    repeat' (first | with_reducible exact hK | (with_reducible refine goL_split (fun _ => ?_) (fun _ => ?_) <;> simp) | with_reducible refine And.intro ?_ ?_ | with_reducible exact okay_rfl rfl | with_reducible assumption | omega)
  refine W_seq (?_)
  apply W_regS
  · intro K hK
    simp [litA]
    repeat' (first | with_reducible exact hK | (with_reducible refine callQ (cc) ?_; simp [litA]) | (with_reducible refine goL_split (fun _ => ?_) (fun _ => ?_) <;> simp [litA]) | with_reducible refine And.intro ?_ ?_ | with_reducible exact okay_rfl rfl | with_reducible assumption | omega)
  refine W_ret ?_
  simp [Fin]
  all_goals omega
theorem i_ReadLog_ok (a b : List UInt8) (l : List Rec) (c : Int) (hr : logV a b = (l, c)) (h : a.length + b.length ≤ 1048576) :
    Valid PP GG 13 [.agg [.d (.slc 1 (bytesD a)), .d (.slc 1 (bytesD b))]] (.tup [.own 1 3 (rRec l), .d (.int .i64 c)]) [none] := by
  refine cv Tryz.func13 [.own 1 3 (rRec l), .d (.int .i64 c)] ?_
  unfold logV at hr
  have cd := i_isDisk_ok (GG := GG) a b h
  refine W_seq (?_)
  apply W_regS
  · intro K hK
    simp
    repeat' (first | with_reducible exact hK | (with_reducible refine goL_split (fun _ => ?_) (fun _ => ?_) <;> simp) | with_reducible refine And.intro ?_ ?_ | with_reducible exact okay_rfl rfl | with_reducible assumption | omega)
  refine W_seq (W_seq (?_))
  apply W_regS
  · intro K hK
    simp
    repeat' (first | with_reducible exact hK | (with_reducible refine callQ (cd) ?_; simp) | (with_reducible refine goL_split (fun _ => ?_) (fun _ => ?_) <;> simp) | with_reducible refine And.intro ?_ ?_ | with_reducible exact okay_rfl rfl | with_reducible assumption | omega)
  refine W_cond rfl (fun h2 => W_seq ?_) (fun h2 => W_skip ?_)
  · simp at h2
    rw [if_neg (by omega)] at hr
    cases hr
    apply W_regS
    · intro K hK
      simp
      repeat' (first | with_reducible exact hK | (with_reducible refine goL_split (fun _ => ?_) (fun _ => ?_) <;> simp) | with_reducible refine And.intro ?_ ?_ | with_reducible exact okay_rfl rfl | with_reducible assumption | omega)
    refine W_ret ?_
    simp [Fin, rRec]
    all_goals omega
  simp at h2
  rw [if_pos (by omega)] at hr
  obtain ⟨e, he⟩ : ∃ e, scanV (a ++ b) = e := ⟨_, rfl⟩
  rw [he] at hr
  obtain ⟨l', p, c'⟩ := e
  cases hr
  have cw := whole_ok (GG := GG) a b h
  have cs := i_scanFrames_ok (GG := GG) (a ++ b) l' p c' he (by rw [List.length_append]; omega)
  have i3 := ind_bytes (a ++ b)
  have i4 := ind_rRec l'
  refine W_seq (?_)
  apply W_regS
  · intro K hK
    simp
    repeat' (first | with_reducible exact hK | (with_reducible refine callQ (cw) ?_; simp) | (with_reducible refine callQ (cs) ?_; simp) | (with_reducible refine goL_split (fun _ => ?_) (fun _ => ?_) <;> simp) | with_reducible refine And.intro ?_ ?_ | with_reducible exact okay_rfl rfl | with_reducible assumption | omega)
  refine W_seq (?_)
  apply W_regS
  · intro K hK
    simp
    repeat' (first | with_reducible exact hK | (with_reducible refine goL_split (fun _ => ?_) (fun _ => ?_) <;> simp) | with_reducible refine And.intro ?_ ?_ | with_reducible exact okay_rfl rfl | with_reducible assumption | omega)
  refine W_ret ?_
  simp [Fin]
  all_goals omega
theorem s_ReadLog_ok (a b : List UInt8) (l : List Rec) (c : Int) (hr : logV a b = (l, c)) (h : a.length + b.length ≤ 1048576) :
    Valid PP GG 10 [.agg [.d (.slc 1 (bytesD a)), .d (.slc 1 (bytesD b))]] (.tup [.own 1 3 (rRec l), .d (.int .i64 c)]) [none] := by
  refine cv Tryz.func10 [.own 1 3 (rRec l), .d (.int .i64 c)] ?_
  unfold logV at hr
  have cd := s_DiskOk_ok (GG := GG) a b h
  refine W_seq (?_)
  apply W_regS
  · intro K hK
    simp
    repeat' (first | with_reducible exact hK | (with_reducible refine goL_split (fun _ => ?_) (fun _ => ?_) <;> simp) | with_reducible refine And.intro ?_ ?_ | with_reducible exact okay_rfl rfl | with_reducible assumption | omega)
  refine W_seq (W_seq (?_))
  apply W_regS
  · intro K hK
    simp
    repeat' (first | with_reducible exact hK | (with_reducible refine callQ (cd) ?_; simp) | (with_reducible refine goL_split (fun _ => ?_) (fun _ => ?_) <;> simp) | with_reducible refine And.intro ?_ ?_ | with_reducible exact okay_rfl rfl | with_reducible assumption | omega)
  refine W_cond rfl (fun h2 => W_seq ?_) (fun h2 => W_skip ?_)
  · simp at h2
    rw [if_neg (by omega)] at hr
    cases hr
    apply W_regS
    · intro K hK
      simp
      repeat' (first | with_reducible exact hK | (with_reducible refine goL_split (fun _ => ?_) (fun _ => ?_) <;> simp) | with_reducible refine And.intro ?_ ?_ | with_reducible exact okay_rfl rfl | with_reducible assumption | omega)
    refine W_ret ?_
    simp [Fin, rRec]
    all_goals omega
  simp at h2
  rw [if_pos (by omega)] at hr
  obtain ⟨e, he⟩ : ∃ e, scanV (a ++ b) = e := ⟨_, rfl⟩
  rw [he] at hr
  obtain ⟨l', p, c'⟩ := e
  cases hr
  have cw := l01Join_ok (GG := GG) a b (by omega)
  have cs := s_ScanFrames_ok (GG := GG) (a ++ b) l' p c' he (by rw [List.length_append]; omega)
  have i3 := ind_bytes (a ++ b)
  have i4 := ind_rRec l'
  refine W_seq (?_)
  apply W_regS
  · intro K hK
    simp
    repeat' (first | with_reducible exact hK | (with_reducible refine callQ (cw) ?_; simp) | (with_reducible refine callQ (cs) ?_; simp) | (with_reducible refine goL_split (fun _ => ?_) (fun _ => ?_) <;> simp) | with_reducible refine And.intro ?_ ?_ | with_reducible exact okay_rfl rfl | with_reducible assumption | omega)
  refine W_seq (?_)
  apply W_regS
  · intro K hK
    simp
    repeat' (first | with_reducible exact hK | (with_reducible refine goL_split (fun _ => ?_) (fun _ => ?_) <;> simp) | with_reducible refine And.intro ?_ ?_ | with_reducible exact okay_rfl rfl | with_reducible assumption | omega)
  refine W_ret ?_
  simp [Fin]
  all_goals omega
theorem i_LagOf_ok (x : GPair) (hx : x.cost ≤ 1048576) : Valid PP GG 7 [.agg x.c] (.d (.int .i64 (lagV x.fSame (logV x.fLead.fDisk.fSafe x.fLead.fDisk.fLoose)))) [none] := by
  refine cv Tryz.func7 [.d (.int .i64 (lagV x.fSame (logV x.fLead.fDisk.fSafe x.fLead.fDisk.fLoose)))] ?_
  have h1 : x.fLead.cost ≤ x.cost := by show x.fLead.cost ≤ x.fLead.cost + x.fBack.cost; omega
  have h2 : x.fLead.fDisk.cost ≤ x.fLead.cost := Nat.le_add_left _ _
  have h3 : x.fLead.fDisk.cost = x.fLead.fDisk.fSafe.length + x.fLead.fDisk.fLoose.length := rfl
  have hl := logV_len x.fLead.fDisk.fSafe x.fLead.fDisk.fLoose
  obtain ⟨q, hq⟩ : ∃ q, logV x.fLead.fDisk.fSafe x.fLead.fDisk.fLoose = q := ⟨_, rfl⟩
  obtain ⟨l, c⟩ := q
  have cl := i_ReadLog_ok (GG := GG) _ _ l c hq (by omega)
  rw [hq] at hl ⊢
  have i4 := ind_rRec l
  have cw : Valid PP GG 14 [.d (.int .i64 x.fSame), .d (.int .i64 0), .d (.int .i64 (l.length : Nat))] (.d (.bool (inB x.fSame 0 (l.length : Nat)))) [none, none, none] := within_ok _ _ _
  have hib : inB x.fSame 0 (l.length : Nat) = decide (0 ≤ x.fSame ∧ x.fSame ≤ ((l.length : Nat) : Int)) := by unfold inB; rw [Bool.eq_iff_iff]; simp
  generalize inB x.fSame 0 (l.length : Nat) = u at cw hib
  have hres : lagV x.fSame (l, c) = if c = 0 ∧ u = true then (l.length : Nat) - x.fSame else -1 := by
    unfold lagV
    rw [hib]
    simp only [decide_eq_true_eq]
  rw [hres]
  clear hres hq
  refine W_seq (?_)
  apply W_regS
  · intro K hK
    simp
    repeat' (first | with_reducible exact hK | (with_reducible refine goL_split (fun _ => ?_) (fun _ => ?_) <;> simp) | with_reducible refine And.intro ?_ ?_ | with_reducible exact okay_rfl rfl | with_reducible assumption | omega)
  refine W_seq (?_)
  apply W_regS
  · intro K hK
    simp
    repeat' (first | with_reducible exact hK | (with_reducible refine callQ (cl) ?_; simp) | (with_reducible refine goL_split (fun _ => ?_) (fun _ => ?_) <;> simp) | with_reducible refine And.intro ?_ ?_ | with_reducible exact okay_rfl rfl | with_reducible assumption | omega)
  by_cases hc : c = 0
  · subst hc
    refine W_seq (W_seq (?_))
    apply W_regS
    · intro K hK
      simp
      repeat' (first | with_reducible exact hK | (with_reducible refine callQ (cw) ?_; simp) | (with_reducible refine goL_split (fun _ => ?_) (fun _ => ?_) <;> simp) | with_reducible refine And.intro ?_ ?_ | with_reducible exact okay_rfl rfl | with_reducible assumption | omega)
    refine W_cond rfl (fun h => W_seq ?_) (fun h => W_skip ?_)
    · simp at h
      subst h
      rw [if_neg (by simp)]
      apply W_regS
      · intro K hK
        simp
        repeat' (first | with_reducible exact hK | (with_reducible refine goL_split (fun _ => ?_) (fun _ => ?_) <;> simp) | with_reducible refine And.intro ?_ ?_ | with_reducible exact okay_rfl rfl | with_reducible assumption | omega)
      refine W_ret ?_
      simp [Fin]
      all_goals omega
    · simp at h
      subst h
      have hr := of_decide_eq_true hib.symm
      have hl' : l.length ≤ 1048576 := by have : (l, (0 : Int)).1.length = l.length := rfl; omega
      have hw : IntKind.i64.wrap ((l.length : Int) - x.fSame) = (l.length : Int) - x.fSame := wrap_id (by omega) (by omega)
      rw [if_pos ⟨rfl, rfl⟩]
      refine W_seq (?_)
      apply W_regS
      · intro K hK
        simp [hw]
        repeat' (first | with_reducible exact hK | (with_reducible refine goL_split (fun _ => ?_) (fun _ => ?_) <;> simp [hw]) | with_reducible refine And.intro ?_ ?_ | with_reducible exact okay_rfl rfl | with_reducible assumption | omega)
      refine W_ret ?_
      simp [Fin]
      all_goals omega
  · have hb : (c != 0) = true := by simpa using hc
    rw [if_neg (fun h => hc h.1)]
    refine W_seq (W_seq (?_))
    apply W_regS
    · intro K hK
      simp [hb]
      repeat' (first | with_reducible exact hK | (with_reducible refine goL_split (fun _ => ?_) (fun _ => ?_) <;> simp [hb]) | with_reducible refine And.intro ?_ ?_ | with_reducible exact okay_rfl rfl | with_reducible assumption | omega)
    refine W_cond rfl (fun h => W_seq ?_) (fun h => ?_)
    · apply W_regS
      · intro K hK
        simp
        repeat' (first | with_reducible exact hK | (with_reducible refine goL_split (fun _ => ?_) (fun _ => ?_) <;> simp) | with_reducible refine And.intro ?_ ?_ | with_reducible exact okay_rfl rfl | with_reducible assumption | omega)
      refine W_ret ?_
      simp [Fin]
      all_goals omega
    · cases h
theorem s_LagOf_ok (x : GPair) (hx : x.cost ≤ 1048576) : Valid PP GG 5 [.agg x.c] (.d (.int .i64 (lagV x.fSame (logV x.fLead.fDisk.fSafe x.fLead.fDisk.fLoose)))) [none] := by
  refine cv Tryz.func5 [.d (.int .i64 (lagV x.fSame (logV x.fLead.fDisk.fSafe x.fLead.fDisk.fLoose)))] ?_
  have h1 : x.fLead.cost ≤ x.cost := by show x.fLead.cost ≤ x.fLead.cost + x.fBack.cost; omega
  have h2 : x.fLead.fDisk.cost ≤ x.fLead.cost := Nat.le_add_left _ _
  have h3 : x.fLead.fDisk.cost = x.fLead.fDisk.fSafe.length + x.fLead.fDisk.fLoose.length := rfl
  have hl := logV_len x.fLead.fDisk.fSafe x.fLead.fDisk.fLoose
  obtain ⟨q, hq⟩ : ∃ q, logV x.fLead.fDisk.fSafe x.fLead.fDisk.fLoose = q := ⟨_, rfl⟩
  obtain ⟨l, c⟩ := q
  have cl := s_ReadLog_ok (GG := GG) _ _ l c hq (by omega)
  rw [hq] at hl ⊢
  have i4 := ind_rRec l
  have cw : Valid PP GG 11 [.d (.int .i64 x.fSame), .d (.int .i64 0), .d (.int .i64 (l.length : Nat))] (.d (.bool (inB x.fSame 0 (l.length : Nat)))) [none, none, none] := l01In_ok _ _ _
  have hib : inB x.fSame 0 (l.length : Nat) = decide (0 ≤ x.fSame ∧ x.fSame ≤ ((l.length : Nat) : Int)) := by unfold inB; rw [Bool.eq_iff_iff]; simp
  generalize inB x.fSame 0 (l.length : Nat) = u at cw hib
  have hres : lagV x.fSame (l, c) = if c = 0 ∧ u = true then (l.length : Nat) - x.fSame else -1 := by
    unfold lagV
    rw [hib]
    simp only [decide_eq_true_eq]
  rw [hres]
  clear hres hq
  refine W_seq (?_)
  apply W_regS
  · intro K hK
    simp
    repeat' (first | with_reducible exact hK | (with_reducible refine goL_split (fun _ => ?_) (fun _ => ?_) <;> simp) | with_reducible refine And.intro ?_ ?_ | with_reducible exact okay_rfl rfl | with_reducible assumption | omega)
  refine W_seq (?_)
  apply W_regS
  · intro K hK
    simp
    repeat' (first | with_reducible exact hK | (with_reducible refine callQ (cl) ?_; simp) | (with_reducible refine goL_split (fun _ => ?_) (fun _ => ?_) <;> simp) | with_reducible refine And.intro ?_ ?_ | with_reducible exact okay_rfl rfl | with_reducible assumption | omega)
  by_cases hc : c = 0
  · subst hc
    refine W_seq (W_seq (?_))
    apply W_regS
    · intro K hK
      simp
      repeat' (first | with_reducible exact hK | (with_reducible refine callQ (cw) ?_; simp) | (with_reducible refine goL_split (fun _ => ?_) (fun _ => ?_) <;> simp) | with_reducible refine And.intro ?_ ?_ | with_reducible exact okay_rfl rfl | with_reducible assumption | omega)
    refine W_cond rfl (fun h => W_seq ?_) (fun h => W_skip ?_)
    · simp at h
      subst h
      rw [if_neg (by simp)]
      apply W_regS
      · intro K hK
        simp
        repeat' (first | with_reducible exact hK | (with_reducible refine goL_split (fun _ => ?_) (fun _ => ?_) <;> simp) | with_reducible refine And.intro ?_ ?_ | with_reducible exact okay_rfl rfl | with_reducible assumption | omega)
      refine W_ret ?_
      simp [Fin]
      all_goals omega
    · simp at h
      subst h
      have hr := of_decide_eq_true hib.symm
      have hl' : l.length ≤ 1048576 := by have : (l, (0 : Int)).1.length = l.length := rfl; omega
      have hw : IntKind.i64.wrap ((l.length : Int) - x.fSame) = (l.length : Int) - x.fSame := wrap_id (by omega) (by omega)
      rw [if_pos ⟨rfl, rfl⟩]
      refine W_seq (?_)
      apply W_regS
      · intro K hK
        simp [hw]
        repeat' (first | with_reducible exact hK | (with_reducible refine goL_split (fun _ => ?_) (fun _ => ?_) <;> simp [hw]) | with_reducible refine And.intro ?_ ?_ | with_reducible exact okay_rfl rfl | with_reducible assumption | omega)
      refine W_ret ?_
      simp [Fin]
      all_goals omega
  · have hb : (c != 0) = true := by simpa using hc
    rw [if_neg (fun h => hc h.1)]
    refine W_seq (W_seq (?_))
    apply W_regS
    · intro K hK
      simp [hb]
      repeat' (first | with_reducible exact hK | (with_reducible refine goL_split (fun _ => ?_) (fun _ => ?_) <;> simp [hb]) | with_reducible refine And.intro ?_ ?_ | with_reducible exact okay_rfl rfl | with_reducible assumption | omega)
    refine W_cond rfl (fun h => W_seq ?_) (fun h => ?_)
    · apply W_regS
      · intro K hK
        simp
        repeat' (first | with_reducible exact hK | (with_reducible refine goL_split (fun _ => ?_) (fun _ => ?_) <;> simp) | with_reducible refine And.intro ?_ ?_ | with_reducible exact okay_rfl rfl | with_reducible assumption | omega)
      refine W_ret ?_
      simp [Fin]
      all_goals omega
    · cases h
theorem law_LagOf (x : GPair) (hok : x.ok) : Valid PP GG 3 [.agg x.c] (.d (.bool true)) [none] := by
  refine cv Tryz.func3 [.d (.bool true)] ?_
  have csz := szPair_g (GG := GG) x 1048576 hok ⟨by omega, by omega⟩
  by_cases hcost : x.cost ≤ 1048576
  · rw [leftR_yes (by omega)] at csz
    have ct := toPair_g (GG := GG) x (by omega)
    have cex := eqPair_g (GG := GG) x x (by omega) (by omega)
    rw [decide_eq_true rfl] at cex
    have cs := s_LagOf_ok (GG := GG) x hcost
    have ci := i_LagOf_ok (GG := GG) x hcost
    generalize lagV x.fSame (logV x.fLead.fDisk.fSafe x.fLead.fDisk.fLoose) = g at cs ci
    repeat' (first | refine W_seq ?_ | refine W_skip ?_ | refine W_block ?_ | (refine W_exit ?_; first | refine pick_pos rfl ?_ | (refine pick_neg rfl ?_; first | refine pick_pos rfl ?_ | (refine pick_neg rfl ?_; refine pick_pos rfl ?_))) | (refine W_regP fun K hK => ?_; simp) | (refine W_regPD fun K hK => ?_; simp) | (with_reducible refine hK _ ?_; clear hK K) | (with_reducible refine callQ (csz) ?_; simp) | (with_reducible refine callQ (ct) ?_; simp) | (with_reducible refine callQ (cs) ?_; simp) | (with_reducible refine callQ (ci) ?_; simp) | (with_reducible refine callQ (cex) ?_; simp) | (with_reducible refine goL_split (fun h => ?_) (fun h => ?_) <;> first | (exfalso; simp at h; done) | (exfalso; simp at h; omega) | (exfalso; simp at h; contradiction) | ((try simp at h); simp)) | with_reducible refine And.intro ?_ ?_ | with_reducible exact okay_rfl rfl | with_reducible assumption | (refine W_cond rfl (fun h => ?_) (fun h => ?_) <;> first | (exfalso; simp at h; done) | (exfalso; simp at h; omega) | (exfalso; simp at h; contradiction) | (exfalso; simp_all; done) | (try simp at h)) | (refine W_ret ?_; simp [Fin]) | omega)
  · rw [leftR_no (by omega)] at csz
    repeat' (first | refine W_seq ?_ | refine W_skip ?_ | refine W_block ?_ | (refine W_exit ?_; first | refine pick_pos rfl ?_ | (refine pick_neg rfl ?_; first | refine pick_pos rfl ?_ | (refine pick_neg rfl ?_; refine pick_pos rfl ?_))) | (refine W_regP fun K hK => ?_; simp) | (refine W_regPD fun K hK => ?_; simp) | (with_reducible refine hK _ ?_; clear hK K) | (with_reducible refine callQ (csz) ?_; simp) | (with_reducible refine goL_split (fun h => ?_) (fun h => ?_) <;> first | (exfalso; simp at h; done) | (exfalso; simp at h; omega) | (exfalso; simp at h; contradiction) | ((try simp at h); simp)) | with_reducible refine And.intro ?_ ?_ | with_reducible exact okay_rfl rfl | with_reducible assumption | (refine W_cond rfl (fun h => ?_) (fun h => ?_) <;> first | (exfalso; simp at h; done) | (exfalso; simp at h; omega) | (exfalso; simp at h; contradiction) | (exfalso; simp_all; done) | (try simp at h)) | (refine W_ret ?_; simp [Fin]) | omega)
end Go.Proofs.YtbjmakmahooaiaaGreat.Ab
