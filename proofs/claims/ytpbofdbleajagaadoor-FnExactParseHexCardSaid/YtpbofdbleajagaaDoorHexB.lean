/-
  A part of a proof about the given program; what is proved is said where each theorem stands.
-/
import Derived.Test.YtpbofdbleajagaaDoorFrameA
import Derived.Test.YtpbofdbleajagaaDoorFrameB
import Derived.Test.YtpbofdbleajagaaDoorFrameC
import Derived.Test.YtpbofdbleajagaaDoorFrameD
import Derived.Test.YtpbofdbleajagaaDoorFrameE
import Derived.Test.YtpbofdbleajagaaDoorShelf
import Derived.Test.YtpbofdbleajagaaDoorCodesHex
import Derived.Test.YtpbofdbleajagaaDoorHexA
namespace Go.Proofs
end Go.Proofs
set_option linter.unusedSimpArgs false
set_option linter.unusedVariables false
set_option maxRecDepth 100000
set_option maxHeartbeats 2000000
namespace Go.Proofs.YtpbofdbleajagaaDoor.Ab
open Go.Proofs
variable {GG : GV}

theorem lower_ok (b : UInt8) : Valid PP GG F_internal_strconv_lower [.d (.int .u8 b.toNat)] (.d (.int .u8 (b ||| 32).toNat)) [none] := by
  refine v_internal_strconv_lower [.d (.int .u8 (b ||| 32).toNat)] rfl rfl ?_
  have h : IntKind.u8.wrap ((b.toBitVec ||| 32#8).toNat : Int) = ((b ||| 32).toNat : Int) := by
    have := (b ||| 32).toNat_lt
    have e : (b.toBitVec ||| 32#8).toNat = (b ||| 32).toNat := rfl
    rw [e, IntKind.wrap_u8]; omega
  simp at h
  refine W_seq (?_)
  apply W_regS
  · intro K hK
    simp
    repeat' (first | with_reducible exact hK | (with_reducible refine goL_split (fun _ => ?_) (fun _ => ?_) <;> simp) | with_reducible refine And.intro ?_ ?_ | with_reducible exact okay_rfl rfl | omega)
  refine W_seq (?_)
  apply W_regS
  · intro K hK
    simp [h]
    repeat' (first | with_reducible exact hK | (with_reducible refine goL_split (fun _ => ?_) (fun _ => ?_) <;> simp [h]) | with_reducible refine And.intro ?_ ?_ | with_reducible exact okay_rfl rfl | omega)
  refine W_ret ?_
  simp [Fin]
  all_goals omega

/-- The value of a digit that the library finds: none if it is no digit of base 36. -/
theorem digit_cases (b : UInt8) : (48 ≤ b.toNat ∧ b.toNat ≤ 57 ∧ hexU b = b.toNat - 48) ∨
    (¬ (48 ≤ b.toNat ∧ b.toNat ≤ 57) ∧ 97 ≤ (b ||| 32).toNat ∧ (b ||| 32).toNat ≤ 122 ∧ ((b ||| 32).toNat ≤ 102 ∧ hexU b = (b ||| 32).toNat - 87 ∨ 102 < (b ||| 32).toNat ∧ hexU b = -1)) ∨
    (¬ (48 ≤ b.toNat ∧ b.toNat ≤ 57) ∧ ¬ (97 ≤ (b ||| 32).toNat ∧ (b ||| 32).toNat ≤ 122) ∧ hexU b = -1) := by
  revert b; exact u8_all (by decide +kernel)

theorem iParseUint_ok (x y : UInt8) (v : Int) (e : D) (h1 : hexU x < 0 ∨ hexU y < 0 → v = 0 ∧ e = .ifc 121 .i64 2) (h2 : ¬ (hexU x < 0 ∨ hexU y < 0) → v = 16 * hexU x + hexU y ∧ e = .err true) :
    Valid PP GG F_internal_strconv_ParseUint [.d (.str [x, y]), .d (.int .i64 16), .d (.int .i64 8)] (.tup [.d (.int .u64 v), .d e]) [none, none, none] := by
  refine v_internal_strconv_ParseUint [.d (.int .u64 v), .d e] rfl rfl ?_
  refine W_seq (?_)
  apply W_regS
  · intro K hK
    simp
    repeat' (first | with_reducible exact hK | (with_reducible refine goL_split (fun _ => ?_) (fun _ => ?_) <;> simp) | with_reducible refine And.intro ?_ ?_ | with_reducible exact okay_rfl rfl | omega)
  refine W_seq (W_seq (?_))
  apply W_regS
  · intro K hK
    simp
    repeat' (first | with_reducible exact hK | (with_reducible refine goL_split (fun _ => ?_) (fun _ => ?_) <;> simp) | with_reducible refine And.intro ?_ ?_ | with_reducible exact okay_rfl rfl | omega)
  refine W_cond rfl (fun h => W_seq ?_) (fun h => W_skip ?_)
  · simp at h
  refine W_seq (?_)
  apply W_regS
  · intro K hK
    simp
    repeat' (first | with_reducible exact hK | (with_reducible refine goL_split (fun _ => ?_) (fun _ => ?_) <;> simp) | with_reducible refine And.intro ?_ ?_ | with_reducible exact okay_rfl rfl | omega)
  refine W_seq (?_)
  apply W_regS
  · intro K hK
    simp
    repeat' (first | with_reducible exact hK | (with_reducible refine goL_split (fun _ => ?_) (fun _ => ?_) <;> simp) | with_reducible refine And.intro ?_ ?_ | with_reducible exact okay_rfl rfl | omega)
  refine W_seq (?_)
  refine W_block (W_seq ?_)
  apply W_regS
  · intro K hK
    simp
    repeat' (first | with_reducible exact hK | (with_reducible refine goL_split (fun _ => ?_) (fun _ => ?_) <;> simp) | with_reducible refine And.intro ?_ ?_ | with_reducible exact okay_rfl rfl | omega)
  refine W_cond rfl (fun h => W_skip ?_) (fun h => ?_)
  rotate_left
  · simp at h
  refine W_seq (W_seq (?_))
  apply W_regS
  · intro K hK
    simp
    repeat' (first | with_reducible exact hK | (with_reducible refine goL_split (fun _ => ?_) (fun _ => ?_) <;> simp) | with_reducible refine And.intro ?_ ?_ | with_reducible exact okay_rfl rfl | omega)
  refine W_cond rfl (fun h => ?_) (fun h => W_seq ?_)
  · simp at h
  apply W_regS
  · intro K hK
    simp
    repeat' (first | with_reducible exact hK | (with_reducible refine goL_split (fun _ => ?_) (fun _ => ?_) <;> simp) | with_reducible refine And.intro ?_ ?_ | with_reducible exact okay_rfl rfl | omega)
  refine W_cond rfl (fun h => ?_) (fun h => W_skip ?_)
  · simp at h
  refine W_seq (?_)
  apply W_regS
  · intro K hK
    simp
    repeat' (first | with_reducible exact hK | (with_reducible refine goL_split (fun _ => ?_) (fun _ => ?_) <;> simp) | with_reducible refine And.intro ?_ ?_ | with_reducible exact okay_rfl rfl | omega)
  refine W_seq (W_seq (?_))
  apply W_regS
  · intro K hK
    simp
    repeat' (first | with_reducible exact hK | (with_reducible refine goL_split (fun _ => ?_) (fun _ => ?_) <;> simp) | with_reducible refine And.intro ?_ ?_ | with_reducible exact okay_rfl rfl | omega)
  refine W_block (W_seq ?_)
  apply W_regS
  · intro K hK
    simp
    repeat' (first | with_reducible exact hK | (with_reducible refine goL_split (fun _ => ?_) (fun _ => ?_) <;> simp) | with_reducible refine And.intro ?_ ?_ | with_reducible exact okay_rfl rfl | omega)
  refine W_cond rfl (fun h => ?_) (fun h => W_seq ?_)
  · simp at h
  apply W_regS
  · intro K hK
    simp
    repeat' (first | with_reducible exact hK | (with_reducible refine goL_split (fun _ => ?_) (fun _ => ?_) <;> simp) | with_reducible refine And.intro ?_ ?_ | with_reducible exact okay_rfl rfl | omega)
  refine W_cond rfl (fun h => ?_) (fun h => ?_)
  rotate_left
  · simp at h
  apply W_regS
  · intro K hK
    simp
    repeat' (first | with_reducible exact hK | (with_reducible refine goL_split (fun _ => ?_) (fun _ => ?_) <;> simp) | with_reducible refine And.intro ?_ ?_ | with_reducible exact okay_rfl rfl | omega)
  have w8 : IntKind.u64.wrap 8 = 8 := rfl
  have w256 : IntKind.u64.wrap 256 = 256 := rfl
  have w255 : IntKind.u64.wrap 255 = 255 := rfl
  refine W_seq (?_)
  apply W_regS
  · intro K hK
    simp [w8, w256, w255]
    repeat' (first | with_reducible exact hK | (with_reducible refine goL_split (fun _ => ?_) (fun _ => ?_) <;> simp [w8, w256, w255]) | with_reducible refine And.intro ?_ ?_ | with_reducible exact okay_rfl rfl | omega)
  refine W_seq (?_)
  apply W_regS
  · intro K hK
    simp
    repeat' (first | with_reducible exact hK | (with_reducible refine goL_split (fun _ => ?_) (fun _ => ?_) <;> simp) | with_reducible refine And.intro ?_ ?_ | with_reducible exact okay_rfl rfl | omega)
  refine W_seq (?_)
  apply W_regS
  · intro K hK
    simp
    repeat' (first | with_reducible exact hK | (with_reducible refine goL_split (fun _ => ?_) (fun _ => ?_) <;> simp) | with_reducible refine And.intro ?_ ?_ | with_reducible exact okay_rfl rfl | omega)
  refine W_seq (W_seq (?_))
  obtain ⟨B, hB⟩ : ∃ B, B = bytesD [x, y] := ⟨_, rfl⟩
  have hBl : B.length = 2 := by rw [hB]; rfl
  apply W_regS
  · intro K hK
    simp [← hB, hBl]
    repeat' (first | with_reducible exact hK | (with_reducible refine goL_split (fun _ => ?_) (fun _ => ?_) <;> simp [← hB, hBl]) | with_reducible refine And.intro ?_ ?_ | with_reducible exact okay_rfl rfl | omega)
  refine W_block (W_loop (fun n st => ∃ (i : Nat) (q : Int), n = 2 - i ∧ i ≤ 2 ∧ 0 ≤ q ∧ (i = 0 → q = 0) ∧ (i = 1 → 0 ≤ hexU x ∧ q = hexU x) ∧ (i = 2 → 0 ≤ hexU x ∧ 0 ≤ hexU y ∧ q = 16 * hexU x + hexU y) ∧
    st = ⟨[], [(1, .d (.int .i64 16)), (8, .d (.bool false)), (9, .d (.str [x, y])), (10, .d (.int .u64 1152921504606846976)), (11, .d (.int .u64 255)), (12, .d (.bool false)), (13, .d (.int .u64 q)), (99, .sl 0), (100, .d (.int .i64 2)), (101, .d (.int .i64 i))], [(0, .arr 0 0 1 B)], 1⟩) _ ⟨0, 0, rfl, by omega, by omega, fun _ => rfl, fun h => by omega, fun h => by omega, rfl⟩ ?_)
  rintro n st ⟨i, q, rfl, hi, hq0, hq1, hq2, hq3, rfl⟩
  have vx := hexU_lt x
  have vy := hexU_lt y
  refine W_seq (?_)
  apply W_regS
  · intro K hK
    simp
    repeat' (first | with_reducible exact hK | (with_reducible refine goL_split (fun _ => ?_) (fun _ => ?_) <;> simp) | with_reducible refine And.intro ?_ ?_ | with_reducible exact okay_rfl rfl | omega)
  refine W_seq (?_)
  refine W_cond rfl (fun h => W_skip ?_) (fun h => W_exit ?_)
  · simp at h
    have hi2 : i < 2 := by omega
    clear h
    obtain ⟨b, hb, hbx, hby⟩ : ∃ b : UInt8, B[i]? = some [.int .u8 b.toNat] ∧ (i = 0 → b = x) ∧ (i = 1 → b = y) := by
      rcases (show i = 0 ∨ i = 1 by omega) with rfl | rfl
      · exact ⟨x, by rw [hB]; rfl, fun _ => rfl, fun h => by omega⟩
      · exact ⟨y, by rw [hB]; rfl, fun h => by omega, fun _ => rfl⟩
    have hq16 : q < 16 := by
      rcases (show i = 0 ∨ i = 1 by omega) with rfl | rfl
      · have := hq1 rfl; omega
      · have := hq2 rfl; omega
    have hneg : hexU b < 0 → v = 0 ∧ e = .ifc 121 .i64 2 := fun hn => h1 (by
      rcases (show i = 0 ∨ i = 1 by omega) with rfl | rfl
      · rw [hbx rfl] at hn; exact .inl hn
      · rw [hby rfl] at hn; exact .inr hn)
    have clow := lower_ok (GG := GG) b
    refine W_seq (W_block (W_seq ?_))
    apply W_regS
    · intro K hK
      simp [hb, hBl]
      repeat' (first | with_reducible exact hK | (with_reducible refine goL_split (fun _ => ?_) (fun _ => ?_) <;> simp [hb, hBl]) | with_reducible refine And.intro ?_ ?_ | with_reducible exact okay_rfl rfl | omega)
    refine W_seq (?_)
    apply W_regS
    · intro K hK
      simp
      repeat' (first | with_reducible exact hK | (with_reducible refine goL_split (fun _ => ?_) (fun _ => ?_) <;> simp) | with_reducible refine And.intro ?_ ?_ | with_reducible exact okay_rfl rfl | omega)
    refine (W_cut [1, 8, 9, 10, 11, 12, 13, 16, 99, 100, 101] (fun st' => ∃ d : Nat, ((d < 16 ∧ hexU b = d) ∨ (16 ≤ d ∧ d < 256 ∧ hexU b < 0)) ∧
      st' = ⟨[], [(1, .d (.int .i64 16)), (8, .d (.bool false)), (9, .d (.str [x, y])), (10, .d (.int .u64 1152921504606846976)), (11, .d (.int .u64 255)), (12, .d (.bool false)), (13, .d (.int .u64 q)), (16, .d (.int .u8 d)), (99, .sl 0), (100, .d (.int .i64 2)), (101, .d (.int .i64 i))], [(0, .arr 0 0 1 B)], 1⟩) ?_ ?_)
    · refine W_block (W_seq ?_)
      refine W_regB 106 (false) (fun K hK => ?_) ?_
      · simp
        repeat' (first | exact hK _ _ (by clear hK; first | omega | (exact (decide_eq_true (by omega)).symm) | (exact (decide_eq_false (by omega)).symm) | (exact decide_eq_decide.2 (by omega)) | (simp [*]; done) | (simp [*]; omega) | (simp_all; done) | (simp_all; omega) | (rw [Bool.eq_iff_iff]; simp at *; omega)) | (with_reducible refine goL_split (fun _ => ?_) (fun _ => ?_) <;> simp) | with_reducible refine And.intro ?_ ?_ | with_reducible exact okay_rfl rfl | omega)
      refine W_cond rfl (fun h => ?_) (fun h => W_seq ?_)
      · cases h
      rcases digit_cases b with ⟨c1, c2, c3⟩ | ⟨c1, c2, c3, c4⟩ | ⟨c1, c2, c3⟩
      · refine W_regB 112 (true) (fun K hK => ?_) ?_
        · simp
          repeat' (first | exact hK _ _ (by clear hK; first | omega | (exact (decide_eq_true (by omega)).symm) | (exact (decide_eq_false (by omega)).symm) | (exact decide_eq_decide.2 (by omega)) | (simp [*]; done) | (simp [*]; omega) | (simp_all; done) | (simp_all; omega) | (rw [Bool.eq_iff_iff]; simp at *; omega)) | (with_reducible refine goL_split (fun _ => ?_) (fun _ => ?_) <;> simp) | with_reducible refine And.intro ?_ ?_ | with_reducible exact okay_rfl rfl | omega)
        refine W_cond rfl (fun h => ?_) (fun h => ?_)
        rotate_left
        · cases h
        have w : IntKind.u8.wrap ((b.toNat : Int) - 48) = ((b.toNat - 48 : Nat) : Int) := by rw [IntKind.wrap_u8]; omega
        apply W_regS
        · intro K hK
          simp [w]
          repeat' (first | with_reducible exact hK | (with_reducible refine goL_split (fun _ => ?_) (fun _ => ?_) <;> simp [w]) | with_reducible refine And.intro ?_ ?_ | with_reducible exact okay_rfl rfl | omega)
        exact ⟨b.toNat - 48, .inl ⟨by omega, by omega⟩, by simp [gc, closeN, liveA, gcV, gcO, renA, renO, namesAs, namesA, namesO, posn]⟩
      · refine W_regB 112 (false) (fun K hK => ?_) ?_
        · simp
          repeat' (first | exact hK _ _ (by clear hK; first | omega | (exact (decide_eq_true (by omega)).symm) | (exact (decide_eq_false (by omega)).symm) | (exact decide_eq_decide.2 (by omega)) | (simp [*]; done) | (simp [*]; omega) | (simp_all; done) | (simp_all; omega) | (rw [Bool.eq_iff_iff]; simp at *; omega)) | (with_reducible refine goL_split (fun _ => ?_) (fun _ => ?_) <;> simp) | with_reducible refine And.intro ?_ ?_ | with_reducible exact okay_rfl rfl | omega)
        refine W_cond rfl (fun h => ?_) (fun h => W_seq ?_)
        · cases h
        generalize (b ||| 32).toNat = L at clow c2 c3 c4
        refine W_regB 121 (true) (fun K hK => ?_) ?_
        · simp
          repeat' (first | exact hK _ _ (by clear hK; first | omega | (exact (decide_eq_true (by omega)).symm) | (exact (decide_eq_false (by omega)).symm) | (exact decide_eq_decide.2 (by omega)) | (simp [*]; done) | (simp [*]; omega) | (simp_all; done) | (simp_all; omega) | (rw [Bool.eq_iff_iff]; simp at *; omega)) | (with_reducible refine callQ (clow) ?_; simp) | (with_reducible refine goL_split (fun _ => ?_) (fun _ => ?_) <;> simp) | with_reducible refine And.intro ?_ ?_ | with_reducible exact okay_rfl rfl | omega)
        refine W_cond rfl (fun h => ?_) (fun h => ?_)
        rotate_left
        · cases h
        have w : IntKind.u8.wrap ((L : Int) - 97) = (L : Int) - 97 := by rw [IntKind.wrap_u8]; omega
        have w2 : IntKind.u8.wrap ((L : Int) - 97 + 10) = ((L - 87 : Nat) : Int) := by rw [IntKind.wrap_u8]; omega
        apply W_regS
        · intro K hK
          simp [w, w2]
          repeat' (first | with_reducible exact hK | (with_reducible refine callQ (clow) ?_; simp [w, w2]) | (with_reducible refine goL_split (fun _ => ?_) (fun _ => ?_) <;> simp [w, w2]) | with_reducible refine And.intro ?_ ?_ | with_reducible exact okay_rfl rfl | omega)
        exact ⟨L - 87, by omega, by simp [gc, closeN, liveA, gcV, gcO, renA, renO, namesAs, namesA, namesO, posn]⟩
      · refine W_regB 112 (false) (fun K hK => ?_) ?_
        · simp
          repeat' (first | exact hK _ _ (by clear hK; first | omega | (exact (decide_eq_true (by omega)).symm) | (exact (decide_eq_false (by omega)).symm) | (exact decide_eq_decide.2 (by omega)) | (simp [*]; done) | (simp [*]; omega) | (simp_all; done) | (simp_all; omega) | (rw [Bool.eq_iff_iff]; simp at *; omega)) | (with_reducible refine goL_split (fun _ => ?_) (fun _ => ?_) <;> simp) | with_reducible refine And.intro ?_ ?_ | with_reducible exact okay_rfl rfl | omega)
        refine W_cond rfl (fun h => ?_) (fun h => W_seq ?_)
        · cases h
        generalize (b ||| 32).toNat = L at clow c2
        refine W_regB 121 (false) (fun K hK => ?_) ?_
        · simp
          repeat' (first | exact hK _ _ (by clear hK; first | omega | (exact (decide_eq_true (by omega)).symm) | (exact (decide_eq_false (by omega)).symm) | (exact decide_eq_decide.2 (by omega)) | (simp [*]; done) | (simp [*]; omega) | (simp_all; done) | (simp_all; omega) | (rw [Bool.eq_iff_iff]; simp at *; omega)) | (with_reducible refine callQ (clow) ?_; simp) | (with_reducible refine goL_split (fun _ => ?_) (fun _ => ?_) <;> simp) | with_reducible refine And.intro ?_ ?_ | with_reducible exact okay_rfl rfl | omega)
        refine W_cond rfl (fun h => ?_) (fun h => W_seq ?_)
        · cases h
        apply W_regS
        · intro K hK
          simp
          repeat' (first | with_reducible exact hK | (with_reducible refine goL_split (fun _ => ?_) (fun _ => ?_) <;> simp) | with_reducible refine And.intro ?_ ?_ | with_reducible exact okay_rfl rfl | omega)
        obtain ⟨rfl, rfl⟩ := hneg (by omega)
        refine W_ret ?_
        simp [Fin]
        all_goals omega
    · rintro st' ⟨d, hd, rfl⟩
      have w16 : IntKind.u8.wrap 16 = 16 := rfl
      have w16' : IntKind.u64.wrap 16 = 16 := rfl
      refine W_seq (W_seq (?_))
      refine W_regB 137 (decide (16 ≤ d)) (fun K hK => ?_) ?_
      · simp [w16]
        repeat' (first | exact hK _ _ (by clear hK; first | omega | (exact (decide_eq_true (by omega)).symm) | (exact (decide_eq_false (by omega)).symm) | (exact decide_eq_decide.2 (by omega)) | (simp [*]; done) | (simp [*]; omega) | (simp_all; done) | (simp_all; omega) | (rw [Bool.eq_iff_iff]; simp at *; omega)) | (with_reducible refine goL_split (fun _ => ?_) (fun _ => ?_) <;> simp [w16]) | with_reducible refine And.intro ?_ ?_ | with_reducible exact okay_rfl rfl | omega)
      refine W_cond rfl (fun h => W_seq ?_) (fun h => W_skip ?_)
      · rw [h]
        simp at h
        apply W_regS
        · intro K hK
          simp
          repeat' (first | with_reducible exact hK | (with_reducible refine goL_split (fun _ => ?_) (fun _ => ?_) <;> simp) | with_reducible refine And.intro ?_ ?_ | with_reducible exact okay_rfl rfl | omega)
        obtain ⟨rfl, rfl⟩ := hneg (by omega)
        refine W_ret ?_
        simp [Fin]
        all_goals omega
      rw [h]
      simp at h
      have hdb : d < 16 ∧ hexU b = d := by omega
      refine W_seq (W_seq (?_))
      refine W_regB 141 (false) (fun K hK => ?_) ?_
      · simp
        repeat' (first | exact hK _ _ (by clear hK; first | omega | (exact (decide_eq_true (by omega)).symm) | (exact (decide_eq_false (by omega)).symm) | (exact decide_eq_decide.2 (by omega)) | (simp [*]; done) | (simp [*]; omega) | (simp_all; done) | (simp_all; omega) | (rw [Bool.eq_iff_iff]; simp at *; omega)) | (with_reducible refine goL_split (fun _ => ?_) (fun _ => ?_) <;> simp) | with_reducible refine And.intro ?_ ?_ | with_reducible exact okay_rfl rfl | omega)
      refine W_cond rfl (fun h => ?_) (fun h => W_skip ?_)
      · cases h
      have w1 : IntKind.u64.wrap (q * 16) = q * 16 := by rw [IntKind.wrap_u64]; omega
      have w2 : IntKind.u64.wrap (d : Int) = d := by rw [IntKind.wrap_u64]; omega
      have w3 : IntKind.u64.wrap (q * 16 + d) = q * 16 + d := by rw [IntKind.wrap_u64]; omega
      refine W_seq (?_)
      apply W_regS
      · intro K hK
        simp [w16', w1]
        repeat' (first | with_reducible exact hK | (with_reducible refine goL_split (fun _ => ?_) (fun _ => ?_) <;> simp [w16', w1]) | with_reducible refine And.intro ?_ ?_ | with_reducible exact okay_rfl rfl | omega)
      refine W_seq (?_)
      apply W_regS
      · intro K hK
        simp [w2, w3]
        repeat' (first | with_reducible exact hK | (with_reducible refine goL_split (fun _ => ?_) (fun _ => ?_) <;> simp [w2, w3]) | with_reducible refine And.intro ?_ ?_ | with_reducible exact okay_rfl rfl | omega)
      refine W_seq (W_seq (?_))
      refine W_regB 159 (false) (fun K hK => ?_) ?_
      · simp
        repeat' (first | exact hK _ _ (by clear hK; first | omega | (exact (decide_eq_true (by omega)).symm) | (exact (decide_eq_false (by omega)).symm) | (exact decide_eq_decide.2 (by omega)) | (simp [*]; done) | (simp [*]; omega) | (simp_all; done) | (simp_all; omega) | (rw [Bool.eq_iff_iff]; simp at *; omega)) | (with_reducible refine goL_split (fun _ => ?_) (fun _ => ?_) <;> simp) | with_reducible refine And.intro ?_ ?_ | with_reducible exact okay_rfl rfl | omega)
      refine W_cond rfl (fun h => ?_) (fun h => W_skip ?_)
      · cases h
      apply W_regS
      · intro K hK
        simp
        repeat' (first | with_reducible exact hK | (with_reducible refine goL_split (fun _ => ?_) (fun _ => ?_) <;> simp) | with_reducible refine And.intro ?_ ?_ | with_reducible exact okay_rfl rfl | omega)
      apply W_regS
      · intro K hK
        simp
        repeat' (first | with_reducible exact hK | (with_reducible refine goL_split (fun _ => ?_) (fun _ => ?_) <;> simp) | with_reducible refine And.intro ?_ ?_ | with_reducible exact okay_rfl rfl | omega)
      refine ⟨2 - (i + 1), by omega, i + 1, q * 16 + d, rfl, by omega, by omega, fun h => by omega, fun h => ?_, fun h => ?_, ?_⟩
      · have e0 : i = 0 := by omega
        have := hq1 e0
        have := hbx e0
        subst this
        omega
      · have e1 : i = 1 := by omega
        have := hq2 e1
        have := hby e1
        subst this
        omega
      · simp [gc, closeN, liveA, gcV, gcO, renA, renO, namesAs, namesA, namesO, posn]
        rw [wrap_id (by omega) (by omega)]
  · simp at h
    have e2 : i = 2 := by omega
    have hq := hq3 e2
    obtain ⟨rfl, rfl⟩ := h2 (by omega)
    rw [if_pos rfl]
    refine W_seq (W_seq (?_))
    refine W_regB 169 (false) (fun K hK => ?_) ?_
    · simp
      repeat' (first | exact hK _ _ (by clear hK; first | omega | (exact (decide_eq_true (by omega)).symm) | (exact (decide_eq_false (by omega)).symm) | (exact decide_eq_decide.2 (by omega)) | (simp [*]; done) | (simp [*]; omega) | (simp_all; done) | (simp_all; omega) | (rw [Bool.eq_iff_iff]; simp at *; omega)) | (with_reducible refine goL_split (fun _ => ?_) (fun _ => ?_) <;> simp) | with_reducible refine And.intro ?_ ?_ | with_reducible exact okay_rfl rfl | omega)
    refine W_cond rfl (fun h => ?_) (fun h => W_skip ?_)
    · cases h
    refine W_seq (?_)
    apply W_regS
    · intro K hK
      simp
      repeat' (first | with_reducible exact hK | (with_reducible refine goL_split (fun _ => ?_) (fun _ => ?_) <;> simp) | with_reducible refine And.intro ?_ ?_ | with_reducible exact okay_rfl rfl | omega)
    rw [← hq.2.2]
    refine W_ret ?_
    simp [Fin]
    all_goals omega

end Go.Proofs.YtpbofdbleajagaaDoor.Ab


namespace Go.Proofs
end Go.Proofs
set_option linter.unusedSimpArgs false
set_option linter.unusedVariables false
set_option maxRecDepth 100000
set_option maxHeartbeats 2000000
namespace Go.Proofs.YtpbofdbleajagaaDoor.Ab
open Go.Proofs
variable {GG : GV}

theorem toError_ok [ESyn GG] (f s : List UInt8) (b n : Int) (hs : s.length ≤ 281474976710656) : Valid PP GG 86 [.d (.str f), .d (.str s), .d (.int .i64 b), .d (.int .i64 n), .d (.ifc 121 .i64 2)] (.d (.err false)) [none, none, none, none, none] := by
  refine lib_new [.str f, .str s, .int .i64 b, .int .i64 n, .ifc 121 .i64 2] ⟨Tryd.f86, Tryd.func86, by kernel_rfl, by kernel_rfl⟩ fun w Fz args hG hFz hl hA => ?_
  have e : args = #[.string ⟨f.toArray⟩, .string ⟨s.toArray⟩, .int .i64 b, .int .i64 n, .iface 121 (.int .i64 2)] := by
    refine args_eq (l := [.string ⟨f.toArray⟩, .string ⟨s.toArray⟩, .int .i64 b, .int .i64 n, .iface 121 (.int .i64 2)]) hl fun i v hv => ?_
    match i, hv with
    | 0, hv => cases hv; exact shr_str (hA 0 _ rfl)
    | 1, hv => cases hv; exact shr_str (hA 1 _ rfl)
    | 2, hv => cases hv; exact shr_int (hA 2 _ rfl)
    | 3, hv => cases hv; exact shr_int (hA 3 _ rfl)
    | 4, hv => cases hv; exact shr_ifc (hA 4 _ rfl)
  subst e
  obtain ⟨ob, h1, h2⟩ := hG 0 _ ESyn.h
  cases ob with
  | cells cs t fr =>
    obtain ⟨ev, h3, h4⟩ := h2
    refine (Go.Proofs.YtpbofdbleajagaaDoor.Tryd.strconv_toError_syntax ⟨f.toArray⟩ ⟨s.toArray⟩ b n ev w hs (by unfold World.cell?; simp [h1, h3]) h4).mono ?_
    rintro e w' ⟨N, rfl, hN, hc, hb⟩
    exact ⟨_, Fz, fun _ _ => False, rfl, ⟨hb.os, hb.output⟩, hb.size, fun b h => hb.block b h, fun _ _ h => h, fun b o h => ⟨.inl h, Nat.lt_of_lt_of_le (hFz b o h) hb.size⟩, .d _ _ _ (.iface _ _) fun _ _ h => h, fun _ _ h => h.elim⟩
  | _ => exact h2.elim

theorem ParseUint_ok [ESyn GG] (x y : UInt8) (v : Int) (e : D) (h1 : hexU x < 0 ∨ hexU y < 0 → v = 0 ∧ e = .err false) (h2 : ¬ (hexU x < 0 ∨ hexU y < 0) → v = 16 * hexU x + hexU y ∧ e = .err true) :
    Valid PP GG F_strconv_ParseUint [.d (.str [x, y]), .d (.int .i64 16), .d (.int .i64 8)] (.tup [.d (.int .u64 v), .d e]) [none, none, none] := by
  refine v_strconv_ParseUint [.d (.int .u64 v), .d e] rfl rfl ?_
  refine W_seq (?_)
  apply W_regS
  · intro K hK
    simp
    repeat' (first | with_reducible exact hK | (with_reducible refine goL_split (fun _ => ?_) (fun _ => ?_) <;> simp) | with_reducible refine And.intro ?_ ?_ | with_reducible exact okay_rfl rfl | omega)
  by_cases hb : hexU x < 0 ∨ hexU y < 0
  · obtain ⟨rfl, rfl⟩ := h1 hb
    have ci := iParseUint_ok (GG := GG) x y 0 (.ifc 121 .i64 2) (fun _ => ⟨rfl, rfl⟩) (fun h => absurd hb h)
    refine W_seq (?_)
    apply W_regS
    · intro K hK
      simp
      repeat' (first | with_reducible exact hK | (with_reducible refine callQ (ci) ?_; simp) | (with_reducible refine goL_split (fun _ => ?_) (fun _ => ?_) <;> simp) | with_reducible refine And.intro ?_ ?_ | with_reducible exact okay_rfl rfl | omega)
    refine W_seq (W_seq (?_))
    apply W_regS
    · intro K hK
      simp
      repeat' (first | with_reducible exact hK | (with_reducible refine goL_split (fun _ => ?_) (fun _ => ?_) <;> simp) | with_reducible refine And.intro ?_ ?_ | with_reducible exact okay_rfl rfl | omega)
    refine W_cond rfl (fun h => W_seq ?_) (fun h => W_skip ?_)
    · apply W_regS
      · intro K hK
        simp
        repeat' (first | with_reducible exact hK | (with_reducible refine callQ (toError_ok _ [x, y] 16 8 (by simp)) ?_; simp) | (with_reducible refine goL_split (fun _ => ?_) (fun _ => ?_) <;> simp) | with_reducible refine And.intro ?_ ?_ | with_reducible exact okay_rfl rfl | omega)
      refine W_ret ?_
      simp [Fin]
      all_goals omega
    · cases h
  · obtain ⟨rfl, rfl⟩ := h2 hb
    have ci := iParseUint_ok (GG := GG) x y _ (.err true) (fun h => absurd h hb) (fun _ => ⟨rfl, rfl⟩)
    refine W_seq (?_)
    apply W_regS
    · intro K hK
      simp
      repeat' (first | with_reducible exact hK | (with_reducible refine callQ (ci) ?_; simp) | (with_reducible refine goL_split (fun _ => ?_) (fun _ => ?_) <;> simp) | with_reducible refine And.intro ?_ ?_ | with_reducible exact okay_rfl rfl | omega)
    refine W_seq (W_seq (?_))
    apply W_regS
    · intro K hK
      simp
      repeat' (first | with_reducible exact hK | (with_reducible refine goL_split (fun _ => ?_) (fun _ => ?_) <;> simp) | with_reducible refine And.intro ?_ ?_ | with_reducible exact okay_rfl rfl | omega)
    refine W_cond rfl (fun h => W_seq ?_) (fun h => W_skip ?_)
    · simp at h
    refine W_seq (?_)
    apply W_regS
    · intro K hK
      simp
      repeat' (first | with_reducible exact hK | (with_reducible refine goL_split (fun _ => ?_) (fun _ => ?_) <;> simp) | with_reducible refine And.intro ?_ ?_ | with_reducible exact okay_rfl rfl | omega)
    refine W_ret ?_
    simp [Fin]
    all_goals omega

end Go.Proofs.YtpbofdbleajagaaDoor.Ab

