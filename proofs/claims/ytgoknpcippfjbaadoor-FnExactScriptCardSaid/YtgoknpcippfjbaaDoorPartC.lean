/-
  A part of a proof about the given program; what is proved is said where each theorem stands.
-/
import Derived.Test.YtgoknpcippfjbaaDoorFrameA
import Derived.Test.YtgoknpcippfjbaaDoorFrameB
import Derived.Test.YtgoknpcippfjbaaDoorFrameC
import Derived.Test.YtgoknpcippfjbaaDoorFrameD
import Derived.Test.YtgoknpcippfjbaaDoorFrameE
import Derived.Test.YtgoknpcippfjbaaDoorShelf
import Derived.Test.YtgoknpcippfjbaaDoorCodesA
import Derived.Test.YtgoknpcippfjbaaDoorCodesB
import Derived.Test.YtgoknpcippfjbaaDoorPartA
import Derived.Test.YtgoknpcippfjbaaDoorPartB
namespace Go.Proofs
end Go.Proofs
set_option linter.unusedSimpArgs false
set_option linter.unusedVariables false
set_option maxRecDepth 100000
set_option maxHeartbeats 2000000
namespace Go.Proofs.YtgoknpcippfjbaaDoor.Ab
open Go.Proofs
variable {GG : GV}
theorem i_reqLine_ok [P10 GG] [MaxL GG] (r : GReq) (hr : reqM r) : Valid PP GG F_I_reqLine [.agg r.c] (.d (.str (lineI r))) [none] := by
  refine v_I_reqLine [.d (.str (lineI r))] rfl rfl ?_
  unfold lineI
  have ci := within_ok (GG := GG) r.fKind 0 15
  by_cases hk : (decide (0 ≤ r.fKind) && decide (r.fKind ≤ 15)) = true
  rotate_left
  · have hk : (decide (0 ≤ r.fKind) && decide (r.fKind ≤ 15)) = false := by simpa using hk
    rw [hk] at ci ⊢
    repeat' (first | refine W_seq ?_ | refine W_skip ?_ | refine W_block ?_ | refine W_exit ?_ | refine pick_pos rfl ?_ | refine pick_neg rfl ?_ | ((first | refine W_regP fun K hK => ?_ | refine W_regPD fun K hK => ?_ | refine W_ret ?_ | with_reducible refine callQ (ci) ?_); simp [Fin]) | (with_reducible refine hK _ ?_; clear hK K) | (with_reducible refine goL_split (fun h => ?_) (fun h => ?_) <;> first | (exfalso; simp at h; first | done | omega | contradiction) | ((try simp at h); simp)) | with_reducible refine And.intro ?_ ?_ | with_reducible exact okay_rfl rfl | with_reducible assumption | (refine W_cond rfl (fun h => ?_) (fun h => ?_) <;> first | (exfalso; simp at h; first | done | omega | contradiction) | (exfalso; simp_all; done) | (try simp at h)) | omega)
  rw [hk] at ci ⊢
  simp only [Bool.and_eq_true, decide_eq_true_eq] at hk
  have hrr := hr
  obtain ⟨kd, tk, nm, pa, da, nu⟩ := r
  obtain ⟨hr1, hr2, hr3, hr4, hr5⟩ := hrr
  dsimp only at *
  obtain ⟨k, rfl⟩ : ∃ k : Nat, kd = k := ⟨kd.toNat, by omega⟩
  have cf := deskForms_ok (GG := GG)
  have hfl := forms_small.1
  have hfr := forms_small2
  have cto := Itoa_ok (GG := GG) tk hr1
  have cnu := Itoa_ok (GG := GG) nu hr2
  have cop := optional_ok (GG := GG) pa
  have cod := optional_ok (GG := GG) da
  have ctr := TrimSuffix_ok (GG := GG) da [10] (by omega)
  have htl := trimSuffix_len da [10]
  have cr1 := ReplaceAll_ok (GG := GG) (Lib.trimSuffix da [10]) 10 59 (by decide) (by omega)
  have cr2 := ReplaceAll_ok (GG := GG) (swp 10 59 (Lib.trimSuffix da [10])) 32 61 (by decide) (by rw [swp_len]; omega)
  generalize formsL = L at *
  have ha := List.getElem?_eq_getElem (show k < L.length by omega)
  generalize L[k] = f at ha
  have hfm := hfr f (List.mem_of_getElem? ha)
  have hdr := lineF_len (f := f) hr hfm.2
  have hsu := fun i c => @lineF_succ f ⟨k, tk, nm, pa, da, nu⟩ i c
  have hwl := fun c => wordI_len hr f.kind c
  have e0 : lineF f ⟨k, tk, nm, pa, da, nu⟩ 0 = headF f ⟨k, tk, nm, pa, da, nu⟩ := by simp [lineF]
  have eh : headF f ⟨k, tk, nm, pa, da, nu⟩ = if f.tok = true then Lib.itoa tk ++ [32] ++ f.word else f.word := rfl
  have hlt := headF_len hr hfm.2
  rw [eh] at hlt
  simp only [Int.toNat_natCast, ha]
  obtain ⟨fw, fk, ft, fr⟩ := f
  dsimp only at *
  generalize lineF ⟨fw, fk, ft, fr⟩ ⟨k, tk, nm, pa, da, nu⟩ = G at *
  rw [eh] at e0
  clear eh hfr
  refine W_seq (?_)
  apply W_regS
  · intro K hK
    simp
    repeat' (first | with_reducible exact hK | (with_reducible refine goL_split (fun _ => ?_) (fun _ => ?_) <;> simp) | with_reducible refine And.intro ?_ ?_ | with_reducible exact okay_rfl rfl | with_reducible assumption | omega)
  refine W_cut [1] (fun st => st = ⟨[], [(1, .ptr 0 0)], [(0, .box [.d (.int .i64 k), .d (.int .i64 tk), .d (.str nm), .d (.str pa), .d (.str da), .d (.int .i64 nu)])], 1⟩) ?_ ?_
  · repeat' (first | refine W_seq ?_ | refine W_skip ?_ | refine W_block ?_ | refine W_exit ?_ | refine pick_pos rfl ?_ | refine pick_neg rfl ?_ | ((first | refine W_regP fun K hK => ?_ | refine W_regPD fun K hK => ?_ | refine W_ret ?_ | with_reducible refine callQ (ci) ?_); simp [Fin]) | (with_reducible refine hK _ ?_; clear hK K) | (with_reducible refine goL_split (fun h => ?_) (fun h => ?_) <;> first | (exfalso; simp at h; first | done | omega | contradiction) | ((try simp at h); simp)) | with_reducible refine And.intro ?_ ?_ | with_reducible exact okay_rfl rfl | with_reducible assumption | (refine W_cond rfl (fun h => ?_) (fun h => ?_) <;> first | (exfalso; simp at h; first | done | omega | contradiction) | (exfalso; simp_all; done) | (try simp at h)) | omega)
    simp [gc, closeN, liveA, gcV, gcO, renA, renAs, renO, namesAs, namesA, namesO, posn]
  rintro st rfl
  refine W_seq (?_)
  apply W_regD
  · intro K hK
    simp [ha, hfl]
    repeat' (first | with_reducible exact hK | (with_reducible refine callQ (cf) ?_; simp [ha, hfl]) | (with_reducible refine goL_split (fun _ => ?_) (fun _ => ?_) <;> simp [ha, hfl]) | with_reducible refine And.intro ?_ ?_ | with_reducible exact okay_rfl rfl | with_reducible assumption | omega)
  refine W_seq (?_)
  apply W_regS
  · intro K hK
    simp
    repeat' (first | with_reducible exact hK | (with_reducible refine goL_split (fun _ => ?_) (fun _ => ?_) <;> simp) | with_reducible refine And.intro ?_ ?_ | with_reducible exact okay_rfl rfl | with_reducible assumption | omega)
  refine W_cut [1, 3, 4] (fun st => st = ⟨[], [(1, .ptr 0 0), (3, .ptr 1 0), (4, .d (.str (G 0)))], [(0, .box [.d (.int .i64 k), .d (.int .i64 tk), .d (.str nm), .d (.str pa), .d (.str da), .d (.int .i64 nu)]), (1, .box [.d (.str fw), .d (.int .i64 fk), .d (.bool ft), .d (.str fr)])], 2⟩) ?_ ?_
  · cases ft
    · repeat' (first | refine W_seq ?_ | refine W_skip ?_ | refine W_block ?_ | refine W_exit ?_ | refine pick_pos rfl ?_ | refine pick_neg rfl ?_ | ((first | refine W_regP fun K hK => ?_ | refine W_regPD fun K hK => ?_ | refine W_ret ?_); simp [Fin]) | (with_reducible refine hK _ ?_; clear hK K) | (with_reducible refine goL_split (fun h => ?_) (fun h => ?_) <;> first | (exfalso; simp at h; first | done | omega | contradiction) | ((try simp at h); simp)) | with_reducible refine And.intro ?_ ?_ | with_reducible exact okay_rfl rfl | with_reducible assumption | (refine W_cond rfl (fun h => ?_) (fun h => ?_) <;> first | (exfalso; simp at h; first | done | omega | contradiction) | (exfalso; simp_all; done) | (try simp at h)) | omega)
      simp [gc, closeN, liveA, gcV, gcO, renA, renAs, renO, namesAs, namesA, namesO, posn, e0]
    · simp at hlt
      repeat' (first | refine W_seq ?_ | refine W_skip ?_ | refine W_block ?_ | refine W_exit ?_ | refine pick_pos rfl ?_ | refine pick_neg rfl ?_ | ((first | refine W_regP fun K hK => ?_ | refine W_regPD fun K hK => ?_ | refine W_ret ?_ | with_reducible refine callQ (cto) ?_); simp [Fin, maxStr]) | (with_reducible refine hK _ ?_; clear hK K) | (with_reducible refine goL_split (fun h => ?_) (fun h => ?_) <;> first | (exfalso; simp at h; first | done | omega | contradiction) | ((try simp at h); simp [maxStr])) | with_reducible refine And.intro ?_ ?_ | with_reducible exact okay_rfl rfl | with_reducible assumption | (refine W_cond rfl (fun h => ?_) (fun h => ?_) <;> first | (exfalso; simp at h; first | done | omega | contradiction) | (exfalso; simp_all; done) | (try simp at h)) | omega)
      simp [gc, closeN, liveA, gcV, gcO, renA, renAs, renO, namesAs, namesA, namesO, posn, e0]
  rintro st rfl
  have hfl3 := hfm.1
  refine W_cut [4] (fun st => st = ⟨[], [(4, .d (.str (G fr.length)))], [], 0⟩) ?_ ?_
  · repeat' (first | refine W_seq ?_ | refine W_skip ?_ | refine W_block ?_ | refine W_exit ?_ | refine pick_pos rfl ?_ | refine pick_neg rfl ?_ | ((first | refine W_regP fun K hK => ?_ | refine W_regPD fun K hK => ?_ | refine W_ret ?_); simp [Fin]) | (with_reducible refine hK _ ?_; clear hK K) | (with_reducible refine goL_split (fun h => ?_) (fun h => ?_) <;> first | (exfalso; simp at h; first | done | omega | contradiction) | ((try simp at h); simp)) | with_reducible refine And.intro ?_ ?_ | with_reducible exact okay_rfl rfl | with_reducible assumption | (refine W_cond rfl (fun h => ?_) (fun h => ?_) <;> first | (exfalso; simp at h; first | done | omega | contradiction) | (exfalso; simp_all; done) | (try simp at h)) | omega)
    refine W_loop (fun n st => ∃ (i : Nat), n = fr.length - i ∧ i ≤ fr.length ∧ st = ⟨[], [(1, .ptr 0 0), (3, .ptr 1 0), (4, .d (.str (G i))), (28, .d (.int .i64 fr.length)), (29, .d (.int .i64 i))], [(0, .box [.d (.int .i64 k), .d (.int .i64 tk), .d (.str nm), .d (.str pa), .d (.str da), .d (.int .i64 nu)]), (1, .box [.d (.str fw), .d (.int .i64 fk), .d (.bool ft), .d (.str fr)])], 2⟩) _ ⟨0, rfl, by omega, rfl⟩ ?_
    rintro n st ⟨i, rfl, hi, rfl⟩
    by_cases hlt2 : i < fr.length
    · have hc := List.getElem?_eq_getElem hlt2
      generalize fr[i] = c at hc
      have hs := hsu i c hc
      have hw := hwl c
      have hdi := hdr i
      have hdi2 : (G i).length ≤ 4000000 := by omega
      have fin : ∀ w : List UInt8, wordI fk c ⟨k, tk, nm, pa, da, nu⟩ = w → G (i + 1) = G i ++ 32 :: w := fun w h => by rw [hs, h]
      unfold wordI at fin hw
      dsimp only at fin hw
      by_cases h1 : c = 110
      · subst h1
        have fin := fin _ rfl
        simp only [if_true] at fin hw
        repeat' (first | refine W_seq ?_ | refine W_skip ?_ | refine W_block ?_ | refine W_exit ?_ | refine pick_pos rfl ?_ | refine pick_neg rfl ?_ | ((first | refine W_regP fun K hK => ?_ | refine W_regPD fun K hK => ?_ | refine W_ret ?_ | with_reducible refine callQ (cnu) ?_); simp [Fin, hc, maxStr]) | (with_reducible refine hK _ ?_; clear hK K) | (with_reducible refine goL_split (fun h => ?_) (fun h => ?_) <;> first | (exfalso; simp at h; first | done | omega | contradiction) | ((try simp at h); simp [hc, maxStr])) | with_reducible refine And.intro ?_ ?_ | with_reducible exact okay_rfl rfl | with_reducible assumption | (refine W_cond rfl (fun h => ?_) (fun h => ?_) <;> first | (exfalso; simp at h; first | done | omega | contradiction) | (exfalso; simp_all; done) | (try simp at h)) | omega)
        refine ⟨fr.length - (i + 1), by omega, i + 1, rfl, hlt2, ?_⟩
        simp [gc, closeN, liveA, gcV, gcO, renA, renAs, renO, namesAs, namesA, namesO, posn, fin]
        exact wrap_id (by omega) (by omega)
      have n1 : ¬ c.toNat = 110 := u8_ne h1
      rw [if_neg h1] at fin hw
      by_cases h2 : c = 112
      · subst h2
        have fin := fin _ rfl
        simp only [if_true] at fin hw
        repeat' (first | refine W_seq ?_ | refine W_skip ?_ | refine W_block ?_ | refine W_exit ?_ | refine pick_pos rfl ?_ | refine pick_neg rfl ?_ | ((first | refine W_regP fun K hK => ?_ | refine W_regPD fun K hK => ?_ | refine W_ret ?_); simp [Fin, hc, maxStr]) | (with_reducible refine hK _ ?_; clear hK K) | (with_reducible refine goL_split (fun h => ?_) (fun h => ?_) <;> first | (exfalso; simp at h; first | done | omega | contradiction) | ((try simp at h); simp [hc, maxStr])) | with_reducible refine And.intro ?_ ?_ | with_reducible exact okay_rfl rfl | with_reducible assumption | (refine W_cond rfl (fun h => ?_) (fun h => ?_) <;> first | (exfalso; simp at h; first | done | omega | contradiction) | (exfalso; simp_all; done) | (try simp at h)) | omega)
        refine ⟨fr.length - (i + 1), by omega, i + 1, rfl, hlt2, ?_⟩
        simp [gc, closeN, liveA, gcV, gcO, renA, renAs, renO, namesAs, namesA, namesO, posn, fin]
        exact wrap_id (by omega) (by omega)
      have n2 : ¬ c.toNat = 112 := u8_ne h2
      rw [if_neg h2] at fin hw
      by_cases h3 : c = 109
      · subst h3
        have fin := fin _ rfl
        simp only [if_true] at fin hw
        repeat' (first | refine W_seq ?_ | refine W_skip ?_ | refine W_block ?_ | refine W_exit ?_ | refine pick_pos rfl ?_ | refine pick_neg rfl ?_ | ((first | refine W_regP fun K hK => ?_ | refine W_regPD fun K hK => ?_ | refine W_ret ?_); simp [Fin, hc, maxStr]) | (with_reducible refine hK _ ?_; clear hK K) | (with_reducible refine goL_split (fun h => ?_) (fun h => ?_) <;> first | (exfalso; simp at h; first | done | omega | contradiction) | ((try simp at h); simp [hc, maxStr])) | with_reducible refine And.intro ?_ ?_ | with_reducible exact okay_rfl rfl | with_reducible assumption | (refine W_cond rfl (fun h => ?_) (fun h => ?_) <;> first | (exfalso; simp at h; first | done | omega | contradiction) | (exfalso; simp_all; done) | (try simp at h)) | omega)
        refine ⟨fr.length - (i + 1), by omega, i + 1, rfl, hlt2, ?_⟩
        simp [gc, closeN, liveA, gcV, gcO, renA, renAs, renO, namesAs, namesA, namesO, posn, fin]
        exact wrap_id (by omega) (by omega)
      have n3 : ¬ c.toNat = 109 := u8_ne h3
      rw [if_neg h3] at fin hw
      by_cases h4 : c = 113
      · subst h4
        have fin := fin _ rfl
        simp only [if_true] at fin hw
        repeat' (first | refine W_seq ?_ | refine W_skip ?_ | refine W_block ?_ | refine W_exit ?_ | refine pick_pos rfl ?_ | refine pick_neg rfl ?_ | ((first | refine W_regP fun K hK => ?_ | refine W_regPD fun K hK => ?_ | refine W_ret ?_ | with_reducible refine callQ (cop) ?_); simp [Fin, hc, maxStr]) | (with_reducible refine hK _ ?_; clear hK K) | (with_reducible refine goL_split (fun h => ?_) (fun h => ?_) <;> first | (exfalso; simp at h; first | done | omega | contradiction) | ((try simp at h); simp [hc, maxStr])) | with_reducible refine And.intro ?_ ?_ | with_reducible exact okay_rfl rfl | with_reducible assumption | (refine W_cond rfl (fun h => ?_) (fun h => ?_) <;> first | (exfalso; simp at h; first | done | omega | contradiction) | (exfalso; simp_all; done) | (try simp at h)) | omega)
        refine ⟨fr.length - (i + 1), by omega, i + 1, rfl, hlt2, ?_⟩
        simp [gc, closeN, liveA, gcV, gcO, renA, renAs, renO, namesAs, namesA, namesO, posn, fin]
        exact wrap_id (by omega) (by omega)
      have n4 : ¬ c.toNat = 113 := u8_ne h4
      rw [if_neg h4] at fin hw
      by_cases h5 : fk = 0
      · subst h5
        by_cases h6 : da = []
        · have fin := fin _ rfl
          rw [if_neg (by simp [h6])] at fin hw
          have hd : (da != []) = false := by simp [h6]
          repeat' (first | refine W_seq ?_ | refine W_skip ?_ | refine W_block ?_ | refine W_exit ?_ | refine pick_pos rfl ?_ | refine pick_neg rfl ?_ | ((first | refine W_regP fun K hK => ?_ | refine W_regPD fun K hK => ?_ | refine W_ret ?_ | with_reducible refine callQ (cod) ?_); simp [Fin, hc, maxStr, n1, n2, n3, n4, hd]) | (with_reducible refine hK _ ?_; clear hK K) | (with_reducible refine goL_split (fun h => ?_) (fun h => ?_) <;> first | (exfalso; simp at h; first | done | omega | contradiction) | ((try simp at h); simp [hc, maxStr, n1, n2, n3, n4, hd])) | with_reducible refine And.intro ?_ ?_ | with_reducible exact okay_rfl rfl | with_reducible assumption | (refine W_cond rfl (fun h => ?_) (fun h => ?_) <;> first | (exfalso; simp at h; first | done | omega | contradiction) | (exfalso; simp_all; done) | (try simp at h)) | omega)
          refine ⟨fr.length - (i + 1), by omega, i + 1, rfl, hlt2, ?_⟩
          simp [gc, closeN, liveA, gcV, gcO, renA, renAs, renO, namesAs, namesA, namesO, posn, fin]
          exact wrap_id (by omega) (by omega)
        · have fin := fin _ rfl
          rw [if_pos (by simp [h6])] at fin hw
          have hd : (da != []) = true := by simp [h6]
          repeat' (first | refine W_seq ?_ | refine W_skip ?_ | refine W_block ?_ | refine W_exit ?_ | refine pick_pos rfl ?_ | refine pick_neg rfl ?_ | ((first | refine W_regP fun K hK => ?_ | refine W_regPD fun K hK => ?_ | refine W_ret ?_ | with_reducible refine callQ (cod) ?_ | with_reducible refine callQ (ctr) ?_ | with_reducible refine callQ (cr1) ?_ | with_reducible refine callQ (cr2) ?_); simp [Fin, hc, maxStr, n1, n2, n3, n4, hd]) | (with_reducible refine hK _ ?_; clear hK K) | (with_reducible refine goL_split (fun h => ?_) (fun h => ?_) <;> first | (exfalso; simp at h; first | done | omega | contradiction) | ((try simp at h); simp [hc, maxStr, n1, n2, n3, n4, hd])) | with_reducible refine And.intro ?_ ?_ | with_reducible exact okay_rfl rfl | with_reducible assumption | (refine W_cond rfl (fun h => ?_) (fun h => ?_) <;> first | (exfalso; simp at h; first | done | omega | contradiction) | (exfalso; simp_all; done) | (try simp at h)) | omega)
          refine ⟨fr.length - (i + 1), by omega, i + 1, rfl, hlt2, ?_⟩
          simp [gc, closeN, liveA, gcV, gcO, renA, renAs, renO, namesAs, namesA, namesO, posn, fin]
          exact wrap_id (by omega) (by omega)
      · have fin := fin _ rfl
        rw [if_neg (by simp [h5])] at fin hw
        have hd : decide (fk = 0) = false := by simp [h5]
        repeat' (first | refine W_seq ?_ | refine W_skip ?_ | refine W_block ?_ | refine W_exit ?_ | refine pick_pos rfl ?_ | refine pick_neg rfl ?_ | ((first | refine W_regP fun K hK => ?_ | refine W_regPD fun K hK => ?_ | refine W_ret ?_ | with_reducible refine callQ (cod) ?_); simp [Fin, hc, maxStr, n1, n2, n3, n4, hd, h5]) | (with_reducible refine hK _ ?_; clear hK K) | (with_reducible refine goL_split (fun h => ?_) (fun h => ?_) <;> first | (exfalso; simp at h; first | done | omega | contradiction) | ((try simp at h); simp [hc, maxStr, n1, n2, n3, n4, hd, h5])) | with_reducible refine And.intro ?_ ?_ | with_reducible exact okay_rfl rfl | with_reducible assumption | (refine W_cond rfl (fun h => ?_) (fun h => ?_) <;> first | (exfalso; simp at h; first | done | omega | contradiction) | (exfalso; simp_all; done) | (try simp at h)) | omega)
        refine ⟨fr.length - (i + 1), by omega, i + 1, rfl, hlt2, ?_⟩
        simp [gc, closeN, liveA, gcV, gcO, renA, renAs, renO, namesAs, namesA, namesO, posn, fin]
        exact wrap_id (by omega) (by omega)
    · have hie : i = fr.length := by omega
      subst hie
      repeat' (first | refine W_seq ?_ | refine W_skip ?_ | refine W_block ?_ | refine W_exit ?_ | refine pick_pos rfl ?_ | refine pick_neg rfl ?_ | ((first | refine W_regP fun K hK => ?_ | refine W_regPD fun K hK => ?_ | refine W_ret ?_); simp [Fin]) | (with_reducible refine hK _ ?_; clear hK K) | (with_reducible refine goL_split (fun h => ?_) (fun h => ?_) <;> first | (exfalso; simp at h; first | done | omega | contradiction) | ((try simp at h); simp)) | with_reducible refine And.intro ?_ ?_ | with_reducible exact okay_rfl rfl | with_reducible assumption | (refine W_cond rfl (fun h => ?_) (fun h => ?_) <;> first | (exfalso; simp at h; first | done | omega | contradiction) | (exfalso; simp_all; done) | (try simp at h)) | omega)
      simp [gc, closeN, liveA, gcV, gcO, renA, renAs, renO, namesAs, namesA, namesO, posn]
  rintro st rfl
  repeat' (first | refine W_seq ?_ | refine W_skip ?_ | refine W_block ?_ | refine W_exit ?_ | refine pick_pos rfl ?_ | refine pick_neg rfl ?_ | ((first | refine W_regP fun K hK => ?_ | refine W_regPD fun K hK => ?_ | refine W_ret ?_); simp [Fin]) | (with_reducible refine hK _ ?_; clear hK K) | (with_reducible refine goL_split (fun h => ?_) (fun h => ?_) <;> first | (exfalso; simp at h; first | done | omega | contradiction) | ((try simp at h); simp)) | with_reducible refine And.intro ?_ ?_ | with_reducible exact okay_rfl rfl | with_reducible assumption | (refine W_cond rfl (fun h => ?_) (fun h => ?_) <;> first | (exfalso; simp at h; first | done | omega | contradiction) | (exfalso; simp_all; done) | (try simp at h)) | omega)

def outL (p : Option GReq) (r : GReq) (l : List UInt8) : List UInt8 := if p = some r then l else []

theorem i_parse_any [P10 GG] [ESyn GG] [ERng GG] [MaxL GG] (line : List UInt8) (hline : line.length ≤ 4000000) : Valid PP GG F_I_parseReq [.d (.str line)] (.tup [.agg ((deskW line).getD zReq).o, .d (.bool (deskW line).isSome)]) [none] := by
  by_cases h : line.length ≤ 1048576
  · exact parseReq_ok line h
  have hn : deskW line = none := by unfold deskW; rw [if_pos (by omega)]
  rw [hn]
  refine v_I_parseReq [.agg zReq.o, .d (.bool false)] rfl rfl ?_
  have hl2 : decide (250 < (line.length : Int)) = true := decide_eq_true (by omega)
  repeat' (first | refine W_seq ?_ | refine W_skip ?_ | refine W_block ?_ | refine W_exit ?_ | refine pick_pos rfl ?_ | refine pick_neg rfl ?_ | ((first | refine W_regP fun K hK => ?_ | refine W_regPD fun K hK => ?_ | refine W_ret ?_); simp [Fin, hl2, zReq]) | (with_reducible refine hK _ ?_; clear hK K) | (with_reducible refine goL_split (fun h => ?_) (fun h => ?_) <;> first | (exfalso; simp at h; first | done | omega | contradiction) | ((try simp at h); simp [hl2, zReq])) | with_reducible refine And.intro ?_ ?_ | with_reducible exact okay_rfl rfl | with_reducible assumption | (refine W_cond rfl (fun h => ?_) (fun h => ?_) <;> first | (exfalso; simp at h; first | done | omega | contradiction) | (exfalso; simp_all; done) | (try simp at h)) | omega)

theorem lineI_len (r : GReq) (hr : reqM r) : (lineI r).length ≤ 3200000 := by
  unfold lineI
  split
  · split
    · rename_i f hf
      have hm := forms_small2 f (List.mem_of_getElem? hf)
      have := lineF_len (f := f) hr hm.2 f.rest.length
      omega
    · simp
  · simp

theorem i_ReqLine_ok [P10 GG] [ESyn GG] [ERng GG] [MaxL GG] (r : GReq) (hr : reqM r) : Valid PP GG F_I_ReqLine [.agg r.c] (.tup [.d (.str (outL (deskW (lineI r)) r (lineI r))), .d (.bool (decide (deskW (lineI r) = some r)))]) [none] := by
  refine v_I_ReqLine [.d (.str (outL (deskW (lineI r)) r (lineI r))), .d (.bool (decide (deskW (lineI r) = some r)))] rfl rfl ?_
  have cl := i_reqLine_ok (GG := GG) r hr
  have hll := lineI_len r hr
  generalize lineI r = l at *
  have cp := i_parse_any (GG := GG) l (by omega)
  generalize deskW l = p at *
  cases p with
  | none =>
    have : outL none r l = [] := by simp [outL]
    rw [this]
    repeat' (first | refine W_seq ?_ | refine W_skip ?_ | refine W_block ?_ | refine W_exit ?_ | refine pick_pos rfl ?_ | refine pick_neg rfl ?_ | ((first | refine W_regP fun K hK => ?_ | refine W_regPD fun K hK => ?_ | refine W_ret ?_ | with_reducible refine callQ (cl) ?_ | with_reducible refine callQ (cp) ?_); simp [Fin, zReq]) | (with_reducible refine hK _ ?_; clear hK K) | (with_reducible refine goL_split (fun h => ?_) (fun h => ?_) <;> first | (exfalso; simp at h; first | done | omega | contradiction) | ((try simp at h); simp [zReq])) | with_reducible refine And.intro ?_ ?_ | with_reducible exact okay_rfl rfl | with_reducible assumption | (refine W_cond rfl (fun h => ?_) (fun h => ?_) <;> first | (exfalso; simp at h; first | done | omega | contradiction) | (exfalso; simp_all; done) | (try simp at h)) | omega)
  | some q =>
    by_cases h : q = r
    · subst h
      have e : outL (some q) q l = l := by simp [outL]
      rw [e]
      repeat' (first | refine W_seq ?_ | refine W_skip ?_ | refine W_block ?_ | refine W_exit ?_ | refine pick_pos rfl ?_ | refine pick_neg rfl ?_ | ((first | refine W_regP fun K hK => ?_ | refine W_regPD fun K hK => ?_ | refine W_ret ?_ | with_reducible refine callQ (cl) ?_ | with_reducible refine callQ (cp) ?_); simp [Fin]) | (with_reducible refine hK _ ?_; clear hK K) | (with_reducible refine goL_split (fun h => ?_) (fun h => ?_) <;> first | (exfalso; simp at h; first | done | omega | contradiction) | ((try simp at h); simp)) | with_reducible refine And.intro ?_ ?_ | with_reducible exact okay_rfl rfl | with_reducible assumption | (refine W_cond rfl (fun h => ?_) (fun h => ?_) <;> first | (exfalso; simp at h; first | done | omega | contradiction) | (exfalso; simp_all; done) | (try simp at h)) | omega)
    · have e : outL (some q) r l = [] := by simp [outL, h]
      rw [e]
      have e2 : decide (some q = some r) = false := by simp [h]
      rw [e2]
      have hx : (q.fKind = r.fKind → q.fToken = r.fToken → q.fName = r.fName → q.fPath = r.fPath → q.fData = r.fData → q.fNum = r.fNum → False) := fun a b c d e f => h (by cases q; cases r; simp_all)
      repeat' (first | refine W_seq ?_ | refine W_skip ?_ | refine W_block ?_ | refine W_exit ?_ | refine pick_pos rfl ?_ | refine pick_neg rfl ?_ | ((first | refine W_regP fun K hK => ?_ | refine W_regPD fun K hK => ?_ | refine W_ret ?_ | with_reducible refine callQ (cl) ?_ | with_reducible refine callQ (cp) ?_); simp [Fin]) | (with_reducible refine hK _ ?_; clear hK K) | (with_reducible refine goL_split (fun h => ?_) (fun h => ?_) <;> first | (exfalso; simp at h; first | done | omega | contradiction) | ((try simp at h); simp)) | with_reducible refine And.intro ?_ ?_ | with_reducible exact okay_rfl rfl | with_reducible assumption | (refine W_cond rfl (fun h => ?_) (fun h => ?_) <;> first | (exfalso; simp at h; first | done | omega | contradiction) | (exfalso; simp_all; done) | (try simp at h)) | omega)
      all_goals (exfalso; simp at *; first | exact hx (by assumption) (by assumption) (by assumption) (by assumption) (by assumption) (by assumption) | simp_all)

def wordS (k : Int) (c : UInt8) (r : GReq) : List UInt8 :=
  if c = 110 then Lib.itoa r.fNum else if c = 119 then r.fName else if c = 112 then r.fPath else if c = 113 then optW r.fPath
  else if c = 111 then (if k = 0 then unrul r.fData else optW r.fData) else []

def verbF (v : List UInt8 × List UInt8) (r : GReq) (n : Nat) : List UInt8 := Lib.itoa r.fToken ++ [32] ++ v.1 ++ (v.2.take n).flatMap fun c => 32 :: wordS r.fKind c r

def lineS (r : GReq) : List UInt8 := if r.fKind = 14 then [115, 121, 110, 99]
  else if (decide (11 ≤ r.fKind) && decide (r.fKind ≤ 15)) = true then (match shortV[(r.fKind - 11).toNat]? with | some s => s ++ [32] ++ Lib.itoa r.fNum | none => [])
  else if (decide (0 ≤ r.fKind) && decide (r.fKind ≤ 10)) = true then (match verbsL[r.fKind.toNat]? with | some v => verbF v r v.2.length | none => []) else []

def fitS (r : GReq) : Prop := r.fName.length ≤ 100 ∧ r.fPath.length ≤ 100 ∧ r.fData.length ≤ 110
instance (r : GReq) : Decidable (fitS r) := by unfold fitS; infer_instance

def backS (r : GReq) : Option GReq := if fitS r then specW (lineS r) else none

theorem unrul_len {d : List UInt8} (h : d.length ≤ 110) : (unrul d).length ≤ 13000 := by
  unfold unrul
  split
  · simp
  · have h1 := unF_len (m := d.length) (cutAt 10 d).dropLast fun q hq => cutAt_mem d ((List.dropLast_sublist _).mem hq)
    have h2 := cutAt_len 10 d
    have h3 : (cutAt 10 d).dropLast.length * (d.length + 1) ≤ 111 * 111 := Nat.mul_le_mul (by rw [List.length_dropLast]; omega) (by omega)
    omega

theorem wordS_len {r : GReq} (hr : reqM r) (hf : fitS r) (k : Int) (c : UInt8) : (wordS k c r).length ≤ 13000 := by
  obtain ⟨h1, h2, h3, h4, h5⟩ := hr
  obtain ⟨f1, f2, f3⟩ := hf
  have l1 := Lib.itoa_length_le r.fNum h2.1 h2.2
  have l2 := optW_len r.fPath
  have l3 := optW_len r.fData
  have l4 := unrul_len f3
  unfold wordS
  repeat' split
  all_goals (first | omega | simp)

theorem verbF_succ {v : List UInt8 × List UInt8} {r : GReq} {i : Nat} {c : UInt8} (h : v.2[i]? = some c) : verbF v r (i + 1) = verbF v r i ++ 32 :: wordS r.fKind c r := by
  unfold verbF
  rw [List.take_add_one, h]
  simp [List.flatMap_append]

theorem verbF_len {v : List UInt8 × List UInt8} {r : GReq} (hr : reqM r) (hf : fitS r) (hv : v.1.length ≤ 20) : ∀ i, (verbF v r i).length ≤ 42 + i * 13001 := by
  have key : ∀ l : List UInt8, (l.flatMap fun c => 32 :: wordS r.fKind c r).length ≤ l.length * 13001 := by
    intro l
    induction l with
    | nil => simp
    | cons c l ih =>
      have := wordS_len hr hf r.fKind c
      simp only [List.flatMap_cons, List.length_append, List.length_cons]
      rw [Nat.add_mul]; omega
  intro i
  have l1 := Lib.itoa_length_le r.fToken hr.1.1 hr.1.2
  have h1 := key (v.2.take i)
  have h2 : (v.2.take i).length * 13001 ≤ i * 13001 := Nat.mul_le_mul_right _ (by rw [List.length_take]; omega)
  unfold verbF
  simp only [List.length_append, List.length_singleton]
  omega

theorem verbs_small : ∀ v, v ∈ verbsL → v.1.length ≤ 20 ∧ v.2.length ≤ 3 := by decide

theorem lineS_len (r : GReq) (hr : reqM r) (hf : fitS r) : (lineS r).length ≤ 40000 := by
  have l1 := Lib.itoa_length_le r.fNum hr.2.1.1 hr.2.1.2
  unfold lineS
  split
  · simp
  split
  · split
    · rename_i s hs
      have : ∀ s, s ∈ shortV → s.length ≤ 20 := by decide
      have := this s (List.mem_of_getElem? hs)
      simp only [List.length_append, List.length_singleton]; omega
    · simp
  split
  · split
    · rename_i v hv
      have hm := verbs_small v (List.mem_of_getElem? hv)
      have := verbF_len (v := v) hr hf hm.1 v.2.length
      omega
    · simp
  · simp

theorem s_ReqLine_ok (r : GReq) (hr : reqM r) : Valid PP GG F_S_ReqLine [.agg r.c] (.tup [.d (.str (outL (backS r) r (lineS r))), .d (.bool (decide (backS r = some r)))]) [none] := by
  refine v_S_ReqLine [.d (.str (outL (backS r) r (lineS r))), .d (.bool (decide (backS r = some r)))] rfl rfl ?_
  by_cases hf : fitS r
  rotate_left
  · have hb : backS r = none := if_neg hf
    have : outL none r (lineS r) = [] := by simp [outL]
    rw [hb, this]
    have hdn : decide (none = some r) = false := rfl
    rw [hdn]
    by_cases h1 : r.fName.length ≤ 100
    · have d1 : decide (100 < (r.fName.length : Int)) = false := decide_eq_false (by omega)
      by_cases h2 : r.fPath.length ≤ 100
      · have d2 : decide (100 < (r.fPath.length : Int)) = false := decide_eq_false (by omega)
        have d3 : decide (110 < (r.fData.length : Int)) = true := decide_eq_true (by unfold fitS at hf; omega)
        repeat' (first | refine W_seq ?_ | refine W_skip ?_ | refine W_block ?_ | refine W_exit ?_ | refine pick_pos rfl ?_ | refine pick_neg rfl ?_ | ((first | refine W_regP fun K hK => ?_ | refine W_regPD fun K hK => ?_ | refine W_ret ?_); simp [Fin, d1, d2, d3]) | (with_reducible refine hK _ ?_; clear hK K) | (with_reducible refine goL_split (fun h => ?_) (fun h => ?_) <;> first | (exfalso; simp at h; first | done | omega | contradiction) | ((try simp at h); simp [d1, d2, d3])) | with_reducible refine And.intro ?_ ?_ | with_reducible exact okay_rfl rfl | with_reducible assumption | (refine W_cond rfl (fun h => ?_) (fun h => ?_) <;> first | (exfalso; simp at h; first | done | omega | contradiction) | (exfalso; simp_all; done) | (try simp at h)) | omega)
      · have d2 : decide (100 < (r.fPath.length : Int)) = true := decide_eq_true (by omega)
        repeat' (first | refine W_seq ?_ | refine W_skip ?_ | refine W_block ?_ | refine W_exit ?_ | refine pick_pos rfl ?_ | refine pick_neg rfl ?_ | ((first | refine W_regP fun K hK => ?_ | refine W_regPD fun K hK => ?_ | refine W_ret ?_); simp [Fin, d1, d2]) | (with_reducible refine hK _ ?_; clear hK K) | (with_reducible refine goL_split (fun h => ?_) (fun h => ?_) <;> first | (exfalso; simp at h; first | done | omega | contradiction) | ((try simp at h); simp [d1, d2])) | with_reducible refine And.intro ?_ ?_ | with_reducible exact okay_rfl rfl | with_reducible assumption | (refine W_cond rfl (fun h => ?_) (fun h => ?_) <;> first | (exfalso; simp at h; first | done | omega | contradiction) | (exfalso; simp_all; done) | (try simp at h)) | omega)
    · have d1 : decide (100 < (r.fName.length : Int)) = true := decide_eq_true (by omega)
      repeat' (first | refine W_seq ?_ | refine W_skip ?_ | refine W_block ?_ | refine W_exit ?_ | refine pick_pos rfl ?_ | refine pick_neg rfl ?_ | ((first | refine W_regP fun K hK => ?_ | refine W_regPD fun K hK => ?_ | refine W_ret ?_); simp [Fin, d1]) | (with_reducible refine hK _ ?_; clear hK K) | (with_reducible refine goL_split (fun h => ?_) (fun h => ?_) <;> first | (exfalso; simp at h; first | done | omega | contradiction) | ((try simp at h); simp [d1])) | with_reducible refine And.intro ?_ ?_ | with_reducible exact okay_rfl rfl | with_reducible assumption | (refine W_cond rfl (fun h => ?_) (fun h => ?_) <;> first | (exfalso; simp at h; first | done | omega | contradiction) | (exfalso; simp_all; done) | (try simp at h)) | omega)
  have hb : backS r = specW (lineS r) := if_pos hf
  rw [hb]
  have hll := lineS_len r hr hf
  have hL : lineS r = if r.fKind = 14 then [115, 121, 110, 99]
      else if (decide (11 ≤ r.fKind) && decide (r.fKind ≤ 15)) = true then (match shortV[(r.fKind - 11).toNat]? with | some s => s ++ [32] ++ Lib.itoa r.fNum | none => [])
      else if (decide (0 ≤ r.fKind) && decide (r.fKind ≤ 10)) = true then (match verbsL[r.fKind.toNat]? with | some v => verbF v r v.2.length | none => []) else [] := rfl
  clear hb
  generalize lineS r = l at *
  obtain ⟨h1, h2, h3⟩ := hf
  have d1 : decide (100 < (r.fName.length : Int)) = false := decide_eq_false (by omega)
  have d2 : decide (100 < (r.fPath.length : Int)) = false := decide_eq_false (by omega)
  have d3 : decide (110 < (r.fData.length : Int)) = false := decide_eq_false (by omega)
  have hf : fitS r := ⟨h1, h2, h3⟩
  refine W_seq (?_)
  apply W_regS
  · intro K hK
    simp
    repeat' (first | with_reducible exact hK | (with_reducible refine goL_split (fun _ => ?_) (fun _ => ?_) <;> simp) | with_reducible refine And.intro ?_ ?_ | with_reducible exact okay_rfl rfl | with_reducible assumption | omega)
  refine W_cut [1] (fun st => st = ⟨[], [(1, .ptr 0 0)], [(0, .box (r.row.map A.d))], 1⟩) ?_ ?_
  · repeat' (first | refine W_seq ?_ | refine W_skip ?_ | refine W_block ?_ | refine W_exit ?_ | refine pick_pos rfl ?_ | refine pick_neg rfl ?_ | ((first | refine W_regP fun K hK => ?_ | refine W_regPD fun K hK => ?_ | refine W_ret ?_); simp [Fin, d1, d2, d3]) | (with_reducible refine hK _ ?_; clear hK K) | (with_reducible refine goL_split (fun h => ?_) (fun h => ?_) <;> first | (exfalso; simp at h; first | done | omega | contradiction) | ((try simp at h); simp [d1, d2, d3])) | with_reducible refine And.intro ?_ ?_ | with_reducible exact okay_rfl rfl | with_reducible assumption | (refine W_cond rfl (fun h => ?_) (fun h => ?_) <;> first | (exfalso; simp at h; first | done | omega | contradiction) | (exfalso; simp_all; done) | (try simp at h)) | omega)
    simp [gc, closeN, liveA, gcV, gcO, renA, renAs, renO, namesAs, namesA, namesO, posn]
  rintro st rfl
  refine W_seq (?_)
  apply W_regS
  · intro K hK
    simp
    repeat' (first | with_reducible exact hK | (with_reducible refine goL_split (fun _ => ?_) (fun _ => ?_) <;> simp) | with_reducible refine And.intro ?_ ?_ | with_reducible exact okay_rfl rfl | with_reducible assumption | omega)
  refine W_cut [1, 4] (fun st => st = ⟨[], [(1, .ptr 0 0), (4, .d (.str l))], [(0, .box (r.row.map A.d))], 1⟩) ?_ ?_
  · have c1 := l01In_ok (GG := GG) r.fKind 11 15
    have c0 := l01In_ok (GG := GG) r.fKind 0 10
    have cnu := l01Num_ok (GG := GG) r.fNum hr.2.1
    have cto := l01Num_ok (GG := GG) r.fToken hr.1
    have ln := Lib.itoa_length_le r.fNum hr.2.1.1 hr.2.1.2
    have lt := Lib.itoa_length_le r.fToken hr.1.1 hr.1.2
    by_cases h14 : r.fKind = 14
    · have hk : (r.fKind == 14) = true := by simp [h14]
      rw [if_pos h14] at hL
      repeat' (first | refine W_seq ?_ | refine W_skip ?_ | refine W_block ?_ | refine W_exit ?_ | refine pick_pos rfl ?_ | refine pick_neg rfl ?_ | ((first | refine W_regP fun K hK => ?_ | refine W_regPD fun K hK => ?_ | refine W_ret ?_); simp [Fin, hk]) | (with_reducible refine hK _ ?_; clear hK K) | (with_reducible refine goL_split (fun h => ?_) (fun h => ?_) <;> first | (exfalso; simp at h; first | done | omega | contradiction) | ((try simp at h); simp [hk])) | with_reducible refine And.intro ?_ ?_ | with_reducible exact okay_rfl rfl | with_reducible assumption | (refine W_cond rfl (fun h => ?_) (fun h => ?_) <;> first | (exfalso; simp at h; first | done | omega | contradiction) | (exfalso; simp_all; done) | (try simp at h)) | omega)
      simp [gc, closeN, liveA, gcV, gcO, renA, renAs, renO, namesAs, namesA, namesO, posn, hL]
    rw [if_neg h14] at hL
    have hk : (r.fKind == 14) = false := by simp [h14]
    by_cases h11 : (decide (11 ≤ r.fKind) && decide (r.fKind ≤ 15)) = true
    · rw [if_pos h11] at hL
      rw [h11] at c1
      simp only [Bool.and_eq_true, decide_eq_true_eq] at h11
      obtain ⟨k, e⟩ : ∃ k : Nat, r.fKind = 11 + k := ⟨(r.fKind - 11).toNat, by omega⟩
      have hsub : IntKind.i64.wrap (r.fKind - 11) = (k : Int) := by rw [wrap_id (by omega) (by omega)]; omega
      have e2 : (r.fKind - 11).toNat = k := by omega
      rw [e2] at hL
      have hk5 : k = 0 ∨ k = 1 ∨ k = 2 ∨ k = 3 ∨ k = 4 := by omega
      rcases hk5 with rfl | rfl | rfl | rfl | rfl
      · simp only [shortV, List.getElem?_cons_succ, List.getElem?_cons_zero] at hL
        repeat' (first | refine W_seq ?_ | refine W_skip ?_ | refine W_block ?_ | refine W_exit ?_ | refine pick_pos rfl ?_ | refine pick_neg rfl ?_ | ((first | refine W_regP fun K hK => ?_ | refine W_regPD fun K hK => ?_ | refine W_ret ?_ | with_reducible refine callQ (c1) ?_ | with_reducible refine callQ (cnu) ?_); simp [Fin, hk, hsub, maxStr]) | (with_reducible refine hK _ ?_; clear hK K) | (with_reducible refine goL_split (fun h => ?_) (fun h => ?_) <;> first | (exfalso; simp at h; first | done | omega | contradiction) | ((try simp at h); simp [hk, hsub, maxStr])) | with_reducible refine And.intro ?_ ?_ | with_reducible exact okay_rfl rfl | with_reducible assumption | (refine W_cond rfl (fun h => ?_) (fun h => ?_) <;> first | (exfalso; simp at h; first | done | omega | contradiction) | (exfalso; simp_all; done) | (try simp at h)) | omega)
        all_goals (simp [gc, closeN, liveA, gcV, gcO, renA, renAs, renO, namesAs, namesA, namesO, posn, hL])
      · simp only [shortV, List.getElem?_cons_succ, List.getElem?_cons_zero] at hL
        repeat' (first | refine W_seq ?_ | refine W_skip ?_ | refine W_block ?_ | refine W_exit ?_ | refine pick_pos rfl ?_ | refine pick_neg rfl ?_ | ((first | refine W_regP fun K hK => ?_ | refine W_regPD fun K hK => ?_ | refine W_ret ?_ | with_reducible refine callQ (c1) ?_ | with_reducible refine callQ (cnu) ?_); simp [Fin, hk, hsub, maxStr]) | (with_reducible refine hK _ ?_; clear hK K) | (with_reducible refine goL_split (fun h => ?_) (fun h => ?_) <;> first | (exfalso; simp at h; first | done | omega | contradiction) | ((try simp at h); simp [hk, hsub, maxStr])) | with_reducible refine And.intro ?_ ?_ | with_reducible exact okay_rfl rfl | with_reducible assumption | (refine W_cond rfl (fun h => ?_) (fun h => ?_) <;> first | (exfalso; simp at h; first | done | omega | contradiction) | (exfalso; simp_all; done) | (try simp at h)) | omega)
        all_goals (simp [gc, closeN, liveA, gcV, gcO, renA, renAs, renO, namesAs, namesA, namesO, posn, hL])
      · simp only [shortV, List.getElem?_cons_succ, List.getElem?_cons_zero] at hL
        repeat' (first | refine W_seq ?_ | refine W_skip ?_ | refine W_block ?_ | refine W_exit ?_ | refine pick_pos rfl ?_ | refine pick_neg rfl ?_ | ((first | refine W_regP fun K hK => ?_ | refine W_regPD fun K hK => ?_ | refine W_ret ?_ | with_reducible refine callQ (c1) ?_ | with_reducible refine callQ (cnu) ?_); simp [Fin, hk, hsub, maxStr]) | (with_reducible refine hK _ ?_; clear hK K) | (with_reducible refine goL_split (fun h => ?_) (fun h => ?_) <;> first | (exfalso; simp at h; first | done | omega | contradiction) | ((try simp at h); simp [hk, hsub, maxStr])) | with_reducible refine And.intro ?_ ?_ | with_reducible exact okay_rfl rfl | with_reducible assumption | (refine W_cond rfl (fun h => ?_) (fun h => ?_) <;> first | (exfalso; simp at h; first | done | omega | contradiction) | (exfalso; simp_all; done) | (try simp at h)) | omega)
        all_goals (simp [gc, closeN, liveA, gcV, gcO, renA, renAs, renO, namesAs, namesA, namesO, posn, hL])
      · simp only [shortV, List.getElem?_cons_succ, List.getElem?_cons_zero] at hL
        repeat' (first | refine W_seq ?_ | refine W_skip ?_ | refine W_block ?_ | refine W_exit ?_ | refine pick_pos rfl ?_ | refine pick_neg rfl ?_ | ((first | refine W_regP fun K hK => ?_ | refine W_regPD fun K hK => ?_ | refine W_ret ?_ | with_reducible refine callQ (c1) ?_ | with_reducible refine callQ (cnu) ?_); simp [Fin, hk, hsub, maxStr]) | (with_reducible refine hK _ ?_; clear hK K) | (with_reducible refine goL_split (fun h => ?_) (fun h => ?_) <;> first | (exfalso; simp at h; first | done | omega | contradiction) | ((try simp at h); simp [hk, hsub, maxStr])) | with_reducible refine And.intro ?_ ?_ | with_reducible exact okay_rfl rfl | with_reducible assumption | (refine W_cond rfl (fun h => ?_) (fun h => ?_) <;> first | (exfalso; simp at h; first | done | omega | contradiction) | (exfalso; simp_all; done) | (try simp at h)) | omega)
        all_goals (simp [gc, closeN, liveA, gcV, gcO, renA, renAs, renO, namesAs, namesA, namesO, posn, hL])
      · simp only [shortV, List.getElem?_cons_succ, List.getElem?_cons_zero] at hL
        repeat' (first | refine W_seq ?_ | refine W_skip ?_ | refine W_block ?_ | refine W_exit ?_ | refine pick_pos rfl ?_ | refine pick_neg rfl ?_ | ((first | refine W_regP fun K hK => ?_ | refine W_regPD fun K hK => ?_ | refine W_ret ?_ | with_reducible refine callQ (c1) ?_ | with_reducible refine callQ (cnu) ?_); simp [Fin, hk, hsub, maxStr]) | (with_reducible refine hK _ ?_; clear hK K) | (with_reducible refine goL_split (fun h => ?_) (fun h => ?_) <;> first | (exfalso; simp at h; first | done | omega | contradiction) | ((try simp at h); simp [hk, hsub, maxStr])) | with_reducible refine And.intro ?_ ?_ | with_reducible exact okay_rfl rfl | with_reducible assumption | (refine W_cond rfl (fun h => ?_) (fun h => ?_) <;> first | (exfalso; simp at h; first | done | omega | contradiction) | (exfalso; simp_all; done) | (try simp at h)) | omega)
        all_goals (simp [gc, closeN, liveA, gcV, gcO, renA, renAs, renO, namesAs, namesA, namesO, posn, hL])
    have h11 : (decide (11 ≤ r.fKind) && decide (r.fKind ≤ 15)) = false := by simpa using h11
    rw [if_neg (by simp [h11])] at hL
    rw [h11] at c1
    by_cases h0 : (decide (0 ≤ r.fKind) && decide (r.fKind ≤ 10)) = true
    rotate_left
    · have h0 : (decide (0 ≤ r.fKind) && decide (r.fKind ≤ 10)) = false := by simpa using h0
      rw [if_neg (by simp [h0])] at hL
      rw [h0] at c0
      repeat' (first | refine W_seq ?_ | refine W_skip ?_ | refine W_block ?_ | refine W_exit ?_ | refine pick_pos rfl ?_ | refine pick_neg rfl ?_ | ((first | refine W_regP fun K hK => ?_ | refine W_regPD fun K hK => ?_ | refine W_ret ?_ | with_reducible refine callQ (c1) ?_ | with_reducible refine callQ (c0) ?_); simp [Fin, hk]) | (with_reducible refine hK _ ?_; clear hK K) | (with_reducible refine goL_split (fun h => ?_) (fun h => ?_) <;> first | (exfalso; simp at h; first | done | omega | contradiction) | ((try simp at h); simp [hk])) | with_reducible refine And.intro ?_ ?_ | with_reducible exact okay_rfl rfl | with_reducible assumption | (refine W_cond rfl (fun h => ?_) (fun h => ?_) <;> first | (exfalso; simp at h; first | done | omega | contradiction) | (exfalso; simp_all; done) | (try simp at h)) | omega)
      simp [gc, closeN, liveA, gcV, gcO, renA, renAs, renO, namesAs, namesA, namesO, posn, hL]
    rw [if_pos h0] at hL
    rw [h0] at c0
    have cf := s_l19Forms_ok (GG := GG)
    have cpa := s_l19Opt_ok (GG := GG) r.fPath
    have cda := s_l19Opt_ok (GG := GG) r.fData
    have cun := s_l19Unrules_ok (GG := GG) r.fData (by omega)
    have lpa := optW_len r.fPath
    have lda := optW_len r.fData
    have lun := unrul_len h3
    obtain ⟨hF, hV, hFV⟩ := forms_verbs
    have hvs := verbs_small
    simp only [Bool.and_eq_true, decide_eq_true_eq] at h0
    obtain ⟨k, e⟩ : ∃ k : Nat, r.fKind = k := ⟨r.fKind.toNat, by omega⟩
    obtain ⟨f, ⟨v, g⟩, hfa, hva, hcut, hfl, hgl, hg0⟩ := hFV ⟨k, by omega⟩
    simp only at hfa hva hcut hgl hg0
    have hvl := (hvs _ (List.mem_of_getElem? hva)).1
    dsimp only at hvl
    have cv := s_l19Verb_ok (GG := GG) f v g hcut (by omega)
    have hindf := ind_strs formsS
    have e2 : r.fKind.toNat = k := by omega
    rw [e2, hva] at hL
    clear hFV hvs
    generalize formsS = Fm at *
    have hG := verbF_len (v := (v, g)) hr hf hvl
    have hsu := fun i c => @verbF_succ (v, g) r i c
    have e0 : verbF (v, g) r 0 = Lib.itoa r.fToken ++ [32] ++ v := by simp [verbF]
    have hwl := fun c => wordS_len hr hf r.fKind c
    dsimp only at *
    generalize verbF (v, g) r = G at *
    have eG : lineS r = lineS r := rfl
    clear eG
    rw [e] at hk h0 c0 c1 h14 h11
    have lto := Lib.itoa_length_le r.fToken hr.1.1 hr.1.2
    have hG0 := hG 0
    obtain ⟨kd, tk, nm, pa, da, nu⟩ := r
    dsimp only at *
    subst e
    repeat' (first | refine W_seq ?_ | refine W_skip ?_ | refine W_block ?_ | refine W_exit ?_ | refine pick_pos rfl ?_ | refine pick_neg rfl ?_ | ((first | refine W_regP fun K hK => ?_ | refine W_regPD fun K hK => ?_ | refine W_ret ?_ | with_reducible refine callQ (c1) ?_ | with_reducible refine callQ (c0) ?_ | with_reducible refine callQ (cf) ?_ | with_reducible refine callQ (cv) ?_ | with_reducible refine callQ (cto) ?_); simp [Fin, hk, hfa, strsD, maxStr]) | (with_reducible refine hK _ ?_; clear hK K) | (with_reducible refine goL_split (fun h => ?_) (fun h => ?_) <;> first | (exfalso; simp at h; first | done | omega | contradiction) | ((try simp at h); simp [hk, hfa, strsD, maxStr])) | with_reducible refine And.intro ?_ ?_ | with_reducible exact okay_rfl rfl | with_reducible assumption | (refine W_cond rfl (fun h => ?_) (fun h => ?_) <;> first | (exfalso; simp at h; first | done | omega | contradiction) | (exfalso; simp_all; done) | (try simp at h)) | omega)
    refine W_loop (fun n st => ∃ (i : Nat), n = g.length - i ∧ i ≤ g.length ∧ st = ⟨[], [(1, .ptr 0 0), (4, .d (.str (G i))), (7, .d (.str g)), (8, .d (.int .i64 i))], [(0, .box [.d (.int .i64 k), .d (.int .i64 tk), .d (.str nm), .d (.str pa), .d (.str da), .d (.int .i64 nu)])], 1⟩) _ ⟨0, rfl, by omega, ?_⟩ ?_
    · simp [gc, closeN, liveA, gcV, gcO, renA, renAs, renO, namesAs, namesA, namesO, posn, e0]
    rintro n st ⟨i, rfl, hi, rfl⟩
    by_cases hlt2 : i < g.length
    · have hc := List.getElem?_eq_getElem hlt2
      generalize g[i] = c at hc
      have hs := hsu i c hc
      have hw := hwl c
      have hdi := hG i
      have hdi2 : (G i).length ≤ 60000 := by omega
      have fin : ∀ w : List UInt8, wordS k c ⟨k, tk, nm, pa, da, nu⟩ = w → G (i + 1) = G i ++ 32 :: w := fun w h => by rw [hs, h]
      unfold wordS at fin hw
      dsimp only at fin hw
      by_cases q1 : c = 110
      · subst q1
        rw [if_pos rfl] at fin hw
        have fin := fin _ rfl
        repeat' (first | refine W_seq ?_ | refine W_skip ?_ | refine W_block ?_ | refine W_exit ?_ | refine pick_pos rfl ?_ | refine pick_neg rfl ?_ | ((first | refine W_regP fun K hK => ?_ | refine W_regPD fun K hK => ?_ | refine W_ret ?_ | with_reducible refine callQ (cnu) ?_); simp [Fin, hc, maxStr]) | (with_reducible refine hK _ ?_; clear hK K) | (with_reducible refine goL_split (fun h => ?_) (fun h => ?_) <;> first | (exfalso; simp at h; first | done | omega | contradiction) | ((try simp at h); simp [hc, maxStr])) | with_reducible refine And.intro ?_ ?_ | with_reducible exact okay_rfl rfl | with_reducible assumption | (refine W_cond rfl (fun h => ?_) (fun h => ?_) <;> first | (exfalso; simp at h; first | done | omega | contradiction) | (exfalso; simp_all; done) | (try simp at h)) | omega)
        refine ⟨g.length - (i + 1), by omega, i + 1, rfl, hlt2, ?_⟩
        simp [gc, closeN, liveA, gcV, gcO, renA, renAs, renO, namesAs, namesA, namesO, posn, fin]
        exact wrap_id (by omega) (by omega)
      have n1 : ¬ c.toNat = 110 := u8_ne q1
      rw [if_neg q1] at fin hw
      by_cases q2 : c = 119
      · subst q2
        rw [if_pos rfl] at fin hw
        have fin := fin _ rfl
        repeat' (first | refine W_seq ?_ | refine W_skip ?_ | refine W_block ?_ | refine W_exit ?_ | refine pick_pos rfl ?_ | refine pick_neg rfl ?_ | ((first | refine W_regP fun K hK => ?_ | refine W_regPD fun K hK => ?_ | refine W_ret ?_); simp [Fin, hc, maxStr]) | (with_reducible refine hK _ ?_; clear hK K) | (with_reducible refine goL_split (fun h => ?_) (fun h => ?_) <;> first | (exfalso; simp at h; first | done | omega | contradiction) | ((try simp at h); simp [hc, maxStr])) | with_reducible refine And.intro ?_ ?_ | with_reducible exact okay_rfl rfl | with_reducible assumption | (refine W_cond rfl (fun h => ?_) (fun h => ?_) <;> first | (exfalso; simp at h; first | done | omega | contradiction) | (exfalso; simp_all; done) | (try simp at h)) | omega)
        refine ⟨g.length - (i + 1), by omega, i + 1, rfl, hlt2, ?_⟩
        simp [gc, closeN, liveA, gcV, gcO, renA, renAs, renO, namesAs, namesA, namesO, posn, fin]
        exact wrap_id (by omega) (by omega)
      have n2 : ¬ c.toNat = 119 := u8_ne q2
      rw [if_neg q2] at fin hw
      by_cases q3 : c = 112
      · subst q3
        rw [if_pos rfl] at fin hw
        have fin := fin _ rfl
        repeat' (first | refine W_seq ?_ | refine W_skip ?_ | refine W_block ?_ | refine W_exit ?_ | refine pick_pos rfl ?_ | refine pick_neg rfl ?_ | ((first | refine W_regP fun K hK => ?_ | refine W_regPD fun K hK => ?_ | refine W_ret ?_); simp [Fin, hc, maxStr]) | (with_reducible refine hK _ ?_; clear hK K) | (with_reducible refine goL_split (fun h => ?_) (fun h => ?_) <;> first | (exfalso; simp at h; first | done | omega | contradiction) | ((try simp at h); simp [hc, maxStr])) | with_reducible refine And.intro ?_ ?_ | with_reducible exact okay_rfl rfl | with_reducible assumption | (refine W_cond rfl (fun h => ?_) (fun h => ?_) <;> first | (exfalso; simp at h; first | done | omega | contradiction) | (exfalso; simp_all; done) | (try simp at h)) | omega)
        refine ⟨g.length - (i + 1), by omega, i + 1, rfl, hlt2, ?_⟩
        simp [gc, closeN, liveA, gcV, gcO, renA, renAs, renO, namesAs, namesA, namesO, posn, fin]
        exact wrap_id (by omega) (by omega)
      have n3 : ¬ c.toNat = 112 := u8_ne q3
      rw [if_neg q3] at fin hw
      by_cases q4 : c = 113
      · subst q4
        rw [if_pos rfl] at fin hw
        have fin := fin _ rfl
        repeat' (first | refine W_seq ?_ | refine W_skip ?_ | refine W_block ?_ | refine W_exit ?_ | refine pick_pos rfl ?_ | refine pick_neg rfl ?_ | ((first | refine W_regP fun K hK => ?_ | refine W_regPD fun K hK => ?_ | refine W_ret ?_ | with_reducible refine callQ (cpa) ?_); simp [Fin, hc, maxStr]) | (with_reducible refine hK _ ?_; clear hK K) | (with_reducible refine goL_split (fun h => ?_) (fun h => ?_) <;> first | (exfalso; simp at h; first | done | omega | contradiction) | ((try simp at h); simp [hc, maxStr])) | with_reducible refine And.intro ?_ ?_ | with_reducible exact okay_rfl rfl | with_reducible assumption | (refine W_cond rfl (fun h => ?_) (fun h => ?_) <;> first | (exfalso; simp at h; first | done | omega | contradiction) | (exfalso; simp_all; done) | (try simp at h)) | omega)
        refine ⟨g.length - (i + 1), by omega, i + 1, rfl, hlt2, ?_⟩
        simp [gc, closeN, liveA, gcV, gcO, renA, renAs, renO, namesAs, namesA, namesO, posn, fin]
        exact wrap_id (by omega) (by omega)
      have n4 : ¬ c.toNat = 113 := u8_ne q4
      rw [if_neg q4] at fin hw
      by_cases q5 : c = 111
      · subst q5
        rw [if_pos rfl] at fin hw
        by_cases hk0 : k = 0
        · subst hk0
          have fin := fin _ rfl
          rw [if_pos (show ((0 : Nat) : Int) = 0 from rfl)] at fin hw
          repeat' (first | refine W_seq ?_ | refine W_skip ?_ | refine W_block ?_ | refine W_exit ?_ | refine pick_pos rfl ?_ | refine pick_neg rfl ?_ | ((first | refine W_regP fun K hK => ?_ | refine W_regPD fun K hK => ?_ | refine W_ret ?_ | with_reducible refine callQ (cun) ?_); simp [Fin, hc, maxStr]) | (with_reducible refine hK _ ?_; clear hK K) | (with_reducible refine goL_split (fun h => ?_) (fun h => ?_) <;> first | (exfalso; simp at h; first | done | omega | contradiction) | ((try simp at h); simp [hc, maxStr])) | with_reducible refine And.intro ?_ ?_ | with_reducible exact okay_rfl rfl | with_reducible assumption | (refine W_cond rfl (fun h => ?_) (fun h => ?_) <;> first | (exfalso; simp at h; first | done | omega | contradiction) | (exfalso; simp_all; done) | (try simp at h)) | omega)
          refine ⟨g.length - (i + 1), by omega, i + 1, rfl, hlt2, ?_⟩
          simp [gc, closeN, liveA, gcV, gcO, renA, renAs, renO, namesAs, namesA, namesO, posn, fin]
          exact wrap_id (by omega) (by omega)
        · have fin := fin _ rfl
          rw [if_neg (show ¬ ((k : Nat) : Int) = 0 by omega)] at fin hw
          repeat' (first | refine W_seq ?_ | refine W_skip ?_ | refine W_block ?_ | refine W_exit ?_ | refine pick_pos rfl ?_ | refine pick_neg rfl ?_ | ((first | refine W_regP fun K hK => ?_ | refine W_regPD fun K hK => ?_ | refine W_ret ?_ | with_reducible refine callQ (cda) ?_); simp [Fin, hc, maxStr, hk0]) | (with_reducible refine hK _ ?_; clear hK K) | (with_reducible refine goL_split (fun h => ?_) (fun h => ?_) <;> first | (exfalso; simp at h; first | done | omega | contradiction) | ((try simp at h); simp [hc, maxStr, hk0])) | with_reducible refine And.intro ?_ ?_ | with_reducible exact okay_rfl rfl | with_reducible assumption | (refine W_cond rfl (fun h => ?_) (fun h => ?_) <;> first | (exfalso; simp at h; first | done | omega | contradiction) | (exfalso; simp_all; done) | (try simp at h)) | omega)
          refine ⟨g.length - (i + 1), by omega, i + 1, rfl, hlt2, ?_⟩
          simp [gc, closeN, liveA, gcV, gcO, renA, renAs, renO, namesAs, namesA, namesO, posn, fin]
          exact wrap_id (by omega) (by omega)
      have n5 : ¬ c.toNat = 111 := u8_ne q5
      rw [if_neg q5] at fin hw
      have fin := fin _ rfl
      repeat' (first | refine W_seq ?_ | refine W_skip ?_ | refine W_block ?_ | refine W_exit ?_ | refine pick_pos rfl ?_ | refine pick_neg rfl ?_ | ((first | refine W_regP fun K hK => ?_ | refine W_regPD fun K hK => ?_ | refine W_ret ?_); simp [Fin, hc, maxStr]) | (with_reducible refine hK _ ?_; clear hK K) | (with_reducible refine goL_split (fun h => ?_) (fun h => ?_) <;> first | (exfalso; simp at h; first | done | omega | contradiction) | ((try simp at h); simp [hc, maxStr])) | with_reducible refine And.intro ?_ ?_ | with_reducible exact okay_rfl rfl | with_reducible assumption | (refine W_cond rfl (fun h => ?_) (fun h => ?_) <;> first | (exfalso; simp at h; first | done | omega | contradiction) | (exfalso; simp_all; done) | (try simp at h)) | omega)
      refine ⟨g.length - (i + 1), by omega, i + 1, rfl, hlt2, ?_⟩
      simp [gc, closeN, liveA, gcV, gcO, renA, renAs, renO, namesAs, namesA, namesO, posn, fin]
      exact wrap_id (by omega) (by omega)
    · have hie : i = g.length := by omega
      subst hie
      repeat' (first | refine W_seq ?_ | refine W_skip ?_ | refine W_block ?_ | refine W_exit ?_ | refine pick_pos rfl ?_ | refine pick_neg rfl ?_ | ((first | refine W_regP fun K hK => ?_ | refine W_regPD fun K hK => ?_ | refine W_ret ?_); simp [Fin]) | (with_reducible refine hK _ ?_; clear hK K) | (with_reducible refine goL_split (fun h => ?_) (fun h => ?_) <;> first | (exfalso; simp at h; first | done | omega | contradiction) | ((try simp at h); simp)) | with_reducible refine And.intro ?_ ?_ | with_reducible exact okay_rfl rfl | with_reducible assumption | (refine W_cond rfl (fun h => ?_) (fun h => ?_) <;> first | (exfalso; simp at h; first | done | omega | contradiction) | (exfalso; simp_all; done) | (try simp at h)) | omega)
      simp [gc, closeN, liveA, gcV, gcO, renA, renAs, renO, namesAs, namesA, namesO, posn, hL]
  rintro st rfl
  clear hL
  have cp := s_ParseReq_ok (GG := GG) l (by omega)
  generalize specW l = p at *
  cases p with
  | none =>
    have : outL none r l = [] := by simp [outL]
    rw [this]
    repeat' (first | refine W_seq ?_ | refine W_skip ?_ | refine W_block ?_ | refine W_exit ?_ | refine pick_pos rfl ?_ | refine pick_neg rfl ?_ | ((first | refine W_regP fun K hK => ?_ | refine W_regPD fun K hK => ?_ | refine W_ret ?_ | with_reducible refine callQ (cp) ?_); simp [Fin, zReq]) | (with_reducible refine hK _ ?_; clear hK K) | (with_reducible refine goL_split (fun h => ?_) (fun h => ?_) <;> first | (exfalso; simp at h; first | done | omega | contradiction) | ((try simp at h); simp [zReq])) | with_reducible refine And.intro ?_ ?_ | with_reducible exact okay_rfl rfl | with_reducible assumption | (refine W_cond rfl (fun h => ?_) (fun h => ?_) <;> first | (exfalso; simp at h; first | done | omega | contradiction) | (exfalso; simp_all; done) | (try simp at h)) | omega)
  | some q =>
    by_cases h : q = r
    · subst h
      have e : outL (some q) q l = l := by simp [outL]
      rw [e]
      repeat' (first | refine W_seq ?_ | refine W_skip ?_ | refine W_block ?_ | refine W_exit ?_ | refine pick_pos rfl ?_ | refine pick_neg rfl ?_ | ((first | refine W_regP fun K hK => ?_ | refine W_regPD fun K hK => ?_ | refine W_ret ?_ | with_reducible refine callQ (cp) ?_); simp [Fin]) | (with_reducible refine hK _ ?_; clear hK K) | (with_reducible refine goL_split (fun h => ?_) (fun h => ?_) <;> first | (exfalso; simp at h; first | done | omega | contradiction) | ((try simp at h); simp)) | with_reducible refine And.intro ?_ ?_ | with_reducible exact okay_rfl rfl | with_reducible assumption | (refine W_cond rfl (fun h => ?_) (fun h => ?_) <;> first | (exfalso; simp at h; first | done | omega | contradiction) | (exfalso; simp_all; done) | (try simp at h)) | omega)
    · have e : outL (some q) r l = [] := by simp [outL, h]
      rw [e]
      have e2 : decide (some q = some r) = false := by simp [h]
      rw [e2]
      have hx : (q.fKind = r.fKind → q.fToken = r.fToken → q.fName = r.fName → q.fPath = r.fPath → q.fData = r.fData → q.fNum = r.fNum → False) := fun a b c d e f => h (by cases q; cases r; simp_all)
      repeat' (first | refine W_seq ?_ | refine W_skip ?_ | refine W_block ?_ | refine W_exit ?_ | refine pick_pos rfl ?_ | refine pick_neg rfl ?_ | ((first | refine W_regP fun K hK => ?_ | refine W_regPD fun K hK => ?_ | refine W_ret ?_ | with_reducible refine callQ (cp) ?_); simp [Fin]) | (with_reducible refine hK _ ?_; clear hK K) | (with_reducible refine goL_split (fun h => ?_) (fun h => ?_) <;> first | (exfalso; simp at h; first | done | omega | contradiction) | ((try simp at h); simp)) | with_reducible refine And.intro ?_ ?_ | with_reducible exact okay_rfl rfl | with_reducible assumption | (refine W_cond rfl (fun h => ?_) (fun h => ?_) <;> first | (exfalso; simp at h; first | done | omega | contradiction) | (exfalso; simp_all; done) | (try simp at h)) | omega)
      all_goals (exfalso; simp at *; first | exact hx (by assumption) (by assumption) (by assumption) (by assumption) (by assumption) (by assumption) | simp_all)

theorem unF_cons {p q : List UInt8} {ps : List (List UInt8)} : unF (p :: q :: ps) = swp 32 61 p ++ 59 :: unF (q :: ps) := by simp [unF]

theorem unF_cut (b : List UInt8) : unF (cutAt 10 b) = swp 32 61 (swp 10 59 b) := by
  induction b with
  | nil => rfl
  | cons c b ih =>
    obtain ⟨p, ps, hp⟩ := cutAt_ne 10 b
    rw [hp] at ih
    unfold cutAt
    rw [hp]
    by_cases h : c = 10
    · subst h
      rw [if_pos rfl, unF_cons, ih]
      simp [swp]
    · rw [if_neg h]
      have : unF (headCons c (p :: ps)) = (if c = 32 then 61 else c) :: unF (p :: ps) := by simp [headCons, unF, swp]
      rw [this, ih]
      simp [swp, h]

theorem cut_snoc (b : List UInt8) : cutAt 10 (b ++ [10]) = cutAt 10 b ++ [[]] := by
  induction b with
  | nil => rfl
  | cons c b ih =>
    obtain ⟨p, ps, hp⟩ := cutAt_ne 10 b
    simp only [List.cons_append, cutAt]
    rw [ih, hp]
    by_cases h : c = 10
    · rw [if_pos h, if_pos h]; rfl
    · rw [if_neg h, if_neg h]; rfl

theorem trim_snoc (b : List UInt8) : Lib.trimSuffix (b ++ [10]) [10] = b := by simp [Lib.trimSuffix, Lib.hasSuffix]

def goodR (r : GReq) : Prop := fitS r ∧ (r.fKind = 0 → r.fData = [] ∨ ∃ b, r.fData = b ++ [10])

theorem line_same {r : GReq} (h : goodR r) : lineI r = lineS r := by
  obtain ⟨_, h0⟩ := h
  obtain ⟨kd, tk, nm, pa, da, nu⟩ := r
  dsimp only at h0
  by_cases hk : 0 ≤ kd ∧ kd ≤ 15
  · obtain ⟨k, rfl⟩ : ∃ k : Nat, kd = k := ⟨kd.toNat, by omega⟩
    have hk : k ≤ 15 := by omega
    have hz : k = 0 ∨ k = 1 ∨ k = 2 ∨ k = 3 ∨ k = 4 ∨ k = 5 ∨ k = 6 ∨ k = 7 ∨ k = 8 ∨ k = 9 ∨ k = 10 ∨ k = 11 ∨ k = 12 ∨ k = 13 ∨ k = 14 ∨ k = 15 := by omega
    rcases hz with rfl | rfl | rfl | rfl | rfl | rfl | rfl | rfl | rfl | rfl | rfl | rfl | rfl | rfl | rfl | rfl
    · rcases h0 rfl with rfl | ⟨b, rfl⟩
      · simp [lineI, lineS, formsL, verbsL, shortV, lineF, verbF, headF, wordI, wordS, unrul, optW]
      · have hu : unrul (b ++ [10]) = swp 32 61 (swp 10 59 b) := by
          unfold unrul
          rw [if_neg (by simp), cut_snoc, List.dropLast_concat, unF_cut]
        simp [lineI, lineS, formsL, verbsL, shortV, lineF, verbF, headF, wordI, wordS, hu, trim_snoc]
    all_goals simp [lineI, lineS, formsL, verbsL, shortV, lineF, verbF, headF, wordI, wordS]
  · have h1 : (decide (0 ≤ kd) && decide (kd ≤ 15)) = false := by rw [Bool.eq_false_iff]; simp; omega
    have h2 : (decide (11 ≤ kd) && decide (kd ≤ 15)) = false := by rw [Bool.eq_false_iff]; simp; omega
    have h3 : (decide (0 ≤ kd) && decide (kd ≤ 10)) = false := by rw [Bool.eq_false_iff]; simp; omega
    unfold lineI lineS
    dsimp only
    rw [h1, h2, h3, if_neg (show ¬ kd = 14 by omega)]
    simp

theorem fixP_len {p : List UInt8} (h : ¬ lastP p p.length < 0) : (fixP p).length = p.length + 1 := by
  rcases lastP_range p p.length (Nat.le_refl _) with e | ⟨j, e, hj, _⟩
  · omega
  · unfold fixP
    rw [e]
    simp
    omega

theorem fixP_end (p : List UInt8) : ∃ b, fixP p = b ++ [10] := ⟨_, rfl⟩

def sumC : List (List UInt8) → Nat
  | [] => 0
  | p :: r => p.length + 1 + sumC r

theorem sumC_cut (c : UInt8) (s : List UInt8) : sumC (cutAt c s) = s.length + 1 := by
  induction s with
  | nil => rfl
  | cons b s ih =>
    obtain ⟨p, ps, hp⟩ := cutAt_ne c s
    unfold cutAt
    rw [hp] at ih ⊢
    split
    · simp only [sumC, List.length_cons, List.length_nil] at ih ⊢; omega
    · simp only [headCons, sumC, List.length_cons] at ih ⊢; omega

theorem polP_len2 : ∀ {l : List (List UInt8)} {d : List UInt8}, polP l = some d → d.length = sumC l ∧ (l ≠ [] → ∃ b, d = b ++ [10]) := by
  intro l
  induction l with
  | nil => intro d h; simp only [polP] at h; cases h; exact ⟨rfl, fun h => (h rfl).elim⟩
  | cons p r ih =>
    intro d h
    simp only [polP] at h
    split at h
    · cases h
    · rename_i hp
      obtain ⟨e, he, rfl⟩ := Option.map_eq_some_iff.1 h
      obtain ⟨h1, h2⟩ := ih he
      refine ⟨by rw [List.length_append, fixP_len hp, h1]; simp only [sumC], fun _ => ?_⟩
      by_cases hr : r = []
      · subst hr
        simp only [polP] at he
        cases he
        obtain ⟨b, hb⟩ := fixP_end p
        exact ⟨b, by simp [hb]⟩
      · obtain ⟨b, rfl⟩ := h2 hr
        exact ⟨fixP p ++ b, by simp⟩

theorem word_len {w : List UInt8} (h : wordB w = true) : w.length ≤ 100 := by
  unfold wordB inB at h
  simp only [Bool.and_eq_true, decide_eq_true_eq] at h
  omega

def goodK (k : Int) (r : GReq) : Prop := fitS r ∧ r.fKind = k ∧ (k = 0 → r.fData = [] ∨ ∃ b, r.fData = b ++ [10])

theorem takeW_good {k : Int} {c : UInt8} {r r' : GReq} {w : List UInt8} (h : takeW k c r w = some r') (hr : goodK k r) : goodK k r' := by
  have hw := word_len (take_word h)
  obtain ⟨⟨h1, h2, h3⟩, h4, h5⟩ := hr
  unfold takeW at h
  split at h
  · cases hn : numW w with
    | none => rw [hn] at h; cases h
    | some n => rw [hn] at h; cases h; exact ⟨⟨h1, h2, h3⟩, h4, h5⟩
  split at h
  · cases h
  split at h
  · cases h; exact ⟨⟨h1, hw, h3⟩, h4, h5⟩
  split at h
  · cases h; exact ⟨⟨hw, h2, h3⟩, h4, h5⟩
  split at h
  · cases h; exact ⟨⟨h1, h2, h3⟩, h4, h5⟩
  split at h
  · cases h; exact ⟨⟨h1, hw, h3⟩, h4, h5⟩
  split at h
  · cases hp : polP (cutAt 59 w) with
    | none => rw [hp] at h; cases h
    | some d =>
      rw [hp] at h; cases h
      obtain ⟨e1, e2⟩ := polP_len2 hp
      rw [sumC_cut] at e1
      obtain ⟨p, ps, hps⟩ := cutAt_ne 59 w
      exact ⟨⟨h1, h2, by show d.length ≤ _; omega⟩, h4, fun _ => .inr (e2 (by rw [hps]; simp))⟩
  · rename_i hk
    cases h; exact ⟨⟨h1, h2, by show w.length ≤ _; omega⟩, h4, fun e => (hk e).elim⟩

theorem takeAll_good {k : Int} : ∀ (cs : List UInt8) (ws : List (List UInt8)) (r r' : GReq), takeAll k r cs ws = some r' → goodK k r → goodK k r' := by
  intro cs
  induction cs with
  | nil => intro ws r r' h hr; cases ws <;> (simp only [takeAll] at h; cases h; exact hr)
  | cons c cs ih =>
    intro ws r r' h hr
    cases ws with
    | nil => simp only [takeAll] at h; cases h; exact hr
    | cons w ws =>
      simp only [takeAll] at h
      cases ht : takeW k c r w with
      | none => rw [ht] at h; cases h
      | some q => rw [ht] at h; exact ih ws q r' h (takeW_good ht hr)

theorem desk_good {l : List UInt8} {r : GReq} (h : deskW l = some r) : goodR r := by
  unfold deskW at h
  split at h
  · cases h
  · unfold deskU at h
    dsimp only at h
    split at h
    · cases h
    · obtain ⟨h1, h2, h3⟩ := takeAll_good _ _ _ _ h ⟨⟨by simp, by simp, by simp⟩, rfl, fun _ => .inl rfl⟩
      exact ⟨h1, fun e => h3 (by rw [← h2, e])⟩

theorem line_law (r : GReq) : outL (deskW (lineI r)) r (lineI r) = outL (backS r) r (lineS r) ∧ decide (deskW (lineI r) = some r) = decide (backS r = some r) := by
  by_cases hg : goodR r
  · have e := line_same hg
    unfold backS
    rw [if_pos hg.1, desk_spec, e]
    exact ⟨rfl, rfl⟩
  · have h1 : ¬ deskW (lineI r) = some r := fun h => hg (desk_good h)
    have h2 : ¬ backS r = some r := by
      unfold backS
      split
      · rw [desk_spec]; exact fun h => hg (desk_good h)
      · simp
    unfold outL
    rw [if_neg h1, if_neg h2, decide_eq_false h1, decide_eq_false h2]
    exact ⟨rfl, rfl⟩

@[simp] theorem binA_strgeq (s t : List UInt8) : binA .str .geq (.d (.str s)) (.d (.str t)) = out (.d (.bool (!(Go.Op.bytesLess s t)))) := id rfl

@[simp] theorem binA_strlss (s t : List UInt8) : binA .str .lss (.d (.str s)) (.d (.str t)) = out (.d (.bool (Go.Op.bytesLess s t))) := id rfl

@[simp] theorem binA_strleq (s t : List UInt8) : binA .str .leq (.d (.str s)) (.d (.str t)) = out (.d (.bool (Go.Op.bytesLess s t || s == t))) := id rfl

@[simp] theorem binA_strgtr (s t : List UInt8) : binA .str .gtr (.d (.str s)) (.d (.str t)) = out (.d (.bool (!(Go.Op.bytesLess s t || s == t)))) := id rfl

/-- What Script makes of the lines of its requests. -/
def scrL : List (List UInt8 × Bool) → List UInt8 → List UInt8 × Bool
  | [], acc => (acc, true)
  | (l, ok) :: r, acc => if ok = true ∧ acc.length + l.length < 5000 then scrL r (acc ++ l ++ [10]) else ([], false)

/-- Old blocks stand. -/
structure Kp (B : Nat) (w w' : World) : Prop where
  os : w'.os = w.os
  output : w'.output = w.output
  size : w.heap.size ≤ w'.heap.size
  block : ∀ k, k < B → w'.heap[k]? = w.heap[k]?

open Go.RowKit in
theorem Kp_of {B : Nat} {w w' : World} (h : Below B w w') : Kp B w w' := ⟨h.os, h.output, h.size, h.block⟩

theorem Kp_trans {B : Nat} {w w' w'' : World} (h : Kp B w w') (k : Kp B w' w'') : Kp B w w'' :=
  ⟨k.os.trans h.os, k.output.trans h.output, Nat.le_trans h.size k.size, fun i hi => (k.block i hi).trans (h.block i hi)⟩

theorem Kp_cell {B : Nat} {w w' : World} (h : Kp B w w') {b o : Nat} (hb : b < B) : w'.cell? ⟨b, o, none⟩ = w.cell? ⟨b, o, none⟩ := by
  unfold World.cell?; rw [h.block b hb]

theorem builderAt_kept {T e : TypeId} {B b : Nat} {p : Value} {bs : List Value} {w w' : World} (hb : ∀ b, b < w.heap.size → w'.heap[b]? = w.heap[b]?) (h : Lib.BuilderAt T e B b p bs w) : Lib.BuilderAt T e B b p bs w' := by
  obtain ⟨hB, v, hbk, hown, hne⟩ := h
  refine ⟨hB, v, (hb b (Array.getElem?_eq_some_iff.1 hbk).1).trans hbk, ⟨hown.1, ?_⟩, hne⟩
  rcases hown.2 with hn | ⟨g, cap, cur, rfl, hg, hgg, rest⟩
  · exact .inl hn
  · exact .inr ⟨g, cap, cur, rfl, hg, (hb g (Array.getElem?_eq_some_iff.1 hgg).1).trans hgg, rest⟩

theorem isBuilder_kept {T e : TypeId} {B b : Nat} {bs : List Value} {w w' : World} (hb : ∀ b, b < w.heap.size → w'.heap[b]? = w.heap[b]?) (h : Lib.IsBuilder T e B b bs w) : Lib.IsBuilder T e B b bs w' :=
  h.imp (builderAt_kept hb) (builderAt_kept hb)

/-- A contract whose arguments own nothing, at a world of a walk. -/
theorem valid_walk {GG : GV} {f : FuncId} {c : C} {s : List UInt8} {t : Bool} (h : Valid PP GG f [c] (.tup [.d (.str s), .d (.bool t)]) [none]) (w : World) (B : Nat) (hB : B ≤ w.heap.size) (v : Value)
    (hG : ∀ b p, GG b = some p → b < B ∧ ∃ ob, w.heap[b]? = some ob ∧ p ob) (hv : ∀ Fz, RC w Fz c v (fun _ _ => False)) :
    Calls PP f #[v] w fun e w' => e = .returned (.tuple #[.string ⟨s.toArray⟩, .bool t]) ∧ Kp w.heap.size w w' := by
  refine (h.2 w #[v] (fun b _ => b < B) (fun _ _ _ => False) (fun b p hb => ⟨fun _ => (hG b p hb).1, (hG b p hb).2⟩) (fun b o h => Nat.lt_of_lt_of_le h hB) ⟨rfl, fun m c' hm => ?_, fun _ _ _ _ _ _ _ h => h.elim⟩ (fun _ _ _ _ h => h.elim)).mono ?_
  · match m, hm with
    | 0, hm => cases hm; exact hv _
    | m + 1, hm => simp at hm
  · rintro e w' ⟨v', Fz', U', rfl, hp⟩
    have hr := hp.res
    generalize U' 0 = S0 at hr
    cases hr with
    | tup _ vs T _ hl hs _ _ =>
      have h0 := hs 0 _ rfl
      have h1 := hs 1 _ rfl
      have e1 : vs = #[vs.getD 0 Go.undef, vs.getD 1 Go.undef] := by
        apply Array.ext
        · simpa using hl
        · intro i h1 h2
          simp at hl h2
          match i, h2 with
          | 0, _ => simp [hl]
          | 1, _ => simp [hl]
      generalize vs.getD 0 Go.undef = v0 at *
      generalize vs.getD 1 Go.undef = v1 at *
      generalize T 0 = T0 at h0
      generalize T 1 = T1 at h1
      cases h0 with | d _ _ _ h0 _ => ?_
      cases h1 with | d _ _ _ h1 _ => ?_
      cases h0
      cases h1
      rw [e1]
      exact ⟨rfl, hp.side.1, hp.side.2, hp.size, fun k hk => hp.blk k hk fun o ⟨_, _, h⟩ => h⟩

theorem cat_list (l : List UInt8) : ((⟨l.toArray⟩ : ByteArray) ++ ⟨#[10]⟩).data.toList = l ++ [10] := by
  rw [ByteArray.data_append]; simp

theorem cat_size (l : List UInt8) : ((⟨l.toArray⟩ : ByteArray) ++ ⟨#[10]⟩).size = l.length + 1 := by
  rw [ByteArray.size_append]; rfl

theorem rc_req (x : GReq) {w : World} {Fz : PSet} : RC w Fz (.agg x.c) (.agg #[.int .i64 x.fKind, .int .i64 x.fToken, .string ⟨x.fName.toArray⟩, .string ⟨x.fPath.toArray⟩, .string ⟨x.fData.toArray⟩, .int .i64 x.fNum]) (fun _ _ => False) := by
  refine .agg _ _ (fun _ _ _ => False) _ rfl (fun m c hm => ?_) (fun m c hm => ?_) (fun _ _ _ _ _ _ _ h => h.elim) (fun x y => ⟨fun h => h.elim, fun ⟨_, _, h⟩ => h⟩)
  · match m, hm with
    | 0, _ => rfl
    | 1, _ => rfl
    | 2, _ => rfl
    | 3, _ => rfl
    | 4, _ => rfl
    | 5, _ => rfl
    | m + 6, hm => simp at hm
  · match m, hm with
    | 0, hm => cases hm; exact .d _ _ _ (.int _ _) fun _ _ h => h
    | 1, hm => cases hm; exact .d _ _ _ (.int _ _) fun _ _ h => h
    | 2, hm => cases hm; exact .d _ _ _ (.str _) fun _ _ h => h
    | 3, hm => cases hm; exact .d _ _ _ (.str _) fun _ _ h => h
    | 4, hm => cases hm; exact .d _ _ _ (.str _) fun _ _ h => h
    | 5, hm => cases hm; exact .d _ _ _ (.int _ _) fun _ _ h => h
    | m + 6, hm => simp at hm

set_option maxHeartbeats 4000000 in
set_option maxRecDepth 1000000 in
open Go.RowKit in
theorem script_walk {GG : GV} (f : GReq → List UInt8 × Bool) (a : List GReq) (hF : ∀ x, x ∈ a → Valid PP GG 12 [.agg x.c] (.tup [.d (.str (f x).1), .d (.bool (f x).2)]) [none])
    (hlen : ∀ x, x ∈ a → (f x).1.length ≤ 1073741824) (h120 : a.length ≤ 120) (b off cap : Nat) (w : World) (hG : ∀ b p, GG b = some p → b < w.heap.size ∧ ∃ ob, w.heap[b]? = some ob ∧ p ob) (hb : b < w.heap.size)
    (hc : ∀ (k : Nat) x, a[k]? = some x → w.cell? ⟨b, off + k * 6, none⟩ = some (.int .i64 x.fKind) ∧ w.cell? ⟨b, off + k * 6 + 1, none⟩ = some (.int .i64 x.fToken) ∧ w.cell? ⟨b, off + k * 6 + 2, none⟩ = some (.string ⟨x.fName.toArray⟩) ∧
      w.cell? ⟨b, off + k * 6 + 3, none⟩ = some (.string ⟨x.fPath.toArray⟩) ∧ w.cell? ⟨b, off + k * 6 + 4, none⟩ = some (.string ⟨x.fData.toArray⟩) ∧ w.cell? ⟨b, off + k * 6 + 5, none⟩ = some (.int .i64 x.fNum)) :
    Calls PP 7 #[.slice (some ⟨b, off, none⟩) a.length cap] w fun e w' => e = .returned (.tuple #[.string ⟨(scrL (a.map f) []).1.toArray⟩, .bool (scrL (a.map f) []).2]) ∧ Kp w.heap.size w w' := by
  unfold PP
  go_enter Tryd.func7, Tryd.ntmps7
  go_wp2
  go_loopw [14] (fun i wr => ∃ (k : Nat) (acc : List UInt8), k ≤ a.length ∧ i = .int .i64 k ∧ acc.length ≤ 5000 ∧ Lib.IsBuilder 39 5 w.heap.size w.heap.size (Lib.byteCells acc) wr ∧ Kp w.heap.size w wr ∧ scrL ((a.drop k).map f) acc = scrL (a.map f) []) (fun i _ => a.length - (intOf i).toNat)
  case atStart => exact ⟨0, [], Nat.zero_le _, rfl, by simp, Lib.fresh_isBuilder 39 5 w, Kp_of ((Below.refl _ w).alloc (Nat.le_refl _) _), rfl⟩
  case round =>
    obtain ⟨k, acc, hk, rfl, hacc, hI, hkp, hscr⟩ := hrel
    by_cases hlt : k < a.length
    · have hx := List.getElem?_eq_getElem hlt
      have hm := List.getElem_mem hlt
      have hdr : a.drop k = a[k] :: a.drop (k + 1) := List.drop_eq_getElem_cons hlt
      generalize a[k] = x at hx hm hdr
      obtain ⟨c0, c1, c2, c3, c4, c5⟩ := hc k x hx
      rw [← Kp_cell hkp hb] at c0 c1 c2 c3 c4 c5
      have hv := hF x hm
      have hl := hlen x hm
      rw [hdr, List.map_cons] at hscr
      rcases hfx : f x with ⟨l, ok⟩
      rw [hfx] at hv hl hscr
      simp only at hv hl
      have hS1 := Lib.alloc_old wr (.cells #[.int .i64 x.fKind, .int .i64 x.fToken, .string ⟨x.fName.toArray⟩, .string ⟨x.fPath.toArray⟩, .string ⟨x.fData.toArray⟩, .int .i64 x.fNum] 34)
      have hkb : Kp w.heap.size w (wr.alloc (.cells #[.int .i64 x.fKind, .int .i64 x.fToken, .string ⟨x.fName.toArray⟩, .string ⟨x.fPath.toArray⟩, .string ⟨x.fData.toArray⟩, .int .i64 x.fNum] 34)) := Kp_trans hkp (Kp_of ((Below.refl _ wr).alloc hkp.size _))
      go_wp2_with (go_at_call 12; refine (valid_walk (GG := GG) hv _ w.heap.size hkb.size _ (fun b p hb => ⟨(hG b p hb).1, ?_⟩) (fun Fz => ?_)).mono ?_)
      · obtain ⟨h1, ob, h2, h3⟩ := hG b p hb
        exact ⟨ob, (hkb.block b h1).trans h2, h3⟩
      · exact rc_req x
      rintro e W2 ⟨rfl, hk2⟩
      have hk2' : Kp w.heap.size w W2 := Kp_trans hkb ⟨hk2.os, hk2.output, hk2.size, fun i hi => hk2.block i (Nat.lt_of_lt_of_le hi hkb.size)⟩
      have hI2 := isBuilder_kept hk2.block (isBuilder_kept hS1 hI)
      cases ok with
      | false =>
        go_wp2
        go_ret2
        rw [← hscr]
        exact ⟨by simp [scrL], hk2'⟩
      | true =>
        go_wp2_with (go_at_call 13; refine (Go.Proofs.YtgoknpcippfjbaaDoor.Tryd.Builder_Len w.heap.size w.heap.size _ _ hI2).mono ?_)
        rintro e W3 ⟨rfl, rfl⟩
        have hbl : (Lib.byteCells acc).length = acc.length := Lib.byteCells_length acc
        rw [hbl]
        by_cases h5 : acc.length + l.length < 5000
        · go_wp2_with (go_at_call 14; refine (Go.Proofs.YtgoknpcippfjbaaDoor.Tryd.Builder_WriteString w.heap.size w.heap.size _ _ _ hI2 ?_ hk2'.size).mono ?_)
          · rw [hbl, cat_size]; omega
          rintro e W4 ⟨rfl, h4, hb4⟩
          go_wp2
          go_roundw
          case rel =>
            refine ⟨k + 1, acc ++ l ++ [10], by omega, by simp, by simp; omega, ?_, Kp_trans hk2' (Kp_of hb4), ?_⟩
            · rw [Lib.strCells_eq, ← Lib.byteCells_append, cat_list] at h4
              rw [List.append_assoc]
              exact Or.inr h4
            · rw [← hscr]; simp [scrL, h5]
          case measure => simp [intOf]; omega
        · go_wp2
          go_ret2
          rw [← hscr]
          exact ⟨by simp [scrL, h5], hk2'⟩
    · go_wp2_with (go_at_call 15; refine (Go.Proofs.YtgoknpcippfjbaaDoor.Tryd.Builder_String_any w.heap.size w.heap.size acc _ hI hkp.size).mono ?_)
      rintro e W2 ⟨rfl, hb2⟩
      go_wp2
      go_ret2
      have hka : k = a.length := by omega
      subst hka
      simp [scrL] at hscr
      rw [← hscr]
      exact ⟨rfl, Kp_trans hkp (Kp_of hb2)⟩

set_option maxHeartbeats 4000000 in
set_option maxRecDepth 1000000 in
open Go.RowKit in
theorem script_nil (ao : Option Addr) (cap : Nat) (w : World) : Calls PP 7 #[.slice ao 0 cap] w fun e w' => e = .returned (.tuple #[.string ⟨#[]⟩, .bool true]) ∧ Kp w.heap.size w w' := by
  unfold PP
  go_enter Tryd.func7, Tryd.ntmps7
  go_wp2
  go_loopw [14] (fun i wr => i = .int .i64 0 ∧ Lib.IsBuilder 39 5 w.heap.size w.heap.size (Lib.byteCells []) wr ∧ Kp w.heap.size w wr) (fun _ _ => 0)
  case atStart => exact ⟨rfl, Lib.fresh_isBuilder 39 5 w, Kp_of ((Below.refl _ w).alloc (Nat.le_refl _) _)⟩
  case round =>
    obtain ⟨rfl, hI, hkp⟩ := hrel
    go_wp2_with (go_at_call 15; refine (Go.Proofs.YtgoknpcippfjbaaDoor.Tryd.Builder_String_any w.heap.size w.heap.size [] _ hI hkp.size).mono ?_)
    rintro e W2 ⟨rfl, hb2⟩
    go_wp2
    go_ret2
    exact ⟨rfl, Kp_trans hkp (Kp_of hb2)⟩

set_option maxHeartbeats 4000000 in
set_option maxRecDepth 1000000 in
open Go.RowKit in
theorem script_over (v : Value) (n : Nat) (hn : 120 < n) (ao : Option Addr) (cap : Nat) (hv : v = .slice ao n cap) (w : World) : Calls PP 7 #[v] w fun e w' => e = .returned (.tuple #[.string ⟨#[]⟩, .bool false]) ∧ Kp w.heap.size w w' := by
  subst hv
  unfold PP
  go_enter Tryd.func7, Tryd.ntmps7
  go_wp2
  go_ret2
  exact ⟨rfl, Kp_of (Below.refl _ w)⟩

/-- What Script returns. -/
def scrR (l : List (List UInt8 × Bool)) : List UInt8 × Bool := if 120 < l.length then ([], false) else scrL l []

theorem flat_rReq (a : List GReq) {k : Nat} {x : GReq} (h : a[k]? = some x) (j : Nat) (hj : j < 6) : (rReq a).flatten[k * 6 + j]? = x.row[j]? := by
  induction a generalizing k with
  | nil => simp at h
  | cons y a ih =>
    have e : (rReq (y :: a)).flatten = y.row ++ (rReq a).flatten := rfl
    rw [e]
    cases k with
    | zero => simp at h; subst h; rw [List.getElem?_append_left (by simp; omega)]; simp
    | succ k =>
      rw [List.getElem?_append_right (by simp; omega)]
      have := ih (by simpa using h)
      rw [← this]
      congr 1
      simp; omega

theorem i_Script_ok {GG : GV} (f : GReq → List UInt8 × Bool) (a : List GReq) (hF : ∀ x, x ∈ a → Valid PP GG 12 [.agg x.c] (.tup [.d (.str (f x).1), .d (.bool (f x).2)]) [none])
    (hlen : ∀ x, x ∈ a → (f x).1.length ≤ 1073741824) : Valid PP GG F_I_Script [.d (.slc 6 (rReq a))] (.tup [.d (.str (scrR (a.map f)).1), .d (.bool (scrR (a.map f)).2)]) [none] := by
  refine ⟨⟨Tryd.f7, Tryd.func7, by kernel_rfl, by kernel_rfl⟩, fun w args Fz U hG hFz hRC hap => ?_⟩
  obtain ⟨hl, hRC, _⟩ := hRC
  have h0 := hRC 0 _ rfl
  have e : args = #[args.getD 0 Go.undef] := by
    apply Array.ext
    · simpa using hl
    · intro i h1 h2
      have : i = 0 := by simp at h2; omega
      subst this
      simp [h1]
  generalize args.getD 0 Go.undef = v at e h0
  generalize U 0 = S0 at h0
  subst e
  cases h0 with | d _ _ _ hs _ => ?_
  have ho : ∀ (m : Nat) (c : C), ([none] : List (Option C))[m]? ≠ some (some c) := by
    intro m c
    match m with
    | 0 => simp
    | m + 1 => simp
  have fin : ∀ (s : List UInt8) (t : Bool) (e : Ending) (w' : World), (e = .returned (.tuple #[.string ⟨s.toArray⟩, .bool t]) ∧ Kp w.heap.size w w') →
      ∃ v' Fz' U', e = .returned v' ∧ Post w w' Fz Fz' (fun x y => ∃ i, i < 1 ∧ U i x y) #[v] v' (.tup [.d (.str s), .d (.bool t)]) [none] U' := by
    rintro s t e w' ⟨rfl, hk⟩
    obtain ⟨U', hp⟩ := grown_post (w := w) (w' := w') (Fz := Fz) (args := #[v]) (v := .tuple #[.string ⟨s.toArray⟩, .bool t]) (r := .tup [.d (.str s), .d (.bool t)]) (os := [none]) hFz ⟨hk.os, hk.output⟩ hk.size hk.block (rc_two (.str _) (.bool _)) ho (fun x y => ∃ i, i < 1 ∧ U i x y)
    exact ⟨_, _, U', rfl, hp⟩
  have hGw : ∀ b p, GG b = some p → b < w.heap.size ∧ ∃ ob, w.heap[b]? = some ob ∧ p ob := by
    intro b p h
    obtain ⟨_, ob, h1, h2⟩ := hG b p h
    exact ⟨(Array.getElem?_eq_some_iff.1 h1).1, ob, h1, h2⟩
  have key : Calls PP F_I_Script #[v] w fun e w' => e = .returned (.tuple #[.string ⟨(scrR (a.map f)).1.toArray⟩, .bool (scrR (a.map f)).2]) ∧ Kp w.heap.size w w' := by
    rcases shr_slc_inv hs with ⟨ao, cap, rfl, he⟩ | ⟨b, off, cap, vs, rfl, hcap, hc⟩
    · have : a = [] := by cases a with | nil => rfl | cons => simp [rReq] at he
      subst this
      exact script_nil ao cap w
    · rw [rReq_len]
      by_cases hn : 120 < a.length
      · have e : scrR (a.map f) = ([], false) := if_pos (by simpa using hn)
        rw [e]
        exact script_over _ a.length hn _ cap rfl w
      · have e : scrR (a.map f) = scrL (a.map f) [] := if_neg (by simpa using hn)
        rw [e]
        by_cases h0 : a = []
        · subst h0; exact script_nil _ cap w
        have hcell : ∀ (k : Nat) x, a[k]? = some x → ∀ j d, x.row[j]? = some d → w.cell? (at_ b (off + (k * 6 + j))) = some (vs (k * 6 + j)) ∧ Shr w Fz (vs (k * 6 + j)) d := by
          intro k x hx j d hd
          exact hc (k * 6 + j) d (by rw [flat_rReq a hx j (by have := (List.getElem?_eq_some_iff.1 hd).1; simpa using this)]; exact hd)
        have hsc : ∀ (k : Nat) x, a[k]? = some x → w.cell? ⟨b, off + k * 6, none⟩ = some (.int .i64 x.fKind) ∧ w.cell? ⟨b, off + k * 6 + 1, none⟩ = some (.int .i64 x.fToken) ∧ w.cell? ⟨b, off + k * 6 + 2, none⟩ = some (.string ⟨x.fName.toArray⟩) ∧
            w.cell? ⟨b, off + k * 6 + 3, none⟩ = some (.string ⟨x.fPath.toArray⟩) ∧ w.cell? ⟨b, off + k * 6 + 4, none⟩ = some (.string ⟨x.fData.toArray⟩) ∧ w.cell? ⟨b, off + k * 6 + 5, none⟩ = some (.int .i64 x.fNum) := by
          intro k x hx
          have g : ∀ j d (u : Value), x.row[j]? = some d → (∀ v, Shr w Fz v d → v = u) → w.cell? ⟨b, off + k * 6 + j, none⟩ = some u := by
            intro j d u hd hu
            obtain ⟨h1, h2⟩ := hcell k x hx j d hd
            rw [hu _ h2] at h1
            rw [← h1]
            show w.cell? _ = w.cell? _
            congr 1
            simp [at_]; omega
          exact ⟨g 0 _ _ rfl fun v h => by cases h; rfl, g 1 _ _ rfl fun v h => by cases h; rfl, g 2 _ _ rfl fun v h => by cases h; rfl, g 3 _ _ rfl fun v h => by cases h; rfl, g 4 _ _ rfl fun v h => by cases h; rfl, g 5 _ _ rfl fun v h => by cases h; rfl⟩
        have hbl : b < w.heap.size := by
          cases a with
          | nil => exact absurd rfl h0
          | cons x r => exact cell_lt (hsc 0 x rfl).1
        exact script_walk f a hF hlen (by omega) b off cap w hGw hbl hsc
  exact key.mono (fin _ _)

theorem s_Script_ok {GG : GV} (f : GReq → List UInt8 × Bool) (a : List GReq) (hF : ∀ x, x ∈ a → Valid PP GG F_S_ReqLine [.agg x.c] (.tup [.d (.str (f x).1), .d (.bool (f x).2)]) [none])
    (hlen : ∀ x, x ∈ a → (f x).1.length ≤ 1073741824) (ha : a.length ≤ 1099511627776) : Valid PP GG F_S_Script [.d (.slc 6 (rReq a))] (.tup [.d (.str (scrR (a.map f)).1), .d (.bool (scrR (a.map f)).2)]) [none] := by
  refine v_S_Script [.d (.str (scrR (a.map f)).1), .d (.bool (scrR (a.map f)).2)] rfl rfl ?_
  by_cases hn : 120 < a.length
  · have e : scrR (a.map f) = ([], false) := if_pos (by simpa using hn)
    have hd : decide ((120 : Int) < a.length) = true := decide_eq_true (by omega)
    rw [e]
    repeat' (first | refine W_seq ?_ | refine W_skip ?_ | refine W_block ?_ | refine W_exit ?_ | refine pick_pos rfl ?_ | refine pick_neg rfl ?_ | ((first | refine W_regP fun K hK => ?_ | refine W_regPD fun K hK => ?_ | refine W_ret ?_); simp [Fin, hd]) | (with_reducible refine hK _ ?_; clear hK K) | (with_reducible refine goL_split (fun h => ?_) (fun h => ?_) <;> first | (exfalso; simp at h; first | done | omega | contradiction) | ((try simp at h); simp [hd])) | with_reducible refine And.intro ?_ ?_ | with_reducible exact okay_rfl rfl | with_reducible assumption | (refine W_cond rfl (fun h => ?_) (fun h => ?_) <;> first | (exfalso; simp at h; first | done | omega | contradiction) | (exfalso; simp_all; done) | (try simp at h)) | omega)
  have e : scrR (a.map f) = scrL (a.map f) [] := if_neg (by simpa using hn)
  have hd : decide ((120 : Int) < a.length) = false := decide_eq_false (by omega)
  rw [e]
  repeat' (first | refine W_seq ?_ | refine W_skip ?_ | refine W_block ?_ | refine W_exit ?_ | refine pick_pos rfl ?_ | refine pick_neg rfl ?_ | ((first | refine W_regP fun K hK => ?_ | refine W_regPD fun K hK => ?_ | refine W_ret ?_); simp [Fin, hd]) | (with_reducible refine hK _ ?_; clear hK K) | (with_reducible refine goL_split (fun h => ?_) (fun h => ?_) <;> first | (exfalso; simp at h; first | done | omega | contradiction) | ((try simp at h); simp [hd])) | with_reducible refine And.intro ?_ ?_ | with_reducible exact okay_rfl rfl | with_reducible assumption | (refine W_cond rfl (fun h => ?_) (fun h => ?_) <;> first | (exfalso; simp at h; first | done | omega | contradiction) | (exfalso; simp_all; done) | (try simp at h)) | omega)
  refine W_loop (fun n st => ∃ (i : Nat) (acc : List UInt8), n = a.length - i ∧ i ≤ a.length ∧ acc.length ≤ 5000 ∧ scrL ((a.drop i).map f) acc = scrL (a.map f) [] ∧
    st = ⟨[], [(0, .d (.slc 6 (rReq a))), (4, .d (.str acc)), (5, .d (.int .i64 i))], [], 0⟩) _ ⟨0, [], rfl, by omega, by simp, rfl, ?_⟩ ?_
  · simp [gc, closeN, liveA, gcV, gcO, renA, renAs, renO, namesAs, namesA, namesO, posn]
  rintro n st ⟨i, acc, rfl, hi, hacc, hscr, rfl⟩
  by_cases hlt : i < a.length
  · have hx := List.getElem?_eq_getElem hlt
    have hm := List.getElem_mem hlt
    have hdr : a.drop i = a[i] :: a.drop (i + 1) := List.drop_eq_getElem_cons hlt
    generalize a[i] = x at hx hm hdr
    have hv := hF x hm
    have hl := hlen x hm
    rw [hdr, List.map_cons] at hscr
    rcases hfx : f x with ⟨l, ok⟩
    rw [hfx] at hv hl hscr
    simp only at hv hl
    have w1 : IntKind.i64.wrap ((l.length : Int) + 1) = l.length + 1 := wrap_id (by omega) (by omega)
    have w2 : IntKind.i64.wrap ((5000 : Int) - acc.length) = 5000 - acc.length := wrap_id (by omega) (by omega)
    cases ok with
    | false =>
      have e2 : scrL (a.map f) [] = ([], false) := by rw [← hscr]; simp [scrL]
      rw [e2]
      repeat' (first | refine W_seq ?_ | refine W_skip ?_ | refine W_block ?_ | refine W_exit ?_ | refine pick_pos rfl ?_ | refine pick_neg rfl ?_ | ((first | refine W_regP fun K hK => ?_ | refine W_regPD fun K hK => ?_ | refine W_ret ?_ | with_reducible refine callQ (hv) ?_); simp [Fin, hx]) | (with_reducible refine hK _ ?_; clear hK K) | (with_reducible refine goL_split (fun h => ?_) (fun h => ?_) <;> first | (exfalso; simp at h; first | done | omega | contradiction) | ((try simp at h); simp [hx])) | with_reducible refine And.intro ?_ ?_ | with_reducible exact okay_rfl rfl | with_reducible assumption | (refine W_cond rfl (fun h => ?_) (fun h => ?_) <;> first | (exfalso; simp at h; first | done | omega | contradiction) | (exfalso; simp_all; done) | (try simp at h)) | omega)
    | true =>
      by_cases h5 : acc.length + l.length < 5000
      · have hd5 : decide ((5000 : Int) - acc.length < l.length + 1) = false := decide_eq_false (by omega)
        repeat' (first | refine W_seq ?_ | refine W_skip ?_ | refine W_block ?_ | refine W_exit ?_ | refine pick_pos rfl ?_ | refine pick_neg rfl ?_ | ((first | refine W_regP fun K hK => ?_ | refine W_regPD fun K hK => ?_ | refine W_ret ?_ | with_reducible refine callQ (hv) ?_); simp [Fin, hx, w1, w2, hd5]) | (with_reducible refine hK _ ?_; clear hK K) | (with_reducible refine goL_split (fun h => ?_) (fun h => ?_) <;> first | (exfalso; simp at h; first | done | omega | contradiction) | ((try simp at h); simp [hx, w1, w2, hd5])) | with_reducible refine And.intro ?_ ?_ | with_reducible exact okay_rfl rfl | with_reducible assumption | (refine W_cond rfl (fun h => ?_) (fun h => ?_) <;> first | (exfalso; simp at h; first | done | omega | contradiction) | (exfalso; simp_all; done) | (try simp at h)) | omega)
        · unfold maxStr; omega
        · unfold maxStr; omega
        refine ⟨a.length - (i + 1), by omega, i + 1, acc ++ (l ++ [10]), rfl, hlt, by simp; omega, ?_, ?_⟩
        · rw [← hscr]; simp [scrL, h5]
        · simp [gc, closeN, liveA, gcV, gcO, renA, renAs, renO, namesAs, namesA, namesO, posn]
          exact wrap_id (by omega) (by omega)
      · have hd5 : decide ((5000 : Int) - acc.length < l.length + 1) = true := decide_eq_true (by omega)
        have e2 : scrL (a.map f) [] = ([], false) := by rw [← hscr]; simp [scrL, h5]
        rw [e2]
        repeat' (first | refine W_seq ?_ | refine W_skip ?_ | refine W_block ?_ | refine W_exit ?_ | refine pick_pos rfl ?_ | refine pick_neg rfl ?_ | ((first | refine W_regP fun K hK => ?_ | refine W_regPD fun K hK => ?_ | refine W_ret ?_ | with_reducible refine callQ (hv) ?_); simp [Fin, hx, w1, w2, hd5]) | (with_reducible refine hK _ ?_; clear hK K) | (with_reducible refine goL_split (fun h => ?_) (fun h => ?_) <;> first | (exfalso; simp at h; first | done | omega | contradiction) | ((try simp at h); simp [hx, w1, w2, hd5])) | with_reducible refine And.intro ?_ ?_ | with_reducible exact okay_rfl rfl | with_reducible assumption | (refine W_cond rfl (fun h => ?_) (fun h => ?_) <;> first | (exfalso; simp at h; first | done | omega | contradiction) | (exfalso; simp_all; done) | (try simp at h)) | omega)
  · have hie : i = a.length := by omega
    subst hie
    have e2 : scrL (a.map f) [] = (acc, true) := by rw [← hscr]; simp [scrL]
    rw [e2]
    repeat' (first | refine W_seq ?_ | refine W_skip ?_ | refine W_block ?_ | refine W_exit ?_ | refine pick_pos rfl ?_ | refine pick_neg rfl ?_ | ((first | refine W_regP fun K hK => ?_ | refine W_regPD fun K hK => ?_ | refine W_ret ?_); simp [Fin]) | (with_reducible refine hK _ ?_; clear hK K) | (with_reducible refine goL_split (fun h => ?_) (fun h => ?_) <;> first | (exfalso; simp at h; first | done | omega | contradiction) | ((try simp at h); simp)) | with_reducible refine And.intro ?_ ?_ | with_reducible exact okay_rfl rfl | with_reducible assumption | (refine W_cond rfl (fun h => ?_) (fun h => ?_) <;> first | (exfalso; simp at h; first | done | omega | contradiction) | (exfalso; simp_all; done) | (try simp at h)) | omega)

theorem line_len (r : GReq) (hr : reqM r) : (outL (backS r) r (lineS r)).length ≤ 1073741824 := by
  rw [← (line_law r).1]
  have := lineI_len r hr
  unfold outL
  split
  · omega
  · simp

theorem law_Script [P10 GG] [ESyn GG] [ERng GG] [MaxL GG] (a : List GReq) (hlen : a.length ≤ maxLen) (hx : ∀ x, x ∈ a → x.ok) : Valid PP GG F_L_FnExactScript [.d (.slc 6 (rReq a))] (.d (.bool true)) [none] := by
  refine v_L_FnExactScript [.d (.bool true)] rfl rfl ?_
  have cz := szReqS_g (GG := GG) a 1048576 hlen hx (by omega)
  by_cases hl : ((a.length + sumBy GReq.cost a : Nat) : Int) ≤ 1048576
  · have hlr : leftR (a.length + sumBy GReq.cost a) 1048576 = 1048576 - ((a.length + sumBy GReq.cost a : Nat) : Int) := if_pos hl
    rw [hlr] at cz
    generalize hz : (1048576 : Int) - ((a.length + sumBy GReq.cost a : Nat) : Int) = z at cz
    have hneg : decide (z < 0) = false := decide_eq_false (by omega)
    have ct := toReqS_g (GG := GG) a (by omega)
    have ce := eqReqS_g (GG := GG) a a (by omega) (by omega)
    rw [decide_eq_true rfl] at ce
    have hm : ∀ x, x ∈ a → reqM x := by
      intro x hxa
      have h1 := sumBy_mem (f := GReq.cost) hxa
      have hco : x.cost = x.fName.length + x.fPath.length + x.fData.length := rfl
      have hr := hx x hxa
      exact ⟨hr.2.1, hr.2.2.2.2.2, by omega, by omega, by omega⟩
    have cs := s_Script_ok (GG := GG) (fun r => (outL (backS r) r (lineS r), decide (backS r = some r))) a (fun x hxa => s_ReqLine_ok x (hm x hxa)) (fun x hxa => line_len x (hm x hxa)) (by omega)
    have ci := i_Script_ok (GG := GG) (fun r => (outL (backS r) r (lineS r), decide (backS r = some r))) a (fun x hxa => by
      have h := i_ReqLine_ok (GG := GG) x (hm x hxa)
      obtain ⟨e1, e2⟩ := line_law x
      rw [e1, e2] at h
      exact h) (fun x hxa => line_len x (hm x hxa))
    generalize scrR (a.map fun r => (outL (backS r) r (lineS r), decide (backS r = some r))) = q at *
    obtain ⟨l, b⟩ := q
    repeat' (first | refine W_seq ?_ | refine W_skip ?_ | refine W_block ?_ | refine W_exit ?_ | refine pick_pos rfl ?_ | refine pick_neg rfl ?_ | ((first | refine W_regP fun K hK => ?_ | refine W_regPD fun K hK => ?_ | refine W_ret ?_ | with_reducible refine callQ (cz) ?_ | with_reducible refine callQ (ct) ?_ | with_reducible refine callQ (cs) ?_ | with_reducible refine callQ (ci) ?_ | with_reducible refine callQ (ce) ?_); simp [Fin, hneg]) | (with_reducible refine hK _ ?_; clear hK K) | (with_reducible refine goL_split (fun h => ?_) (fun h => ?_) <;> first | (exfalso; simp at h; first | done | omega | contradiction) | ((try simp at h); simp [hneg])) | with_reducible refine And.intro ?_ ?_ | with_reducible exact okay_rfl rfl | with_reducible assumption | (refine W_cond rfl (fun h => ?_) (fun h => ?_) <;> first | (exfalso; simp at h; first | done | omega | contradiction) | (exfalso; simp_all; done) | (try simp at h)) | omega)
  · have hlr : leftR (a.length + sumBy GReq.cost a) 1048576 = -1 := if_neg hl
    rw [hlr] at cz
    repeat' (first | refine W_seq ?_ | refine W_skip ?_ | refine W_block ?_ | refine W_exit ?_ | refine pick_pos rfl ?_ | refine pick_neg rfl ?_ | ((first | refine W_regP fun K hK => ?_ | refine W_regPD fun K hK => ?_ | refine W_ret ?_ | with_reducible refine callQ (cz) ?_); simp [Fin]) | (with_reducible refine hK _ ?_; clear hK K) | (with_reducible refine goL_split (fun h => ?_) (fun h => ?_) <;> first | (exfalso; simp at h; first | done | omega | contradiction) | ((try simp at h); simp)) | with_reducible refine And.intro ?_ ?_ | with_reducible exact okay_rfl rfl | with_reducible assumption | (refine W_cond rfl (fun h => ?_) (fun h => ?_) <;> first | (exfalso; simp at h; first | done | omega | contradiction) | (exfalso; simp_all; done) | (try simp at h)) | omega)


end Go.Proofs.YtgoknpcippfjbaaDoor.Ab

