/-
  A part of a proof about the given program; what is proved is said where each theorem stands.
-/
import Derived.Test.YtmihpclfdicfkaaDoorFrameA
import Derived.Test.YtmihpclfdicfkaaDoorFrameB
import Derived.Test.YtmihpclfdicfkaaDoorFrameC
import Derived.Test.YtmihpclfdicfkaaDoorFrameD
import Derived.Test.YtmihpclfdicfkaaDoorFrameE
import Derived.Test.YtmihpclfdicfkaaDoorShelf
import Derived.Test.YtmihpclfdicfkaaDoorCodesA
import Derived.Test.YtmihpclfdicfkaaDoorCodesB
import Derived.Test.YtmihpclfdicfkaaDoorPartA
namespace Go.Proofs
end Go.Proofs
set_option linter.unusedSimpArgs false
set_option linter.unusedVariables false
set_option maxRecDepth 100000
set_option maxHeartbeats 2000000
namespace Go.Proofs.YtmihpclfdicfkaaDoor.Ab
open Go.Proofs
variable {GG : GV}
theorem l01Parts_ok (s : List UInt8) (c : UInt8) (hs : s.length ≤ 4194304) : Valid PP GG F_S_l01Parts [.d (.str s), .d (.int .u8 c.toNat)] (.own 0 1 (strsD (cutAt c s))) [none, none] := by
  refine v_S_l01Parts [.own 0 1 (strsD (cutAt c s))] rfl rfl ?_
  refine W_seq (?_)
  apply W_regS
  · intro K hK
    simp
    repeat' (first | with_reducible exact hK | (with_reducible refine goL_split (fun _ => ?_) (fun _ => ?_) <;> simp) | with_reducible refine And.intro ?_ ?_ | with_reducible exact okay_rfl rfl | with_reducible assumption | omega)
  refine W_seq (?_)
  apply W_regS
  · intro K hK
    simp [litA]
    repeat' (first | with_reducible exact hK | (with_reducible refine goL_split (fun _ => ?_) (fun _ => ?_) <;> simp [litA]) | with_reducible refine And.intro ?_ ?_ | with_reducible exact okay_rfl rfl | with_reducible assumption | omega)
  refine W_seq (?_)
  apply W_regS
  · intro K hK
    simp
    repeat' (first | with_reducible exact hK | (with_reducible refine goL_split (fun _ => ?_) (fun _ => ?_) <;> simp) | with_reducible refine And.intro ?_ ?_ | with_reducible exact okay_rfl rfl | with_reducible assumption | omega)
  refine W_seq (W_seq (?_))
  apply W_regS
  · intro K hK
    simp
    repeat' (first | with_reducible exact hK | (with_reducible refine goL_split (fun _ => ?_) (fun _ => ?_) <;> simp) | with_reducible refine And.intro ?_ ?_ | with_reducible exact okay_rfl rfl | with_reducible assumption | omega)
  refine W_block (W_loop (fun n st => ∃ (i a : Nat) (o : List (List UInt8)), n = s.length + 1 - i ∧ o.length ≤ i ∧ a ≤ i ∧ (i ≤ s.length ∧ cutAt c s = o ++ headApp ((s.take i).drop a) (cutAt c (s.drop i)) ∨ i = s.length + 1 ∧ cutAt c s = o) ∧
    st = ⟨[], [(0, .d (.str s)), (1, .d (.int .u8 c.toNat)), (5, .sl 0), (6, .d (.int .i64 a)), (7, .d (.int .i64 i))], [(0, .arr 0 0 1 (strsD o))], 1⟩) _ ⟨0, 0, [], rfl, by simp, by omega, .inl ⟨by omega, by simp [headApp_nil]⟩, rfl⟩ ?_)
  rintro n st ⟨i, a, o, rfl, hol, hai, hinv, rfl⟩
  refine W_seq (W_seq (?_))
  apply W_regS
  · intro K hK
    simp
    repeat' (first | with_reducible exact hK | (with_reducible refine goL_split (fun _ => ?_) (fun _ => ?_) <;> simp) | with_reducible refine And.intro ?_ ?_ | with_reducible exact okay_rfl rfl | with_reducible assumption | omega)
  refine W_cond rfl (fun h => W_skip ?_) (fun h => W_exit ?_)
  · rw [h]
    simp at h
    obtain ⟨_, hcut⟩ := hinv.resolve_right (by omega)
    clear hinv
    have hw : IntKind.i64.wrap ((i : Int) + 1) = ((i + 1 : Nat) : Int) := by rw [wrap_id (by omega) (by omega)]; omega
    have t1 : ((a : Int)).toNat = a := by omega
    have t2 : ((i : Int)).toNat = i := by omega
    refine W_seq (W_block (W_seq ?_))
    by_cases hend : i = s.length
    · subst hend
      refine W_regB 25 (true) (fun K hK => ?_) ?_
      · simp
        repeat' (first | exact hK _ _ (by clear hK; first | omega | (exact decide_eq_false (by omega)) | (exact decide_eq_true (by omega)) | (exact (decide_eq_true (by omega)).symm) | (exact (decide_eq_false (by omega)).symm) | (exact decide_eq_decide.2 (by omega)) | (simp only [← decide_not]; exact decide_eq_decide.2 (by omega)) | (simp [*]; done) | (simp [*]; omega) | (simp_all; done) | (simp_all; omega) | (rw [Bool.eq_iff_iff]; simp at *; omega)) | (with_reducible refine goL_split (fun _ => ?_) (fun _ => ?_) <;> simp) | with_reducible refine And.intro ?_ ?_ | with_reducible exact okay_rfl rfl | with_reducible assumption | omega)
      refine W_cond rfl (fun h2 => W_seq ?_) (fun h2 => ?_)
      rotate_left
      · cases h2
      apply W_regS
      · intro K hK
        simp [t1, t2, limit]
        repeat' (first | with_reducible exact hK | (with_reducible refine goL_split (fun _ => ?_) (fun _ => ?_) <;> simp [t1, t2, limit]) | with_reducible refine And.intro ?_ ?_ | with_reducible exact okay_rfl rfl | with_reducible assumption | omega)
      apply W_regS
      · intro K hK
        simp [hw]
        repeat' (first | with_reducible exact hK | (with_reducible refine goL_split (fun _ => ?_) (fun _ => ?_) <;> simp [hw]) | with_reducible refine And.intro ?_ ?_ | with_reducible exact okay_rfl rfl | with_reducible assumption | omega)
      apply W_regS
      · intro K hK
        simp [hw]
        repeat' (first | with_reducible exact hK | (with_reducible refine goL_split (fun _ => ?_) (fun _ => ?_) <;> simp [hw]) | with_reducible refine And.intro ?_ ?_ | with_reducible exact okay_rfl rfl | with_reducible assumption | omega)
      refine ⟨s.length + 1 - (s.length + 1), by omega, s.length + 1, s.length + 1, o ++ [(s.take s.length).drop a], rfl, by simp; omega, by omega, .inr ⟨by omega, ?_⟩, by simp [gc, closeN, liveA, gcV, gcO, renA, renO, namesAs, namesA, namesO, posn, strsD]⟩
      rw [hcut, List.drop_length]
      simp [cutAt, headApp]
    · have ha := List.getElem?_eq_getElem (show i < s.length by omega)
      generalize s[i]'_ = x at ha
      have hd := getD_of ha
      have hdr := drop_get ha
      by_cases hx : x = c
      · subst hx
        refine W_regB 25 (true) (fun K hK => ?_) ?_
        · simp [hd]
          repeat' (first | exact hK _ _ (by clear hK; first | omega | (exact decide_eq_false (by omega)) | (exact decide_eq_true (by omega)) | (exact (decide_eq_true (by omega)).symm) | (exact (decide_eq_false (by omega)).symm) | (exact decide_eq_decide.2 (by omega)) | (simp only [← decide_not]; exact decide_eq_decide.2 (by omega)) | (simp [*]; done) | (simp [*]; omega) | (simp_all; done) | (simp_all; omega) | (rw [Bool.eq_iff_iff]; simp at *; omega)) | (with_reducible refine goL_split (fun _ => ?_) (fun _ => ?_) <;> simp [hd]) | with_reducible refine And.intro ?_ ?_ | with_reducible exact okay_rfl rfl | with_reducible assumption | omega)
        refine W_cond rfl (fun h2 => W_seq ?_) (fun h2 => ?_)
        rotate_left
        · cases h2
        apply W_regS
        · intro K hK
          simp [t1, t2, limit]
          repeat' (first | with_reducible exact hK | (with_reducible refine goL_split (fun _ => ?_) (fun _ => ?_) <;> simp [t1, t2, limit]) | with_reducible refine And.intro ?_ ?_ | with_reducible exact okay_rfl rfl | with_reducible assumption | omega)
        apply W_regS
        · intro K hK
          simp [hw]
          repeat' (first | with_reducible exact hK | (with_reducible refine goL_split (fun _ => ?_) (fun _ => ?_) <;> simp [hw]) | with_reducible refine And.intro ?_ ?_ | with_reducible exact okay_rfl rfl | with_reducible assumption | omega)
        apply W_regS
        · intro K hK
          simp [hw]
          repeat' (first | with_reducible exact hK | (with_reducible refine goL_split (fun _ => ?_) (fun _ => ?_) <;> simp [hw]) | with_reducible refine And.intro ?_ ?_ | with_reducible exact okay_rfl rfl | with_reducible assumption | omega)
        refine ⟨s.length + 1 - (i + 1), by omega, i + 1, i + 1, o ++ [(s.take i).drop a], rfl, by simp; omega, by omega, .inl ⟨by omega, ?_⟩, by simp [gc, closeN, liveA, gcV, gcO, renA, renO, namesAs, namesA, namesO, posn, strsD]⟩
        have hnil : (s.take (i + 1)).drop (i + 1) = [] := List.drop_eq_nil_of_le (by rw [List.length_take]; omega)
        rw [hcut, hdr, headApp_hit, hnil]
        simp
      · have hx2 : x.toNat ≠ c.toNat := fun e => hx (UInt8.toNat_inj.1 e)
        refine W_regB 25 (false) (fun K hK => ?_) ?_
        · simp [hd]
          repeat' (first | exact hK _ _ (by clear hK; first | omega | (exact decide_eq_false (by omega)) | (exact decide_eq_true (by omega)) | (exact (decide_eq_true (by omega)).symm) | (exact (decide_eq_false (by omega)).symm) | (exact decide_eq_decide.2 (by omega)) | (simp only [← decide_not]; exact decide_eq_decide.2 (by omega)) | (simp [*]; done) | (simp [*]; omega) | (simp_all; done) | (simp_all; omega) | (rw [Bool.eq_iff_iff]; simp at *; omega)) | (with_reducible refine goL_split (fun _ => ?_) (fun _ => ?_) <;> simp [hd]) | with_reducible refine And.intro ?_ ?_ | with_reducible exact okay_rfl rfl | with_reducible assumption | omega)
        refine W_cond rfl (fun h2 => ?_) (fun h2 => W_skip ?_)
        · cases h2
        apply W_regS
        · intro K hK
          simp [hw]
          repeat' (first | with_reducible exact hK | (with_reducible refine goL_split (fun _ => ?_) (fun _ => ?_) <;> simp [hw]) | with_reducible refine And.intro ?_ ?_ | with_reducible exact okay_rfl rfl | with_reducible assumption | omega)
        refine ⟨s.length + 1 - (i + 1), by omega, i + 1, a, o, rfl, by omega, by omega, .inl ⟨by omega, ?_⟩, by simp [gc, closeN, liveA, gcV, gcO, renA, renO, namesAs, namesA, namesO, posn, strsD]⟩
        rw [hcut, hdr, headApp_miss hx, take_drop_snoc ha hai]
  · simp at h
    obtain ⟨_, hcut⟩ := hinv.resolve_left (by omega)
    rw [if_pos rfl]
    subst hcut
    refine W_seq (?_)
    apply W_regS
    · intro K hK
      simp
      repeat' (first | with_reducible exact hK | (with_reducible refine goL_split (fun _ => ?_) (fun _ => ?_) <;> simp) | with_reducible refine And.intro ?_ ?_ | with_reducible exact okay_rfl rfl | with_reducible assumption | omega)
    refine W_ret ?_
    simp [Fin]
    all_goals omega

theorem range_no {p : Nat → Bool} {n i : Nat} (h : i < n) (hp : p i = false) : (List.range n).all p = false := by
  rw [List.all_eq_false]; exact ⟨i, by simpa using h, by simp [hp]⟩

theorem s_GlobOk_ok (s : List UInt8) (hs : s.length ≤ 4194304) : Valid PP GG F_S_GlobOk [.d (.str s)] (.d (.bool (globOk s))) [none] := by
  refine v_S_GlobOk [.d (.bool (globOk s))] rfl rfl ?_
  refine W_seq (?_)
  apply W_regS
  · intro K hK
    simp
    repeat' (first | with_reducible exact hK | (with_reducible refine goL_split (fun _ => ?_) (fun _ => ?_) <;> simp) | with_reducible refine And.intro ?_ ?_ | with_reducible exact okay_rfl rfl | with_reducible assumption | omega)
  refine W_seq (W_seq (?_))
  apply W_regS
  · intro K hK
    simp
    repeat' (first | with_reducible exact hK | (with_reducible refine goL_split (fun _ => ?_) (fun _ => ?_) <;> simp) | with_reducible refine And.intro ?_ ?_ | with_reducible exact okay_rfl rfl | with_reducible assumption | omega)
  refine W_cond rfl (fun h => W_seq ?_) (fun h => W_skip ?_)
  · simp at h
    apply W_regS
    · intro K hK
      simp
      repeat' (first | with_reducible exact hK | (with_reducible refine goL_split (fun _ => ?_) (fun _ => ?_) <;> simp) | with_reducible refine And.intro ?_ ?_ | with_reducible exact okay_rfl rfl | with_reducible assumption | omega)
    have : globOk s = false := by unfold globOk; rw [decide_eq_false (by omega)]; rfl
    refine W_ret ?_
    simp [Fin, this]
    all_goals omega
  simp at h
  have cp : Valid PP GG F_S_l01Parts [.d (.str s), .d (.int .u8 47)] (.own 0 1 (strsD (cutAt 47 s))) [none, none] := l01Parts_ok s 47 hs
  have hg : globOk s = ((List.range (cutAt 47 s).length).all (segAt (cutAt 47 s)) && decide ((cutAt 47 s).length ≤ 8)) := by unfold globOk; rw [decide_eq_true (by omega)]; rfl
  have hml : ∀ x, x ∈ cutAt 47 s → x.length ≤ 4194304 := fun x hx => by have := cutAt_mem s hx; omega
  have hll := cutAt_len 47 s
  generalize cutAt 47 s = l at cp hg hml hll
  refine W_seq (?_)
  apply W_regS
  · intro K hK
    simp
    repeat' (first | with_reducible exact hK | (with_reducible refine callQ (cp) ?_; simp) | (with_reducible refine goL_split (fun _ => ?_) (fun _ => ?_) <;> simp) | with_reducible refine And.intro ?_ ?_ | with_reducible exact okay_rfl rfl | with_reducible assumption | omega)
  refine W_seq (W_seq (?_))
  apply W_regS
  · intro K hK
    simp
    repeat' (first | with_reducible exact hK | (with_reducible refine goL_split (fun _ => ?_) (fun _ => ?_) <;> simp) | with_reducible refine And.intro ?_ ?_ | with_reducible exact okay_rfl rfl | with_reducible assumption | omega)
  refine W_block (W_loop (fun n st => ∃ i : Nat, n = l.length - i ∧ i ≤ l.length ∧ (∀ j, j < i → segAt l j = true) ∧ st = ⟨[], [(3, .sl 0), (4, .d (.int .i64 i))], [(0, .arr 0 0 1 (strsD l))], 1⟩) _ ⟨0, rfl, by omega, fun j h => by omega, rfl⟩ ?_)
  rintro n st ⟨i, rfl, hi, hn, rfl⟩
  refine W_seq (W_seq (?_))
  apply W_regS
  · intro K hK
    simp
    repeat' (first | with_reducible exact hK | (with_reducible refine goL_split (fun _ => ?_) (fun _ => ?_) <;> simp) | with_reducible refine And.intro ?_ ?_ | with_reducible exact okay_rfl rfl | with_reducible assumption | omega)
  refine W_cond rfl (fun h => W_skip ?_) (fun h => W_exit ?_)
  · simp at h
    have ha := List.getElem?_eq_getElem h
    generalize l[i] = x at ha
    have ct := l01Segment_ok (GG := GG) x (by have := hml x (List.mem_of_getElem? ha); omega)
    have hseg : segAt l i = (segOk x || (x == [43]) || (x == [42] && decide (i + 1 = l.length))) := by unfold segAt; rw [ha]
    obtain ⟨p, hp⟩ : ∃ p, segOk x = p := ⟨_, rfl⟩
    obtain ⟨u, hu⟩ : ∃ p, (x == [43]) = p := ⟨_, rfl⟩
    obtain ⟨w, hw⟩ : ∃ p, (x == [42]) = p := ⟨_, rfl⟩
    rw [hp] at ct
    rw [hp, hu, hw] at hseg
    have hwl : IntKind.i64.wrap ((l.length : Int) - 1) = (l.length : Int) - 1 := wrap_id (by omega) (by omega)
    obtain ⟨z, hz⟩ : ∃ z, decide ((i : Int) = (l.length : Int) - 1) = z := ⟨_, rfl⟩
    have hz2 : decide (i + 1 = l.length) = z := by rw [← hz]; exact decide_eq_decide.2 (by omega)
    rw [hz2] at hseg
    have hzb : ((i : Int) == (l.length : Int) - 1) = z := by rw [← hz]; rfl
    refine W_seq (W_block (W_seq ?_))
    refine W_regB 43 (!(p || u || (w && z))) (fun K hK => ?_) ?_
    · simp [ha, hu, hw, hwl, hzb]
      repeat' (first | exact hK _ _ (by clear hK; first | omega | (exact decide_eq_false (by omega)) | (exact decide_eq_true (by omega)) | (exact (decide_eq_true (by omega)).symm) | (exact (decide_eq_false (by omega)).symm) | (exact decide_eq_decide.2 (by omega)) | (simp only [← decide_not]; exact decide_eq_decide.2 (by omega)) | (simp [*]; done) | (simp [*]; omega) | (simp_all; done) | (simp_all; omega) | (rw [Bool.eq_iff_iff]; simp at *; omega)) | (with_reducible refine callQ (ct) ?_; simp [ha, hu, hw, hwl, hzb]) | (with_reducible refine goL_split (fun _ => ?_) (fun _ => ?_) <;> simp [ha, hu, hw, hwl, hzb]) | with_reducible refine And.intro ?_ ?_ | with_reducible exact okay_rfl rfl | with_reducible assumption | omega)
    refine W_cond rfl (fun h2 => W_seq ?_) (fun h2 => W_skip ?_)
    · apply W_regS
      · intro K hK
        simp
        repeat' (first | with_reducible exact hK | (with_reducible refine goL_split (fun _ => ?_) (fun _ => ?_) <;> simp) | with_reducible refine And.intro ?_ ?_ | with_reducible exact okay_rfl rfl | with_reducible assumption | omega)
      have : globOk s = false := by
        rw [hg, range_no (i := i) (by omega) (by rw [hseg]; generalize (p || u || (w && z)) = q at h2 ⊢; cases q <;> simp_all), Bool.false_and]
      refine W_ret ?_
      simp [Fin, this]
      all_goals omega
    apply W_regS
    · intro K hK
      simp
      repeat' (first | with_reducible exact hK | (with_reducible refine goL_split (fun _ => ?_) (fun _ => ?_) <;> simp) | with_reducible refine And.intro ?_ ?_ | with_reducible exact okay_rfl rfl | with_reducible assumption | omega)
    refine ⟨l.length - (i + 1), by omega, i + 1, rfl, h, fun j hj => ?_, by simp [gc, closeN, liveA, gcV, gcO, renA, renO, namesAs, namesA, namesO, posn]; rw [wrap_id (by omega) (by omega)]⟩
    by_cases e : j = i
    · subst e; rw [hseg]; generalize (p || u || (w && z)) = q at h2 ⊢; cases q <;> simp_all
    · exact hn j (by omega)
  · simp at h
    rw [if_pos rfl]
    have hall : (List.range l.length).all (segAt l) = true := List.all_eq_true.2 fun j hj => hn j (by have := List.mem_range.1 hj; omega)
    refine W_seq (?_)
    apply W_regS
    · intro K hK
      simp
      repeat' (first | with_reducible exact hK | (with_reducible refine goL_split (fun _ => ?_) (fun _ => ?_) <;> simp) | with_reducible refine And.intro ?_ ?_ | with_reducible exact okay_rfl rfl | with_reducible assumption | omega)
    have : globOk s = decide ((l.length : Int) ≤ 8) := by rw [hg, hall, Bool.true_and]; exact decide_eq_decide.2 (by omega)
    refine W_ret ?_
    simp [Fin, this]
    all_goals omega

theorem s_PathOk_ok (s : List UInt8) (hs : s.length ≤ 4194304) : Valid PP GG F_S_PathOk [.d (.str s)] (.d (.bool (pathOk s))) [none] := by
  refine v_S_PathOk [.d (.bool (pathOk s))] rfl rfl ?_
  have cg := s_GlobOk_ok (GG := GG) s hs
  have hp : pathOk s = (globOk s && !s.any starB) := rfl
  generalize globOk s = g at cg hp
  refine W_seq (?_)
  apply W_regS
  · intro K hK
    simp
    repeat' (first | with_reducible exact hK | (with_reducible refine goL_split (fun _ => ?_) (fun _ => ?_) <;> simp) | with_reducible refine And.intro ?_ ?_ | with_reducible exact okay_rfl rfl | with_reducible assumption | omega)
  refine W_seq (W_seq (?_))
  apply W_regS
  · intro K hK
    simp
    repeat' (first | with_reducible exact hK | (with_reducible refine callQ (cg) ?_; simp) | (with_reducible refine goL_split (fun _ => ?_) (fun _ => ?_) <;> simp) | with_reducible refine And.intro ?_ ?_ | with_reducible exact okay_rfl rfl | with_reducible assumption | omega)
  refine W_cond rfl (fun h => W_seq ?_) (fun h => W_skip ?_)
  · simp at h
    subst h
    apply W_regS
    · intro K hK
      simp
      repeat' (first | with_reducible exact hK | (with_reducible refine goL_split (fun _ => ?_) (fun _ => ?_) <;> simp) | with_reducible refine And.intro ?_ ?_ | with_reducible exact okay_rfl rfl | with_reducible assumption | omega)
    refine W_ret ?_
    simp [Fin, hp]
    all_goals omega
  simp at h
  subst h
  refine W_seq (W_seq (?_))
  apply W_regS
  · intro K hK
    simp
    repeat' (first | with_reducible exact hK | (with_reducible refine goL_split (fun _ => ?_) (fun _ => ?_) <;> simp) | with_reducible refine And.intro ?_ ?_ | with_reducible exact okay_rfl rfl | with_reducible assumption | omega)
  refine W_block (W_loop (fun n st => ∃ i : Nat, n = s.length - i ∧ i ≤ s.length ∧ (∀ y, y ∈ s.take i → starB y = false) ∧ st = ⟨[], [(0, .d (.str s)), (3, .d (.int .i64 i))], [], 0⟩) _ ⟨0, rfl, by omega, fun y h => by simp at h, rfl⟩ ?_)
  rintro n st ⟨i, rfl, hi, hn, rfl⟩
  refine W_seq (W_seq (?_))
  apply W_regS
  · intro K hK
    simp
    repeat' (first | with_reducible exact hK | (with_reducible refine goL_split (fun _ => ?_) (fun _ => ?_) <;> simp) | with_reducible refine And.intro ?_ ?_ | with_reducible exact okay_rfl rfl | with_reducible assumption | omega)
  refine W_cond rfl (fun h => W_skip ?_) (fun h => W_exit ?_)
  · simp at h
    have ha := List.getElem?_eq_getElem h
    generalize s[i] = x at ha
    have hd := getD_of ha
    obtain ⟨v, hv⟩ : ∃ v, x.toNat = v := ⟨_, rfl⟩
    have hnb : starB x = decide (v = 43 ∨ v = 42) := by rw [← hv]; rfl
    refine W_seq (W_block (W_seq ?_))
    refine W_regB 22 (decide (v = 43 ∨ v = 42)) (fun K hK => ?_) ?_
    · simp [hd, hv]
      repeat' (first | exact hK _ _ (by clear hK; first | omega | (exact decide_eq_false (by omega)) | (exact decide_eq_true (by omega)) | (exact (decide_eq_true (by omega)).symm) | (exact (decide_eq_false (by omega)).symm) | (exact decide_eq_decide.2 (by omega)) | (simp only [← decide_not]; exact decide_eq_decide.2 (by omega)) | (simp [*]; done) | (simp [*]; omega) | (simp_all; done) | (simp_all; omega) | (rw [Bool.eq_iff_iff]; simp at *; omega)) | (with_reducible refine goL_split (fun _ => ?_) (fun _ => ?_) <;> simp [hd, hv]) | with_reducible refine And.intro ?_ ?_ | with_reducible exact okay_rfl rfl | with_reducible assumption | omega)
    refine W_cond rfl (fun h2 => W_seq ?_) (fun h2 => W_skip ?_)
    · rw [h2]
      apply W_regS
      · intro K hK
        simp
        repeat' (first | with_reducible exact hK | (with_reducible refine goL_split (fun _ => ?_) (fun _ => ?_) <;> simp) | with_reducible refine And.intro ?_ ?_ | with_reducible exact okay_rfl rfl | with_reducible assumption | omega)
      have : pathOk s = false := by rw [hp, any_yes ha (by rw [hnb]; exact h2)]; rfl
      refine W_ret ?_
      simp [Fin, this]
      all_goals omega
    rw [h2]
    apply W_regS
    · intro K hK
      simp
      repeat' (first | with_reducible exact hK | (with_reducible refine goL_split (fun _ => ?_) (fun _ => ?_) <;> simp) | with_reducible refine And.intro ?_ ?_ | with_reducible exact okay_rfl rfl | with_reducible assumption | omega)
    exact ⟨s.length - (i + 1), by omega, i + 1, rfl, h, take_all ha hn (by rw [hnb]; exact h2), by simp [gc, closeN, liveA, gcV, gcO, renA, namesAs, namesA]; rw [wrap_id (by omega) (by omega)]⟩
  · simp at h
    rw [if_pos rfl]
    rw [List.take_of_length_le h] at hn
    refine W_seq (?_)
    apply W_regS
    · intro K hK
      simp
      repeat' (first | with_reducible exact hK | (with_reducible refine goL_split (fun _ => ?_) (fun _ => ?_) <;> simp) | with_reducible refine And.intro ?_ ?_ | with_reducible exact okay_rfl rfl | with_reducible assumption | omega)
    have : pathOk s = true := by
      have e : s.any starB = false := by rw [List.any_eq_false]; intro y hy; simp [hn y hy]
      rw [hp, e]; rfl
    refine W_ret ?_
    simp [Fin, this]
    all_goals omega

theorem IndexByte_ok (al : List UInt8) (b : UInt8) : Valid PP GG 105 [.d (.str al), .d (.int .u8 b.toNat)] (.d (.int .i64 (Lib.indexByte al b))) [none, none] := by
  refine lib_new [.str al, .int .u8 b.toNat] ⟨Tryd.f105, Tryd.func105, by kernel_rfl, by kernel_rfl⟩ fun w Fz args hG hFz hl hA => ?_
  have e : args = #[.string ⟨al.toArray⟩, .int .u8 b.toNat] := by
    refine args_eq (l := [.string ⟨al.toArray⟩, .int .u8 b.toNat]) hl fun i v hv => ?_
    match i, hv with
    | 0, hv => cases hv; exact shr_str (hA 0 _ rfl)
    | 1, hv => cases hv; exact shr_int (hA 1 _ rfl)
  subst e
  refine (Go.Proofs.YtmihpclfdicfkaaDoor.Tryd.strings_IndexByte ⟨al.toArray⟩ b.toNat w).mono ?_
  rintro e w' ⟨rfl, rfl⟩
  have hb : ((b.toNat : Int).toNat).toUInt8 = b := by simp
  rw [hb]
  exact ⟨_, Fz, fun _ _ => False, rfl, ⟨rfl, rfl⟩, Nat.le_refl _, fun _ _ => rfl, fun _ _ h => h, fun b o h => ⟨.inl h, hFz b o h⟩, .d _ _ _ (.int _ _) fun _ _ h => h, fun _ _ h => h.elim⟩

theorem ContainsAny_ok (s c : List UInt8) (h1 : s.length < 4294967281) (h2 : c.length < 4294967281) (h3 : ∀ b, b ∈ s → b.toNat < 128) (h4 : ∀ b, b ∈ c → b.toNat < 128) :
    Valid PP GG 82 [.d (.str s), .d (.str c)] (.d (.bool (Lib.containsAny s c))) [none, none] := by
  refine lib_new [.str s, .str c] ⟨Tryd.f82, Tryd.func82, by kernel_rfl, by kernel_rfl⟩ fun w Fz args hG hFz hl hA => ?_
  have e : args = #[.string ⟨s.toArray⟩, .string ⟨c.toArray⟩] := by
    refine args_eq (l := [.string ⟨s.toArray⟩, .string ⟨c.toArray⟩]) hl fun i v hv => ?_
    match i, hv with
    | 0, hv => cases hv; exact shr_str (hA 0 _ rfl)
    | 1, hv => cases hv; exact shr_str (hA 1 _ rfl)
  subst e
  refine (Go.Proofs.YtmihpclfdicfkaaDoor.Tryd.strings_ContainsAny_laid ⟨s.toArray⟩ ⟨c.toArray⟩ w h1 h2 (fun j b hb => h3 b (List.mem_of_getElem? hb)) (fun j b hb => h4 b (List.mem_of_getElem? hb))).mono ?_
  rintro e w' ⟨rfl, hb⟩
  exact ⟨_, Fz, fun _ _ => False, rfl, ⟨hb.os, hb.output⟩, hb.size, fun b h => hb.block b h, fun _ _ h => h, fun b o h => ⟨.inl h, Nat.lt_of_lt_of_le (hFz b o h) hb.size⟩, .d _ _ _ (.bool _) fun _ _ h => h, fun _ _ h => h.elim⟩

theorem splitK_cons {b c : UInt8} (h : b ≠ c) : ∀ (k : Nat) (l : List UInt8), Lib.splitK [c] 0 k (b :: l) = headCons b (Lib.splitK [c] 0 k l) := by
  intro k l
  cases k with
  | zero => rfl
  | succ k =>
    have hp : ([c] : List UInt8).isPrefixOf (b :: l) = false := by simp [List.isPrefixOf, Ne.symm h]
    have hix : Lib.index (b :: l) [c] = if Lib.index l [c] == -1 then -1 else Lib.index l [c] + 1 := by rw [Lib.index, hp]; simp
    unfold Lib.splitK
    rw [hix]
    have hge := Lib.index_ge l [c]
    by_cases hm : Lib.index l [c] = -1
    · rw [hm]; simp [headCons]
    · obtain ⟨j, hj⟩ : ∃ j : Nat, Lib.index l [c] = j := ⟨(Lib.index l [c]).toNat, by omega⟩
      have h1 : ¬ ((j : Int) == -1) = true := fun e => by have := beq_iff_eq.1 e; omega
      have h2 : ¬ ((j : Int) + 1 == -1) = true := fun e => by have := beq_iff_eq.1 e; omega
      rw [hj, if_neg h1, if_neg h1, if_neg h2]
      have e1 : ((j : Int) + 1).toNat = j + 1 := by omega
      simp [headCons, e1]

theorem split_cut (c : UInt8) : ∀ s : List UInt8, Lib.splitK [c] 0 (Lib.count s [c]) s = cutAt c s := by
  intro s
  induction s with
  | nil => rw [Lib.count_one]; rfl
  | cons b r ih =>
    by_cases h : b = c
    · subst h
      have hix : Lib.index (b :: r) [b] = 0 := by rw [Lib.index]; simp [List.isPrefixOf]
      rw [Lib.count_cons_eq, show 1 + Lib.count r [b] = Lib.count r [b] + 1 by omega, Lib.splitK, hix, cutAt, if_pos rfl]
      simp [ih]
    · rw [Lib.count_cons_ne b c r h, splitK_cons h, ih, cutAt, if_neg h]

theorem Split_ok (s : List UInt8) (c : UInt8) [MaxL GG] (hs : s.length < 4294967281) : Valid PP GG 98 [.d (.str s), .d (.str [c])] (.d (.slc 1 (strsD (cutAt c s)))) [none, none] := by
  refine lib_new [.str s, .str [c]] ⟨Tryd.f98, Tryd.func98, by kernel_rfl, by kernel_rfl⟩ fun w Fz args hG hFz hl hA => ?_
  have e : args = #[.string ⟨s.toArray⟩, .string ⟨#[c]⟩] := by
    refine args_eq (l := [.string ⟨s.toArray⟩, .string ⟨#[c]⟩]) hl fun i v hv => ?_
    match i, hv with
    | 0, hv => cases hv; exact shr_str (hA 0 _ rfl)
    | 1, hv => cases hv; exact shr_str (hA 1 _ rfl)
  subst e
  obtain ⟨ob, h1, h2⟩ := hG 0 _ MaxL.h
  cases ob with
  | cells cs t fr =>
    obtain ⟨m, h3⟩ := h2
    refine (Go.Proofs.YtmihpclfdicfkaaDoor.Tryd.strings_Split ⟨s.toArray⟩ ⟨#[c]⟩ m w hs (by unfold World.cell?; simp [h1, h3]) (Nat.le_refl 1)).mono ?_
    rintro e w' ⟨rfl, rfl⟩
    have hcount : Lib.countB ⟨s.toArray⟩ ⟨#[c]⟩ = Lib.count s [c] := rfl
    have hsplit : (Lib.splitB ⟨#[c]⟩ 0 (Lib.countB ⟨s.toArray⟩ ⟨#[c]⟩) ⟨s.toArray⟩).map (·.data.toList) = cutAt c s := by
      rw [Lib.splitB_data, hcount]; exact split_cut c s
    have hlen : (cutAt c s).length = Lib.countB ⟨s.toArray⟩ ⟨#[c]⟩ + 1 := by
      rw [← hsplit, List.length_map, Lib.splitB_all ⟨#[c]⟩ (Nat.le_refl 1) 0 _ _ rfl]
    generalize Lib.countB ⟨s.toArray⟩ ⟨#[c]⟩ = k at hsplit hlen ⊢
    generalize hL : Lib.splitB ⟨#[c]⟩ 0 k ⟨s.toArray⟩ = L at hsplit ⊢
    have hLl : L.length = k + 1 := by rw [← hlen, ← hsplit, List.length_map]
    have hblk : ∀ b, b < w.heap.size → (w.alloc (.cells (L.map Value.string).toArray 9)).heap[b]? = w.heap[b]? := fun b hb => by
      show (w.heap.push _)[b]? = _
      rw [Array.getElem?_push_lt hb, Array.getElem?_eq_getElem hb]
    have hnew : (w.alloc (.cells (L.map Value.string).toArray 9)).heap[w.heap.size]? = some (.cells (L.map Value.string).toArray 9) := by
      show (w.heap.push _)[w.heap.size]? = _
      simp
    have hsz : (w.alloc (.cells (L.map Value.string).toArray 9)).heap.size = w.heap.size + 1 := by
      show (w.heap.push _).size = _
      simp
    refine ⟨_, fun b o => Fz b o ∨ b = w.heap.size, fun _ _ => False, rfl, ⟨rfl, rfl⟩, by omega, hblk, fun _ _ h => .inl h, fun b o h => ?_, .d _ _ _ ?_ fun _ _ h => h, fun _ _ h => h.elim⟩
    · rcases h with h | h
      · exact ⟨.inl h, by have := hFz b o h; omega⟩
      · exact ⟨.inr (by omega), by omega⟩
    · have hrows : (strsD (cutAt c s)).length = k + 1 := by simp [hlen]
      have hget : ∀ (m : Nat) (d : D), (strsD (cutAt c s)).flatten[m]? = some d → ∃ t : ByteArray, L[m]? = some t ∧ d = D.str t.data.toList := by
        intro m d hm
        rw [← hsplit] at hm
        have hf : (strsD (L.map (·.data.toList))).flatten = L.map fun t => D.str t.data.toList := by
          unfold strsD
          generalize L = M
          induction M with
          | nil => rfl
          | cons x M ih => simp only [List.map_cons, List.flatten_cons] at ih ⊢; rw [ih]; rfl
        rw [hf, List.getElem?_map] at hm
        cases ht : L[m]? with
        | none => rw [ht] at hm; cases hm
        | some t => rw [ht] at hm; cases hm; exact ⟨t, rfl, rfl⟩
      have hcell : ∀ (m : Nat) (t : ByteArray), L[m]? = some t → (w.alloc (.cells (L.map Value.string).toArray 9)).cell? (at_ w.heap.size (0 + m)) = some (.string t) := by
        intro m t ht
        unfold World.cell?
        rw [show (at_ w.heap.size (0 + m)).block = w.heap.size from rfl, hnew]
        simp [ht]
      have := Shr.slc (w := w.alloc (.cells (L.map Value.string).toArray 9)) (Fz := fun b o => Fz b o ∨ b = w.heap.size) w.heap.size 0 (k + 1) 1 (strsD (cutAt c s)) (fun m => match L[m]? with | some t => .string t | none => Go.undef)
        (fun r hr => by unfold strsD at hr; obtain ⟨x, _, rfl⟩ := List.mem_map.1 hr; rfl) (by omega)
        (fun m d hm => by
          obtain ⟨t, ht, _⟩ := hget m d hm
          exact ⟨by rw [hcell m t ht, ht], .inr rfl⟩)
        (fun m d hm => by
          obtain ⟨t, ht, rfl⟩ := hget m d hm
          rw [ht]
          exact Shr.str t.data.toList)
      rw [hrows] at this
      exact this
  | _ => exact h2.elim

theorem onlyOf_ok (s al : List UInt8) (hs : s.length ≤ 281474976710656) : Valid PP GG F_I_onlyOf [.d (.str s), .d (.str al)] (.d (.bool (s.all fun b => decide (0 ≤ Lib.indexByte al b)))) [none, none] := by
  refine v_I_onlyOf [.d (.bool (s.all fun b => decide (0 ≤ Lib.indexByte al b)))] rfl rfl ?_
  refine W_seq (?_)
  apply W_regS
  · intro K hK
    simp
    repeat' (first | with_reducible exact hK | (with_reducible refine goL_split (fun _ => ?_) (fun _ => ?_) <;> simp) | with_reducible refine And.intro ?_ ?_ | with_reducible exact okay_rfl rfl | with_reducible assumption | omega)
  refine W_seq (W_seq (?_))
  apply W_regS
  · intro K hK
    simp
    repeat' (first | with_reducible exact hK | (with_reducible refine goL_split (fun _ => ?_) (fun _ => ?_) <;> simp) | with_reducible refine And.intro ?_ ?_ | with_reducible exact okay_rfl rfl | with_reducible assumption | omega)
  refine W_block (W_loop (fun n st => ∃ i : Nat, n = s.length - i ∧ i ≤ s.length ∧ (∀ y, y ∈ s.take i → decide (0 ≤ Lib.indexByte al y) = true) ∧ st = ⟨[], [(0, .d (.str s)), (1, .d (.str al)), (7, .d (.int .i64 s.length)), (8, .d (.int .i64 i))], [], 0⟩) _ ⟨0, rfl, by omega, fun y h => by simp at h, rfl⟩ ?_)
  rintro n st ⟨i, rfl, hi, hn, rfl⟩
  refine W_seq (?_)
  apply W_regS
  · intro K hK
    simp
    repeat' (first | with_reducible exact hK | (with_reducible refine goL_split (fun _ => ?_) (fun _ => ?_) <;> simp) | with_reducible refine And.intro ?_ ?_ | with_reducible exact okay_rfl rfl | with_reducible assumption | omega)
  refine W_seq (?_)
  refine W_cond rfl (fun h => W_skip ?_) (fun h => W_exit ?_)
  · simp at h
    have ha := List.getElem?_eq_getElem h
    generalize s[i] = x at ha
    have hd := getD_of ha
    have ci := IndexByte_ok (GG := GG) al x
    refine W_seq (W_block (W_seq ?_))
    apply W_regS
    · intro K hK
      simp
      repeat' (first | with_reducible exact hK | (with_reducible refine goL_split (fun _ => ?_) (fun _ => ?_) <;> simp) | with_reducible refine And.intro ?_ ?_ | with_reducible exact okay_rfl rfl | with_reducible assumption | omega)
    obtain ⟨v, hv⟩ : ∃ v, Lib.indexByte al x = v := ⟨_, rfl⟩
    rw [hv] at ci
    refine W_seq (?_)
    apply W_regS
    · intro K hK
      simp [hd]
      repeat' (first | with_reducible exact hK | (with_reducible refine callQ (ci) ?_; simp [hd]) | (with_reducible refine goL_split (fun _ => ?_) (fun _ => ?_) <;> simp [hd]) | with_reducible refine And.intro ?_ ?_ | with_reducible exact okay_rfl rfl | with_reducible assumption | omega)
    refine W_cond rfl (fun h2 => W_seq ?_) (fun h2 => W_skip ?_)
    · simp at h2
      apply W_regS
      · intro K hK
        simp
        repeat' (first | with_reducible exact hK | (with_reducible refine goL_split (fun _ => ?_) (fun _ => ?_) <;> simp) | with_reducible refine And.intro ?_ ?_ | with_reducible exact okay_rfl rfl | with_reducible assumption | omega)
      have : (s.all fun b => decide (0 ≤ Lib.indexByte al b)) = false := all_no ha (decide_eq_false (by omega))
      refine W_ret ?_
      simp [Fin, this]
      all_goals omega
    simp at h2
    apply W_regS
    · intro K hK
      simp
      repeat' (first | with_reducible exact hK | (with_reducible refine goL_split (fun _ => ?_) (fun _ => ?_) <;> simp) | with_reducible refine And.intro ?_ ?_ | with_reducible exact okay_rfl rfl | with_reducible assumption | omega)
    exact ⟨s.length - (i + 1), by omega, i + 1, rfl, h, take_all ha hn (decide_eq_true (by omega)), by simp [gc, closeN, liveA, gcV, gcO, renA, namesAs, namesA]; rw [wrap_id (by omega) (by omega)]⟩
  · simp at h
    rw [if_pos rfl]
    rw [List.take_of_length_le h] at hn
    refine W_seq (?_)
    apply W_regS
    · intro K hK
      simp
      repeat' (first | with_reducible exact hK | (with_reducible refine goL_split (fun _ => ?_) (fun _ => ?_) <;> simp) | with_reducible refine And.intro ?_ ?_ | with_reducible exact okay_rfl rfl | with_reducible assumption | omega)
    have : (s.all fun b => decide (0 ≤ Lib.indexByte al b)) = true := List.all_eq_true.2 hn
    refine W_ret ?_
    simp [Fin, this]
    all_goals omega

def nameT : List UInt8 := [97, 98, 99, 100, 101, 102, 103, 104, 105, 106, 107, 108, 109, 110, 111, 112, 113, 114, 115, 116, 117, 118, 119, 120, 121, 122, 48, 49, 50, 51, 52, 53, 54, 55, 56, 57]

theorem segT_is (b : UInt8) : decide (0 ≤ Lib.indexByte (nameT ++ [45]) b) = segB b := by
  revert b; exact u8_all (p := fun b => decide (0 ≤ Lib.indexByte (nameT ++ [45]) b) = segB b) (by decide +kernel)

theorem onlySeg_ok (s : List UInt8) (hs : s.length ≤ 281474976710656) : Valid PP GG F_I_onlyOf [.d (.str s), .d (.str (nameT ++ [45]))] (.d (.bool (s.all segB))) [none, none] := by
  have h := onlyOf_ok (GG := GG) s (nameT ++ [45]) hs
  rw [show (fun b => decide (0 ≤ Lib.indexByte (nameT ++ [45]) b)) = segB from funext segT_is] at h
  exact h

theorem isGlob_ok [MaxL GG] (s : List UInt8) (hs : s.length ≤ 4194304) : Valid PP GG F_I_isGlob [.d (.str s)] (.d (.bool (globOk s))) [none] := by
  refine v_I_isGlob [.d (.bool (globOk s))] rfl rfl ?_
  refine W_seq (?_)
  apply W_regS
  · intro K hK
    simp
    repeat' (first | with_reducible exact hK | (with_reducible refine goL_split (fun _ => ?_) (fun _ => ?_) <;> simp) | with_reducible refine And.intro ?_ ?_ | with_reducible exact okay_rfl rfl | with_reducible assumption | omega)
  refine W_seq (W_seq (?_))
  apply W_regS
  · intro K hK
    simp
    repeat' (first | with_reducible exact hK | (with_reducible refine goL_split (fun _ => ?_) (fun _ => ?_) <;> simp) | with_reducible refine And.intro ?_ ?_ | with_reducible exact okay_rfl rfl | with_reducible assumption | omega)
  refine W_cond rfl (fun h => W_seq ?_) (fun h => W_skip ?_)
  · simp at h
    apply W_regS
    · intro K hK
      simp
      repeat' (first | with_reducible exact hK | (with_reducible refine goL_split (fun _ => ?_) (fun _ => ?_) <;> simp) | with_reducible refine And.intro ?_ ?_ | with_reducible exact okay_rfl rfl | with_reducible assumption | omega)
    have : globOk s = false := by unfold globOk; rw [decide_eq_false (by omega)]; rfl
    refine W_ret ?_
    simp [Fin, this]
    all_goals omega
  simp at h
  have cp := Split_ok (GG := GG) s 47 (by omega)
  have hg : globOk s = ((List.range (cutAt 47 s).length).all (segAt (cutAt 47 s)) && decide ((cutAt 47 s).length ≤ 8)) := by unfold globOk; rw [decide_eq_true (by omega)]; rfl
  have hml : ∀ x, x ∈ cutAt 47 s → x.length ≤ 4194304 := fun x hx => by have := cutAt_mem s hx; omega
  have hll := cutAt_len 47 s
  generalize cutAt 47 s = l at cp hg hml hll
  refine W_seq (?_)
  apply W_regS
  · intro K hK
    simp
    repeat' (first | with_reducible exact hK | (with_reducible refine callQ (cp) ?_; simp) | (with_reducible refine goL_split (fun _ => ?_) (fun _ => ?_) <;> simp) | with_reducible refine And.intro ?_ ?_ | with_reducible exact okay_rfl rfl | with_reducible assumption | omega)
  refine W_seq (W_seq (?_))
  apply W_regS
  · intro K hK
    simp
    repeat' (first | with_reducible exact hK | (with_reducible refine goL_split (fun _ => ?_) (fun _ => ?_) <;> simp) | with_reducible refine And.intro ?_ ?_ | with_reducible exact okay_rfl rfl | with_reducible assumption | omega)
  refine W_block (W_loop (fun n st => ∃ i : Nat, n = l.length - i ∧ i ≤ l.length ∧ (∀ j, j < i → segAt l j = true) ∧ st = ⟨[], [(3, .d (.slc 1 (strsD l))), (11, .d (.slc 1 (strsD l))), (12, .d (.int .i64 l.length)), (13, .d (.int .i64 i))], [], 0⟩) _ ⟨0, rfl, by omega, fun j h => by omega, rfl⟩ ?_)
  rintro n st ⟨i, rfl, hi, hn, rfl⟩
  refine W_seq (?_)
  apply W_regS
  · intro K hK
    simp
    repeat' (first | with_reducible exact hK | (with_reducible refine goL_split (fun _ => ?_) (fun _ => ?_) <;> simp) | with_reducible refine And.intro ?_ ?_ | with_reducible exact okay_rfl rfl | with_reducible assumption | omega)
  refine W_seq (?_)
  refine W_cond rfl (fun h => W_skip ?_) (fun h => W_exit ?_)
  · simp at h
    have ha := List.getElem?_eq_getElem h
    generalize l[i] = x at ha
    have hxl := hml x (List.mem_of_getElem? ha)
    have cw := within_ok (GG := GG) x.length 1 16
    have co := onlySeg_ok (GG := GG) x (by omega)
    simp only [nameT, List.cons_append, List.nil_append] at co
    have hseg : segAt l i = (segOk x || (x == [43]) || (x == [42] && decide (i + 1 = l.length))) := by unfold segAt; rw [ha]
    obtain ⟨p, hp⟩ : ∃ p, (decide (1 ≤ (x.length : Int)) && decide ((x.length : Int) ≤ 16)) = p := ⟨_, rfl⟩
    have hr : segOk x = (p && x.all segB) := by
      unfold segOk
      rw [← hp]
      congr 1
      rw [Bool.eq_iff_iff]; simp; omega
    rw [hp] at cw
    obtain ⟨q, hq⟩ : ∃ q, x.all segB = q := ⟨_, rfl⟩
    rw [hq] at co hr
    obtain ⟨u, hu⟩ : ∃ p, (x == [43]) = p := ⟨_, rfl⟩
    obtain ⟨w, hw⟩ : ∃ p, (x == [42]) = p := ⟨_, rfl⟩
    rw [hr, hu, hw] at hseg
    have hwl : IntKind.i64.wrap ((l.length : Int) - 1) = (l.length : Int) - 1 := wrap_id (by omega) (by omega)
    obtain ⟨z, hz⟩ : ∃ z, decide ((i : Int) = (l.length : Int) - 1) = z := ⟨_, rfl⟩
    have hz2 : decide (i + 1 = l.length) = z := by rw [← hz]; exact decide_eq_decide.2 (by omega)
    rw [hz2] at hseg
    have hzb : ((i : Int) == (l.length : Int) - 1) = z := by rw [← hz]; rfl
    have hnext : segAt l i = true → ∀ j, j < i + 1 → segAt l j = true := fun hh j hj => by
      by_cases e : j = i
      · subst e; exact hh
      · exact hn j (by omega)
    refine W_seq (W_block (W_seq ?_))
    apply W_regS
    · intro K hK
      simp [ha]
      repeat' (first | with_reducible exact hK | (with_reducible refine goL_split (fun _ => ?_) (fun _ => ?_) <;> simp [ha]) | with_reducible refine And.intro ?_ ?_ | with_reducible exact okay_rfl rfl | with_reducible assumption | omega)
    refine W_seq (W_seq (?_))
    refine W_regB 30 (u || (w && z)) (fun K hK => ?_) ?_
    · simp [hu, hw, hwl, hzb]
      repeat' (first | exact hK _ _ (by clear hK; first | omega | (exact decide_eq_false (by omega)) | (exact decide_eq_true (by omega)) | (exact (decide_eq_true (by omega)).symm) | (exact (decide_eq_false (by omega)).symm) | (exact decide_eq_decide.2 (by omega)) | (simp only [← decide_not]; exact decide_eq_decide.2 (by omega)) | (simp [*]; done) | (simp [*]; omega) | (simp_all; done) | (simp_all; omega) | (rw [Bool.eq_iff_iff]; simp at *; omega)) | (with_reducible refine goL_split (fun _ => ?_) (fun _ => ?_) <;> simp [hu, hw, hwl, hzb]) | with_reducible refine And.intro ?_ ?_ | with_reducible exact okay_rfl rfl | with_reducible assumption | omega)
    refine W_cond rfl (fun h2 => W_exit ?_) (fun h2 => W_skip ?_)
    · rw [if_pos rfl]
      apply W_regS
      · intro K hK
        simp
        repeat' (first | with_reducible exact hK | (with_reducible refine goL_split (fun _ => ?_) (fun _ => ?_) <;> simp) | with_reducible refine And.intro ?_ ?_ | with_reducible exact okay_rfl rfl | with_reducible assumption | omega)
      exact ⟨l.length - (i + 1), by omega, i + 1, rfl, h, hnext (by rw [hseg]; revert h2; cases u <;> cases w <;> cases z <;> simp), by simp [gc, closeN, liveA, gcV, gcO, renA, renO, namesAs, namesA, namesO, posn]; rw [wrap_id (by omega) (by omega)]⟩
    refine W_seq (?_)
    refine W_regB 39 (!(p && q)) (fun K hK => ?_) ?_
    · simp
      repeat' (first | exact hK _ _ (by clear hK; first | omega | (exact decide_eq_false (by omega)) | (exact decide_eq_true (by omega)) | (exact (decide_eq_true (by omega)).symm) | (exact (decide_eq_false (by omega)).symm) | (exact decide_eq_decide.2 (by omega)) | (simp only [← decide_not]; exact decide_eq_decide.2 (by omega)) | (simp [*]; done) | (simp [*]; omega) | (simp_all; done) | (simp_all; omega) | (rw [Bool.eq_iff_iff]; simp at *; omega)) | (with_reducible refine callQ (cw) ?_; simp) | (with_reducible refine callQ (co) ?_; simp) | (with_reducible refine goL_split (fun _ => ?_) (fun _ => ?_) <;> simp) | with_reducible refine And.intro ?_ ?_ | with_reducible exact okay_rfl rfl | with_reducible assumption | omega)
    refine W_cond rfl (fun h3 => W_seq ?_) (fun h3 => W_skip ?_)
    · apply W_regS
      · intro K hK
        simp
        repeat' (first | with_reducible exact hK | (with_reducible refine goL_split (fun _ => ?_) (fun _ => ?_) <;> simp) | with_reducible refine And.intro ?_ ?_ | with_reducible exact okay_rfl rfl | with_reducible assumption | omega)
      have : globOk s = false := by
        rw [hg, range_no (i := i) (by omega) (by rw [hseg]; revert h2 h3; cases u <;> cases w <;> cases z <;> cases p <;> cases q <;> simp), Bool.false_and]
      refine W_ret ?_
      simp [Fin, this]
      all_goals omega
    apply W_regS
    · intro K hK
      simp
      repeat' (first | with_reducible exact hK | (with_reducible refine goL_split (fun _ => ?_) (fun _ => ?_) <;> simp) | with_reducible refine And.intro ?_ ?_ | with_reducible exact okay_rfl rfl | with_reducible assumption | omega)
    exact ⟨l.length - (i + 1), by omega, i + 1, rfl, h, hnext (by rw [hseg]; revert h3; cases p <;> cases q <;> simp), by simp [gc, closeN, liveA, gcV, gcO, renA, renO, namesAs, namesA, namesO, posn]; rw [wrap_id (by omega) (by omega)]⟩
  · simp at h
    rw [if_pos rfl]
    have hall : (List.range l.length).all (segAt l) = true := List.all_eq_true.2 fun j hj => hn j (by have := List.mem_range.1 hj; omega)
    refine W_seq (?_)
    apply W_regS
    · intro K hK
      simp
      repeat' (first | with_reducible exact hK | (with_reducible refine goL_split (fun _ => ?_) (fun _ => ?_) <;> simp) | with_reducible refine And.intro ?_ ?_ | with_reducible exact okay_rfl rfl | with_reducible assumption | omega)
    have : globOk s = decide ((l.length : Int) ≤ 8) := by rw [hg, hall, Bool.true_and]; exact decide_eq_decide.2 (by omega)
    refine W_ret ?_
    simp [Fin, this]
    all_goals omega

theorem containsAny_star : ∀ s : List UInt8, Lib.containsAny s [43, 42] = s.any starB := by
  have hb : ∀ b : UInt8, ([43, 42] : List UInt8).contains b = starB b := u8_all (p := fun b => ([43, 42] : List UInt8).contains b = starB b) (by decide +kernel)
  intro s
  unfold Lib.containsAny
  induction s with
  | nil => rfl
  | cons b r ih =>
    have hge := Lib.indexAny_ge [43, 42] r
    rw [Lib.indexAny, hb, List.any_cons, ← ih]
    cases starB b with
    | true => rfl
    | false =>
      simp only [Bool.false_eq_true, if_false, Bool.false_or]
      by_cases hm : Lib.indexAny r [43, 42] = -1
      · rw [hm]; rfl
      · rw [if_neg (fun e => hm (beq_iff_eq.1 e))]
        exact decide_eq_decide.2 (by omega)

theorem isPath_ok [MaxL GG] (s : List UInt8) (hs : s.length ≤ 4194304) : Valid PP GG F_I_isPath [.d (.str s)] (.d (.bool (pathOk s))) [none] := by
  refine v_I_isPath [.d (.bool (pathOk s))] rfl rfl ?_
  have cg := isGlob_ok (GG := GG) s hs
  have hp : pathOk s = (globOk s && !s.any starB) := rfl
  have hasc := globOk_ascii (s := s)
  generalize globOk s = g at cg hp hasc
  cases g with
  | false =>
    refine W_seq (?_)
    apply W_regS
    · intro K hK
      simp
      repeat' (first | with_reducible exact hK | (with_reducible refine goL_split (fun _ => ?_) (fun _ => ?_) <;> simp) | with_reducible refine And.intro ?_ ?_ | with_reducible exact okay_rfl rfl | with_reducible assumption | omega)
    refine W_seq (?_)
    refine W_regB 2 (false) (fun K hK => ?_) ?_
    · simp
      repeat' (first | exact hK _ _ (by clear hK; first | omega | (exact decide_eq_false (by omega)) | (exact decide_eq_true (by omega)) | (exact (decide_eq_true (by omega)).symm) | (exact (decide_eq_false (by omega)).symm) | (exact decide_eq_decide.2 (by omega)) | (simp only [← decide_not]; exact decide_eq_decide.2 (by omega)) | (simp [*]; done) | (simp [*]; omega) | (simp_all; done) | (simp_all; omega) | (rw [Bool.eq_iff_iff]; simp at *; omega)) | (with_reducible refine callQ (cg) ?_; simp) | (with_reducible refine goL_split (fun _ => ?_) (fun _ => ?_) <;> simp) | with_reducible refine And.intro ?_ ?_ | with_reducible exact okay_rfl rfl | with_reducible assumption | omega)
    refine W_ret ?_
    simp [Fin, hp]
    all_goals omega
  | true =>
    have cc := ContainsAny_ok (GG := GG) s [43, 42] (by omega) (by simp) (hasc rfl) (by decide)
    rw [containsAny_star] at cc
    generalize s.any starB = q at cc hp
    refine W_seq (?_)
    apply W_regS
    · intro K hK
      simp
      repeat' (first | with_reducible exact hK | (with_reducible refine goL_split (fun _ => ?_) (fun _ => ?_) <;> simp) | with_reducible refine And.intro ?_ ?_ | with_reducible exact okay_rfl rfl | with_reducible assumption | omega)
    refine W_seq (?_)
    refine W_regB 2 (!q) (fun K hK => ?_) ?_
    · simp
      repeat' (first | exact hK _ _ (by clear hK; first | omega | (exact decide_eq_false (by omega)) | (exact decide_eq_true (by omega)) | (exact (decide_eq_true (by omega)).symm) | (exact (decide_eq_false (by omega)).symm) | (exact decide_eq_decide.2 (by omega)) | (simp only [← decide_not]; exact decide_eq_decide.2 (by omega)) | (simp [*]; done) | (simp [*]; omega) | (simp_all; done) | (simp_all; omega) | (rw [Bool.eq_iff_iff]; simp at *; omega)) | (with_reducible refine callQ (cg) ?_; simp) | (with_reducible refine callQ (cc) ?_; simp) | (with_reducible refine goL_split (fun _ => ?_) (fun _ => ?_) <;> simp) | with_reducible refine And.intro ?_ ?_ | with_reducible exact okay_rfl rfl | with_reducible assumption | omega)
    refine W_ret ?_
    simp [Fin, hp]
    all_goals omega

def inB (x lo hi : Int) : Bool := decide (lo ≤ x) && decide (x ≤ hi)

def keyB (x : Int) : Bool := inB x 0 1099511627776

theorem l04Key_ok (x : Int) : Valid PP GG F_S_l04Key [.d (.int .i64 x)] (.d (.bool (keyB x))) [none] := by
  refine v_S_l04Key [.d (.bool (keyB x))] rfl rfl ?_
  have cl : Valid PP GG F_S_l01In [.d (.int .i64 x), .d (.int .i64 0), .d (.int .i64 1099511627776)] (.d (.bool (keyB x))) [none, none, none] := l01In_ok x 0 1099511627776
  refine W_seq (?_)
  apply W_regS
  · intro K hK
    simp
    repeat' (first | with_reducible exact hK | (with_reducible refine goL_split (fun _ => ?_) (fun _ => ?_) <;> simp) | with_reducible refine And.intro ?_ ?_ | with_reducible exact okay_rfl rfl | with_reducible assumption | omega)
  refine W_seq (?_)
  apply W_regS
  · intro K hK
    simp
    repeat' (first | with_reducible exact hK | (with_reducible refine callQ (cl) ?_; simp) | (with_reducible refine goL_split (fun _ => ?_) (fun _ => ?_) <;> simp) | with_reducible refine And.intro ?_ ?_ | with_reducible exact okay_rfl rfl | with_reducible assumption | omega)
  refine W_ret ?_
  simp [Fin]
  all_goals omega

theorem isKey_ok (x : Int) : Valid PP GG F_I_isKey [.d (.int .i64 x)] (.d (.bool (keyB x))) [none] := by
  refine v_I_isKey [.d (.bool (keyB x))] rfl rfl ?_
  have cl : Valid PP GG F_I_within [.d (.int .i64 x), .d (.int .i64 0), .d (.int .i64 1099511627776)] (.d (.bool (keyB x))) [none, none, none] := within_ok x 0 1099511627776
  refine W_seq (?_)
  apply W_regS
  · intro K hK
    simp
    repeat' (first | with_reducible exact hK | (with_reducible refine goL_split (fun _ => ?_) (fun _ => ?_) <;> simp) | with_reducible refine And.intro ?_ ?_ | with_reducible exact okay_rfl rfl | with_reducible assumption | omega)
  refine W_seq (?_)
  apply W_regS
  · intro K hK
    simp
    repeat' (first | with_reducible exact hK | (with_reducible refine callQ (cl) ?_; simp) | (with_reducible refine goL_split (fun _ => ?_) (fun _ => ?_) <;> simp) | with_reducible refine And.intro ?_ ?_ | with_reducible exact okay_rfl rfl | with_reducible assumption | omega)
  refine W_ret ?_
  simp [Fin]
  all_goals omega

theorem range_step {p : Nat → Bool} {i : Nat} (hn : ∀ j, j < i → p j = true) (h : p i = true) : ∀ j, j < i + 1 → p j = true := fun j hj => by
  by_cases e : j = i
  · subst e; exact h
  · exact hn j (by omega)

theorem intsD_snoc (l : List Int) (x : Int) : intsD (l ++ [x]) = intsD l ++ [[.int .i64 x]] := by simp [intsD]

def wrapOk (next : Int) (x : GWrap) : Bool := inB x.fId 1 (next - 1) && inB x.fEnds 1 1000000000 && pathOk x.fKind

def wlinkAt (next : Int) (l : List GWrap) (i : Nat) : Bool := match l[i]? with
  | none => true
  | some x => wrapOk next x && (match i with | 0 => true | j + 1 => match l[j]? with | some y => decide (y.fId < x.fId) | none => true)

def rackOk (r : GRack) : Bool := keyB r.fKey && inB r.fNext 1 1000000000 && decide (r.fWraps.length ≤ 60) && (List.range r.fWraps.length).all (wlinkAt r.fNext r.fWraps)

theorem inB_true {x lo hi : Int} (h : inB x lo hi = true) : lo ≤ x ∧ x ≤ hi := by
  simp only [inB, Bool.and_eq_true, decide_eq_true_eq] at h; exact h

theorem s_RackOk_ok (r : GRack) (hc : r.cost ≤ 1048576) : Valid PP GG F_S_RackOk [.agg r.c] (.d (.bool (rackOk r))) [none] := by
  refine v_S_RackOk [.d (.bool (rackOk r))] rfl rfl ?_
  obtain ⟨f, k, l⟩ := r
  have hco : (GRack.mk f k l).cost = l.length + sumBy GWrap.cost l := rfl
  have ck := l04Key_ok (GG := GG) f
  have cn : Valid PP GG F_S_l01In [.d (.int .i64 k), .d (.int .i64 1), .d (.int .i64 1000000000)] (.d (.bool (inB k 1 1000000000))) [none, none, none] := l01In_ok _ _ _
  have hr : rackOk (GRack.mk f k l) = (keyB f && inB k 1 1000000000 && decide (l.length ≤ 60) && (List.range l.length).all (wlinkAt k l)) := rfl
  have hkr : inB k 1 1000000000 = true → 1 ≤ k ∧ k ≤ 1000000000 := inB_true
  generalize keyB f = p at ck hr
  generalize inB k 1 1000000000 = u at cn hr hkr
  obtain ⟨v, hv⟩ : ∃ v, decide (l.length ≤ 60) = v := ⟨_, rfl⟩
  have hv2 : decide (60 < (l.length : Int)) = !v := by rw [← hv, ← decide_not]; exact decide_eq_decide.2 (by omega)
  rw [hv] at hr
  refine W_seq (?_)
  apply W_regS
  · intro K hK
    simp
    repeat' (first | with_reducible exact hK | (with_reducible refine goL_split (fun _ => ?_) (fun _ => ?_) <;> simp) | with_reducible refine And.intro ?_ ?_ | with_reducible exact okay_rfl rfl | with_reducible assumption | omega)
  refine W_seq (W_seq (?_))
  refine W_regB 20 (!(p && u && v)) (fun K hK => ?_) ?_
  · simp [hv2]
    repeat' (first | exact hK _ _ (by clear hK; first | omega | (exact decide_eq_false (by omega)) | (exact decide_eq_true (by omega)) | (exact (decide_eq_true (by omega)).symm) | (exact (decide_eq_false (by omega)).symm) | (exact decide_eq_decide.2 (by omega)) | (simp only [← decide_not]; exact decide_eq_decide.2 (by omega)) | (simp [*]; done) | (simp [*]; omega) | (simp_all; done) | (simp_all; omega) | (rw [Bool.eq_iff_iff]; simp at *; omega)) | (with_reducible refine callQ (ck) ?_; simp [hv2]) | (with_reducible refine callQ (cn) ?_; simp [hv2]) | (with_reducible refine goL_split (fun _ => ?_) (fun _ => ?_) <;> simp [hv2]) | with_reducible refine And.intro ?_ ?_ | with_reducible exact okay_rfl rfl | with_reducible assumption | omega)
  refine W_cond rfl (fun h => W_seq ?_) (fun h => W_skip ?_)
  · apply W_regS
    · intro K hK
      simp
      repeat' (first | with_reducible exact hK | (with_reducible refine goL_split (fun _ => ?_) (fun _ => ?_) <;> simp) | with_reducible refine And.intro ?_ ?_ | with_reducible exact okay_rfl rfl | with_reducible assumption | omega)
    have : rackOk (GRack.mk f k l) = false := by rw [hr]; revert h; cases u <;> cases p <;> cases v <;> simp
    refine W_ret ?_
    simp [Fin, this]
    all_goals omega
  have hr2 : rackOk (GRack.mk f k l) = (List.range l.length).all (wlinkAt k l) := by rw [hr]; revert h; cases u <;> cases p <;> cases v <;> simp
  have hk := hkr (by revert h; cases u <;> cases p <;> cases v <;> simp)
  have hwk : IntKind.i64.wrap (k - 1) = k - 1 := wrap_id (by omega) (by omega)
  refine W_seq (W_seq (?_))
  apply W_regS
  · intro K hK
    simp
    repeat' (first | with_reducible exact hK | (with_reducible refine goL_split (fun _ => ?_) (fun _ => ?_) <;> simp) | with_reducible refine And.intro ?_ ?_ | with_reducible exact okay_rfl rfl | with_reducible assumption | omega)
  refine W_block (W_loop (fun n st => ∃ i : Nat, n = l.length - i ∧ i ≤ l.length ∧ (∀ j, j < i → wlinkAt k l j = true) ∧
    st = ⟨[], [(1, .ptr 0 0), (3, .d (.int .i64 i))], [(0, .box [.d (.int .i64 f), .d (.int .i64 k), .d (.slc 6 (rWrap l))])], 1⟩) _ ⟨0, rfl, by omega, fun j h => by omega, rfl⟩ ?_)
  rintro n st ⟨i, rfl, hi, hn, rfl⟩
  refine W_seq (W_seq (?_))
  apply W_regS
  · intro K hK
    simp
    repeat' (first | with_reducible exact hK | (with_reducible refine goL_split (fun _ => ?_) (fun _ => ?_) <;> simp) | with_reducible refine And.intro ?_ ?_ | with_reducible exact okay_rfl rfl | with_reducible assumption | omega)
  refine W_cond rfl (fun h2 => W_skip ?_) (fun h2 => W_exit ?_)
  · simp at h2
    have ha := List.getElem?_eq_getElem h2
    generalize l[i] = x at ha
    have hg := sumBy_get (f := GWrap.cost) ha
    have hcx : x.cost = x.fKind.length + x.fBox.cost := rfl
    refine W_seq (W_block (W_seq ?_))
    apply W_regS
    · intro K hK
      simp [ha]
      repeat' (first | with_reducible exact hK | (with_reducible refine goL_split (fun _ => ?_) (fun _ => ?_) <;> simp [ha]) | with_reducible refine And.intro ?_ ?_ | with_reducible exact okay_rfl rfl | with_reducible assumption | omega)
    have c1 : Valid PP GG F_S_l01In [.d (.int .i64 x.fId), .d (.int .i64 1), .d (.int .i64 (k - 1))] (.d (.bool (inB x.fId 1 (k - 1)))) [none, none, none] := l01In_ok _ _ _
    have c2 : Valid PP GG F_S_l01In [.d (.int .i64 x.fEnds), .d (.int .i64 1), .d (.int .i64 1000000000)] (.d (.bool (inB x.fEnds 1 1000000000))) [none, none, none] := l01In_ok _ _ _
    have c3 := s_PathOk_ok (GG := GG) x.fKind (by omega)
    have hno : wrapOk k x = (inB x.fId 1 (k - 1) && inB x.fEnds 1 1000000000 && pathOk x.fKind) := rfl
    generalize inB x.fId 1 (k - 1) = p1 at c1 hno
    generalize inB x.fEnds 1 1000000000 = p2 at c2 hno
    generalize pathOk x.fKind = p3 at c3 hno
    refine W_seq (?_)
    cases i with
    | zero =>
      have hlk : wlinkAt k l 0 = (p1 && p2 && p3) := by unfold wlinkAt; rw [ha]; simp only [hno, Bool.and_true]
      refine W_regBD 67 (!(p1 && p2 && p3)) (fun K hK => ?_) ?_
      · simp [ha, hwk]
        repeat' (first | exact hK _ _ (by clear hK; first | omega | (exact decide_eq_false (by omega)) | (exact decide_eq_true (by omega)) | (exact (decide_eq_true (by omega)).symm) | (exact (decide_eq_false (by omega)).symm) | (exact decide_eq_decide.2 (by omega)) | (simp only [← decide_not]; exact decide_eq_decide.2 (by omega)) | (simp [*]; done) | (simp [*]; omega) | (simp_all; done) | (simp_all; omega) | (rw [Bool.eq_iff_iff]; simp at *; omega)) | (with_reducible refine callQ (c1) ?_; simp [ha, hwk]) | (with_reducible refine callQ (c2) ?_; simp [ha, hwk]) | (with_reducible refine callQ (c3) ?_; simp [ha, hwk]) | (with_reducible refine goL_split (fun _ => ?_) (fun _ => ?_) <;> simp [ha, hwk]) | with_reducible refine And.intro ?_ ?_ | with_reducible exact okay_rfl rfl | with_reducible assumption | omega)
      generalize (p1 && p2 && p3) = q at hlk
      refine W_cond rfl (fun h4 => W_seq ?_) (fun h4 => W_skip ?_)
      · apply W_regS
        · intro K hK
          simp
          repeat' (first | with_reducible exact hK | (with_reducible refine goL_split (fun _ => ?_) (fun _ => ?_) <;> simp) | with_reducible refine And.intro ?_ ?_ | with_reducible exact okay_rfl rfl | with_reducible assumption | omega)
        have : rackOk (GRack.mk f k l) = false := by rw [hr2]; exact range_no (i := 0) (by omega) (by rw [hlk]; revert h4; cases q <;> simp)
        refine W_ret ?_
        simp [Fin, this]
        all_goals omega
      apply W_regS
      · intro K hK
        simp
        repeat' (first | with_reducible exact hK | (with_reducible refine goL_split (fun _ => ?_) (fun _ => ?_) <;> simp) | with_reducible refine And.intro ?_ ?_ | with_reducible exact okay_rfl rfl | with_reducible assumption | omega)
      exact ⟨l.length - (0 + 1), by omega, 0 + 1, rfl, h2, range_step hn (by rw [hlk]; revert h4; cases q <;> simp), by simp [gc, closeN, liveA, gcV, gcO, renA, renAs, renO, namesAs, namesA, namesO, posn]; exact wrap_id (by omega) (by omega)⟩
    | succ j =>
      have hb := List.getElem?_eq_getElem (show j < l.length by omega)
      generalize l[j]'_ = y at hb
      have hw1 : IntKind.i64.wrap (j : Int) = j := wrap_id (by omega) (by omega)
      obtain ⟨z, hz⟩ : ∃ z, decide (y.fId < x.fId) = z := ⟨_, rfl⟩
      have hz2 : decide (x.fId ≤ y.fId) = !z := by rw [← hz, ← decide_not]; exact decide_eq_decide.2 (by omega)
      have hlk : wlinkAt k l (j + 1) = (p1 && p2 && p3 && z) := by unfold wlinkAt; rw [ha]; simp only [hno, hb, hz]
      have hlt : j < l.length := by omega
      refine W_regBD 67 (!(p1 && p2 && p3 && z)) (fun K hK => ?_) ?_
      · simp [ha, hb, hw1, hwk, hz2]
        repeat' (first | exact hK _ _ (by clear hK; first | omega | (exact decide_eq_false (by omega)) | (exact decide_eq_true (by omega)) | (exact (decide_eq_true (by omega)).symm) | (exact (decide_eq_false (by omega)).symm) | (exact decide_eq_decide.2 (by omega)) | (simp only [← decide_not]; exact decide_eq_decide.2 (by omega)) | (simp [*]; done) | (simp [*]; omega) | (simp_all; done) | (simp_all; omega) | (rw [Bool.eq_iff_iff]; simp at *; omega)) | (with_reducible refine callQ (c1) ?_; simp [ha, hb, hw1, hwk, hz2]) | (with_reducible refine callQ (c2) ?_; simp [ha, hb, hw1, hwk, hz2]) | (with_reducible refine callQ (c3) ?_; simp [ha, hb, hw1, hwk, hz2]) | (with_reducible refine goL_split (fun _ => ?_) (fun _ => ?_) <;> simp [ha, hb, hw1, hwk, hz2]) | with_reducible refine And.intro ?_ ?_ | with_reducible exact okay_rfl rfl | with_reducible assumption | omega)
      generalize (p1 && p2 && p3 && z) = q at hlk
      refine W_cond rfl (fun h4 => W_seq ?_) (fun h4 => W_skip ?_)
      · apply W_regS
        · intro K hK
          simp
          repeat' (first | with_reducible exact hK | (with_reducible refine goL_split (fun _ => ?_) (fun _ => ?_) <;> simp) | with_reducible refine And.intro ?_ ?_ | with_reducible exact okay_rfl rfl | with_reducible assumption | omega)
        have : rackOk (GRack.mk f k l) = false := by rw [hr2]; exact range_no (i := j + 1) (by omega) (by rw [hlk]; revert h4; cases q <;> simp)
        refine W_ret ?_
        simp [Fin, this]
        all_goals omega
      apply W_regS
      · intro K hK
        simp
        repeat' (first | with_reducible exact hK | (with_reducible refine goL_split (fun _ => ?_) (fun _ => ?_) <;> simp) | with_reducible refine And.intro ?_ ?_ | with_reducible exact okay_rfl rfl | with_reducible assumption | omega)
      refine ⟨l.length - (j + 1 + 1), by omega, j + 1 + 1, rfl, h2, range_step hn (by rw [hlk]; revert h4; cases q <;> simp), ?_⟩
      simp [gc, closeN, liveA, gcV, gcO, renA, renAs, renO, namesAs, namesA, namesO, posn]
      rw [wrap_id (by omega) (by omega)]
  · simp at h2
    rw [if_pos rfl]
    refine W_seq (?_)
    apply W_regS
    · intro K hK
      simp
      repeat' (first | with_reducible exact hK | (with_reducible refine goL_split (fun _ => ?_) (fun _ => ?_) <;> simp) | with_reducible refine And.intro ?_ ?_ | with_reducible exact okay_rfl rfl | with_reducible assumption | omega)
    have : rackOk (GRack.mk f k l) = true := by rw [hr2]; exact List.all_eq_true.2 fun j hj => hn j (by have := List.mem_range.1 hj; omega)
    refine W_ret ?_
    simp [Fin, this]
    all_goals omega

theorem isRack_ok [MaxL GG] (r : GRack) (hc : r.cost ≤ 1048576) : Valid PP GG F_I_isRack [.agg r.c] (.d (.bool (rackOk r))) [none] := by
  refine v_I_isRack [.d (.bool (rackOk r))] rfl rfl ?_
  obtain ⟨f, k, l⟩ := r
  have hco : (GRack.mk f k l).cost = l.length + sumBy GWrap.cost l := rfl
  have ck := isKey_ok (GG := GG) f
  have cn : Valid PP GG F_I_within [.d (.int .i64 k), .d (.int .i64 1), .d (.int .i64 1000000000)] (.d (.bool (inB k 1 1000000000))) [none, none, none] := within_ok _ _ _
  have hr : rackOk (GRack.mk f k l) = (keyB f && inB k 1 1000000000 && decide (l.length ≤ 60) && (List.range l.length).all (wlinkAt k l)) := rfl
  have hkr : inB k 1 1000000000 = true → 1 ≤ k ∧ k ≤ 1000000000 := inB_true
  generalize keyB f = p at ck hr
  generalize inB k 1 1000000000 = u at cn hr hkr
  obtain ⟨v, hv⟩ : ∃ v, decide (l.length ≤ 60) = v := ⟨_, rfl⟩
  have hv2 : decide (60 < (l.length : Int)) = !v := by rw [← hv, ← decide_not]; exact decide_eq_decide.2 (by omega)
  rw [hv] at hr
  refine W_seq (?_)
  apply W_regS
  · intro K hK
    simp
    repeat' (first | with_reducible exact hK | (with_reducible refine goL_split (fun _ => ?_) (fun _ => ?_) <;> simp) | with_reducible refine And.intro ?_ ?_ | with_reducible exact okay_rfl rfl | with_reducible assumption | omega)
  refine W_seq (W_seq (?_))
  refine W_regB 20 (!(p && u && v)) (fun K hK => ?_) ?_
  · simp [hv2]
    repeat' (first | exact hK _ _ (by clear hK; first | omega | (exact decide_eq_false (by omega)) | (exact decide_eq_true (by omega)) | (exact (decide_eq_true (by omega)).symm) | (exact (decide_eq_false (by omega)).symm) | (exact decide_eq_decide.2 (by omega)) | (simp only [← decide_not]; exact decide_eq_decide.2 (by omega)) | (simp [*]; done) | (simp [*]; omega) | (simp_all; done) | (simp_all; omega) | (rw [Bool.eq_iff_iff]; simp at *; omega)) | (with_reducible refine callQ (ck) ?_; simp [hv2]) | (with_reducible refine callQ (cn) ?_; simp [hv2]) | (with_reducible refine goL_split (fun _ => ?_) (fun _ => ?_) <;> simp [hv2]) | with_reducible refine And.intro ?_ ?_ | with_reducible exact okay_rfl rfl | with_reducible assumption | omega)
  refine W_cond rfl (fun h => W_seq ?_) (fun h => W_skip ?_)
  · apply W_regS
    · intro K hK
      simp
      repeat' (first | with_reducible exact hK | (with_reducible refine goL_split (fun _ => ?_) (fun _ => ?_) <;> simp) | with_reducible refine And.intro ?_ ?_ | with_reducible exact okay_rfl rfl | with_reducible assumption | omega)
    have : rackOk (GRack.mk f k l) = false := by rw [hr]; revert h; cases u <;> cases p <;> cases v <;> simp
    refine W_ret ?_
    simp [Fin, this]
    all_goals omega
  have hr2 : rackOk (GRack.mk f k l) = (List.range l.length).all (wlinkAt k l) := by rw [hr]; revert h; cases u <;> cases p <;> cases v <;> simp
  have hk := hkr (by revert h; cases u <;> cases p <;> cases v <;> simp)
  have hwk : IntKind.i64.wrap (k - 1) = k - 1 := wrap_id (by omega) (by omega)
  refine W_seq (W_seq (?_))
  apply W_regS
  · intro K hK
    simp
    repeat' (first | with_reducible exact hK | (with_reducible refine goL_split (fun _ => ?_) (fun _ => ?_) <;> simp) | with_reducible refine And.intro ?_ ?_ | with_reducible exact okay_rfl rfl | with_reducible assumption | omega)
  refine W_block (W_loop (fun n st => ∃ i : Nat, n = l.length - i ∧ i ≤ l.length ∧ (∀ j, j < i → wlinkAt k l j = true) ∧
    st = ⟨[], [(1, .ptr 0 0), (22, .d (.slc 6 (rWrap l))), (23, .d (.int .i64 l.length)), (24, .d (.int .i64 i))], [(0, .box [.d (.int .i64 f), .d (.int .i64 k), .d (.slc 6 (rWrap l))])], 1⟩) _ ⟨0, rfl, by omega, fun j h => by omega, rfl⟩ ?_)
  rintro n st ⟨i, rfl, hi, hn, rfl⟩
  refine W_seq (?_)
  apply W_regS
  · intro K hK
    simp
    repeat' (first | with_reducible exact hK | (with_reducible refine goL_split (fun _ => ?_) (fun _ => ?_) <;> simp) | with_reducible refine And.intro ?_ ?_ | with_reducible exact okay_rfl rfl | with_reducible assumption | omega)
  refine W_seq (?_)
  refine W_cond rfl (fun h2 => W_skip ?_) (fun h2 => W_exit ?_)
  · simp at h2
    have ha := List.getElem?_eq_getElem h2
    generalize l[i] = x at ha
    have hg := sumBy_get (f := GWrap.cost) ha
    have hcx : x.cost = x.fKind.length + x.fBox.cost := rfl
    refine W_seq (W_block (W_seq ?_))
    apply W_regS
    · intro K hK
      simp [ha]
      repeat' (first | with_reducible exact hK | (with_reducible refine goL_split (fun _ => ?_) (fun _ => ?_) <;> simp [ha]) | with_reducible refine And.intro ?_ ?_ | with_reducible exact okay_rfl rfl | with_reducible assumption | omega)
    have c1 : Valid PP GG F_I_within [.d (.int .i64 x.fId), .d (.int .i64 1), .d (.int .i64 (k - 1))] (.d (.bool (inB x.fId 1 (k - 1)))) [none, none, none] := within_ok _ _ _
    have c2 : Valid PP GG F_I_within [.d (.int .i64 x.fEnds), .d (.int .i64 1), .d (.int .i64 1000000000)] (.d (.bool (inB x.fEnds 1 1000000000))) [none, none, none] := within_ok _ _ _
    have c3 := isPath_ok (GG := GG) x.fKind (by omega)
    have hno : wrapOk k x = (inB x.fId 1 (k - 1) && inB x.fEnds 1 1000000000 && pathOk x.fKind) := rfl
    generalize inB x.fId 1 (k - 1) = p1 at c1 hno
    generalize inB x.fEnds 1 1000000000 = p2 at c2 hno
    generalize pathOk x.fKind = p3 at c3 hno
    refine W_seq (?_)
    cases i with
    | zero =>
      have hlk : wlinkAt k l 0 = (p1 && p2 && p3) := by unfold wlinkAt; rw [ha]; simp only [hno, Bool.and_true]
      refine W_regBD 63 (!(p1 && p2 && p3)) (fun K hK => ?_) ?_
      · simp [ha, hwk]
        repeat' (first | exact hK _ _ (by clear hK; first | omega | (exact decide_eq_false (by omega)) | (exact decide_eq_true (by omega)) | (exact (decide_eq_true (by omega)).symm) | (exact (decide_eq_false (by omega)).symm) | (exact decide_eq_decide.2 (by omega)) | (simp only [← decide_not]; exact decide_eq_decide.2 (by omega)) | (simp [*]; done) | (simp [*]; omega) | (simp_all; done) | (simp_all; omega) | (rw [Bool.eq_iff_iff]; simp at *; omega)) | (with_reducible refine callQ (c1) ?_; simp [ha, hwk]) | (with_reducible refine callQ (c2) ?_; simp [ha, hwk]) | (with_reducible refine callQ (c3) ?_; simp [ha, hwk]) | (with_reducible refine goL_split (fun _ => ?_) (fun _ => ?_) <;> simp [ha, hwk]) | with_reducible refine And.intro ?_ ?_ | with_reducible exact okay_rfl rfl | with_reducible assumption | omega)
      generalize (p1 && p2 && p3) = q at hlk
      refine W_cond rfl (fun h4 => W_seq ?_) (fun h4 => W_skip ?_)
      · apply W_regS
        · intro K hK
          simp
          repeat' (first | with_reducible exact hK | (with_reducible refine goL_split (fun _ => ?_) (fun _ => ?_) <;> simp) | with_reducible refine And.intro ?_ ?_ | with_reducible exact okay_rfl rfl | with_reducible assumption | omega)
        have : rackOk (GRack.mk f k l) = false := by rw [hr2]; exact range_no (i := 0) (by omega) (by rw [hlk]; revert h4; cases q <;> simp)
        refine W_ret ?_
        simp [Fin, this]
        all_goals omega
      apply W_regS
      · intro K hK
        simp
        repeat' (first | with_reducible exact hK | (with_reducible refine goL_split (fun _ => ?_) (fun _ => ?_) <;> simp) | with_reducible refine And.intro ?_ ?_ | with_reducible exact okay_rfl rfl | with_reducible assumption | omega)
      exact ⟨l.length - (0 + 1), by omega, 0 + 1, rfl, h2, range_step hn (by rw [hlk]; revert h4; cases q <;> simp), by simp [gc, closeN, liveA, gcV, gcO, renA, renAs, renO, namesAs, namesA, namesO, posn]; exact wrap_id (by omega) (by omega)⟩
    | succ j =>
      have hb := List.getElem?_eq_getElem (show j < l.length by omega)
      generalize l[j]'_ = y at hb
      have hw1 : IntKind.i64.wrap (j : Int) = j := wrap_id (by omega) (by omega)
      obtain ⟨z, hz⟩ : ∃ z, decide (y.fId < x.fId) = z := ⟨_, rfl⟩
      have hz2 : decide (x.fId ≤ y.fId) = !z := by rw [← hz, ← decide_not]; exact decide_eq_decide.2 (by omega)
      have hlk : wlinkAt k l (j + 1) = (p1 && p2 && p3 && z) := by unfold wlinkAt; rw [ha]; simp only [hno, hb, hz]
      have hlt : j < l.length := by omega
      refine W_regBD 63 (!(p1 && p2 && p3 && z)) (fun K hK => ?_) ?_
      · simp [ha, hb, hw1, hwk, hz2]
        repeat' (first | exact hK _ _ (by clear hK; first | omega | (exact decide_eq_false (by omega)) | (exact decide_eq_true (by omega)) | (exact (decide_eq_true (by omega)).symm) | (exact (decide_eq_false (by omega)).symm) | (exact decide_eq_decide.2 (by omega)) | (simp only [← decide_not]; exact decide_eq_decide.2 (by omega)) | (simp [*]; done) | (simp [*]; omega) | (simp_all; done) | (simp_all; omega) | (rw [Bool.eq_iff_iff]; simp at *; omega)) | (with_reducible refine callQ (c1) ?_; simp [ha, hb, hw1, hwk, hz2]) | (with_reducible refine callQ (c2) ?_; simp [ha, hb, hw1, hwk, hz2]) | (with_reducible refine callQ (c3) ?_; simp [ha, hb, hw1, hwk, hz2]) | (with_reducible refine goL_split (fun _ => ?_) (fun _ => ?_) <;> simp [ha, hb, hw1, hwk, hz2]) | with_reducible refine And.intro ?_ ?_ | with_reducible exact okay_rfl rfl | with_reducible assumption | omega)
      generalize (p1 && p2 && p3 && z) = q at hlk
      refine W_cond rfl (fun h4 => W_seq ?_) (fun h4 => W_skip ?_)
      · apply W_regS
        · intro K hK
          simp
          repeat' (first | with_reducible exact hK | (with_reducible refine goL_split (fun _ => ?_) (fun _ => ?_) <;> simp) | with_reducible refine And.intro ?_ ?_ | with_reducible exact okay_rfl rfl | with_reducible assumption | omega)
        have : rackOk (GRack.mk f k l) = false := by rw [hr2]; exact range_no (i := j + 1) (by omega) (by rw [hlk]; revert h4; cases q <;> simp)
        refine W_ret ?_
        simp [Fin, this]
        all_goals omega
      apply W_regS
      · intro K hK
        simp
        repeat' (first | with_reducible exact hK | (with_reducible refine goL_split (fun _ => ?_) (fun _ => ?_) <;> simp) | with_reducible refine And.intro ?_ ?_ | with_reducible exact okay_rfl rfl | with_reducible assumption | omega)
      refine ⟨l.length - (j + 1 + 1), by omega, j + 1 + 1, rfl, h2, range_step hn (by rw [hlk]; revert h4; cases q <;> simp), ?_⟩
      simp [gc, closeN, liveA, gcV, gcO, renA, renAs, renO, namesAs, namesA, namesO, posn]
      rw [wrap_id (by omega) (by omega)]
  · simp at h2
    rw [if_pos rfl]
    refine W_seq (?_)
    apply W_regS
    · intro K hK
      simp
      repeat' (first | with_reducible exact hK | (with_reducible refine goL_split (fun _ => ?_) (fun _ => ?_) <;> simp) | with_reducible refine And.intro ?_ ?_ | with_reducible exact okay_rfl rfl | with_reducible assumption | omega)
    have : rackOk (GRack.mk f k l) = true := by rw [hr2]; exact List.all_eq_true.2 fun j hj => hn j (by have := List.mem_range.1 hj; omega)
    refine W_ret ?_
    simp [Fin, this]
    all_goals omega

theorem l01Bytes_ok (a : List UInt8) (ha : a.length ≤ 70368744177664) : Valid PP GG F_S_l01Bytes [.d (.slc 1 (bytesD a))] (.own 0 1 (bytesD a)) [none] := by
  refine v_S_l01Bytes [.own 0 1 (bytesD a)] rfl rfl ?_
  refine W_seq (?_)
  apply W_regS
  · intro K hK
    simp
    repeat' (first | with_reducible exact hK | (with_reducible refine goL_split (fun _ => ?_) (fun _ => ?_) <;> simp) | with_reducible refine And.intro ?_ ?_ | with_reducible exact okay_rfl rfl | with_reducible assumption | omega)
  refine W_seq (?_)
  apply W_regS
  · intro K hK
    simp [litA]
    repeat' (first | with_reducible exact hK | (with_reducible refine goL_split (fun _ => ?_) (fun _ => ?_) <;> simp [litA]) | with_reducible refine And.intro ?_ ?_ | with_reducible exact okay_rfl rfl | with_reducible assumption | omega)
  refine W_seq (W_seq (?_))
  apply W_regS
  · intro K hK
    simp
    repeat' (first | with_reducible exact hK | (with_reducible refine goL_split (fun _ => ?_) (fun _ => ?_) <;> simp) | with_reducible refine And.intro ?_ ?_ | with_reducible exact okay_rfl rfl | with_reducible assumption | omega)
  refine W_block (W_loop (fun n st => ∃ i : Nat, n = a.length - i ∧ i ≤ a.length ∧
    st = ⟨[], [(0, .d (.slc 1 (bytesD a))), (3, .sl 0), (4, .d (.int .i64 i))], [(0, .arr 0 0 1 (bytesD (a.take i)))], 1⟩) _ ⟨0, rfl, by omega, rfl⟩ ?_)
  rintro n st ⟨i, rfl, hi, rfl⟩
  refine W_seq (W_seq (?_))
  apply W_regS
  · intro K hK
    simp
    repeat' (first | with_reducible exact hK | (with_reducible refine goL_split (fun _ => ?_) (fun _ => ?_) <;> simp) | with_reducible refine And.intro ?_ ?_ | with_reducible exact okay_rfl rfl | with_reducible assumption | omega)
  refine W_cond rfl (fun h => W_skip ?_) (fun h => W_exit ?_)
  · simp at h
    have hx := List.getElem?_eq_getElem h
    generalize a[i] = x at hx
    have hl : (a.take i).length ≤ a.length := by rw [List.length_take]; omega
    refine W_seq (W_block ?_)
    apply W_regS
    · intro K hK
      simp [hx, limit]
      repeat' (first | with_reducible exact hK | (with_reducible refine goL_split (fun _ => ?_) (fun _ => ?_) <;> simp [hx, limit]) | with_reducible refine And.intro ?_ ?_ | with_reducible exact okay_rfl rfl | with_reducible assumption | omega)
    apply W_regS
    · intro K hK
      simp
      repeat' (first | with_reducible exact hK | (with_reducible refine goL_split (fun _ => ?_) (fun _ => ?_) <;> simp) | with_reducible refine And.intro ?_ ?_ | with_reducible exact okay_rfl rfl | with_reducible assumption | omega)
    exact ⟨a.length - (i + 1), by omega, i + 1, rfl, h, by simp [gc, closeN, liveA, gcV, gcO, renA, renAs, renO, namesAs, namesA, namesO, posn, bytesD_succ hx]; exact wrap_id (by omega) (by omega)⟩
  · simp at h
    rw [if_pos rfl]
    refine W_seq (?_)
    apply W_regS
    · intro K hK
      simp [List.take_of_length_le h]
      repeat' (first | with_reducible exact hK | (with_reducible refine goL_split (fun _ => ?_) (fun _ => ?_) <;> simp [List.take_of_length_le h]) | with_reducible refine And.intro ?_ ?_ | with_reducible exact okay_rfl rfl | with_reducible assumption | omega)
    refine W_ret ?_
    simp [Fin]
    all_goals omega

theorem typ_GBox {k : Nat} {ds : List D} (h : Typ Tryd.prog (k + 3) 85 ds) : ∃ x : GBox, ds = x.row ∧ x.ok := by
  obtain ⟨hl, hf⟩ := typ_struct Tryd.underlying85 h
  rw [show Tryd.prog.cellsOf 85 = 3 by kernel_rfl] at hl
  match ds, hl, hf with
  | [a0, a1, a2], _, hf =>
    obtain ⟨x0, e0, i0⟩ := typ_int (ds := [a0]) Tryd.underlying3 (typ_field hf 0 rfl (n := 1) (by kernel_rfl))
    obtain ⟨x1, e1, i1a⟩ := typ_bytes (ds := [a1]) Tryd.underlying38 Tryd.underlying5 (by kernel_rfl) (typ_field hf 1 rfl (n := 1) (by kernel_rfl))
    obtain ⟨x2, e2, i2⟩ := typ_int (ds := [a2]) Tryd.underlying3 (typ_field hf 2 rfl (n := 1) (by kernel_rfl))
    cases e0; cases e1; cases e2
    exact ⟨{ fNonce := x0, fData := x1, fTag := x2 }, rfl, ⟨i0, i1a, i2⟩⟩

theorem typ_GWrap {k : Nat} {ds : List D} (h : Typ Tryd.prog (k + 4) 87 ds) : ∃ x : GWrap, ds = x.row ∧ x.ok := by
  obtain ⟨hl, hf⟩ := typ_struct Tryd.underlying87 h
  rw [show Tryd.prog.cellsOf 87 = 6 by kernel_rfl] at hl
  match ds, hl, hf with
  | [a0, a1, a2, a3, a4, a5], _, hf =>
    obtain ⟨x0, e0, i0⟩ := typ_int (ds := [a0]) Tryd.underlying3 (typ_field hf 0 rfl (n := 1) (by kernel_rfl))
    obtain ⟨x1, e1, i1⟩ := typ_int (ds := [a1]) Tryd.underlying3 (typ_field hf 1 rfl (n := 1) (by kernel_rfl))
    obtain ⟨x2, e2, i2⟩ := typ_str (ds := [a2]) Tryd.underlying9 (typ_field hf 2 rfl (n := 1) (by kernel_rfl))
    obtain ⟨x3, e3, i3⟩ := typ_GBox (ds := [a3, a4, a5]) (typ_field hf 3 rfl (n := 3) (by kernel_rfl))
    cases e0; cases e1; cases e2; cases e3
    exact ⟨{ fId := x0, fEnds := x1, fKind := x2, fBox := x3 }, rfl, ⟨i0, i1, i2, i3⟩⟩

theorem typ_GRack {k : Nat} {ds : List D} (h : Typ Tryd.prog (k + 6) 24 ds) : ∃ x : GRack, ds = x.row ∧ x.ok := by
  obtain ⟨hl, hf⟩ := typ_struct Tryd.underlying24 h
  rw [show Tryd.prog.cellsOf 24 = 3 by kernel_rfl] at hl
  match ds, hl, hf with
  | [a0, a1, a2], _, hf =>
    obtain ⟨x0, e0, i0⟩ := typ_int (ds := [a0]) Tryd.underlying3 (typ_field hf 0 rfl (n := 1) (by kernel_rfl))
    obtain ⟨x1, e1, i1⟩ := typ_int (ds := [a1]) Tryd.underlying3 (typ_field hf 1 rfl (n := 1) (by kernel_rfl))
    obtain ⟨r2, e2, i2a, w2⟩ := typ_slc (ds := [a2]) Tryd.underlying22 (typ_field hf 2 rfl (n := 1) (by kernel_rfl))
    rw [show Tryd.prog.cellsOf 87 = 6 by kernel_rfl] at e2
    obtain ⟨x2, rfl, i2b⟩ := rows_of (p := GWrap.ok) (f := GWrap.row) r2 fun r hr => typ_GWrap (w2 r hr)
    rw [List.length_map] at i2a
    cases e0; cases e1; cases e2
    exact ⟨{ fKey := x0, fNext := x1, fWraps := x2 }, rfl, ⟨i0, i1, i2a, i2b⟩⟩

/-- A row of one's own, as the kit's contracts say it. -/
theorem own_row {w : World} {Fz : PSet} {base : Nat} {e : TypeId} {v : Value} {n : Nat} {xs : List Value} (h : w.ownsRow base e 1 v n xs) (a : List UInt8) (hx : xs = a.map fun b => Value.int .u8 b.toNat) :
    ∃ S, Own w Fz 1 v (.slc 1 (bytesD a)) S ∧ ∀ x y, S x y → base ≤ x ∧ x < w.heap.size := by
  obtain ⟨hl, h⟩ := h
  have hn : a.length = n := by rw [hx, List.length_map] at hl; omega
  rcases h with ⟨rfl, rfl⟩ | ⟨g, cap, cur, rfl, hb, hg, hnc, _, hsz, htk⟩
  · have : a = [] := List.length_eq_zero_iff.1 hn
    subst this
    exact ⟨fun _ _ => False, .inl ⟨rfl, rfl, fun _ _ h => h⟩, fun _ _ h => h.elim⟩
  · have hlt : g < w.heap.size := by
      rcases Nat.lt_or_ge g w.heap.size with h | h
      · exact h
      · rw [Array.getElem?_eq_none h] at hg; cases hg
    have hcell : ∀ o, o < cap → w.cell? (at_ g (0 + o)) = some (cur.getD o Go.undef) := by
      intro o ho
      have ho2 : o < cur.size := by omega
      unfold World.cell?
      rw [show (at_ g (0 + o)).block = g from rfl, hg]
      simp [Array.getD_eq_getD_getElem?, ho2]
    have hfl : (bytesD a).flatten = a.map fun b => D.int .u8 b.toNat := by
      unfold bytesD
      clear hx htk hn
      induction a with
      | nil => rfl
      | cons x a ih => simp only [List.map_cons, List.flatten_cons, ih]; rfl
    refine ⟨rng g 0 (cap * 1), .inr ⟨g, 0, cap, fun _ _ _ => False, by simp [hn], by simp [bytesD]; omega, ?_, ?_, ?_, fun _ _ _ _ _ _ _ h => h.elim, fun _ _ _ _ _ h => h, fun x y => ?_⟩, ?_⟩
    · intro o ho
      refine ⟨⟨_, hcell o (by omega)⟩, ?_⟩
      unfold World.frz?
      rw [show (at_ g (0 + o)).block = g from rfl, hg]
      simp
    · intro row hr
      simp only [bytesD, List.mem_map] at hr
      obtain ⟨x, _, rfl⟩ := hr
      rfl
    · intro m d hm
      rw [hfl, List.getElem?_map] at hm
      cases hx' : a[m]? with
      | none => rw [hx'] at hm; cases hm
      | some x =>
        rw [hx'] at hm
        cases hm
        have hml := (List.getElem?_eq_some_iff.1 hx').1
        refine ⟨_, hcell m (by omega), ?_, fun _ _ h => h⟩
        have hc : cur.toList[m]? = some (.int .u8 x.toNat) := by
          have h1 : (cur.toList.take (n * 1))[m]? = some (.int .u8 x.toNat) := by rw [htk, hx, List.getElem?_map, hx']; rfl
          rw [List.getElem?_take] at h1
          split at h1
          · exact h1
          · cases h1
        rw [Array.getD_eq_getD_getElem?, ← Array.getElem?_toList, hc]
        exact Shr.int _ _
    · constructor
      · intro h; exact .inl h
      · rintro (h | ⟨_, _, h⟩)
        · exact h
        · exact h.elim
    · rintro x y ⟨rfl, _, _⟩
      exact ⟨hb, hlt⟩

theorem Clone_ok (a : List UInt8) (ha : a.length ≤ 140737488355328) : Valid PP GG 61 [.d (.slc 1 (bytesD a))] (.own 0 1 (bytesD a)) [none] := by
  refine lib_new [.slc 1 (bytesD a)] ⟨Tryd.f61, Tryd.func61, by kernel_rfl, by kernel_rfl⟩ fun w Fz args hG hFz hl hA => ?_
  have h0 := hA 0 _ rfl
  have fin : ∀ (v : Value), args = #[v] → (Calls PP 61 #[v] w fun e w' => ∃ v', e = .returned v' ∧ w'.ownsRow w.heap.size 5 1 v' a.length (a.map fun b => Value.int .u8 b.toNat) ∧ w'.os = w.os ∧ w'.output = w.output ∧ w.heap.size ≤ w'.heap.size ∧ ∀ b, b < w.heap.size → w'.heap[b]? = w.heap[b]?) →
      Calls PP 61 args w fun e w' => ∃ v Fz' S, e = .returned v ∧ (w'.os = w.os ∧ w'.output = w.output) ∧ w.heap.size ≤ w'.heap.size ∧ (∀ b, b < w.heap.size → w'.heap[b]? = w.heap[b]?) ∧
        (∀ b o, Fz b o → Fz' b o) ∧ (∀ b o, Fz' b o → (Fz b o ∨ w.heap.size ≤ b) ∧ b < w'.heap.size) ∧ RC w' Fz' (.own 0 1 (bytesD a)) v S ∧ ∀ x y, S x y → w.heap.size ≤ x ∧ ¬ Fz' x y ∧ x < w'.heap.size := by
    intro v hv hc
    subst hv
    refine hc.mono ?_
    rintro e w' ⟨v', rfl, hrow, h1, h2, h3, h4⟩
    obtain ⟨S, hS, hSb⟩ := own_row (Fz := Fz) hrow a rfl
    exact ⟨v', Fz, S, rfl, ⟨h1, h2⟩, h3, h4, fun _ _ h => h, fun b o h => ⟨.inl h, Nat.lt_of_lt_of_le (hFz b o h) h3⟩, .own 0 1 _ _ _ hS, fun x y h => ⟨(hSb x y h).1, fun hf => by have := hFz x y hf; have := (hSb x y h).1; omega, (hSb x y h).2⟩⟩
  have harg : ∀ v, args.getD 0 Go.undef = v → args = #[v] := fun v hv => args_eq (l := [v]) hl fun i u hu => by
    match i, hu with
    | 0, hu => cases hu; exact hv
  rcases shr_slc_inv h0 with ⟨ad, cap, hv, hrows⟩ | ⟨b, off, cap, vs, hv, hcap, hc⟩
  · have hnil : a = [] := by
      have := congrArg List.length hrows
      simp [bytesD] at this
      exact this
    subst hnil
    refine fin _ (harg _ hv) ?_
    cases ad with
    | none =>
      refine (Go.Proofs.YtmihpclfdicfkaaDoor.Tryd.bytes_Clone_nil 0 cap w).mono ?_
      rintro e w' ⟨rfl, rfl⟩
      exact ⟨_, rfl, ⟨rfl, .inl ⟨rfl, rfl⟩⟩, rfl, rfl, Nat.le_refl _, fun _ _ => rfl⟩
    | some ad =>
      refine (Go.Proofs.YtmihpclfdicfkaaDoor.Tryd.bytes_Clone_at ad 0 cap [] w rfl (by omega) (fun i hi => by omega)).mono ?_
      rintro e w' ⟨v', rfl, hrow, _, hb⟩
      exact ⟨v', rfl, hrow, hb.os, hb.output, hb.size, fun b h => hb.block b h⟩
  · refine fin _ (harg _ hv) ?_
    have hlen : (bytesD a).length = a.length := by simp [bytesD]
    rw [hlen]
    have hfl : (bytesD a).flatten = a.map fun b => D.int .u8 b.toNat := by
      unfold bytesD
      generalize a = l
      induction l with
      | nil => rfl
      | cons x a ih => simp only [List.map_cons, List.flatten_cons, ih]; rfl
    refine (Go.Proofs.YtmihpclfdicfkaaDoor.Tryd.bytes_Clone_at (at_ b off) a.length cap (a.map fun b => (b.toNat : Int)) w (by simp) ha (fun i hi => ?_)).mono ?_
    · have hx := List.getElem?_eq_getElem hi
      obtain ⟨h1, h2⟩ := hc i (.int .u8 (a[i]).toNat) (by rw [hfl, List.getElem?_map, hx]; rfl)
      have h3 := shr_int h2
      rw [h3] at h1
      show w.cell? ((at_ b off).add i) = _
      rw [show (at_ b off).add i = at_ b (off + i) by simp [Addr.add], h1]
      simp [List.getD, hx]
    · rintro e w' ⟨v', rfl, hrow, _, hb⟩
      refine ⟨v', rfl, ?_, hb.os, hb.output, hb.size, fun b h => hb.block b h⟩
      rw [List.map_map] at hrow
      exact hrow

theorem l14CopyWrap_ok (w : GWrap) (hw : w.cost ≤ 1048576) : Valid PP GG F_S_l14CopyWrap [.agg w.c] (.agg w.o) [none] := by
  refine v_S_l14CopyWrap [.agg w.o] rfl rfl ?_
  have h1 : w.cost = w.fKind.length + w.fBox.cost := rfl
  have h2 : w.fBox.cost = w.fBox.fData.length := rfl
  have cb := l01Bytes_ok (GG := GG) w.fBox.fData (by omega)
  have hind := ind_bytes w.fBox.fData
  refine W_seq (?_)
  apply W_regS
  · intro K hK
    simp
    repeat' (first | with_reducible exact hK | (with_reducible refine goL_split (fun _ => ?_) (fun _ => ?_) <;> simp) | with_reducible refine And.intro ?_ ?_ | with_reducible exact okay_rfl rfl | with_reducible assumption | omega)
  refine W_seq (?_)
  apply W_regS
  · intro K hK
    simp
    repeat' (first | with_reducible exact hK | (with_reducible refine callQ (cb) ?_; simp) | (with_reducible refine goL_split (fun _ => ?_) (fun _ => ?_) <;> simp) | with_reducible refine And.intro ?_ ?_ | with_reducible exact okay_rfl rfl | with_reducible assumption | omega)
  refine W_seq (?_)
  apply W_regS
  · intro K hK
    simp
    repeat' (first | with_reducible exact hK | (with_reducible refine goL_split (fun _ => ?_) (fun _ => ?_) <;> simp) | with_reducible refine And.intro ?_ ?_ | with_reducible exact okay_rfl rfl | with_reducible assumption | omega)
  refine W_ret ?_
  simp [Fin]
  all_goals omega

theorem rWrap_snoc (l : List GWrap) (x : GWrap) : rWrap (l ++ [x]) = rWrap l ++ [x.row] := by simp [rWrap]

theorem l14Copy_ok (r : GRack) (hc : r.cost ≤ 1048576) : Valid PP GG F_S_l14Copy [.agg r.c] (.agg r.o) [none] := by
  refine v_S_l14Copy [.agg r.o] rfl rfl ?_
  obtain ⟨f, k, l⟩ := r
  have hco : (GRack.mk f k l).cost = l.length + sumBy GWrap.cost l := rfl
  refine W_seq (?_)
  apply W_regS
  · intro K hK
    simp
    repeat' (first | with_reducible exact hK | (with_reducible refine goL_split (fun _ => ?_) (fun _ => ?_) <;> simp) | with_reducible refine And.intro ?_ ?_ | with_reducible exact okay_rfl rfl | with_reducible assumption | omega)
  refine W_seq (?_)
  apply W_regS
  · intro K hK
    simp
    repeat' (first | with_reducible exact hK | (with_reducible refine goL_split (fun _ => ?_) (fun _ => ?_) <;> simp) | with_reducible refine And.intro ?_ ?_ | with_reducible exact okay_rfl rfl | with_reducible assumption | omega)
  refine W_seq (W_seq (?_))
  apply W_regS
  · intro K hK
    simp
    repeat' (first | with_reducible exact hK | (with_reducible refine goL_split (fun _ => ?_) (fun _ => ?_) <;> simp) | with_reducible refine And.intro ?_ ?_ | with_reducible exact okay_rfl rfl | with_reducible assumption | omega)
  refine W_block (W_loop (fun n st => ∃ (i : Nat) (w : List GWrap), n = l.length - i ∧ i ≤ l.length ∧ w = l.take i ∧
    ((i = 0 ∧ st = ⟨[], [(1, .ptr 0 0), (2, .ptr 1 0), (3, .ptr 2 0), (4, .d (.int .i64 0))], [(0, .box [.d (.int .i64 f), .d (.int .i64 k), .d (.slc 6 (rWrap l))]), (1, .box [.d (.int .i64 0), .d (.int .i64 0), .nil 1 6]), (2, .box [.d (.int .i64 f), .d (.int .i64 k), .nil 1 6])], 3⟩) ∨
     st = ⟨[], [(1, .ptr 0 0), (2, .ptr 1 0), (3, .ptr 2 0), (4, .d (.int .i64 i))], [(0, .box [.d (.int .i64 f), .d (.int .i64 k), .d (.slc 6 (rWrap l))]), (1, .box [.d (.int .i64 0), .d (.int .i64 0), .nil 1 6]), (2, .box [.d (.int .i64 f), .d (.int .i64 k), .sl 3]), (3, .arr 0 1 6 (rWrap w))], 4⟩)) _ ⟨0, [], rfl, by omega, rfl, .inl ⟨rfl, rfl⟩⟩ ?_)
  rintro n st ⟨i, w, rfl, hi, hw, ⟨rfl, rfl⟩ | rfl⟩
  · refine W_seq (W_seq (?_))
    apply W_regS
    · intro K hK
      simp
      repeat' (first | with_reducible exact hK | (with_reducible refine goL_split (fun _ => ?_) (fun _ => ?_) <;> simp) | with_reducible refine And.intro ?_ ?_ | with_reducible exact okay_rfl rfl | with_reducible assumption | omega)
    refine W_cond rfl (fun h => W_skip ?_) (fun h => W_exit ?_)
    · simp at h
      have ha := List.getElem?_eq_getElem h
      generalize l[0] = x at ha
      have hg := sumBy_get (f := GWrap.cost) ha
      have cw := l14CopyWrap_ok (GG := GG) x (by omega)
      refine W_seq (W_block ?_)
      apply W_regD
      · intro K hK
        simp [ha, limit]
        repeat' (first | with_reducible exact hK | (with_reducible refine callQ (cw) ?_; simp [ha, limit]) | (with_reducible refine goL_split (fun _ => ?_) (fun _ => ?_) <;> simp [ha, limit]) | with_reducible refine And.intro ?_ ?_ | with_reducible exact okay_rfl rfl | with_reducible assumption | omega)
      apply W_regS
      · intro K hK
        simp
        repeat' (first | with_reducible exact hK | (with_reducible refine goL_split (fun _ => ?_) (fun _ => ?_) <;> simp) | with_reducible refine And.intro ?_ ?_ | with_reducible exact okay_rfl rfl | with_reducible assumption | omega)
      refine ⟨l.length - (0 + 1), by omega, 0 + 1, [x], rfl, h, by rw [List.take_add_one, ha]; rfl, .inr ?_⟩
      simp [gc, closeN, liveA, gcV, gcO, renA, renAs, renO, namesAs, namesA, namesO, posn, rWrap]
      exact wrap_id (by omega) (by omega)
    · simp at h
      have hnil : l = [] := by first | exact h | exact List.length_eq_zero_iff.1 (by omega)
      rw [if_pos rfl]
      refine W_seq (?_)
      apply W_regS
      · intro K hK
        simp
        repeat' (first | with_reducible exact hK | (with_reducible refine goL_split (fun _ => ?_) (fun _ => ?_) <;> simp) | with_reducible refine And.intro ?_ ?_ | with_reducible exact okay_rfl rfl | with_reducible assumption | omega)
      refine W_ret ?_
      simp [Fin, hnil, rWrap]
      all_goals omega
  · refine W_seq (W_seq (?_))
    apply W_regS
    · intro K hK
      simp
      repeat' (first | with_reducible exact hK | (with_reducible refine goL_split (fun _ => ?_) (fun _ => ?_) <;> simp) | with_reducible refine And.intro ?_ ?_ | with_reducible exact okay_rfl rfl | with_reducible assumption | omega)
    refine W_cond rfl (fun h => W_skip ?_) (fun h => W_exit ?_)
    · simp at h
      have ha := List.getElem?_eq_getElem h
      generalize l[i] = x at ha
      have hg := sumBy_get (f := GWrap.cost) ha
      have cw := l14CopyWrap_ok (GG := GG) x (by omega)
      have hwl : w.length ≤ l.length := by rw [hw, List.length_take]; omega
      have hs : w ++ [x] = l.take (i + 1) := by rw [hw, List.take_add_one, ha]; rfl
      refine W_seq (W_block ?_)
      apply W_regD
      · intro K hK
        simp [ha, limit]
        repeat' (first | with_reducible exact hK | (with_reducible refine callQ (cw) ?_; simp [ha, limit]) | (with_reducible refine goL_split (fun _ => ?_) (fun _ => ?_) <;> simp [ha, limit]) | with_reducible refine And.intro ?_ ?_ | with_reducible exact okay_rfl rfl | with_reducible assumption | omega)
      apply W_regS
      · intro K hK
        simp
        repeat' (first | with_reducible exact hK | (with_reducible refine goL_split (fun _ => ?_) (fun _ => ?_) <;> simp) | with_reducible refine And.intro ?_ ?_ | with_reducible exact okay_rfl rfl | with_reducible assumption | omega)
      refine ⟨l.length - (i + 1), by omega, i + 1, w ++ [x], rfl, h, hs, .inr ?_⟩
      rw [rWrap_snoc]
      simp [gc, closeN, liveA, gcV, gcO, renA, renAs, renO, namesAs, namesA, namesO, posn]
      exact wrap_id (by omega) (by omega)
    · simp at h
      rw [List.take_of_length_le h] at hw
      subst hw
      rw [if_pos rfl]
      refine W_seq (?_)
      apply W_regS
      · intro K hK
        simp
        repeat' (first | with_reducible exact hK | (with_reducible refine goL_split (fun _ => ?_) (fun _ => ?_) <;> simp) | with_reducible refine And.intro ?_ ?_ | with_reducible exact okay_rfl rfl | with_reducible assumption | omega)
      refine W_ret ?_
      simp [Fin]
      all_goals omega

theorem cloneRack_ok (r : GRack) (hc : r.cost ≤ 1048576) : Valid PP GG F_I_cloneRack [.agg r.c] (.agg r.o) [none] := by
  refine v_I_cloneRack [.agg r.o] rfl rfl ?_
  obtain ⟨f, k, l⟩ := r
  have hco : (GRack.mk f k l).cost = l.length + sumBy GWrap.cost l := rfl
  refine W_seq (?_)
  apply W_regS
  · intro K hK
    simp
    repeat' (first | with_reducible exact hK | (with_reducible refine goL_split (fun _ => ?_) (fun _ => ?_) <;> simp) | with_reducible refine And.intro ?_ ?_ | with_reducible exact okay_rfl rfl | with_reducible assumption | omega)
  refine W_seq (?_)
  apply W_regS
  · intro K hK
    simp
    repeat' (first | with_reducible exact hK | (with_reducible refine goL_split (fun _ => ?_) (fun _ => ?_) <;> simp) | with_reducible refine And.intro ?_ ?_ | with_reducible exact okay_rfl rfl | with_reducible assumption | omega)
  refine W_seq (W_seq (?_))
  apply W_regS
  · intro K hK
    simp
    repeat' (first | with_reducible exact hK | (with_reducible refine goL_split (fun _ => ?_) (fun _ => ?_) <;> simp) | with_reducible refine And.intro ?_ ?_ | with_reducible exact okay_rfl rfl | with_reducible assumption | omega)
  refine W_block (W_loop (fun n st => ∃ (i : Nat) (w : List GWrap), n = l.length - i ∧ i ≤ l.length ∧ w = l.take i ∧
    ((i = 0 ∧ st = ⟨[], [(2, .ptr 0 0), (3, .ptr 1 0), (12, .d (.slc 6 (rWrap l))), (13, .d (.int .i64 l.length)), (14, .d (.int .i64 0))], [(0, .box [.d (.int .i64 0), .d (.int .i64 0), .nil 1 6]), (1, .box [.d (.int .i64 f), .d (.int .i64 k), .nil 1 6])], 2⟩) ∨
     st = ⟨[], [(2, .ptr 0 0), (3, .ptr 1 0), (12, .d (.slc 6 (rWrap l))), (13, .d (.int .i64 l.length)), (14, .d (.int .i64 i))], [(0, .box [.d (.int .i64 0), .d (.int .i64 0), .nil 1 6]), (1, .box [.d (.int .i64 f), .d (.int .i64 k), .sl 2]), (2, .arr 0 1 6 (rWrap w))], 3⟩)) _ ⟨0, [], rfl, by omega, rfl, .inl ⟨rfl, rfl⟩⟩ ?_)
  rintro n st ⟨i, w, rfl, hi, hw, ⟨rfl, rfl⟩ | rfl⟩
  · refine W_seq (?_)
    apply W_regS
    · intro K hK
      simp
      repeat' (first | with_reducible exact hK | (with_reducible refine goL_split (fun _ => ?_) (fun _ => ?_) <;> simp) | with_reducible refine And.intro ?_ ?_ | with_reducible exact okay_rfl rfl | with_reducible assumption | omega)
    refine W_seq (?_)
    refine W_cond rfl (fun h => W_skip ?_) (fun h => W_exit ?_)
    · simp at h
      have ha := List.getElem?_eq_getElem h
      generalize l[0] = x at ha
      have hg := sumBy_get (f := GWrap.cost) ha
      have h1 : x.cost = x.fKind.length + x.fBox.cost := rfl
      have h2 : x.fBox.cost = x.fBox.fData.length := rfl
      have cw := Clone_ok (GG := GG) x.fBox.fData (by omega)
      have hind := ind_bytes x.fBox.fData
      refine W_seq (W_block (W_seq ?_))
      apply W_regS
      · intro K hK
        simp [ha]
        repeat' (first | with_reducible exact hK | (with_reducible refine goL_split (fun _ => ?_) (fun _ => ?_) <;> simp [ha]) | with_reducible refine And.intro ?_ ?_ | with_reducible exact okay_rfl rfl | with_reducible assumption | omega)
      refine W_seq (?_)
      apply W_regS
      · intro K hK
        simp
        repeat' (first | with_reducible exact hK | (with_reducible refine callQ (cw) ?_; simp) | (with_reducible refine goL_split (fun _ => ?_) (fun _ => ?_) <;> simp) | with_reducible refine And.intro ?_ ?_ | with_reducible exact okay_rfl rfl | with_reducible assumption | omega)
      apply W_regS
      · intro K hK
        simp [limit]
        repeat' (first | with_reducible exact hK | (with_reducible refine goL_split (fun _ => ?_) (fun _ => ?_) <;> simp [limit]) | with_reducible refine And.intro ?_ ?_ | with_reducible exact okay_rfl rfl | with_reducible assumption | omega)
      apply W_regS
      · intro K hK
        simp
        repeat' (first | with_reducible exact hK | (with_reducible refine goL_split (fun _ => ?_) (fun _ => ?_) <;> simp) | with_reducible refine And.intro ?_ ?_ | with_reducible exact okay_rfl rfl | with_reducible assumption | omega)
      refine ⟨l.length - (0 + 1), by omega, 0 + 1, [x], rfl, h, by rw [List.take_add_one, ha]; rfl, .inr ?_⟩
      simp [gc, closeN, liveA, gcV, gcO, renA, renAs, renO, namesAs, namesA, namesO, posn, rWrap]
      exact wrap_id (by omega) (by omega)
    · simp at h
      have hnil : l = [] := by first | exact h | exact List.length_eq_zero_iff.1 (by omega)
      rw [if_pos rfl]
      refine W_seq (?_)
      apply W_regS
      · intro K hK
        simp
        repeat' (first | with_reducible exact hK | (with_reducible refine goL_split (fun _ => ?_) (fun _ => ?_) <;> simp) | with_reducible refine And.intro ?_ ?_ | with_reducible exact okay_rfl rfl | with_reducible assumption | omega)
      refine W_ret ?_
      simp [Fin, hnil, rWrap]
      all_goals omega
  · refine W_seq (?_)
    apply W_regS
    · intro K hK
      simp
      repeat' (first | with_reducible exact hK | (with_reducible refine goL_split (fun _ => ?_) (fun _ => ?_) <;> simp) | with_reducible refine And.intro ?_ ?_ | with_reducible exact okay_rfl rfl | with_reducible assumption | omega)
    refine W_seq (?_)
    refine W_cond rfl (fun h => W_skip ?_) (fun h => W_exit ?_)
    · simp at h
      have ha := List.getElem?_eq_getElem h
      generalize l[i] = x at ha
      have hg := sumBy_get (f := GWrap.cost) ha
      have h1 : x.cost = x.fKind.length + x.fBox.cost := rfl
      have h2 : x.fBox.cost = x.fBox.fData.length := rfl
      have cw := Clone_ok (GG := GG) x.fBox.fData (by omega)
      have hind := ind_bytes x.fBox.fData
      have hwl : w.length ≤ l.length := by rw [hw, List.length_take]; omega
      have hs : w ++ [x] = l.take (i + 1) := by rw [hw, List.take_add_one, ha]; rfl
      refine W_seq (W_block (W_seq ?_))
      apply W_regS
      · intro K hK
        simp [ha]
        repeat' (first | with_reducible exact hK | (with_reducible refine goL_split (fun _ => ?_) (fun _ => ?_) <;> simp [ha]) | with_reducible refine And.intro ?_ ?_ | with_reducible exact okay_rfl rfl | with_reducible assumption | omega)
      refine W_seq (?_)
      apply W_regS
      · intro K hK
        simp
        repeat' (first | with_reducible exact hK | (with_reducible refine callQ (cw) ?_; simp) | (with_reducible refine goL_split (fun _ => ?_) (fun _ => ?_) <;> simp) | with_reducible refine And.intro ?_ ?_ | with_reducible exact okay_rfl rfl | with_reducible assumption | omega)
      apply W_regS
      · intro K hK
        simp [limit]
        repeat' (first | with_reducible exact hK | (with_reducible refine goL_split (fun _ => ?_) (fun _ => ?_) <;> simp [limit]) | with_reducible refine And.intro ?_ ?_ | with_reducible exact okay_rfl rfl | with_reducible assumption | omega)
      apply W_regS
      · intro K hK
        simp
        repeat' (first | with_reducible exact hK | (with_reducible refine goL_split (fun _ => ?_) (fun _ => ?_) <;> simp) | with_reducible refine And.intro ?_ ?_ | with_reducible exact okay_rfl rfl | with_reducible assumption | omega)
      refine ⟨l.length - (i + 1), by omega, i + 1, w ++ [x], rfl, h, hs, .inr ?_⟩
      rw [rWrap_snoc]
      simp [gc, closeN, liveA, gcV, gcO, renA, renAs, renO, namesAs, namesA, namesO, posn]
      exact wrap_id (by omega) (by omega)
    · simp at h
      rw [List.take_of_length_le h] at hw
      subst hw
      rw [if_pos rfl]
      refine W_seq (?_)
      apply W_regS
      · intro K hK
        simp
        repeat' (first | with_reducible exact hK | (with_reducible refine goL_split (fun _ => ?_) (fun _ => ?_) <;> simp) | with_reducible refine And.intro ?_ ?_ | with_reducible exact okay_rfl rfl | with_reducible assumption | omega)
      refine W_ret ?_
      simp [Fin]
      all_goals omega

theorem ind_rWrap (l : List GWrap) : ∀ row, row ∈ rWrap l → ∀ d, d ∈ row → IndD 1 d := by
  intro row hr d hd
  simp only [rWrap, List.mem_map] at hr
  obtain ⟨x, _, rfl⟩ := hr
  simp only [GWrap.row, List.mem_cons, List.not_mem_nil, or_false] at hd
  rcases hd with rfl | rfl | rfl | rfl | rfl | rfl
  · trivial
  · trivial
  · trivial
  · trivial
  · exact ind_bytes x.fBox.fData
  · trivial

theorem rack_marks {r : GRack} (h : r.cost ≤ 4194304) : r.marksIn ≤ 400000000 := by
  have hco : r.cost = r.fWraps.length + sumBy GWrap.cost r.fWraps := rfl
  have := sumBy_le GWrap.marks_le r.fWraps
  show sumBy GWrap.marks r.fWraps ≤ _
  omega

def zReq : GReq := ⟨0, 0, [], [], [], 0⟩

def S0 (ws : List (List UInt8)) : St := ⟨[], [(2, .ptr 0 0), (4, .ptr 1 0), (5, .sl 2)], [(0, .box (zReq.row.map A.d)), (1, .box (zReq.row.map A.d)), (2, .arr 0 0 1 (strsD ws))], 3⟩

@[simp] theorem binA_strgeq (s t : List UInt8) : binA .str .geq (.d (.str s)) (.d (.str t)) = out (.d (.bool (!(Go.Op.bytesLess s t)))) := id rfl

@[simp] theorem binA_strlss (s t : List UInt8) : binA .str .lss (.d (.str s)) (.d (.str t)) = out (.d (.bool (Go.Op.bytesLess s t))) := id rfl

@[simp] theorem binA_strleq (s t : List UInt8) : binA .str .leq (.d (.str s)) (.d (.str t)) = out (.d (.bool (Go.Op.bytesLess s t || s == t))) := id rfl

@[simp] theorem binA_strgtr (s t : List UInt8) : binA .str .gtr (.d (.str s)) (.d (.str t)) = out (.d (.bool (!(Go.Op.bytesLess s t || s == t)))) := id rfl

/-- Blocks below B stand, but for those of X. -/
structure Kx (B : Nat) (X : Nat → Prop) (w w' : World) : Prop where
  os : w'.os = w.os
  output : w'.output = w.output
  size : w.heap.size ≤ w'.heap.size
  block : ∀ k, k < B → ¬ X k → w'.heap[k]? = w.heap[k]?

theorem Kx_refl (B : Nat) (X : Nat → Prop) (w : World) : Kx B X w w := ⟨rfl, rfl, Nat.le_refl _, fun _ _ _ => rfl⟩

theorem Kx_trans {B : Nat} {X : Nat → Prop} {w w' w'' : World} (h : Kx B X w w') (k : Kx B X w' w'') : Kx B X w w'' :=
  ⟨k.os.trans h.os, k.output.trans h.output, Nat.le_trans h.size k.size, fun i hi hx => (k.block i hi hx).trans (h.block i hi hx)⟩

theorem Kx_mono {B : Nat} {X Y : Nat → Prop} {w w' : World} (h : Kx B X w w') (hXY : ∀ k, X k → Y k) : Kx B Y w w' :=
  ⟨h.os, h.output, h.size, fun i hi hx => h.block i hi fun hX => hx (hXY i hX)⟩

theorem Kx_alloc {B : Nat} (X : Nat → Prop) (w : World) (hB : B ≤ w.heap.size) (o : Obj) : Kx B X w (w.alloc o) :=
  ⟨rfl, rfl, by simp, fun i hi _ => heap_alloc_old w o (Nat.lt_of_lt_of_le hi hB)⟩

theorem Kx_cell {B : Nat} {X : Nat → Prop} {w w' : World} (h : Kx B X w w') {b o : Nat} (hb : b < B) (hx : ¬ X b) : w'.cell? ⟨b, o, none⟩ = w.cell? ⟨b, o, none⟩ := by
  unfold World.cell?; rw [h.block b hb hx]

/-- A wrap's values. -/
structure WV where
  id : Int
  ends : Int
  kind : ByteArray
  nonce : Int
  dat : Option Addr
  dln : Nat
  dcp : Nat
  tag : Int

/-- The wrap's cells at an address. -/
def WVat (w : World) (b o : Nat) (x : WV) : Prop :=
  w.cell? ⟨b, o, none⟩ = some (.int .i64 x.id) ∧ w.cell? ⟨b, o + 1, none⟩ = some (.int .i64 x.ends) ∧ w.cell? ⟨b, o + 2, none⟩ = some (.string x.kind) ∧
  w.cell? ⟨b, o + 3, none⟩ = some (.int .i64 x.nonce) ∧ w.cell? ⟨b, o + 4, none⟩ = some (.slice x.dat x.dln x.dcp) ∧ w.cell? ⟨b, o + 5, none⟩ = some (.int .i64 x.tag)

theorem WVat_kept {w w' : World} {b o : Nat} {x : WV} (h : WVat w b o x) (hk : ∀ o, w'.cell? ⟨b, o, none⟩ = w.cell? ⟨b, o, none⟩) : WVat w' b o x := by
  unfold WVat at h ⊢
  simp only [hk]
  exact h

/-- The variable ids, in its own block, holds these numbers. -/
def IdsAt (B Bi : Nat) (l : List Int) (w : World) : Prop :=
  ∃ v, w.heap[Bi]? = some (.cells #[v] 29 (0, 0)) ∧ w.ownsRow B 3 1 v l.length (l.map (Value.int .i64))

theorem IdsAt_kept {B Bi : Nat} {l : List Int} {w w' : World} (h : IdsAt B Bi l w) (hk : ∀ k, k = Bi ∨ B ≤ k → k < w.heap.size → w'.heap[k]? = w.heap[k]?) : IdsAt B Bi l w' := by
  obtain ⟨v, h1, h2⟩ := h
  refine ⟨v, (hk Bi (.inl rfl) (Array.getElem?_eq_some_iff.1 h1).1).trans h1, h2.1, ?_⟩
  rcases h2.2 with hn | ⟨g, cap, cur, rfl, hg, hgg, rest⟩
  · exact .inl hn
  · exact .inr ⟨g, cap, cur, rfl, hg, (hk g (.inr hg) (Array.getElem?_eq_some_iff.1 hgg).1).trans hgg, rest⟩

/-- All blocks stand, where p. -/
def Stands (p : Prop) (w w' : World) : Prop := p → ∀ k, k < w.heap.size → w'.heap[k]? = w.heap[k]?

theorem int_info : (PP.info? 3).map (fun i => (i.zero, i.size, i.bytes)) = some (some (.int .i64 0), 1, 8) := by kernel_rfl

theorem setCell_heap {w : World} {a : Addr} {u : Value} {k : Nat} (h : k ≠ a.block) : (w.setCell a u).heap[k]? = w.heap[k]? := by
  have h' : ¬ a.block = k := fun e => h e.symm
  simp [World.setCell, Array.getElem?_modify, h']

set_option maxHeartbeats 4000000 in
set_option maxRecDepth 1000000 in
open Go.RowKit in
theorem clo_walk (B Bn Bi : Nat) (now : Int) (x : WV) (l : List Int) (w : World) (hBn : Bn < B) (hBi : Bi < B) (hne : Bn ≠ Bi) (hB : B ≤ w.heap.size) (hn : w.cell? ⟨Bn, 0, none⟩ = some (.int .i64 now))
    (hi : IdsAt B Bi l w) (hl : l.length ≤ 1048576) :
    Calls PP 63 #[.agg #[.int .i64 x.id, .int .i64 x.ends, .string x.kind, .int .i64 x.nonce, .slice x.dat x.dln x.dcp, .int .i64 x.tag], .pointer (some ⟨Bn, 0, none⟩), .pointer (some ⟨Bi, 0, none⟩)] w fun e w' =>
      e = .returned (.bool (decide (x.ends ≤ now))) ∧ IdsAt B Bi (if x.ends ≤ now then l ++ [x.id] else l) w' ∧ Kx B (· = Bi) w w' ∧ Stands (now < x.ends) w w' := by
  obtain ⟨v, hv, hown⟩ := hi
  obtain ⟨i0, hi, hz0, hz1, hz2⟩ := info_parts int_info
  have hvc : w.cell? ⟨Bi, 0, none⟩ = some v := by simp [World.cell?, hv]
  obtain ⟨O, hO⟩ : ∃ O : Obj, O = .cells #[.int .i64 x.id, .int .i64 x.ends, .string x.kind, .int .i64 x.nonce, .slice x.dat x.dln x.dcp, .int .i64 x.tag] 61 := ⟨_, rfl⟩
  have cn : (w.alloc O).cell? ⟨Bn, 0, none⟩ = some (.int .i64 now) := (World.cell?_alloc_past _ _ _ (by omega)).trans hn
  have ci : (w.alloc O).cell? ⟨Bi, 0, none⟩ = some v := (World.cell?_alloc_past _ _ _ (by omega)).trans hvc
  rw [hO] at cn ci
  unfold PP
  go_enter Tryd.func63, Tryd.ntmps63
  by_cases he : x.ends ≤ now
  · rw [if_pos he]
    go_wp2_with (at_builtin; refine wpList_append_own _ rfl _ _ 29 rfl B 3 i0 (.int .i64 0) 1 8 Tryd.underlying29 hi hz0 hz1 hz2 rfl (by decide) _ _ _ rfl ((hown.alloc _).alloc _) ⟨w.heap.size + 1, 0, none⟩ 1 1 [.int .i64 x.id] rfl rfl ?c1 ?c2 ?c3 ?c4 ?c5 ?_)
    case c1 =>
      intro j u hj
      match j, hj with
      | 0, hj => simp at hj; subst hj; simp [Addr.add]
    case c2 => intro u hu; simp at hu; subst hu; rfl
    case c3 => unfold maxLen; omega
    case c4 => omega
    case c5 => simp; omega
    intro v' w1 hown' hgrow _
    obtain ⟨g1, cap1, rfl⟩ : ∃ g cap, v' = .slice (some ⟨g, 0, none⟩) (l.length + 1) cap := by
      rcases hown'.2 with ⟨_, h⟩ | ⟨g, cap, _, h, _⟩
      · omega
      · exact ⟨g, cap, h⟩
    have hlt := hown.lt
    have hbi : w1.heap[Bi]? = some (.cells #[v] 29 (0, 0)) := by
      rw [hgrow.block Bi (by simp; omega) (fun h => by have := (hlt Bi h.symm).1; omega), heap_alloc_old _ _ (by simp; omega), heap_alloc_old _ _ (by omega)]
      exact hv
    have hpar : w1.heap[w.heap.size]? = some (.cells #[.int .i64 x.id, .int .i64 x.ends, .string x.kind, .int .i64 x.nonce, .slice x.dat x.dln x.dcp, .int .i64 x.tag] 61 (0, 0)) := by
      rw [hgrow.block w.heap.size (by simp; omega) (fun h => by have := (hlt _ h.symm).2; omega), heap_alloc_old _ _ (by simp)]
      show (w.heap.push _)[w.heap.size]? = _
      rw [Array.getElem?_push_size]
    have cn1 : (w1.setCell ⟨Bi, 0, none⟩ (.slice (some ⟨g1, 0, none⟩) (l.length + 1) cap1)).cell? ⟨Bn, 0, none⟩ = some (.int .i64 now) := by
      rw [World.cell?_setCell_other _ _ _ _ (by simp only [ne_eq, Addr.mk.injEq, not_and]; omega)]
      exact hgrow.cell ((World.cell?_alloc_past _ _ _ (by simp; omega)).trans cn) (fun h => by have := (hlt Bn h.symm).1; omega)
    have ce1 : (w1.setCell ⟨Bi, 0, none⟩ (.slice (some ⟨g1, 0, none⟩) (l.length + 1) cap1)).cell? ⟨w.heap.size, 1, none⟩ = some (.int .i64 x.ends) := by
      rw [World.cell?_setCell_other _ _ _ _ (by simp only [ne_eq, Addr.mk.injEq, not_and]; omega)]
      simp [World.cell?, hpar]
    have ci1 : w1.cell? ⟨Bi, 0, none⟩ = some v := by simp [World.cell?, hbi]
    have cf1 : w1.frozen? ⟨Bi, 0, none⟩ = false := by simp [World.frozen?, hbi]
    go_wp2
    go_ret
    refine ⟨by simp [he], ⟨.slice (some ⟨g1, 0, none⟩) (l.length + 1) cap1, ?_, ?_⟩, ?_, fun h => absurd h (by omega)⟩
    · simp [World.setCell, Array.getElem?_modify, hbi]
    · have := ownsRow_setCell_below (a := ⟨Bi, 0, none⟩) hown' hBi (.slice (some ⟨g1, 0, none⟩) (l.length + 1) cap1)
      simpa using this
    · refine ⟨hgrow.os, hgrow.output, ?_, fun k hk hkb => ?_⟩
      · have h1 : (w1.setCell ⟨Bi, 0, none⟩ (.slice (some ⟨g1, 0, none⟩) (l.length + 1) cap1)).heap.size = w1.heap.size := by simp [World.setCell]
        rw [h1]
        have := hgrow.size
        simp at this
        omega
      · rw [setCell_heap (fun h => hkb h), hgrow.block k (by simp; omega) (fun h => by have := (hlt k h.symm).1; omega), heap_alloc_old _ _ (by simp; omega), heap_alloc_old _ _ (by omega)]
  · rw [if_neg he]
    go_wp2
    go_ret
    refine ⟨by simp [he], IdsAt_kept ⟨v, hv, hown⟩ fun k hk hks => heap_alloc_old _ _ hks, Kx_alloc _ _ hB _, fun _ k hk => heap_alloc_old _ _ hk⟩

theorem take_snoc {α : Type} {l : List α} {k : Nat} {x : α} (h : l[k]? = some x) : l.take (k + 1) = l.take k ++ [x] := by
  rw [List.take_add_one, h]; rfl

/-- None of these has ended. -/
def Lasts (now : Int) (l : List WV) : Prop := ∀ y, y ∈ l → ¬ y.ends ≤ now

/-- What the search for an ended wrap gives. -/
def IdxR (B Bi : Nat) (now : Int) (rows : List WV) (l : List Int) (w' : World) (r : Int) : Prop :=
  (∃ (i : Nat) (x : WV), r = i ∧ rows[i]? = some x ∧ x.ends ≤ now ∧ Lasts now (rows.take i) ∧ IdsAt B Bi (l ++ [x.id]) w') ∨ (r = -1 ∧ Lasts now rows ∧ IdsAt B Bi l w')

theorem Lasts_snoc {now : Int} {rows : List WV} {k : Nat} {x : WV} (h : Lasts now (rows.take k)) (hx : rows[k]? = some x) (he : ¬ x.ends ≤ now) : Lasts now (rows.take (k + 1)) := by
  intro y hy
  rw [take_snoc hx] at hy
  rcases List.mem_append.1 hy with hy | hy
  · exact h y hy
  · simp at hy; subst hy; exact he

set_option maxHeartbeats 4000000 in
set_option maxRecDepth 1000000 in
open Go.RowKit in
theorem idx_walk (B Bn Bi : Nat) (now : Int) (rows : List WV) (l : List Int) (b off cap : Nat) (w : World) (hBn : Bn < B) (hBi : Bi < B) (hne : Bn ≠ Bi) (hb : b < B) (hbi : b ≠ Bi) (hB : B ≤ w.heap.size) (hn : w.cell? ⟨Bn, 0, none⟩ = some (.int .i64 now))
    (hc : ∀ (k : Nat) x, rows[k]? = some x → WVat w b (off + k * 6) x) (hi : IdsAt B Bi l w) (hl : l.length ≤ 1048576) (hr : rows.length ≤ 1048576) :
    Calls PP 74 #[.slice (some ⟨b, off, none⟩) rows.length cap, .func (.func 63) #[] #[.pointer (some ⟨Bn, 0, none⟩), .pointer (some ⟨Bi, 0, none⟩)]] w fun e w' =>
      ∃ r : Int, e = .returned (.int .i64 r) ∧ Kx B (· = Bi) w w' ∧ IdxR B Bi now rows l w' r := by
  unfold PP
  go_enter Tryd.func74, Tryd.ntmps74
  go_wp2
  go_loopw [8] (fun s wr => ∃ k : Nat, k ≤ rows.length ∧ s = .int .i64 k ∧ IdsAt B Bi l wr ∧ Kx B (· = Bi) w wr ∧ Lasts now (rows.take k)) (fun s _ => rows.length - (intOf s).toNat)
  case atStart => exact ⟨0, Nat.zero_le _, rfl, hi, Kx_refl _ _ _, fun y hy => by simp at hy⟩
  case round =>
    obtain ⟨k, hk, rfl, hI, hK, hall⟩ := hrel
    by_cases hlt : k < rows.length
    · have hx := List.getElem?_eq_getElem hlt
      generalize rows[k] = x at hx
      have hw := hc k x hx
      obtain ⟨c0, c1, c2, c3, c4, c5⟩ := WVat_kept hw fun o => Kx_cell hK (o := o) hb hbi
      have cn := (Kx_cell hK (o := 0) hBn hne).trans hn
      have hBr : B ≤ wr.heap.size := Nat.le_trans hB hK.size
      have hcl := clo_walk B Bn Bi now x l wr hBn hBi hne hBr cn hI hl
      by_cases he : x.ends ≤ now
      · rw [if_pos he, decide_eq_true he] at hcl
        go_wp2_with (go_at_call 63; refine hcl.mono ?_)
        rintro e w2 ⟨rfl, hI2, hK2, _⟩
        go_wp2
        go_ret
        first | exact ⟨_, rfl, Kx_trans hK hK2, .inl ⟨k, x, rfl, hx, he, hall, hI2⟩⟩ | exact ⟨Kx_trans hK hK2, .inl ⟨k, x, rfl, hx, he, hall, hI2⟩⟩
      · rw [if_neg he, decide_eq_false he] at hcl
        go_wp2_with (go_at_call 63; refine hcl.mono ?_)
        rintro e w2 rfl hI2 hK2 _
        go_wp2
        go_roundw
        case rel =>
          exact ⟨k + 1, by omega, by simp, hI2, Kx_trans hK hK2, Lasts_snoc hall hx (by omega)⟩
        case measure => simp [intOf]; omega
    · go_wp2
      go_ret
      have hkl : k = rows.length := by omega
      subst hkl
      rw [List.take_length] at hall
      first | exact ⟨_, rfl, hK, .inr ⟨rfl, hall, hI⟩⟩ | exact ⟨hK, .inr ⟨rfl, hall, hI⟩⟩

/-- In the block b the cells from lo to hi may have turned; none is less, none is frozen anew. -/
structure RowsK (b lo hi : Nat) (w w' : World) : Prop where
  out : ∀ y, ¬ (lo ≤ y ∧ y < hi) → w'.cell? (at_ b y) = w.cell? (at_ b y)
  frz : ∀ y, w'.frz? (at_ b y) = w.frz? (at_ b y)
  some : ∀ y, (w.cell? (at_ b y)).isSome = true → (w'.cell? (at_ b y)).isSome = true

theorem RowsK_heap {b lo hi : Nat} {w w' : World} (h : w'.heap[b]? = w.heap[b]?) : RowsK b lo hi w w' := by
  have hc : ∀ y, w'.cell? (at_ b y) = w.cell? (at_ b y) := fun y => by unfold World.cell?; simp only [at_, h]
  exact ⟨fun y _ => hc y, fun y => by unfold World.frz?; simp only [at_, h], fun y hy => by rw [hc]; exact hy⟩

theorem RowsK_trans {b lo hi : Nat} {w w' w'' : World} (h : RowsK b lo hi w w') (k : RowsK b lo hi w' w'') : RowsK b lo hi w w'' :=
  ⟨fun y hy => (k.out y hy).trans (h.out y hy), fun y => (k.frz y).trans (h.frz y), fun y hy => k.some y (h.some y hy)⟩

def endedW (now : Int) (x : WV) : Bool := decide (x.ends ≤ now)

def keptW (now : Int) (l : List WV) : List WV := l.filter fun x => !endedW now x

def goneW (now : Int) (l : List WV) : List Int := (l.filter (endedW now)).map WV.id

theorem keptW_lasts {now : Int} {l : List WV} (h : Lasts now l) : keptW now l = l ∧ goneW now l = [] := by
  refine ⟨List.filter_eq_self.2 fun x hx => ?_, ?_⟩
  · simp [endedW, h x hx]
  · unfold goneW
    rw [List.filter_eq_nil_iff.2 (fun x hx => by simp [endedW, h x hx])]
    rfl

/-- The state of the loop that strikes: j rows are seen, i of them kept. -/
structure DfS (B Bi b off : Nat) (now : Int) (rows : List WV) (w : World) (i j : Nat) (wr : World) : Prop where
  cur : ∃ cur : List WV, cur.length = rows.length ∧ cur.take i = keptW now (rows.take j) ∧ cur.drop j = rows.drop j ∧ ∀ (k : Nat) x, cur[k]? = some x → WVat wr b (off + k * 6) x
  ids : IdsAt B Bi (goneW now (rows.take j)) wr
  kx : Kx B (fun k => k = Bi ∨ k = b) w wr
  rk : RowsK b off (off + rows.length * 6) w wr
  lt : i < j
  jn : j ≤ rows.length

theorem goneW_len (now : Int) (l : List WV) : (goneW now l).length ≤ l.length := by
  unfold goneW; rw [List.length_map]; exact List.length_filter_le _ _

theorem keptW_snoc {now : Int} {rows : List WV} {j : Nat} {x : WV} (hx : rows[j]? = some x) : keptW now (rows.take (j + 1)) = keptW now (rows.take j) ++ (if x.ends ≤ now then [] else [x]) ∧
    goneW now (rows.take (j + 1)) = goneW now (rows.take j) ++ (if x.ends ≤ now then [x.id] else []) := by
  unfold keptW goneW
  rw [take_snoc hx, List.filter_append, List.filter_append, List.map_append]
  by_cases h : x.ends ≤ now
  · rw [if_pos h, if_pos h]; simp [endedW, h]
  · rw [if_neg h, if_neg h]; simp [endedW, h]

theorem DfS_start {B Bi b off : Nat} {now : Int} {rows : List WV} {w w1 : World} {i0 : Nat} {x0 : WV} (hx0 : rows[i0]? = some x0) (he0 : x0.ends ≤ now) (hall : Lasts now (rows.take i0)) (hI : IdsAt B Bi [x0.id] w1) (hK : Kx B (· = Bi) w w1) (hb : b < B) (hbi : b ≠ Bi)
    (hc : ∀ (k : Nat) x, rows[k]? = some x → WVat w b (off + k * 6) x) : DfS B Bi b off now rows w i0 (i0 + 1) w1 := by
  obtain ⟨k1, k2⟩ := keptW_snoc (now := now) hx0
  obtain ⟨e1, e2⟩ := keptW_lasts hall
  rw [if_pos he0] at k1 k2
  rw [e1, List.append_nil] at k1
  rw [e2, List.nil_append] at k2
  exact ⟨⟨rows, rfl, k1.symm, rfl, fun k x hx => WVat_kept (hc k x hx) fun o => Kx_cell hK hb hbi⟩, by rw [k2]; exact hI, Kx_mono hK fun k h => .inl h, RowsK_heap (hK.block b hb hbi), Nat.lt_succ_self _, (List.getElem?_eq_some_iff.1 hx0).1⟩

theorem DfS_hit {B Bi b off : Nat} {now : Int} {rows : List WV} {w wr w2 : World} {i j : Nat} {x : WV} (h : DfS B Bi b off now rows w i j wr) (hx : rows[j]? = some x) (he : x.ends ≤ now) (hI : IdsAt B Bi (goneW now (rows.take j) ++ [x.id]) w2) (hK : Kx B (· = Bi) wr w2) (hb : b < B) (hbi : b ≠ Bi) :
    DfS B Bi b off now rows w i (j + 1) w2 := by
  obtain ⟨⟨cur, h1, h2, h3, h4⟩, h5, h6, h7, h8, h9⟩ := h
  obtain ⟨k1, k2⟩ := keptW_snoc (now := now) hx
  rw [if_pos he] at k1 k2
  rw [List.append_nil] at k1
  refine ⟨⟨cur, h1, h2.trans k1.symm, ?_, fun k x hx => WVat_kept (h4 k x hx) fun o => Kx_cell hK hb hbi⟩, by rw [k2]; exact hI, Kx_trans h6 (Kx_mono hK fun k h => .inl h), RowsK_trans h7 (RowsK_heap (hK.block b hb hbi)), by omega, (List.getElem?_eq_some_iff.1 hx).1⟩
  rw [← List.drop_drop, ← List.drop_drop, h3]

theorem take_setW {α : Type} {l : List α} {i : Nat} {x : α} (hi : i < l.length) : (l.set i x).take (i + 1) = l.take i ++ [x] := by
  rw [List.take_add_one, List.take_set_of_le (Nat.le_refl _), List.getElem?_set_self hi]; rfl

theorem setCells_all (b : Nat) : ∀ (vs : List Value) (o : Nat) (w : World), (∀ k, k ≠ b → (w.setCells b o vs).heap[k]? = w.heap[k]?) ∧ (∀ c, (w.setCells b o vs).frz? c = w.frz? c) ∧ (w.setCells b o vs).heap.size = w.heap.size ∧ (w.setCells b o vs).os = w.os ∧ (w.setCells b o vs).output = w.output := by
  intro vs
  induction vs with
  | nil => intro o w; exact ⟨fun _ _ => rfl, fun _ => rfl, rfl, rfl, rfl⟩
  | cons v vs ih =>
    intro o w
    obtain ⟨h1, h2, h3, h4, h5⟩ := ih (o + 1) (w.setCell ⟨b, o, none⟩ v)
    exact ⟨fun k hk => (h1 k hk).trans (setCell_heap hk), fun c => (h2 c).trans (frz_setCell _ _ _ _), h3.trans (by simp [World.setCell]), h4, h5⟩

/-- A wrap stored over the cells of another. -/
def putW (w : World) (b o : Nat) (x : WV) : World :=
  (((((w.setCell ⟨b, o, none⟩ (.int .i64 x.id)).setCell ⟨b, o + 1, none⟩ (.int .i64 x.ends)).setCell ⟨b, o + 2, none⟩ (.string x.kind)).setCell ⟨b, o + 3, none⟩ (.int .i64 x.nonce)).setCell ⟨b, o + 4, none⟩ (.slice x.dat x.dln x.dcp)).setCell ⟨b, o + 5, none⟩ (.int .i64 x.tag)

theorem setCell_cell {w : World} {b o o' : Nat} {u z : Value} (h : w.cell? ⟨b, o, none⟩ = some z) : (w.setCell ⟨b, o, none⟩ u).cell? ⟨b, o', none⟩ = if o' = o then some u else w.cell? ⟨b, o', none⟩ := by
  by_cases e : o' = o
  · rw [if_pos e, e]; exact World.cell?_setCell_same _ _ _ h
  · rw [if_neg e]; exact World.cell?_setCell_other _ _ _ _ (by simp only [ne_eq, Addr.mk.injEq, not_and]; omega)

theorem putW_cell {w : World} {b o : Nat} {x y : WV} (h : WVat w b o y) (o' : Nat) : (putW w b o x).cell? ⟨b, o', none⟩ =
    if o' = o + 5 then some (.int .i64 x.tag) else if o' = o + 4 then some (.slice x.dat x.dln x.dcp) else if o' = o + 3 then some (.int .i64 x.nonce) else if o' = o + 2 then some (.string x.kind) else if o' = o + 1 then some (.int .i64 x.ends) else if o' = o then some (.int .i64 x.id) else w.cell? ⟨b, o', none⟩ := by
  obtain ⟨h0, h1, h2, h3, h4, h5⟩ := h
  have g0 := fun o' => setCell_cell (o' := o') (u := .int .i64 x.id) h0
  have g1 := fun o' => setCell_cell (o' := o') (u := .int .i64 x.ends) ((g0 (o + 1)).trans ((if_neg (by omega)).trans h1))
  have g2 := fun o' => setCell_cell (o' := o') (u := .string x.kind) ((g1 (o + 2)).trans ((if_neg (by omega)).trans ((g0 (o + 2)).trans ((if_neg (by omega)).trans h2))))
  have g3 := fun o' => setCell_cell (o' := o') (u := .int .i64 x.nonce) ((g2 (o + 3)).trans ((if_neg (by omega)).trans ((g1 (o + 3)).trans ((if_neg (by omega)).trans ((g0 (o + 3)).trans ((if_neg (by omega)).trans h3))))))
  have g4 := fun o' => setCell_cell (o' := o') (u := .slice x.dat x.dln x.dcp) ((g3 (o + 4)).trans ((if_neg (by omega)).trans ((g2 (o + 4)).trans ((if_neg (by omega)).trans ((g1 (o + 4)).trans ((if_neg (by omega)).trans ((g0 (o + 4)).trans ((if_neg (by omega)).trans h4))))))))
  have g5 := fun o' => setCell_cell (o' := o') (u := .int .i64 x.tag) ((g4 (o + 5)).trans ((if_neg (by omega)).trans ((g3 (o + 5)).trans ((if_neg (by omega)).trans ((g2 (o + 5)).trans ((if_neg (by omega)).trans ((g1 (o + 5)).trans ((if_neg (by omega)).trans ((g0 (o + 5)).trans ((if_neg (by omega)).trans h5))))))))))
  unfold putW
  rw [g5, g4, g3, g2, g1, g0]

theorem putW_heap {w : World} {b o k : Nat} {x : WV} (h : k ≠ b) : (putW w b o x).heap[k]? = w.heap[k]? := by
  unfold putW
  rw [setCell_heap h, setCell_heap h, setCell_heap h, setCell_heap h, setCell_heap h, setCell_heap h]

theorem putW_size {w : World} {b o : Nat} {x : WV} : (putW w b o x).heap.size = w.heap.size := by simp [putW, World.setCell]

theorem DfS_keep {B Bi b off : Nat} {now : Int} {rows : List WV} {w wr w2 : World} {i j : Nat} {x : WV} (h : DfS B Bi b off now rows w i j wr) (hx : rows[j]? = some x) (he : ¬ x.ends ≤ now) (hI : IdsAt B Bi (goneW now (rows.take j)) w2) (hK : Kx B (· = Bi) wr w2) (hb : b < B) (hbi : b ≠ Bi) :
    DfS B Bi b off now rows w (i + 1) (j + 1) (putW w2 b (off + i * 6) x) := by
  obtain ⟨⟨cur, h1, h2, h3, h4⟩, h5, h6, h7, h8, h9⟩ := h
  obtain ⟨k1, k2⟩ := keptW_snoc (now := now) hx
  rw [if_neg he] at k1 k2
  rw [List.append_nil] at k2
  have hjl := (List.getElem?_eq_some_iff.1 hx).1
  have hil : i < cur.length := by omega
  have hy := List.getElem?_eq_getElem hil
  generalize cur[i] = y at hy
  have hwy := WVat_kept (h4 i y hy) fun o => Kx_cell hK (o := o) hb hbi
  have hpc := putW_cell (x := x) hwy
  have hrk : RowsK b off (off + rows.length * 6) w w2 := RowsK_trans h7 (RowsK_heap (hK.block b hb hbi))
  refine ⟨⟨cur.set i x, by simpa using h1, ?_, ?_, fun k z hz => ?_⟩, ?_, ?_, ?_, by omega, by omega⟩
  · rw [take_setW hil, h2, k1]
  · rw [List.drop_set_of_lt (by omega)]
    rw [← List.drop_drop, ← List.drop_drop, h3]
  · by_cases hk : k = i
    · subst hk
      rw [List.getElem?_set_self hil] at hz
      cases hz
      unfold WVat
      rw [hpc, hpc, hpc, hpc, hpc, hpc]
      refine ⟨?_, ?_, ?_, ?_, ?_, ?_⟩ <;> simp
    · rw [List.getElem?_set_ne (fun e => hk e.symm)] at hz
      have hw := WVat_kept (h4 k z hz) fun o => Kx_cell hK (o := o) hb hbi
      unfold WVat at hw ⊢
      have hkk : k * 6 + 6 ≤ i * 6 ∨ i * 6 + 6 ≤ k * 6 := by omega
      rw [hpc, hpc, hpc, hpc, hpc, hpc]
      refine ⟨?_, ?_, ?_, ?_, ?_, ?_⟩
      · rw [if_neg (by omega), if_neg (by omega), if_neg (by omega), if_neg (by omega), if_neg (by omega), if_neg (by omega)]; exact hw.1
      · rw [if_neg (by omega), if_neg (by omega), if_neg (by omega), if_neg (by omega), if_neg (by omega), if_neg (by omega)]; exact hw.2.1
      · rw [if_neg (by omega), if_neg (by omega), if_neg (by omega), if_neg (by omega), if_neg (by omega), if_neg (by omega)]; exact hw.2.2.1
      · rw [if_neg (by omega), if_neg (by omega), if_neg (by omega), if_neg (by omega), if_neg (by omega), if_neg (by omega)]; exact hw.2.2.2.1
      · rw [if_neg (by omega), if_neg (by omega), if_neg (by omega), if_neg (by omega), if_neg (by omega), if_neg (by omega)]; exact hw.2.2.2.2.1
      · rw [if_neg (by omega), if_neg (by omega), if_neg (by omega), if_neg (by omega), if_neg (by omega), if_neg (by omega)]; exact hw.2.2.2.2.2
  · rw [k2]
    refine IdsAt_kept hI fun k hk _ => putW_heap ?_
    rcases hk with rfl | hk
    · exact fun e => hbi e.symm
    · omega
  · refine Kx_trans h6 (Kx_trans (Kx_mono hK fun k h => .inl h) ⟨by simp [putW, World.setCell], by simp [putW, World.setCell], by rw [putW_size]; exact Nat.le_refl _, fun k hk hkx => putW_heap fun e => hkx (.inr e)⟩)
  · refine RowsK_trans hrk ⟨fun y hy => ?_, fun y => ?_, fun y hy => ?_⟩
    · show (putW w2 b (off + i * 6) x).cell? ⟨b, y, none⟩ = _
      rw [hpc, if_neg (by omega), if_neg (by omega), if_neg (by omega), if_neg (by omega), if_neg (by omega), if_neg (by omega)]
    · unfold putW; rw [frz_setCell, frz_setCell, frz_setCell, frz_setCell, frz_setCell, frz_setCell]
    · show ((putW w2 b (off + i * 6) x).cell? ⟨b, y, none⟩).isSome = true
      rw [hpc]
      (repeat' split) <;> first | rfl | exact hy

end Go.Proofs.YtmihpclfdicfkaaDoor.Ab

