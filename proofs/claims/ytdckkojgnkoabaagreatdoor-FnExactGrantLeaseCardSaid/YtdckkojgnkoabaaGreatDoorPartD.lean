/-
  A part of a proof about the given program; what is proved is said where each theorem stands.
-/
import Derived.Test.YtdckkojgnkoabaaGreatDoorFrameA
import Derived.Test.YtdckkojgnkoabaaGreatDoorFrameB
import Derived.Test.YtdckkojgnkoabaaGreatDoorFrameC
import Derived.Test.YtdckkojgnkoabaaGreatDoorFrameD
import Derived.Test.YtdckkojgnkoabaaGreatDoorFrameE
import Derived.Test.YtdckkojgnkoabaaGreatDoorCodesA
import Derived.Test.YtdckkojgnkoabaaGreatDoorCodesB
import Derived.Test.YtdckkojgnkoabaaGreatDoorShelf
import Derived.Test.YtdckkojgnkoabaaGreatDoorPartA
import Derived.Test.YtdckkojgnkoabaaGreatDoorPartB
import Derived.Test.YtdckkojgnkoabaaGreatDoorPartC
namespace Go.Proofs
end Go.Proofs
set_option linter.unusedSimpArgs false
set_option linter.unusedVariables false
set_option maxRecDepth 100000
set_option maxHeartbeats 2000000
namespace Go.Proofs.YtdckkojgnkoabaaGreatDoor.Ab
open Go.Proofs
variable {GG : GV}
theorem s_WorldOk_ok [MaxL GG] (w : GWorld) (hf : fitW w) : Valid PP GG F_S_WorldOk [.agg w.c] (.d (.bool (worldB w))) [none] := by
  refine v_S_WorldOk [.d (.bool (worldB w))] rfl rfl ?_
  obtain ⟨now, next, lost, ⟨tk⟩, ⟨ls⟩, ⟨us, ff, fm⟩, ⟨js⟩, ow⟩ := w
  obtain ⟨hf1, hf2, hf3, hf4, hol, hon⟩ := hf
  dsimp only at hf1 hf2 hf3 hf4 hol hon
  have c1 : Valid PP GG F_S_l01In [.d (.int .i64 now), .d (.int .i64 0), .d (.int .i64 1000000000)] (.d (.bool (inB now 0 1000000000))) [none, none, none] := l01In_ok _ _ _
  have c2 : Valid PP GG F_S_l01In [.d (.int .i64 next), .d (.int .i64 1), .d (.int .i64 1000000000)] (.d (.bool (inB next 1 1000000000))) [none, none, none] := l01In_ok _ _ _
  have c3 : Valid PP GG F_S_l01In [.d (.int .i64 lost), .d (.int .i64 0), .d (.int .i64 1000000000)] (.d (.bool (inB lost 0 1000000000))) [none, none, none] := l01In_ok _ _ _
  have c4 := s_ForestOk_ok (GG := GG) ⟨tk⟩ hf1
  have c5 := s_BookOk_ok (GG := GG) ⟨ls⟩ hf2
  have c6 := s_FarOk_ok (GG := GG) ⟨us, ff, fm⟩ hf3
  have c7 := s_QueueOk_ok (GG := GG) ⟨js⟩ hf4
  have hfl := fun id => s_FindLease_ok (GG := GG) ⟨ls⟩ id hf2
  have hOL := fun h h' => owned_len (b := ⟨ls⟩) (l := ow) h h'
  have hB : worldB ⟨now, next, lost, ⟨tk⟩, ⟨ls⟩, ⟨us, ff, fm⟩, ⟨js⟩, ow⟩ = (inB now 0 1000000000 && inB next 1 1000000000 && inB lost 0 1000000000 && forestB ⟨tk⟩ && bookB ⟨ls⟩ && farB ⟨us, ff, fm⟩ && queueB ⟨js⟩ && belowT ⟨tk⟩ next && belowL ⟨ls⟩ next && okP (ownQ ⟨ls⟩) [] ow) := rfl
  have hBT : belowT ⟨tk⟩ next = tk.all fun t => decide (t.fId < next) := rfl
  have hBL : belowL ⟨ls⟩ next = ls.all fun t => decide (t.fId < next) := rfl
  have htl := hf1.1
  have hll := hf2.1
  generalize worldB ⟨now, next, lost, ⟨tk⟩, ⟨ls⟩, ⟨us, ff, fm⟩, ⟨js⟩, ow⟩ = B at *
  dsimp only at c4 c5 c6 c7 htl hll hOL
  generalize inB now 0 1000000000 = p1 at *
  generalize inB next 1 1000000000 = p2 at *
  generalize inB lost 0 1000000000 = p3 at *
  generalize forestB ⟨tk⟩ = p4 at *
  generalize bookB ⟨ls⟩ = p5 at *
  generalize farB ⟨us, ff, fm⟩ = p6 at *
  generalize queueB ⟨js⟩ = p7 at *
  generalize belowT ⟨tk⟩ next = BT at *
  generalize belowL ⟨ls⟩ next = BL at *
  refine W_seq (?_)
  apply W_regS
  · intro K hK
    simp
    repeat' (first | with_reducible exact hK | (with_reducible refine goL_split (fun _ => ?_) (fun _ => ?_) <;> simp) | with_reducible refine And.intro ?_ ?_ | with_reducible exact okay_rfl rfl | with_reducible assumption | omega)
  refine W_seq (W_seq ?_)
  refine W_regB 48 (!(p1 && p2 && p3 && p4 && p5 && p6 && p7)) (fun K hK => ?_) ?_
  · simp
    repeat' (first | exact hK _ _ (by clear hK; first | omega | (exact decide_eq_false (by omega)) | (exact decide_eq_true (by omega)) | (exact (decide_eq_true (by omega)).symm) | (exact (decide_eq_false (by omega)).symm) | (exact decide_eq_decide.2 (by omega)) | (simp only [← decide_not]; exact decide_eq_decide.2 (by omega)) | (simp [*]; done) | (simp [*]; omega) | (simp_all; done) | (simp_all; omega) | (rw [Bool.eq_iff_iff]; simp at *; omega)) | (with_reducible refine callQ (c1) ?_; simp) | (with_reducible refine callQ (c2) ?_; simp) | (with_reducible refine callQ (c3) ?_; simp) | (with_reducible refine callQ (c4) ?_; simp) | (with_reducible refine callQ (c5) ?_; simp) | (with_reducible refine callQ (c6) ?_; simp) | (with_reducible refine callQ (c7) ?_; simp) | (with_reducible refine goL_split (fun _ => ?_) (fun _ => ?_) <;> simp) | with_reducible refine And.intro ?_ ?_ | with_reducible exact okay_rfl rfl | with_reducible assumption | omega)
  refine W_cond rfl (fun h => ?_) (fun h => ?_)
  · rw [Bool.not_eq_true'] at h
    have hb : B = false := by rw [hB, h]; simp
    rw [hb]
    repeat' (first | refine W_seq ?_ | refine W_skip ?_ | refine W_block ?_ | refine W_exit ?_ | refine pick_pos rfl ?_ | refine pick_neg rfl ?_ | ((first | refine W_regP fun K hK => ?_ | refine W_regPD fun K hK => ?_ | refine W_ret ?_); simp [Fin]) | (with_reducible refine hK _ ?_; clear hK K) | (with_reducible refine goL_split (fun h => ?_) (fun h => ?_) <;> first | (exfalso; simp at h; first | done | omega | contradiction) | ((try simp at h); simp)) | with_reducible refine And.intro ?_ ?_ | with_reducible exact okay_rfl rfl | with_reducible assumption | (refine W_cond rfl (fun h => ?_) (fun h => ?_) <;> first | (exfalso; simp at h; first | done | omega | contradiction) | (exfalso; simp_all; done) | (try simp at h)) | omega)
  rw [Bool.not_eq_false'] at h
  rw [h, Bool.true_and] at hB
  simp only [Bool.and_eq_true] at h
  have hp5 := h.1.1.2
  subst hp5
  simp only [Bool.true_and] at hfl
  have hOL := hOL rfl
  clear h
  refine W_skip ?_
  repeat' (first | refine W_seq ?_ | refine W_skip ?_ | refine W_block ?_ | refine W_exit ?_ | refine pick_pos rfl ?_ | refine pick_neg rfl ?_ | ((first | refine W_regP fun K hK => ?_ | refine W_regPD fun K hK => ?_ | refine W_ret ?_); simp [Fin]) | (with_reducible refine hK _ ?_; clear hK K) | (with_reducible refine goL_split (fun h => ?_) (fun h => ?_) <;> first | (exfalso; simp at h; first | done | omega | contradiction) | ((try simp at h); simp)) | with_reducible refine And.intro ?_ ?_ | with_reducible exact okay_rfl rfl | with_reducible assumption | (refine W_cond rfl (fun h => ?_) (fun h => ?_) <;> first | (exfalso; simp at h; first | done | omega | contradiction) | (exfalso; simp_all; done) | (try simp at h)) | omega)
  refine W_loop (fun n st => ∃ i : Nat, n = tk.length - i ∧ i ≤ tk.length ∧ (∀ x, x ∈ tk.take i → (!decide (x.fId < next)) = false) ∧
    st = ⟨[], [(1, .ptr 0 0), (3, .d (.int .i64 i))], [(0, .box [.d (.int .i64 now), .d (.int .i64 next), .d (.int .i64 lost), .d (.slc 7 (rToken tk)), .d (.slc 6 (rLease ls)), .d (.slc 2 (rUser us)), .d (.int .i64 ff), .d (.int .i64 fm), .d (.slc 3 (rJob js)), .d (.slc 2 (rOwned ow))])], 1⟩) _ ⟨0, rfl, by omega, fun x hx => by simp at hx, ?_⟩ ?_
  · simp [gc, closeN, liveA, gcV, gcO, renA, renAs, renO, namesAs, namesA, namesO, posn]
  rintro n st ⟨i, rfl, hi, hn, rfl⟩
  by_cases hlt : i < tk.length
  · have ha := List.getElem?_eq_getElem hlt
    generalize tk[i] = x at ha
    by_cases hx : next ≤ x.fId
    · have hb : BT = false := by
        rw [hBT, List.all_eq_false]
        exact ⟨x, List.mem_of_getElem? ha, by simp; omega⟩
      rw [hB, hb]
      repeat' (first | refine W_seq ?_ | refine W_skip ?_ | refine W_block ?_ | refine W_exit ?_ | refine pick_pos rfl ?_ | refine pick_neg rfl ?_ | ((first | refine W_regP fun K hK => ?_ | refine W_regPD fun K hK => ?_ | refine W_ret ?_); simp [Fin, ha, hx]) | (with_reducible refine hK _ ?_; clear hK K) | (with_reducible refine goL_split (fun h => ?_) (fun h => ?_) <;> first | (exfalso; simp at h; first | done | omega | contradiction) | ((try simp at h); simp [ha, hx])) | with_reducible refine And.intro ?_ ?_ | with_reducible exact okay_rfl rfl | with_reducible assumption | (refine W_cond rfl (fun h => ?_) (fun h => ?_) <;> first | (exfalso; simp at h; first | done | omega | contradiction) | (exfalso; simp_all; done) | (try simp at h)) | omega)
    · have hn2 := take_miss (p := fun x : GToken => !decide (x.fId < next)) ha hn (by simp; omega)
      repeat' (first | refine W_seq ?_ | refine W_skip ?_ | refine W_block ?_ | refine W_exit ?_ | refine pick_pos rfl ?_ | refine pick_neg rfl ?_ | ((first | refine W_regP fun K hK => ?_ | refine W_regPD fun K hK => ?_ | refine W_ret ?_); simp [Fin, ha, hx]) | (with_reducible refine hK _ ?_; clear hK K) | (with_reducible refine goL_split (fun h => ?_) (fun h => ?_) <;> first | (exfalso; simp at h; first | done | omega | contradiction) | ((try simp at h); simp [ha, hx])) | with_reducible refine And.intro ?_ ?_ | with_reducible exact okay_rfl rfl | with_reducible assumption | (refine W_cond rfl (fun h => ?_) (fun h => ?_) <;> first | (exfalso; simp at h; first | done | omega | contradiction) | (exfalso; simp_all; done) | (try simp at h)) | omega)
      refine ⟨tk.length - (i + 1), by omega, i + 1, rfl, hlt, hn2, ?_⟩
      simp [gc, closeN, liveA, gcV, gcO, renA, renAs, renO, namesAs, namesA, namesO, posn]
      exact wrap_id (by omega) (by omega)
  have hie : i = tk.length := by omega
  subst hie
  rw [List.take_length] at hn
  have hb : BT = true := by
    rw [hBT, List.all_eq_true]; intro x hx; simpa using hn x hx
  subst hb
  clear hn hi hlt
  rw [Bool.true_and] at hB
  repeat' (first | refine W_seq ?_ | refine W_skip ?_ | refine W_block ?_ | refine W_exit ?_ | refine pick_pos rfl ?_ | refine pick_neg rfl ?_ | ((first | refine W_regP fun K hK => ?_ | refine W_regPD fun K hK => ?_ | refine W_ret ?_); simp [Fin]) | (with_reducible refine hK _ ?_; clear hK K) | (with_reducible refine goL_split (fun h => ?_) (fun h => ?_) <;> first | (exfalso; simp at h; first | done | omega | contradiction) | ((try simp at h); simp)) | with_reducible refine And.intro ?_ ?_ | with_reducible exact okay_rfl rfl | with_reducible assumption | (refine W_cond rfl (fun h => ?_) (fun h => ?_) <;> first | (exfalso; simp at h; first | done | omega | contradiction) | (exfalso; simp_all; done) | (try simp at h)) | omega)
  refine W_loop (fun n st => ∃ i : Nat, n = ls.length - i ∧ i ≤ ls.length ∧ (∀ x, x ∈ ls.take i → (!decide (x.fId < next)) = false) ∧
    st = ⟨[], [(1, .ptr 0 0), (4, .d (.int .i64 i))], [(0, .box [.d (.int .i64 now), .d (.int .i64 next), .d (.int .i64 lost), .d (.slc 7 (rToken tk)), .d (.slc 6 (rLease ls)), .d (.slc 2 (rUser us)), .d (.int .i64 ff), .d (.int .i64 fm), .d (.slc 3 (rJob js)), .d (.slc 2 (rOwned ow))])], 1⟩) _ ⟨0, rfl, by omega, fun x hx => by simp at hx, ?_⟩ ?_
  · simp [gc, closeN, liveA, gcV, gcO, renA, renAs, renO, namesAs, namesA, namesO, posn]
  rintro n st ⟨i, rfl, hi, hn, rfl⟩
  by_cases hlt : i < ls.length
  · have ha := List.getElem?_eq_getElem hlt
    generalize ls[i] = x at ha
    by_cases hx : next ≤ x.fId
    · have hb : BL = false := by
        rw [hBL, List.all_eq_false]
        exact ⟨x, List.mem_of_getElem? ha, by simp; omega⟩
      rw [hB, hb]
      repeat' (first | refine W_seq ?_ | refine W_skip ?_ | refine W_block ?_ | refine W_exit ?_ | refine pick_pos rfl ?_ | refine pick_neg rfl ?_ | ((first | refine W_regP fun K hK => ?_ | refine W_regPD fun K hK => ?_ | refine W_ret ?_); simp [Fin, ha, hx]) | (with_reducible refine hK _ ?_; clear hK K) | (with_reducible refine goL_split (fun h => ?_) (fun h => ?_) <;> first | (exfalso; simp at h; first | done | omega | contradiction) | ((try simp at h); simp [ha, hx])) | with_reducible refine And.intro ?_ ?_ | with_reducible exact okay_rfl rfl | with_reducible assumption | (refine W_cond rfl (fun h => ?_) (fun h => ?_) <;> first | (exfalso; simp at h; first | done | omega | contradiction) | (exfalso; simp_all; done) | (try simp at h)) | omega)
    · have hn2 := take_miss (p := fun x : GLease => !decide (x.fId < next)) ha hn (by simp; omega)
      repeat' (first | refine W_seq ?_ | refine W_skip ?_ | refine W_block ?_ | refine W_exit ?_ | refine pick_pos rfl ?_ | refine pick_neg rfl ?_ | ((first | refine W_regP fun K hK => ?_ | refine W_regPD fun K hK => ?_ | refine W_ret ?_); simp [Fin, ha, hx]) | (with_reducible refine hK _ ?_; clear hK K) | (with_reducible refine goL_split (fun h => ?_) (fun h => ?_) <;> first | (exfalso; simp at h; first | done | omega | contradiction) | ((try simp at h); simp [ha, hx])) | with_reducible refine And.intro ?_ ?_ | with_reducible exact okay_rfl rfl | with_reducible assumption | (refine W_cond rfl (fun h => ?_) (fun h => ?_) <;> first | (exfalso; simp at h; first | done | omega | contradiction) | (exfalso; simp_all; done) | (try simp at h)) | omega)
      refine ⟨ls.length - (i + 1), by omega, i + 1, rfl, hlt, hn2, ?_⟩
      simp [gc, closeN, liveA, gcV, gcO, renA, renAs, renO, namesAs, namesA, namesO, posn]
      exact wrap_id (by omega) (by omega)
  have hie : i = ls.length := by omega
  subst hie
  rw [List.take_length] at hn
  have hb : BL = true := by
    rw [hBL, List.all_eq_true]; intro x hx; simpa using hn x hx
  subst hb
  clear hn hi hlt
  rw [Bool.true_and] at hB
  by_cases hol2 : ls.length < ow.length
  · have hb : B = false := by
      rw [hB]
      cases h : okP (ownQ ⟨ls⟩) [] ow with
      | false => rfl
      | true => have := hOL h; omega
    rw [hb]
    repeat' (first | refine W_seq ?_ | refine W_skip ?_ | refine W_block ?_ | refine W_exit ?_ | refine pick_pos rfl ?_ | refine pick_neg rfl ?_ | ((first | refine W_regP fun K hK => ?_ | refine W_regPD fun K hK => ?_ | refine W_ret ?_); simp [Fin, hol2]) | (with_reducible refine hK _ ?_; clear hK K) | (with_reducible refine goL_split (fun h => ?_) (fun h => ?_) <;> first | (exfalso; simp at h; first | done | omega | contradiction) | ((try simp at h); simp [hol2])) | with_reducible refine And.intro ?_ ?_ | with_reducible exact okay_rfl rfl | with_reducible assumption | (refine W_cond rfl (fun h => ?_) (fun h => ?_) <;> first | (exfalso; simp at h; first | done | omega | contradiction) | (exfalso; simp_all; done) | (try simp at h)) | omega)
  clear hOL
  repeat' (first | refine W_seq ?_ | refine W_skip ?_ | refine W_block ?_ | refine W_exit ?_ | refine pick_pos rfl ?_ | refine pick_neg rfl ?_ | ((first | refine W_regP fun K hK => ?_ | refine W_regPD fun K hK => ?_ | refine W_ret ?_); simp [Fin, hol2]) | (with_reducible refine hK _ ?_; clear hK K) | (with_reducible refine goL_split (fun h => ?_) (fun h => ?_) <;> first | (exfalso; simp at h; first | done | omega | contradiction) | ((try simp at h); simp [hol2])) | with_reducible refine And.intro ?_ ?_ | with_reducible exact okay_rfl rfl | with_reducible assumption | (refine W_cond rfl (fun h => ?_) (fun h => ?_) <;> first | (exfalso; simp at h; first | done | omega | contradiction) | (exfalso; simp_all; done) | (try simp at h)) | omega)
  refine W_loop (fun n st => ∃ i : Nat, n = ow.length - i ∧ i ≤ ow.length ∧ okP (ownQ ⟨ls⟩) [] (ow.take i) = true ∧
    st = ⟨[], [(1, .ptr 0 0), (5, .d (.int .i64 i))], [(0, .box [.d (.int .i64 now), .d (.int .i64 next), .d (.int .i64 lost), .d (.slc 7 (rToken tk)), .d (.slc 6 (rLease ls)), .d (.slc 2 (rUser us)), .d (.int .i64 ff), .d (.int .i64 fm), .d (.slc 3 (rJob js)), .d (.slc 2 (rOwned ow))])], 1⟩) _ ⟨0, rfl, by omega, rfl, ?_⟩ ?_
  · simp [gc, closeN, liveA, gcV, gcO, renA, renAs, renO, namesAs, namesA, namesO, posn]
  rintro n st ⟨i, rfl, hi, hok, rfl⟩
  by_cases hlt : i < ow.length
  rotate_left
  · have hie : i = ow.length := by omega
    subst hie
    rw [List.take_length] at hok
    rw [hok] at hB
    rw [hB]
    repeat' (first | refine W_seq ?_ | refine W_skip ?_ | refine W_block ?_ | refine W_exit ?_ | refine pick_pos rfl ?_ | refine pick_neg rfl ?_ | ((first | refine W_regP fun K hK => ?_ | refine W_regPD fun K hK => ?_ | refine W_ret ?_); simp [Fin]) | (with_reducible refine hK _ ?_; clear hK K) | (with_reducible refine goL_split (fun h => ?_) (fun h => ?_) <;> first | (exfalso; simp at h; first | done | omega | contradiction) | ((try simp at h); simp)) | with_reducible refine And.intro ?_ ?_ | with_reducible exact okay_rfl rfl | with_reducible assumption | (refine W_cond rfl (fun h => ?_) (fun h => ?_) <;> first | (exfalso; simp at h; first | done | omega | contradiction) | (exfalso; simp_all; done) | (try simp at h)) | omega)
  have ha := List.getElem?_eq_getElem hlt
  generalize ow[i] = x at ha
  have hst := okP_step (q := ownQ ⟨ls⟩) ha
  have hbad : ownQ ⟨ls⟩ (ow.take i) x = false → B = false := fun h => by rw [hB]; exact okP_bad ha h
  rw [hok, Bool.true_and] at hst
  have hq : ownQ ⟨ls⟩ (ow.take i) x = (adjB (fun p x => decide (p.fLease < x.fLease)) (ow.take i) x && hasLease ⟨ls⟩ x.fLease && nameOk x.fName && !((ow.take i).any fun p => p.fName == x.fName)) := rfl
  rw [hq] at hst hbad
  clear hq
  have hA := adj_cases (lt := fun p x : GOwned => decide (p.fLease < x.fLease)) (x := x) hi
  have cn := l01Name_ok (GG := GG) x.fName (by have := hon x (List.mem_of_getElem? ha); omega)
  have cl := hfl x.fLease
  generalize adjB (fun p x : GOwned => decide (p.fLease < x.fLease)) (ow.take i) x = A at *
  obtain ⟨xl, xn⟩ := x
  dsimp only at cn cl hst hbad hA
  generalize hasLease ⟨ls⟩ xl = L at *
  generalize nameOk xn = N at *
  generalize findL ⟨ls⟩ xl = FL at *
  refine W_seq (W_seq ?_)
  apply W_regS
  · intro K hK
    simp
    repeat' (first | with_reducible exact hK | (with_reducible refine goL_split (fun _ => ?_) (fun _ => ?_) <;> simp) | with_reducible refine And.intro ?_ ?_ | with_reducible exact okay_rfl rfl | with_reducible assumption | omega)
  refine W_cond rfl (fun h => W_skip ?_) (fun h => ?_)
  rotate_left
  · exfalso; simp at h; omega
  refine W_seq (W_block (W_seq ?_))
  apply W_regD
  · intro K hK
    simp [ha]
    repeat' (first | with_reducible exact hK | (with_reducible refine callQ (cl) ?_; simp [ha]) | (with_reducible refine goL_split (fun _ => ?_) (fun _ => ?_) <;> simp [ha]) | with_reducible refine And.intro ?_ ?_ | with_reducible exact okay_rfl rfl | with_reducible assumption | omega)
  refine W_seq (W_seq ?_)
  refine W_regBD 143 (!(A && L && N)) (fun K hK => ?_) ?_
  · rcases hA with ⟨rfl, hA⟩ | ⟨j, p, rfl, hp, hA⟩
    · subst hA
      simp [ha]
      repeat' (first | exact hK _ _ (by clear hK; first | rfl | omega | (exact decide_eq_false (by omega)) | (exact decide_eq_true (by omega)) | (exact (decide_eq_true (by omega)).symm) | (exact (decide_eq_false (by omega)).symm) | (exact decide_eq_decide.2 (by omega)) | (simp only [← decide_not]; exact decide_eq_decide.2 (by omega)) | (simp [*]; done) | (simp [*]; omega) | (simp_all; done) | (simp_all; omega) | (rw [Bool.eq_iff_iff]; simp at *; omega)) | (with_reducible refine callQ (cn) ?_; simp [ha]) | (with_reducible refine goL_split (fun _ => ?_) (fun _ => ?_) <;> simp [ha]) | with_reducible refine And.intro ?_ ?_ | with_reducible exact okay_rfl rfl | with_reducible assumption | omega)
    · have hw1 : IntKind.i64.wrap (j : Int) = j := wrap_id (by omega) (by omega)
      rw [hA] at hK
      cases L
      · simp [hp, ha, hw1]
        repeat' (first | exact hK _ _ (by clear hK; first | rfl | omega | (exact decide_eq_false (by omega)) | (exact decide_eq_true (by omega)) | (exact (decide_eq_true (by omega)).symm) | (exact (decide_eq_false (by omega)).symm) | (exact decide_eq_decide.2 (by omega)) | (simp only [← decide_not]; exact decide_eq_decide.2 (by omega)) | (simp [*]; done) | (simp [*]; omega) | (simp_all; done) | (simp_all; omega) | (rw [Bool.eq_iff_iff]; simp at *; omega)) | (with_reducible refine callQ (cn) ?_; simp [hp, ha, hw1]) | (with_reducible refine goL_split (fun _ => ?_) (fun _ => ?_) <;> simp [hp, ha, hw1]) | with_reducible refine And.intro ?_ ?_ | with_reducible exact okay_rfl rfl | with_reducible assumption | omega)
      · cases N
        · simp [hp, ha, hw1]
          repeat' (first | exact hK _ _ (by clear hK; first | rfl | omega | (exact decide_eq_false (by omega)) | (exact decide_eq_true (by omega)) | (exact (decide_eq_true (by omega)).symm) | (exact (decide_eq_false (by omega)).symm) | (exact decide_eq_decide.2 (by omega)) | (simp only [← decide_not]; exact decide_eq_decide.2 (by omega)) | (simp [*]; done) | (simp [*]; omega) | (simp_all; done) | (simp_all; omega) | (rw [Bool.eq_iff_iff]; simp at *; omega)) | (with_reducible refine callQ (cn) ?_; simp [hp, ha, hw1]) | (with_reducible refine goL_split (fun _ => ?_) (fun _ => ?_) <;> simp [hp, ha, hw1]) | with_reducible refine And.intro ?_ ?_ | with_reducible exact okay_rfl rfl | with_reducible assumption | omega)
        · simp only [Bool.and_true] at hK
          simp [hp, ha, hw1]
          repeat' (first | exact hK _ _ (by clear hK; first | rfl | omega | (exact decide_eq_false (by omega)) | (exact decide_eq_true (by omega)) | (exact (decide_eq_true (by omega)).symm) | (exact (decide_eq_false (by omega)).symm) | (exact decide_eq_decide.2 (by omega)) | (simp only [← decide_not]; exact decide_eq_decide.2 (by omega)) | (simp [*]; done) | (simp [*]; omega) | (simp_all; done) | (simp_all; omega) | (rw [Bool.eq_iff_iff]; simp at *; omega)) | (with_reducible refine callQ (cn) ?_; simp [hp, ha, hw1]) | (with_reducible refine goL_split (fun _ => ?_) (fun _ => ?_) <;> simp [hp, ha, hw1]) | with_reducible refine And.intro ?_ ?_ | with_reducible exact okay_rfl rfl | with_reducible assumption | omega)
  refine W_cond rfl (fun h => ?_) (fun h => ?_)
  · rw [Bool.not_eq_true'] at h
    rw [h] at hbad
    rw [hbad rfl]
    repeat' (first | refine W_seq ?_ | refine W_skip ?_ | refine W_block ?_ | refine W_exit ?_ | refine pick_pos rfl ?_ | refine pick_neg rfl ?_ | ((first | refine W_regP fun K hK => ?_ | refine W_regPD fun K hK => ?_ | refine W_ret ?_); simp [Fin]) | (with_reducible refine hK _ ?_; clear hK K) | (with_reducible refine goL_split (fun h => ?_) (fun h => ?_) <;> first | (exfalso; simp at h; first | done | omega | contradiction) | ((try simp at h); simp)) | with_reducible refine And.intro ?_ ?_ | with_reducible exact okay_rfl rfl | with_reducible assumption | (refine W_cond rfl (fun h => ?_) (fun h => ?_) <;> first | (exfalso; simp at h; first | done | omega | contradiction) | (exfalso; simp_all; done) | (try simp at h)) | omega)
  rw [Bool.not_eq_false'] at h
  rw [h, Bool.true_and] at hst hbad
  clear h hA
  refine W_skip ?_
  repeat' (first | refine W_seq ?_ | refine W_skip ?_ | refine W_block ?_ | refine W_exit ?_ | refine pick_pos rfl ?_ | refine pick_neg rfl ?_ | ((first | refine W_regP fun K hK => ?_ | refine W_regPD fun K hK => ?_ | refine W_ret ?_); simp [Fin]) | (with_reducible refine hK _ ?_; clear hK K) | (with_reducible refine goL_split (fun h => ?_) (fun h => ?_) <;> first | (exfalso; simp at h; first | done | omega | contradiction) | ((try simp at h); simp)) | with_reducible refine And.intro ?_ ?_ | with_reducible exact okay_rfl rfl | with_reducible assumption | (refine W_cond rfl (fun h => ?_) (fun h => ?_) <;> first | (exfalso; simp at h; first | done | omega | contradiction) | (exfalso; simp_all; done) | (try simp at h)) | omega)
  refine W_loop (fun n st => ∃ k : Nat, n = i - k ∧ k ≤ i ∧ (∀ y, y ∈ ow.take k → (y.fName == xn) = false) ∧
    st = ⟨[], [(1, .ptr 0 0), (5, .d (.int .i64 i)), (8, .d (.int .i64 k))], [(0, .box [.d (.int .i64 now), .d (.int .i64 next), .d (.int .i64 lost), .d (.slc 7 (rToken tk)), .d (.slc 6 (rLease ls)), .d (.slc 2 (rUser us)), .d (.int .i64 ff), .d (.int .i64 fm), .d (.slc 3 (rJob js)), .d (.slc 2 (rOwned ow))])], 1⟩) _ ⟨0, rfl, by omega, fun y h => by simp at h, ?_⟩ ?_
  · simp [gc, closeN, liveA, gcV, gcO, renA, renAs, renO, namesAs, namesA, namesO, posn]
  rintro n st ⟨k, rfl, hk, hn, rfl⟩
  by_cases hkl : k < i
  · have hak := List.getElem?_eq_getElem (show k < ow.length by omega)
    generalize ow[k]'_ = y at hak
    obtain ⟨yl, yn⟩ := y
    cases hyn : (yn == xn) with
    | true =>
      rw [hbad (by
        have : (ow.take i).any (fun t => t.fName == xn) = true := by
          rw [List.any_eq_true]
          exact ⟨_, List.mem_of_getElem? (by rw [List.getElem?_take_of_lt hkl]; exact hak), hyn⟩
        rw [this]; rfl)]
      repeat' (first | refine W_seq ?_ | refine W_skip ?_ | refine W_block ?_ | refine W_exit ?_ | refine pick_pos rfl ?_ | refine pick_neg rfl ?_ | ((first | refine W_regP fun K hK => ?_ | refine W_regPD fun K hK => ?_ | refine W_ret ?_); simp [Fin, hak, ha, hkl, hyn]) | (with_reducible refine hK _ ?_; clear hK K) | (with_reducible refine goL_split (fun h => ?_) (fun h => ?_) <;> first | (exfalso; simp at h; first | done | omega | contradiction) | ((try simp at h); simp [hak, ha, hkl, hyn])) | with_reducible refine And.intro ?_ ?_ | with_reducible exact okay_rfl rfl | with_reducible assumption | (refine W_cond rfl (fun h => ?_) (fun h => ?_) <;> first | (exfalso; simp at h; first | done | omega | contradiction) | (exfalso; simp_all; done) | (try simp at h)) | omega)
    | false =>
      have hn2 := take_miss (p := fun y : GOwned => y.fName == xn) hak hn hyn
      repeat' (first | refine W_seq ?_ | refine W_skip ?_ | refine W_block ?_ | refine W_exit ?_ | refine pick_pos rfl ?_ | refine pick_neg rfl ?_ | ((first | refine W_regP fun K hK => ?_ | refine W_regPD fun K hK => ?_ | refine W_ret ?_); simp [Fin, hak, ha, hkl, hyn]) | (with_reducible refine hK _ ?_; clear hK K) | (with_reducible refine goL_split (fun h => ?_) (fun h => ?_) <;> first | (exfalso; simp at h; first | done | omega | contradiction) | ((try simp at h); simp [hak, ha, hkl, hyn])) | with_reducible refine And.intro ?_ ?_ | with_reducible exact okay_rfl rfl | with_reducible assumption | (refine W_cond rfl (fun h => ?_) (fun h => ?_) <;> first | (exfalso; simp at h; first | done | omega | contradiction) | (exfalso; simp_all; done) | (try simp at h)) | omega)
      refine ⟨i - (k + 1), by omega, k + 1, rfl, hkl, hn2, ?_⟩
      simp [gc, closeN, liveA, gcV, gcO, renA, renAs, renO, namesAs, namesA, namesO, posn]
      exact wrap_id (by omega) (by omega)
  · have hke : k = i := by omega
    subst hke
    have : (ow.take k).any (fun t => t.fName == xn) = false := by
      rw [List.any_eq_false]; intro y hy; rw [hn y hy]; simp
    rw [this] at hst
    repeat' (first | refine W_seq ?_ | refine W_skip ?_ | refine W_block ?_ | refine W_exit ?_ | refine pick_pos rfl ?_ | refine pick_neg rfl ?_ | ((first | refine W_regP fun K hK => ?_ | refine W_regPD fun K hK => ?_ | refine W_ret ?_); simp [Fin, hkl]) | (with_reducible refine hK _ ?_; clear hK K) | (with_reducible refine goL_split (fun h => ?_) (fun h => ?_) <;> first | (exfalso; simp at h; first | done | omega | contradiction) | ((try simp at h); simp [hkl])) | with_reducible refine And.intro ?_ ?_ | with_reducible exact okay_rfl rfl | with_reducible assumption | (refine W_cond rfl (fun h => ?_) (fun h => ?_) <;> first | (exfalso; simp at h; first | done | omega | contradiction) | (exfalso; simp_all; done) | (try simp at h)) | omega)
    refine ⟨ow.length - (k + 1), by omega, k + 1, rfl, hlt, hst, ?_⟩
    simp [gc, closeN, liveA, gcV, gcO, renA, renAs, renO, namesAs, namesA, namesO, posn]
    exact wrap_id (by omega) (by omega)

theorem fitW_of {w : GWorld} (h : w.cost ≤ 1048576) : fitW w := by
  have e : w.cost = w.fForest.cost + w.fBook.cost + w.fFar.cost + w.fQueue.cost + (w.fOwned.length + sumBy GOwned.cost w.fOwned) := rfl
  have e1 : w.fForest.cost = w.fForest.fTokens.length + sumBy GToken.cost w.fForest.fTokens := rfl
  have e2 : w.fBook.cost = w.fBook.fLeases.length + sumBy GLease.cost w.fBook.fLeases := rfl
  have e3 : w.fFar.cost = w.fFar.fUsers.length + sumBy GUser.cost w.fFar.fUsers := rfl
  have e4 : w.fQueue.cost = w.fQueue.fJobs.length + sumBy GJob.cost w.fQueue.fJobs := rfl
  refine ⟨⟨by omega, fun t ht => ?_⟩, ⟨by omega, fun t ht => ?_⟩, ⟨by omega, fun t ht => ?_⟩, ⟨by omega, fun t ht => ?_⟩, by omega, fun t ht => ?_⟩
  · have h1 := sumBy_mem (f := GToken.cost) ht
    have e5 : t.cost = t.fNames.length + sumBy List.length t.fNames := rfl
    refine ⟨by omega, fun s hs => ?_⟩
    have := sumBy_mem (f := List.length) hs
    omega
  · have h1 := sumBy_mem (f := GLease.cost) ht
    have e5 : t.cost = t.fPath.length := rfl
    omega
  · have h1 := sumBy_mem (f := GUser.cost) ht
    have e5 : t.cost = t.fName.length + t.fPass.length := rfl
    omega
  · have h1 := sumBy_mem (f := GJob.cost) ht
    have e5 : t.cost = t.fName.length := rfl
    omega
  · have h1 := sumBy_mem (f := GOwned.cost) ht
    have e5 : t.cost = t.fName.length := rfl
    omega

theorem strs_row (l : List (List UInt8)) : ∀ r, r ∈ strsD l → r.length = 1 := by
  intro r h
  simp only [strsD, List.mem_map] at h
  obtain ⟨x, _, rfl⟩ := h
  rfl

def clnString_ren : Go.Shelf.Ren := ⟨fun | 41 => 198 | n => n, fun | 22 => 57 | 23 => 9 | n => n, fun n => n⟩

theorem clnString : Go.Proofs.SlLaysE0.n41 PP clnString_ren := {
  mixed := by kernel_rfl
  f41 := ⟨"slices.Clone[[]string,string]", by decide, Tryz.func198.trans (congrArg some (by kernel_rfl))⟩
  t4 := Tryz.underlying4
  a4 := Tryz.isAgg4
  z4 := Tryz.sizeOf4
  v4 := Tryz.zeroValue4
  t22 := Tryz.underlying57
  a22 := Tryz.isAgg57
  z22 := Tryz.sizeOf57
  v22 := Tryz.zeroValue57
}

theorem CloneString_ok (l : List (List UInt8)) (hN : l.length ≤ 1099511627776) : Valid PP GG 198 [.d (.slc 1 (strsD l))] (.own 0 1 (strsD l)) [none] :=
  clone_valid clnString ⟨Tryz.f198, Tryz.func198, by kernel_rfl, by kernel_rfl⟩ 1 16 (by kernel_rfl) (by kernel_rfl) (by kernel_rfl) (by kernel_rfl) (by omega) (by omega) Tryz.sizeOf9 _ (strs_row l) (by rw [strsD_len]; exact hN)

def clnLease_ren : Go.Shelf.Ren := ⟨fun | 41 => 200 | n => n, fun | 22 => 42 | 23 => 104 | n => n, fun n => n⟩

theorem clnLease : Go.Proofs.SlLaysE0.n41 PP clnLease_ren := {
  mixed := by kernel_rfl
  f41 := ⟨"slices.Clone[[]loop.example/g00705/impl.Lease,loop.example/g00705/impl.Lease]", by decide, Tryz.func200.trans (congrArg some (by kernel_rfl))⟩
  t4 := Tryz.underlying4
  a4 := Tryz.isAgg4
  z4 := Tryz.sizeOf4
  v4 := Tryz.zeroValue4
  t22 := Tryz.underlying42
  a22 := Tryz.isAgg42
  z22 := Tryz.sizeOf42
  v22 := Tryz.zeroValue42
}

theorem CloneLease_ok (l : List GLease) (hN : l.length ≤ 1099511627776) : Valid PP GG 200 [.d (.slc 6 (rLease l))] (.own 0 6 (rLease l)) [none] :=
  clone_valid clnLease ⟨Tryz.f200, Tryz.func200, by kernel_rfl, by kernel_rfl⟩ 6 56 (by kernel_rfl) (by kernel_rfl) (by kernel_rfl) (by kernel_rfl) (by omega) (by omega) Tryz.sizeOf104 _ (rLease_row l) (by rw [rLease_len]; exact hN)

def clnUser_ren : Go.Shelf.Ren := ⟨fun | 41 => 201 | n => n, fun | 22 => 45 | 23 => 84 | n => n, fun n => n⟩

theorem clnUser : Go.Proofs.SlLaysE0.n41 PP clnUser_ren := {
  mixed := by kernel_rfl
  f41 := ⟨"slices.Clone[[]loop.example/g00705/impl.User,loop.example/g00705/impl.User]", by decide, Tryz.func201.trans (congrArg some (by kernel_rfl))⟩
  t4 := Tryz.underlying4
  a4 := Tryz.isAgg4
  z4 := Tryz.sizeOf4
  v4 := Tryz.zeroValue4
  t22 := Tryz.underlying45
  a22 := Tryz.isAgg45
  z22 := Tryz.sizeOf45
  v22 := Tryz.zeroValue45
}

theorem CloneUser_ok (l : List GUser) (hN : l.length ≤ 1099511627776) : Valid PP GG 201 [.d (.slc 2 (rUser l))] (.own 0 2 (rUser l)) [none] :=
  clone_valid clnUser ⟨Tryz.f201, Tryz.func201, by kernel_rfl, by kernel_rfl⟩ 2 32 (by kernel_rfl) (by kernel_rfl) (by kernel_rfl) (by kernel_rfl) (by omega) (by omega) Tryz.sizeOf84 _ (rUser_row l) (by rw [rUser_len]; exact hN)

def clnJob_ren : Go.Shelf.Ren := ⟨fun | 41 => 202 | n => n, fun | 22 => 48 | 23 => 121 | n => n, fun n => n⟩

theorem clnJob : Go.Proofs.SlLaysE0.n41 PP clnJob_ren := {
  mixed := by kernel_rfl
  f41 := ⟨"slices.Clone[[]loop.example/g00705/impl.Job,loop.example/g00705/impl.Job]", by decide, Tryz.func202.trans (congrArg some (by kernel_rfl))⟩
  t4 := Tryz.underlying4
  a4 := Tryz.isAgg4
  z4 := Tryz.sizeOf4
  v4 := Tryz.zeroValue4
  t22 := Tryz.underlying48
  a22 := Tryz.isAgg48
  z22 := Tryz.sizeOf48
  v22 := Tryz.zeroValue48
}

theorem CloneJob_ok (l : List GJob) (hN : l.length ≤ 1099511627776) : Valid PP GG 202 [.d (.slc 3 (rJob l))] (.own 0 3 (rJob l)) [none] :=
  clone_valid clnJob ⟨Tryz.f202, Tryz.func202, by kernel_rfl, by kernel_rfl⟩ 3 32 (by kernel_rfl) (by kernel_rfl) (by kernel_rfl) (by kernel_rfl) (by omega) (by omega) Tryz.sizeOf121 _ (rJob_row l) (by rw [rJob_len]; exact hN)

def clnOwned_ren : Go.Shelf.Ren := ⟨fun | 41 => 152 | n => n, fun | 22 => 51 | 23 => 108 | n => n, fun n => n⟩

theorem clnOwned : Go.Proofs.SlLaysE0.n41 PP clnOwned_ren := {
  mixed := by kernel_rfl
  f41 := ⟨"slices.Clone[[]loop.example/g00705/impl.Owned,loop.example/g00705/impl.Owned]", by decide, Tryz.func152.trans (congrArg some (by kernel_rfl))⟩
  t4 := Tryz.underlying4
  a4 := Tryz.isAgg4
  z4 := Tryz.sizeOf4
  v4 := Tryz.zeroValue4
  t22 := Tryz.underlying51
  a22 := Tryz.isAgg51
  z22 := Tryz.sizeOf51
  v22 := Tryz.zeroValue51
}

theorem CloneOwned_ok (l : List GOwned) (hN : l.length ≤ 1099511627776) : Valid PP GG 152 [.d (.slc 2 (rOwned l))] (.own 0 2 (rOwned l)) [none] :=
  clone_valid clnOwned ⟨Tryz.f152, Tryz.func152, by kernel_rfl, by kernel_rfl⟩ 2 24 (by kernel_rfl) (by kernel_rfl) (by kernel_rfl) (by kernel_rfl) (by omega) (by omega) Tryz.sizeOf108 _ (rOwned_row l) (by rw [rOwned_len]; exact hN)

theorem cloneToken_ok (t : GToken) (ht : fitT t) : Valid PP GG F_I_cloneToken [.agg t.c] (.agg t.o) [none] := by
  refine v_I_cloneToken [.agg t.o] rfl rfl ?_
  have cc := CloneString_ok (GG := GG) t.fNames (by have := ht.1; omega)
  exact u_32 cc

theorem ind_rToken (l : List GToken) : ∀ row, row ∈ rToken l → ∀ d, d ∈ row → IndD 1 d := by
  intro row h d hd
  simp only [rToken, List.mem_map] at h
  obtain ⟨x, _, rfl⟩ := h
  simp only [GToken.row, List.mem_cons, List.not_mem_nil, or_false] at hd
  rcases hd with rfl | rfl | rfl | rfl | rfl | rfl | rfl <;> simp only [IndD]
  exact ind_strs x.fNames

theorem world_forest {w : GWorld} (h : worldB w = true) : forestB w.fForest = true := by
  unfold worldB at h; simp only [Bool.and_eq_true] at h; exact h.1.1.1.1.1.1.2

theorem world_book {w : GWorld} (h : worldB w = true) : bookB w.fBook = true := by
  unfold worldB at h; simp only [Bool.and_eq_true] at h; exact h.1.1.1.1.1.2

theorem world_marks {w : GWorld} (h : w.cost ≤ 4194304) : w.marksIn ≤ 1000000000 := by
  have e : w.cost = w.fForest.cost + w.fBook.cost + w.fFar.cost + w.fQueue.cost + (w.fOwned.length + sumBy GOwned.cost w.fOwned) := rfl
  have e1 : w.fForest.cost = w.fForest.fTokens.length + sumBy GToken.cost w.fForest.fTokens := rfl
  have e2 : w.fBook.cost = w.fBook.fLeases.length + sumBy GLease.cost w.fBook.fLeases := rfl
  have e3 : w.fFar.cost = w.fFar.fUsers.length + sumBy GUser.cost w.fFar.fUsers := rfl
  have e4 : w.fQueue.cost = w.fQueue.fJobs.length + sumBy GJob.cost w.fQueue.fJobs := rfl
  have h1 := sumBy_le GToken.marks_le w.fForest.fTokens
  have h2 := sumBy_le GLease.marks_le w.fBook.fLeases
  have h3 := sumBy_le GUser.marks_le w.fFar.fUsers
  have h4 := sumBy_le GJob.marks_le w.fQueue.fJobs
  have h5 := sumBy_le GOwned.marks_le w.fOwned
  show sumBy GToken.marks w.fForest.fTokens + sumBy GLease.marks w.fBook.fLeases + sumBy GUser.marks w.fFar.fUsers + sumBy GJob.marks w.fQueue.fJobs + sumBy GOwned.marks w.fOwned ≤ _
  omega

theorem rToken_succ {a : List GToken} {i : Nat} {x : GToken} (h : a[i]? = some x) : rToken (a.take (i + 1)) = rToken (a.take i) ++ [x.row] := by
  rw [List.take_add_one, h, rToken_app]; rfl

theorem rToken_take_len (a : List GToken) (i : Nat) : (rToken (a.take i)).length ≤ i := by rw [rToken_len, List.length_take]; omega

theorem rLease_succ {a : List GLease} {i : Nat} {x : GLease} (h : a[i]? = some x) : rLease (a.take (i + 1)) = rLease (a.take i) ++ [x.row] := by
  rw [List.take_add_one, h, rLease_app]; rfl

theorem rLease_take_len (a : List GLease) (i : Nat) : (rLease (a.take i)).length ≤ i := by rw [rLease_len, List.length_take]; omega

theorem rUser_succ {a : List GUser} {i : Nat} {x : GUser} (h : a[i]? = some x) : rUser (a.take (i + 1)) = rUser (a.take i) ++ [x.row] := by
  rw [List.take_add_one, h, rUser_app]; rfl

theorem rUser_take_len (a : List GUser) (i : Nat) : (rUser (a.take i)).length ≤ i := by rw [rUser_len, List.length_take]; omega

theorem rJob_succ {a : List GJob} {i : Nat} {x : GJob} (h : a[i]? = some x) : rJob (a.take (i + 1)) = rJob (a.take i) ++ [x.row] := by
  rw [List.take_add_one, h, rJob_app]; rfl

theorem rJob_take_len (a : List GJob) (i : Nat) : (rJob (a.take i)).length ≤ i := by rw [rJob_len, List.length_take]; omega

theorem rOwned_succ {a : List GOwned} {i : Nat} {x : GOwned} (h : a[i]? = some x) : rOwned (a.take (i + 1)) = rOwned (a.take i) ++ [x.row] := by
  rw [List.take_add_one, h, rOwned_app]; rfl

theorem rOwned_take_len (a : List GOwned) (i : Nat) : (rOwned (a.take i)).length ≤ i := by rw [rOwned_len, List.length_take]; omega

theorem ind_rLease (l : List GLease) : ∀ row, row ∈ rLease l → ∀ d, d ∈ row → IndD 0 d := by
  intro row h d hd
  simp only [rLease, List.mem_map] at h
  obtain ⟨x, _, rfl⟩ := h
  simp only [GLease.row, List.mem_cons, List.not_mem_nil, or_false] at hd
  rcases hd with rfl | rfl | rfl | rfl | rfl | rfl <;> trivial

theorem ind_rUser (l : List GUser) : ∀ row, row ∈ rUser l → ∀ d, d ∈ row → IndD 0 d := by
  intro row h d hd
  simp only [rUser, List.mem_map] at h
  obtain ⟨x, _, rfl⟩ := h
  simp only [GUser.row, List.mem_cons, List.not_mem_nil, or_false] at hd
  rcases hd with rfl | rfl <;> trivial

theorem ind_rJob (l : List GJob) : ∀ row, row ∈ rJob l → ∀ d, d ∈ row → IndD 0 d := by
  intro row h d hd
  simp only [rJob, List.mem_map] at h
  obtain ⟨x, _, rfl⟩ := h
  simp only [GJob.row, List.mem_cons, List.not_mem_nil, or_false] at hd
  rcases hd with rfl | rfl | rfl <;> trivial

theorem ind_rOwned (l : List GOwned) : ∀ row, row ∈ rOwned l → ∀ d, d ∈ row → IndD 0 d := by
  intro row h d hd
  simp only [rOwned, List.mem_map] at h
  obtain ⟨x, _, rfl⟩ := h
  simp only [GOwned.row, List.mem_cons, List.not_mem_nil, or_false] at hd
  rcases hd with rfl | rfl <;> trivial

theorem strsD_take_len (a : List (List UInt8)) (i : Nat) : (strsD (a.take i)).length ≤ i := by rw [strsD_len, List.length_take]; omega

theorem s_l08Texts_ok (a : List (List UInt8)) (hl : a.length ≤ 1048576) : Valid PP GG F_S_l08Texts [.d (.slc 1 (strsD a))] (.own 0 1 (strsD a)) [none] := by
  refine v_S_l08Texts [.own 0 1 (strsD a)] rfl rfl ?_
  repeat' (first | refine W_seq ?_ | refine W_skip ?_ | refine W_block ?_ | refine W_exit ?_ | refine pick_pos rfl ?_ | refine pick_neg rfl ?_ | ((first | refine W_regP fun K hK => ?_ | refine W_regPD fun K hK => ?_ | refine W_ret ?_); simp [Fin, strsD_len]) | (with_reducible refine hK _ ?_; clear hK K) | (with_reducible refine goL_split (fun h => ?_) (fun h => ?_) <;> first | (exfalso; simp at h; first | done | omega | contradiction) | ((try simp at h); simp [strsD_len])) | with_reducible refine And.intro ?_ ?_ | with_reducible exact okay_rfl rfl | with_reducible assumption | (refine W_cond rfl (fun h => ?_) (fun h => ?_) <;> first | (exfalso; simp at h; first | done | omega | contradiction) | (exfalso; simp_all; done) | (try simp at h)) | omega)
  refine W_loop (fun n st => ∃ i : Nat, n = a.length - i ∧ i ≤ a.length ∧
    st = ⟨[], [(0, .d (.slc 1 (strsD a))), (3, .sl 0), (4, .d (.int .i64 i))], [(0, .arr 0 0 1 (strsD (a.take i)))], 1⟩) _ ⟨0, rfl, by omega, ?_⟩ ?_
  · simp [gc, closeN, liveA, gcV, gcO, renA, renAs, renO, namesAs, namesA, namesO, posn, strsD]
  rintro n st ⟨i, rfl, hi, rfl⟩
  by_cases hlt : i < a.length
  rotate_left
  · have hie : i = a.length := by omega
    subst hie
    rw [List.take_length]
    repeat' (first | refine W_seq ?_ | refine W_skip ?_ | refine W_block ?_ | refine W_exit ?_ | refine pick_pos rfl ?_ | refine pick_neg rfl ?_ | ((first | refine W_regP fun K hK => ?_ | refine W_regPD fun K hK => ?_ | refine W_ret ?_); simp [Fin, strsD_len]) | (with_reducible refine hK _ ?_; clear hK K) | (with_reducible refine goL_split (fun h => ?_) (fun h => ?_) <;> first | (exfalso; simp at h; first | done | omega | contradiction) | ((try simp at h); simp [strsD_len])) | with_reducible refine And.intro ?_ ?_ | with_reducible exact okay_rfl rfl | with_reducible assumption | (refine W_cond rfl (fun h => ?_) (fun h => ?_) <;> first | (exfalso; simp at h; first | done | omega | contradiction) | (exfalso; simp_all; done) | (try simp at h)) | omega)
  have ha := List.getElem?_eq_getElem hlt
  generalize a[i] = x at ha
  have hsc := strsD_succ ha
  have hlen := strsD_take_len a i
  generalize strsD (a.take i) = L at *
  repeat' (first | refine W_seq ?_ | refine W_skip ?_ | refine W_block ?_ | refine W_exit ?_ | refine pick_pos rfl ?_ | refine pick_neg rfl ?_ | ((first | refine W_regP fun K hK => ?_ | refine W_regPD fun K hK => ?_ | refine W_ret ?_); simp [Fin, ha, strs_get, limit, strsD_len]) | (with_reducible refine hK _ ?_; clear hK K) | (with_reducible refine goL_split (fun h => ?_) (fun h => ?_) <;> first | (exfalso; simp at h; first | done | omega | contradiction) | ((try simp at h); simp [ha, strs_get, limit, strsD_len])) | with_reducible refine And.intro ?_ ?_ | with_reducible exact okay_rfl rfl | with_reducible assumption | (refine W_cond rfl (fun h => ?_) (fun h => ?_) <;> first | (exfalso; simp at h; first | done | omega | contradiction) | (exfalso; simp_all; done) | (try simp at h)) | omega)
  refine ⟨a.length - (i + 1), by omega, i + 1, rfl, hlt, ?_⟩
  rw [hsc]
  simp [gc, closeN, liveA, gcV, gcO, renA, renAs, renO, namesAs, namesA, namesO, posn]
  exact wrap_id (by omega) (by omega)

theorem s_l08CopyToken_ok (t : GToken) (ht : fitT t) : Valid PP GG F_S_l08CopyToken [.agg t.c] (.agg t.o) [none] := by
  refine v_S_l08CopyToken [.agg t.o] rfl rfl ?_
  have cc := s_l08Texts_ok (GG := GG) t.fNames ht.1
  exact u_32 cc

theorem s_l08Copy_ok (a : List GToken) (hf : fitF ⟨a⟩) : Valid PP GG F_S_l08Copy [.agg (GForest.mk a).c] (.agg (GForest.mk a).o) [none] := by
  refine v_S_l08Copy [.agg (GForest.mk a).o] rfl rfl ?_
  refine u_29 ?_
  refine W_nilP 3 0 rfl rfl rfl ?_
  refine u_29 ?_
  refine W_loop (fun n st => ∃ i : Nat, n = a.length - i ∧ i ≤ a.length ∧
    st = ⟨[], [(1, .ptr 0 0), (2, .ptr 1 0), (3, .ptr 2 0), (4, .d (.int .i64 i))], [(0, .box [.d (.slc 7 (rToken a))]), (1, .box [.nil 1 7]), (2, .box [.sl 3]), (3, .arr 0 1 7 (rToken (a.take i)))], 4⟩) _ ⟨0, rfl, by omega, ?_⟩ ?_
  · simp [gc, closeN, liveA, gcV, gcO, renA, renAs, renO, namesAs, namesA, namesO, posn, rToken]
  rintro n st ⟨i, rfl, hi, rfl⟩
  by_cases hlt : i < a.length
  rotate_left
  · have hie : i = a.length := by omega
    subst hie
    rw [List.take_length]
    exact u_28
  have ha := List.getElem?_eq_getElem hlt
  have hm := List.getElem_mem hlt
  generalize a[i] = x at ha hm
  have hsc := rToken_succ ha
  have hlen := rToken_take_len a i
  have hir := ind_rToken (a.take i)
  have ct := s_l08CopyToken_ok (GG := GG) x (hf.2 x hm)
  have hla : a.length ≤ 1048576 := hf.1
  generalize rToken (a.take i) = L at *
  refine u_49 ha ct ?_
  refine ⟨a.length - (i + 1), by omega, i + 1, rfl, hlt, ?_⟩
  rw [hsc]
  simp [gc, closeN, liveA, gcV, gcO, renA, renAs, renO, namesAs, namesA, namesO, posn]
  exact wrap_id (by omega) (by omega)

theorem s_l09Copy_ok (a : List GLease) (hla : a.length ≤ 1048577) : Valid PP GG F_S_l09Copy [.agg (GBook.mk a).c] (.agg (GBook.mk a).o) [none] := by
  refine v_S_l09Copy [.agg (GBook.mk a).o] rfl rfl ?_
  refine u_29 ?_
  refine W_nilP 3 0 rfl rfl rfl ?_
  refine u_29 ?_
  refine W_loop (fun n st => ∃ i : Nat, n = a.length - i ∧ i ≤ a.length ∧
    st = ⟨[], [(1, .ptr 0 0), (2, .ptr 1 0), (3, .ptr 2 0), (4, .d (.int .i64 i))], [(0, .box [.d (.slc 6 (rLease a))]), (1, .box [.nil 0 6]), (2, .box [.sl 3]), (3, .arr 0 0 6 (rLease (a.take i)))], 4⟩) _ ⟨0, rfl, by omega, ?_⟩ ?_
  · simp [gc, closeN, liveA, gcV, gcO, renA, renAs, renO, namesAs, namesA, namesO, posn, rLease]
  rintro n st ⟨i, rfl, hi, rfl⟩
  by_cases hlt : i < a.length
  rotate_left
  · have hie : i = a.length := by omega
    subst hie
    rw [List.take_length]
    exact u_28
  have ha := List.getElem?_eq_getElem hlt
  have hm := List.getElem_mem hlt
  generalize a[i] = x at ha hm
  have hsc := rLease_succ ha
  have hlen := rLease_take_len a i
  have hir := ind_rLease (a.take i)
  generalize rLease (a.take i) = L at *
  refine u_50 ha ?_
  refine ⟨a.length - (i + 1), by omega, i + 1, rfl, hlt, ?_⟩
  rw [hsc]
  simp [gc, closeN, liveA, gcV, gcO, renA, renAs, renO, namesAs, namesA, namesO, posn]
  exact wrap_id (by omega) (by omega)

theorem s_l11CopyQueue_ok (a : List GJob) (hla : a.length ≤ 1048577) : Valid PP GG F_S_l11CopyQueue [.agg (GQueue.mk a).c] (.agg (GQueue.mk a).o) [none] := by
  refine v_S_l11CopyQueue [.agg (GQueue.mk a).o] rfl rfl ?_
  refine u_29 ?_
  refine W_nilP 3 0 rfl rfl rfl ?_
  refine u_29 ?_
  refine W_loop (fun n st => ∃ i : Nat, n = a.length - i ∧ i ≤ a.length ∧
    st = ⟨[], [(1, .ptr 0 0), (2, .ptr 1 0), (3, .ptr 2 0), (4, .d (.int .i64 i))], [(0, .box [.d (.slc 3 (rJob a))]), (1, .box [.nil 0 3]), (2, .box [.sl 3]), (3, .arr 0 0 3 (rJob (a.take i)))], 4⟩) _ ⟨0, rfl, by omega, ?_⟩ ?_
  · simp [gc, closeN, liveA, gcV, gcO, renA, renAs, renO, namesAs, namesA, namesO, posn, rJob]
  rintro n st ⟨i, rfl, hi, rfl⟩
  by_cases hlt : i < a.length
  rotate_left
  · have hie : i = a.length := by omega
    subst hie
    rw [List.take_length]
    exact u_28
  have ha := List.getElem?_eq_getElem hlt
  have hm := List.getElem_mem hlt
  generalize a[i] = x at ha hm
  have hsc := rJob_succ ha
  have hlen := rJob_take_len a i
  have hir := ind_rJob (a.take i)
  generalize rJob (a.take i) = L at *
  refine u_50 ha ?_
  refine ⟨a.length - (i + 1), by omega, i + 1, rfl, hlt, ?_⟩
  rw [hsc]
  simp [gc, closeN, liveA, gcV, gcO, renA, renAs, renO, namesAs, namesA, namesO, posn]
  exact wrap_id (by omega) (by omega)

theorem s_l11Copy_ok (a : List GUser) (ff fm : Int) (hla : a.length ≤ 1048577) : Valid PP GG F_S_l11Copy [.agg (GFar.mk a ff fm).c] (.agg (GFar.mk a ff fm).o) [none] := by
  refine v_S_l11Copy [.agg (GFar.mk a ff fm).o] rfl rfl ?_
  refine u_29 ?_
  refine W_nilP 3 0 rfl rfl rfl ?_
  refine u_29 ?_
  refine W_loop (fun n st => ∃ i : Nat, n = a.length - i ∧ i ≤ a.length ∧
    st = ⟨[], [(1, .ptr 0 0), (2, .ptr 1 0), (3, .ptr 2 0), (4, .d (.int .i64 i))], [(0, .box [.d (.slc 2 (rUser a)), .d (.int .i64 ff), .d (.int .i64 fm)]), (1, .box [.nil 0 2, .d (.int .i64 0), .d (.int .i64 0)]), (2, .box [.sl 3, .d (.int .i64 ff), .d (.int .i64 fm)]), (3, .arr 0 0 2 (rUser (a.take i)))], 4⟩) _ ⟨0, rfl, by omega, ?_⟩ ?_
  · simp [gc, closeN, liveA, gcV, gcO, renA, renAs, renO, namesAs, namesA, namesO, posn, rUser]
  rintro n st ⟨i, rfl, hi, rfl⟩
  by_cases hlt : i < a.length
  rotate_left
  · have hie : i = a.length := by omega
    subst hie
    rw [List.take_length]
    exact u_28
  have ha := List.getElem?_eq_getElem hlt
  have hm := List.getElem_mem hlt
  generalize a[i] = x at ha hm
  have hsc := rUser_succ ha
  have hlen := rUser_take_len a i
  have hir := ind_rUser (a.take i)
  generalize rUser (a.take i) = L at *
  refine u_50 ha ?_
  refine ⟨a.length - (i + 1), by omega, i + 1, rfl, hlt, ?_⟩
  rw [hsc]
  simp [gc, closeN, liveA, gcV, gcO, renA, renAs, renO, namesAs, namesA, namesO, posn]
  exact wrap_id (by omega) (by omega)

theorem s_l16Copy_ok (w : GWorld) (hf : fitW w) : Valid PP GG F_S_l16Copy [.agg w.c] (.agg w.o) [none] := by
  refine v_S_l16Copy [.agg w.o] rfl rfl ?_
  obtain ⟨now, next, lost, ⟨tk⟩, ⟨ls⟩, ⟨us, ff, fm⟩, ⟨js⟩, a⟩ := w
  obtain ⟨hf1, hf2, hf3, hf4, hol, hon⟩ := hf
  dsimp only at hf1 hf2 hf3 hf4 hol
  have c1 := s_l08Copy_ok (GG := GG) tk hf1
  have c2 := s_l09Copy_ok (GG := GG) ls (by have := hf2.1; dsimp only at this; omega)
  have c3 := s_l11Copy_ok (GG := GG) us ff fm (by have := hf3.1; dsimp only at this; omega)
  have c4 := s_l11CopyQueue_ok (GG := GG) js (by have := hf4.1; dsimp only at this; omega)
  have hi1 := ind_rToken tk
  have hi2 := ind_rLease ls
  have hi3 := ind_rUser us
  have hi4 := ind_rJob js
  repeat' (first | refine W_seq ?_ | refine W_skip ?_ | refine W_block ?_ | refine W_exit ?_ | refine pick_pos rfl ?_ | refine pick_neg rfl ?_ | ((first | refine W_regP fun K hK => ?_ | refine W_regPD fun K hK => ?_ | refine W_ret ?_ | with_reducible refine callQ (c1) ?_ | with_reducible refine callQ (c2) ?_ | with_reducible refine callQ (c3) ?_ | with_reducible refine callQ (c4) ?_); simp [Fin]) | (with_reducible refine hK _ ?_; clear hK K) | (with_reducible refine goL_split (fun h => ?_) (fun h => ?_) <;> first | (exfalso; simp at h; first | done | omega | contradiction) | ((try simp at h); simp)) | with_reducible refine And.intro ?_ ?_ | with_reducible exact okay_rfl rfl | with_reducible assumption | (refine W_cond rfl (fun h => ?_) (fun h => ?_) <;> first | (exfalso; simp at h; first | done | omega | contradiction) | (exfalso; simp_all; done) | (try simp at h)) | omega)
  refine W_nilP 3 9 rfl rfl rfl ?_
  repeat' (first | refine W_seq ?_ | refine W_skip ?_ | refine W_block ?_ | refine W_exit ?_ | refine pick_pos rfl ?_ | refine pick_neg rfl ?_ | ((first | refine W_regP fun K hK => ?_ | refine W_regPD fun K hK => ?_ | refine W_ret ?_); simp [Fin]) | (with_reducible refine hK _ ?_; clear hK K) | (with_reducible refine goL_split (fun h => ?_) (fun h => ?_) <;> first | (exfalso; simp at h; first | done | omega | contradiction) | ((try simp at h); simp)) | with_reducible refine And.intro ?_ ?_ | with_reducible exact okay_rfl rfl | with_reducible assumption | (refine W_cond rfl (fun h => ?_) (fun h => ?_) <;> first | (exfalso; simp at h; first | done | omega | contradiction) | (exfalso; simp_all; done) | (try simp at h)) | omega)
  refine W_loop (fun n st => ∃ i : Nat, n = a.length - i ∧ i ≤ a.length ∧
    st = ⟨[], [(1, .ptr 0 0), (2, .ptr 1 0), (3, .ptr 2 0), (4, .d (.int .i64 i))], [(0, .box [.d (.int .i64 now), .d (.int .i64 next), .d (.int .i64 lost), .d (.slc 7 (rToken tk)), .d (.slc 6 (rLease ls)), .d (.slc 2 (rUser us)), .d (.int .i64 ff), .d (.int .i64 fm), .d (.slc 3 (rJob js)), .d (.slc 2 (rOwned a))]),
      (1, .box [.d (.int .i64 0), .d (.int .i64 0), .d (.int .i64 0), .nil 1 7, .nil 0 6, .nil 0 2, .d (.int .i64 0), .d (.int .i64 0), .nil 0 3, .nil 0 2]),
      (2, .box [.d (.int .i64 now), .d (.int .i64 next), .d (.int .i64 lost), .sl 3, .sl 4, .sl 5, .d (.int .i64 ff), .d (.int .i64 fm), .sl 6, .sl 7]), (3, .arr 0 1 7 (rToken tk)), (4, .arr 0 0 6 (rLease ls)), (5, .arr 0 0 2 (rUser us)), (6, .arr 0 0 3 (rJob js)), (7, .arr 0 0 2 (rOwned (a.take i)))], 8⟩) _ ⟨0, rfl, by omega, ?_⟩ ?_
  · simp [gc, closeN, liveA, gcV, gcO, renA, renAs, renO, namesAs, namesA, namesO, posn, rOwned]
  rintro n st ⟨i, rfl, hi, rfl⟩
  by_cases hlt : i < a.length
  rotate_left
  · have hie : i = a.length := by omega
    subst hie
    rw [List.take_length]
    repeat' (first | refine W_seq ?_ | refine W_skip ?_ | refine W_block ?_ | refine W_exit ?_ | refine pick_pos rfl ?_ | refine pick_neg rfl ?_ | ((first | refine W_regP fun K hK => ?_ | refine W_regPD fun K hK => ?_ | refine W_ret ?_); simp [Fin]) | (with_reducible refine hK _ ?_; clear hK K) | (with_reducible refine goL_split (fun h => ?_) (fun h => ?_) <;> first | (exfalso; simp at h; first | done | omega | contradiction) | ((try simp at h); simp)) | with_reducible refine And.intro ?_ ?_ | with_reducible exact okay_rfl rfl | with_reducible assumption | (refine W_cond rfl (fun h => ?_) (fun h => ?_) <;> first | (exfalso; simp at h; first | done | omega | contradiction) | (exfalso; simp_all; done) | (try simp at h)) | omega)
  have ha := List.getElem?_eq_getElem hlt
  generalize a[i] = x at ha
  have hsc := rOwned_succ ha
  have hlen := rOwned_take_len a i
  generalize rOwned (a.take i) = L at *
  repeat' (first | refine W_seq ?_ | refine W_skip ?_ | refine W_block ?_ | refine W_exit ?_ | refine pick_pos rfl ?_ | refine pick_neg rfl ?_ | ((first | refine W_regP fun K hK => ?_ | refine W_regPD fun K hK => ?_ | refine W_ret ?_); simp [Fin, ha, limit]) | (with_reducible refine hK _ ?_; clear hK K) | (with_reducible refine goL_split (fun h => ?_) (fun h => ?_) <;> first | (exfalso; simp at h; first | done | omega | contradiction) | ((try simp at h); simp [ha, limit])) | with_reducible refine And.intro ?_ ?_ | with_reducible exact okay_rfl rfl | with_reducible assumption | (refine W_cond rfl (fun h => ?_) (fun h => ?_) <;> first | (exfalso; simp at h; first | done | omega | contradiction) | (exfalso; simp_all; done) | (try simp at h)) | omega)
  refine ⟨a.length - (i + 1), by omega, i + 1, rfl, hlt, ?_⟩
  rw [hsc]
  simp [gc, closeN, liveA, gcV, gcO, renA, renAs, renO, namesAs, namesA, namesO, posn]
  exact wrap_id (by omega) (by omega)

theorem cloneForest_ok (a : List GToken) (hf : fitF ⟨a⟩) : Valid PP GG F_I_cloneForest [.agg (GForest.mk a).c] (.agg (GForest.mk a).o) [none] := by
  refine v_I_cloneForest [.agg (GForest.mk a).o] rfl rfl ?_
  have hla : a.length ≤ 1048576 := hf.1
  refine W_seq (?_)
  refine u_1 ?_
  refine W_seq (?_)
  refine u_1 ?_
  refine W_nilP 3 0 rfl rfl rfl ?_
  refine u_29 ?_
  refine W_loop (fun n st => ∃ i : Nat, n = a.length - i ∧ i ≤ a.length ∧
    st = ⟨[], [(2, .ptr 0 0), (3, .ptr 1 0), (7, .d (.slc 7 (rToken a))), (8, .d (.int .i64 a.length)), (9, .d (.int .i64 i))], [(0, .box [.nil 1 7]), (1, .box [.sl 2]), (2, .arr 0 1 7 (rToken (a.take i)))], 3⟩) _ ⟨0, rfl, by omega, ?_⟩ ?_
  · simp [gc, closeN, liveA, gcV, gcO, renA, renAs, renO, namesAs, namesA, namesO, posn, rToken]
  rintro n st ⟨i, rfl, hi, rfl⟩
  by_cases hlt : i < a.length
  rotate_left
  · have hie : i = a.length := by omega
    subst hie
    rw [List.take_length]
    exact u_28
  have ha := List.getElem?_eq_getElem hlt
  have hm := List.getElem_mem hlt
  generalize a[i] = x at ha hm
  have hsc := rToken_succ ha
  have hlen := rToken_take_len a i
  have hir := ind_rToken (a.take i)
  have ct := cloneToken_ok (GG := GG) x (hf.2 x hm)
  generalize rToken (a.take i) = L at *
  refine u_49 ha ct ?_
  refine ⟨a.length - (i + 1), by omega, i + 1, rfl, hlt, ?_⟩
  rw [hsc]
  simp [gc, closeN, liveA, gcV, gcO, renA, renAs, renO, namesAs, namesA, namesO, posn]
  exact wrap_id (by omega) (by omega)

theorem cloneBook_ok (a : List GLease) (hla : a.length ≤ 1048577) : Valid PP GG F_I_cloneBook [.agg (GBook.mk a).c] (.agg (GBook.mk a).o) [none] := by
  refine v_I_cloneBook [.agg (GBook.mk a).o] rfl rfl ?_
  have cc := CloneLease_ok (GG := GG) a (by omega)
  exact u_32 cc

theorem cloneQueue_ok (a : List GJob) (hla : a.length ≤ 1048577) : Valid PP GG F_I_cloneQueue [.agg (GQueue.mk a).c] (.agg (GQueue.mk a).o) [none] := by
  refine v_I_cloneQueue [.agg (GQueue.mk a).o] rfl rfl ?_
  have cc := CloneJob_ok (GG := GG) a (by omega)
  exact u_32 cc

theorem cloneFar_ok (a : List GUser) (ff fm : Int) (hla : a.length ≤ 1048577) : Valid PP GG F_I_cloneFar [.agg (GFar.mk a ff fm).c] (.agg (GFar.mk a ff fm).o) [none] := by
  refine v_I_cloneFar [.agg (GFar.mk a ff fm).o] rfl rfl ?_
  have cc := CloneUser_ok (GG := GG) a (by omega)
  exact u_32 cc

theorem cloneWorld_ok (w : GWorld) (hf : fitW w) : Valid PP GG F_I_cloneWorld [.agg w.c] (.agg w.o) [none] := by
  refine v_I_cloneWorld [.agg w.o] rfl rfl ?_
  obtain ⟨now, next, lost, ⟨tk⟩, ⟨ls⟩, ⟨us, ff, fm⟩, ⟨js⟩, a⟩ := w
  obtain ⟨hf1, hf2, hf3, hf4, hol, hon⟩ := hf
  dsimp only at hf1 hf2 hf3 hf4 hol
  have c1 := cloneForest_ok (GG := GG) tk hf1
  have c2 := cloneBook_ok (GG := GG) ls (by have := hf2.1; dsimp only at this; omega)
  have c3 := cloneFar_ok (GG := GG) us ff fm (by have := hf3.1; dsimp only at this; omega)
  have c4 := cloneQueue_ok (GG := GG) js (by have := hf4.1; dsimp only at this; omega)
  have c5 := CloneOwned_ok (GG := GG) a (by omega)
  have hi1 := ind_rToken tk
  have hi2 := ind_rLease ls
  have hi3 := ind_rUser us
  have hi4 := ind_rJob js
  have hi5 := ind_rOwned a
  repeat' (first | refine W_seq ?_ | refine W_skip ?_ | refine W_block ?_ | refine W_exit ?_ | refine pick_pos rfl ?_ | refine pick_neg rfl ?_ | ((first | refine W_regP fun K hK => ?_ | refine W_regPD fun K hK => ?_ | refine W_ret ?_ | with_reducible refine callQ (c1) ?_ | with_reducible refine callQ (c2) ?_ | with_reducible refine callQ (c3) ?_ | with_reducible refine callQ (c4) ?_ | with_reducible refine callQ (c5) ?_); simp [Fin]) | (with_reducible refine hK _ ?_; clear hK K) | (with_reducible refine goL_split (fun h => ?_) (fun h => ?_) <;> first | (exfalso; simp at h; first | done | omega | contradiction) | ((try simp at h); simp)) | with_reducible refine And.intro ?_ ?_ | with_reducible exact okay_rfl rfl | with_reducible assumption | (refine W_cond rfl (fun h => ?_) (fun h => ?_) <;> first | (exfalso; simp at h; first | done | omega | contradiction) | (exfalso; simp_all; done) | (try simp at h)) | omega)

def zTok : GToken := ⟨0, 0, [], 0, 0, 0, 0⟩

def findT (f : GForest) (id : Int) : GToken := if forestB f then (f.fTokens.find? fun t => decide (t.fId = id)).getD zTok else zTok

def overB (e now : Int) : Bool := !decide (e = 0) && decide (e ≤ now)

theorem idxF_find {α : Type} {p : α → Bool} {l : List α} (h : l.any p = true) : ∃ (k : Nat) (t : α), idxF p l = k ∧ l[k]? = some t ∧ p t = true ∧ l.find? p = some t := by
  unfold idxF
  cases hf : l.findIdx? p with
  | none =>
    rw [List.findIdx?_eq_none_iff] at hf
    rw [List.any_eq_true] at h
    obtain ⟨x, hx, hp⟩ := h
    rw [hf x hx] at hp; cases hp
  | some i =>
    rw [List.findIdx?_eq_some_iff_getElem] at hf
    obtain ⟨h1, h2, h3⟩ := hf
    refine ⟨i, _, rfl, List.getElem?_eq_getElem h1, h2, ?_⟩
    rw [List.find?_eq_some_iff_getElem]
    exact ⟨h2, i, h1, rfl, fun j hj => by simpa using h3 j hj⟩

theorem s_l08Over_ok (t : GToken) (now : Int) : Valid PP GG F_S_l08Over [.agg t.c, .d (.int .i64 now)] (.d (.bool (overB t.fEnds now))) [none, none] := by
  refine v_S_l08Over [.d (.bool (overB t.fEnds now))] rfl rfl ?_
  have hr : overB t.fEnds now = (!decide (t.fEnds = 0) && decide (t.fEnds ≤ now)) := rfl
  have q : (t.fEnds != 0) = !decide (t.fEnds = 0) := rfl
  have hind := ind_strs t.fNames
  generalize overB t.fEnds now = r at *
  obtain ⟨t1, t2, t3, t4, e, t6, t7⟩ := t
  dsimp only at q hr
  cases h0 : decide (e = 0)
  · rw [h0] at hr q
    simp only [Bool.not_false, Bool.true_and] at hr q
    subst hr
    exact u_24 q
  · rw [h0] at hr q
    simp only [Bool.not_true, Bool.false_and] at hr q
    subst hr
    exact u_24 q

theorem isOver_ok (e now : Int) : Valid PP GG F_I_isOver [.d (.int .i64 e), .d (.int .i64 now)] (.d (.bool (overB e now))) [none, none] := by
  refine v_I_isOver [.d (.bool (overB e now))] rfl rfl ?_
  have hr : overB e now = (!decide (e = 0) && decide (e ≤ now)) := rfl
  have q : (e != 0) = !decide (e = 0) := rfl
  generalize overB e now = r at *
  cases h0 : decide (e = 0)
  · rw [h0] at hr q
    simp only [Bool.not_false, Bool.true_and] at hr q
    subst hr
    exact u_24 q
  · rw [h0] at hr q
    simp only [Bool.not_true, Bool.false_and] at hr q
    subst hr
    exact u_24 q

theorem s_FindToken_ok [MaxL GG] (f : GForest) (id : Int) (hf : fitF f) : Valid PP GG F_S_FindToken [.agg f.c, .d (.int .i64 id)] (.tup [.agg (findT f id).o, .d (.bool (forestB f && hasTok f id))]) [none, none] := by
  refine v_S_FindToken [.agg (findT f id).o, .d (.bool (forestB f && hasTok f id))] rfl rfl ?_
  have cf := s_ForestOk_ok (GG := GG) f hf
  have cat := s_l08At_ok (GG := GG) f id hf.1
  have hno : decide (idxF (fun t => decide (t.fId = id)) f.fTokens < 0) = !hasTok f id := idxF_none _ _
  have hF : findT f id = if forestB f then (f.fTokens.find? fun t => decide (t.fId = id)).getD zTok else zTok := rfl
  have hfi := fun (h : hasTok f id = true) => idxF_find (p := fun t : GToken => decide (t.fId = id)) (l := f.fTokens) h
  have hft := hf.2
  obtain ⟨a⟩ := f
  dsimp only at cf cat hno hF hfi hft
  generalize findT ⟨a⟩ id = F at *
  generalize hasTok ⟨a⟩ id = H at *
  generalize forestB ⟨a⟩ = B at *
  cases B
  · simp only [Bool.false_eq_true, if_false] at hF
    subst hF
    repeat' (first | refine W_seq ?_ | refine W_skip ?_ | refine W_block ?_ | refine W_exit ?_ | refine pick_pos rfl ?_ | refine pick_neg rfl ?_ | ((first | refine W_regP fun K hK => ?_ | refine W_regPD fun K hK => ?_ | refine W_ret ?_ | with_reducible refine callQ (cf) ?_); simp [Fin, zTok, strsD]) | (with_reducible refine hK _ ?_; clear hK K) | (with_reducible refine goL_split (fun h => ?_) (fun h => ?_) <;> first | (exfalso; simp at h; first | done | omega | contradiction) | ((try simp at h); simp [zTok, strsD])) | with_reducible refine And.intro ?_ ?_ | with_reducible exact okay_rfl rfl | with_reducible assumption | (refine W_cond rfl (fun h => ?_) (fun h => ?_) <;> first | (exfalso; simp at h; first | done | omega | contradiction) | (exfalso; simp_all; done) | (try simp at h)) | omega)
  simp only [if_true] at hF
  cases H
  · simp only [Bool.not_false] at hno
    have hn : a.find? (fun t => decide (t.fId = id)) = none := by
      rw [List.find?_eq_none]
      have h2 := idxF_none (fun t : GToken => decide (t.fId = id)) a
      rw [hno] at h2
      intro x hx hp
      have : a.any (fun t => decide (t.fId = id)) = true := List.any_eq_true.2 ⟨x, hx, hp⟩
      rw [this] at h2; cases h2
    rw [hn] at hF
    simp only [Option.getD_none] at hF
    subst hF
    repeat' (first | refine W_seq ?_ | refine W_skip ?_ | refine W_block ?_ | refine W_exit ?_ | refine pick_pos rfl ?_ | refine pick_neg rfl ?_ | ((first | refine W_regP fun K hK => ?_ | refine W_regPD fun K hK => ?_ | refine W_ret ?_ | with_reducible refine callQ (cf) ?_ | with_reducible refine callQ (cat) ?_); simp [Fin, zTok, strsD, hno]) | (with_reducible refine hK _ ?_; clear hK K) | (with_reducible refine goL_split (fun h => ?_) (fun h => ?_) <;> first | (exfalso; simp at h; first | done | omega | contradiction) | ((try simp at h); simp [zTok, strsD, hno])) | with_reducible refine And.intro ?_ ?_ | with_reducible exact okay_rfl rfl | with_reducible assumption | (refine W_cond rfl (fun h => ?_) (fun h => ?_) <;> first | (exfalso; simp at h; first | done | omega | contradiction) | (exfalso; simp_all; done) | (try simp at h)) | omega)
  · obtain ⟨k, t, hk, ht, _, hfd⟩ := hfi rfl
    rw [hfd] at hF
    simp only [Option.getD_some] at hF
    simp only [Bool.not_true] at hno
    rw [hk] at cat hno
    have hkl := (List.getElem?_eq_some_iff.1 ht).1
    have cc := s_l08CopyToken_ok (GG := GG) t (hft t (List.mem_of_getElem? ht))
    subst hF
    exact u_48 ht cf cat cc

def addL (b : GBook) (l : GLease) : Bool := bookB b && bookB ⟨b.fLeases ++ [l]⟩

def addBk (b : GBook) (l : GLease) : GBook := if addL b l then ⟨b.fLeases ++ [l]⟩ else b

theorem fitB_app {b : GBook} {l : GLease} (h : bookB b = true) (hf : fitB b) (hl : l.fPath.length ≤ 1048576) : fitB ⟨b.fLeases ++ [l]⟩ := by
  unfold bookB at h
  simp only [Bool.and_eq_true, decide_eq_true_eq] at h
  refine ⟨by simp; omega, fun t ht => ?_⟩
  rcases List.mem_append.1 ht with ht | ht
  · exact hf.2 t ht
  · simp at ht; subst ht; exact hl

theorem s_AddLease_ok [MaxL GG] (b : GBook) (l : GLease) (hf : fitB b) (hl : l.fPath.length ≤ 1048576) : Valid PP GG F_S_AddLease [.agg b.c, .agg l.c] (.tup [.agg (addBk b l).o, .d (.bool (addL b l))]) [none, none] := by
  refine v_S_AddLease [.agg (addBk b l).o, .d (.bool (addL b l))] rfl rfl ?_
  have cb := s_BookOk_ok (GG := GG) b hf
  have hfo := fun h => s_BookOk_ok (GG := GG) ⟨b.fLeases ++ [l]⟩ (fitB_app h hf hl)
  have ccp := s_l09Copy_ok (GG := GG) b.fLeases (by have := hf.1; omega)
  have hA : addL b l = (bookB b && bookB ⟨b.fLeases ++ [l]⟩) := rfl
  have hB : addBk b l = if addL b l then ⟨b.fLeases ++ [l]⟩ else b := rfl
  have hbl := hf.1
  obtain ⟨a⟩ := b
  dsimp only at cb hfo ccp hA hB hbl
  have hrl := rLease_app a [l]
  rw [show rLease [l] = [l.row] from rfl] at hrl
  have hi1 := ind_rLease a
  generalize addL ⟨a⟩ l = AL at *
  generalize addBk ⟨a⟩ l = AB at *
  cases hb : bookB ⟨a⟩ with
  | false =>
    rw [hb] at cb hA
    simp only [Bool.false_and] at hA
    subst hA
    simp only [Bool.false_eq_true, if_false] at hB
    subst hB
    exact u_51 cb ccp
  | true =>
    rw [hb] at cb hA
    simp only [Bool.true_and] at hA
    have co := hfo hb
    dsimp only [GBook.c] at co
    rw [← hA, hrl] at co
    cases AL
    · simp only [Bool.false_eq_true, if_false] at hB
      subst hB
      repeat' (first | refine W_seq ?_ | refine W_skip ?_ | refine W_block ?_ | refine W_exit ?_ | refine pick_pos rfl ?_ | refine pick_neg rfl ?_ | ((first | refine W_regP fun K hK => ?_ | refine W_regPD fun K hK => ?_ | refine W_ret ?_ | with_reducible refine callQ (cb) ?_ | with_reducible refine callQ (ccp) ?_ | with_reducible refine callQ (co) ?_); simp [Fin, limit]) | (with_reducible refine hK _ ?_; clear hK K) | (with_reducible refine goL_split (fun h => ?_) (fun h => ?_) <;> first | (exfalso; simp at h; first | done | omega | contradiction) | ((try simp at h); simp [limit])) | with_reducible refine And.intro ?_ ?_ | with_reducible exact okay_rfl rfl | with_reducible assumption | (refine W_cond rfl (fun h => ?_) (fun h => ?_) <;> first | (exfalso; simp at h; first | done | omega | contradiction) | (exfalso; simp_all; done) | (try simp at h)) | omega)
    · simp only [if_true] at hB
      subst hB
      repeat' (first | refine W_seq ?_ | refine W_skip ?_ | refine W_block ?_ | refine W_exit ?_ | refine pick_pos rfl ?_ | refine pick_neg rfl ?_ | ((first | refine W_regP fun K hK => ?_ | refine W_regPD fun K hK => ?_ | refine W_ret ?_ | with_reducible refine callQ (cb) ?_ | with_reducible refine callQ (ccp) ?_ | with_reducible refine callQ (co) ?_); simp [Fin, limit, hrl]) | (with_reducible refine hK _ ?_; clear hK K) | (with_reducible refine goL_split (fun h => ?_) (fun h => ?_) <;> first | (exfalso; simp at h; first | done | omega | contradiction) | ((try simp at h); simp [limit, hrl])) | with_reducible refine And.intro ?_ ?_ | with_reducible exact okay_rfl rfl | with_reducible assumption | (refine W_cond rfl (fun h => ?_) (fun h => ?_) <;> first | (exfalso; simp at h; first | done | omega | contradiction) | (exfalso; simp_all; done) | (try simp at h)) | omega)

theorem addLease_ok [MaxL GG] (b : GBook) (l : GLease) (hf : fitB b) (hl : l.fPath.length ≤ 1048576) (hb : bookB b = true) : Valid PP GG F_I_addLease [.agg b.c, .agg l.c] (.tup [.agg (addBk b l).o, .d (.bool (addL b l))]) [none, none] := by
  refine v_I_addLease [.agg (addBk b l).o, .d (.bool (addL b l))] rfl rfl ?_
  have co := isBook_ok (GG := GG) ⟨b.fLeases ++ [l]⟩ (fitB_app hb hf hl)
  have ccp := cloneBook_ok (GG := GG) b.fLeases (by have := hf.1; omega)
  have hA : addL b l = (bookB b && bookB ⟨b.fLeases ++ [l]⟩) := rfl
  have hB : addBk b l = if addL b l then ⟨b.fLeases ++ [l]⟩ else b := rfl
  have hbl := hf.1
  rw [hb, Bool.true_and] at hA
  obtain ⟨a⟩ := b
  dsimp only at co ccp hA hB hbl
  have hrl := rLease_app a [l]
  rw [show rLease [l] = [l.row] from rfl] at hrl
  have hi1 := ind_rLease a
  dsimp only [GBook.c] at co
  rw [← hA, hrl] at co
  generalize addL ⟨a⟩ l = AL at *
  generalize addBk ⟨a⟩ l = AB at *
  cases AL
  · simp only [Bool.false_eq_true, if_false] at hB
    subst hB
    exact u_51 ccp co
  · simp only [if_true] at hB
    subst hB
    repeat' (first | refine W_seq ?_ | refine W_skip ?_ | refine W_block ?_ | refine W_exit ?_ | refine pick_pos rfl ?_ | refine pick_neg rfl ?_ | ((first | refine W_regP fun K hK => ?_ | refine W_regPD fun K hK => ?_ | refine W_ret ?_ | with_reducible refine callQ (ccp) ?_ | with_reducible refine callQ (co) ?_); simp [Fin, limit, hrl]) | (with_reducible refine hK _ ?_; clear hK K) | (with_reducible refine goL_split (fun h => ?_) (fun h => ?_) <;> first | (exfalso; simp at h; first | done | omega | contradiction) | ((try simp at h); simp [limit, hrl])) | with_reducible refine And.intro ?_ ?_ | with_reducible exact okay_rfl rfl | with_reducible assumption | (refine W_cond rfl (fun h => ?_) (fun h => ?_) <;> first | (exfalso; simp at h; first | done | omega | contradiction) | (exfalso; simp_all; done) | (try simp at h)) | omega)

def tokLive (w : GWorld) (tok : Int) : Bool := hasTok w.fForest tok && !overB (findT w.fForest tok).fEnds w.fNow

def newL (w : GWorld) (tok : Int) (path : List UInt8) (ttl limit : Int) : GLease := ⟨w.fNext, tok, path, w.fNow, w.fNow + ttl, w.fNow + limit⟩

def grantOk (w : GWorld) (tok ttl limit : Int) : Bool := tokLive w tok && !decide (w.fNext = 1000000000) && decide (limit ≤ 1000000000) && inB ttl 1 limit

def grantB (w : GWorld) (tok : Int) (path : List UInt8) (ttl limit : Int) : Bool := worldB w && grantOk w tok ttl limit && addL w.fBook (newL w tok path ttl limit)

def grantW (w : GWorld) (tok : Int) (path : List UInt8) (ttl limit : Int) : GWorld := if grantB w tok path ttl limit then { w with fBook := ⟨w.fBook.fLeases ++ [newL w tok path ttl limit]⟩, fNext := w.fNext + 1 } else w

def grantI (w : GWorld) (tok : Int) (path : List UInt8) (ttl limit : Int) : Int := if grantB w tok path ttl limit then w.fNext else 0

theorem world_nums {w : GWorld} (h : worldB w = true) : (0 ≤ w.fNow ∧ w.fNow ≤ 1000000000) ∧ (1 ≤ w.fNext ∧ w.fNext ≤ 1000000000) ∧ (0 ≤ w.fLost ∧ w.fLost ≤ 1000000000) := by
  unfold worldB at h
  simp only [Bool.and_eq_true] at h
  exact ⟨inB_true h.1.1.1.1.1.1.1.1.1, inB_true h.1.1.1.1.1.1.1.1.2, inB_true h.1.1.1.1.1.1.1.2⟩

theorem s_GrantLease_ok [MaxL GG] (w : GWorld) (tok : Int) (path : List UInt8) (ttl limit : Int) (hf : fitW w) (hp : path.length ≤ 1048576) :
    Valid PP GG F_S_GrantLease [.agg w.c, .d (.int .i64 tok), .d (.str path), .d (.int .i64 ttl), .d (.int .i64 limit)] (.tup [.agg (grantW w tok path ttl limit).o, .d (.int .i64 (grantI w tok path ttl limit))]) [none, none, none, none, none] := by
  refine v_S_GrantLease [.agg (grantW w tok path ttl limit).o, .d (.int .i64 (grantI w tok path ttl limit))] rfl rfl ?_
  have cw := s_WorldOk_ok (GG := GG) w hf
  have ccp := s_l16Copy_ok (GG := GG) w hf
  have cft := s_FindToken_ok (GG := GG) w.fForest tok hf.1
  have cov := s_l08Over_ok (GG := GG) (findT w.fForest tok) w.fNow
  have cin : Valid PP GG F_S_l01In [.d (.int .i64 ttl), .d (.int .i64 1), .d (.int .i64 limit)] (.d (.bool (inB ttl 1 limit))) [none, none, none] := l01In_ok _ _ _
  have cad := s_AddLease_ok (GG := GG) w.fBook (newL w tok path ttl limit) hf.2.1 hp
  have hnum := fun h => world_nums (w := w) h
  have hfb := fun h => world_forest (w := w) h
  have hB : grantB w tok path ttl limit = (worldB w && (hasTok w.fForest tok && !overB (findT w.fForest tok).fEnds w.fNow && !decide (w.fNext = 1000000000) && decide (limit ≤ 1000000000) && inB ttl 1 limit) && addL w.fBook (newL w tok path ttl limit)) := rfl
  have hW : grantW w tok path ttl limit = if grantB w tok path ttl limit then { w with fBook := ⟨w.fBook.fLeases ++ [newL w tok path ttl limit]⟩, fNext := w.fNext + 1 } else w := rfl
  have hI : grantI w tok path ttl limit = if grantB w tok path ttl limit then w.fNext else 0 := rfl
  have hAB : addBk w.fBook (newL w tok path ttl limit) = if addL w.fBook (newL w tok path ttl limit) then ⟨w.fBook.fLeases ++ [newL w tok path ttl limit]⟩ else w.fBook := rfl
  have hNL : newL w tok path ttl limit = ⟨w.fNext, tok, path, w.fNow, w.fNow + ttl, w.fNow + limit⟩ := rfl
  obtain ⟨now, next, lost, ⟨tk⟩, ⟨ls⟩, ⟨us, ff, fm⟩, ⟨js⟩, ow⟩ := w
  dsimp only at cft cov cad hnum hfb hB hW hI hAB hNL
  have hi1 := ind_rToken tk
  have hi2 := ind_rLease ls
  have hi3 := ind_rUser us
  have hi4 := ind_rJob js
  have hi5 := ind_rOwned ow
  generalize grantW ⟨now, next, lost, ⟨tk⟩, ⟨ls⟩, ⟨us, ff, fm⟩, ⟨js⟩, ow⟩ tok path ttl limit = GW at *
  generalize grantI ⟨now, next, lost, ⟨tk⟩, ⟨ls⟩, ⟨us, ff, fm⟩, ⟨js⟩, ow⟩ tok path ttl limit = GI at *
  generalize grantB ⟨now, next, lost, ⟨tk⟩, ⟨ls⟩, ⟨us, ff, fm⟩, ⟨js⟩, ow⟩ tok path ttl limit = GB at *
  generalize newL ⟨now, next, lost, ⟨tk⟩, ⟨ls⟩, ⟨us, ff, fm⟩, ⟨js⟩, ow⟩ tok path ttl limit = NL at *
  generalize hWB : worldB ⟨now, next, lost, ⟨tk⟩, ⟨ls⟩, ⟨us, ff, fm⟩, ⟨js⟩, ow⟩ = WB at *
  cases WB
  · simp only [Bool.false_and] at hB
    subst hB
    simp only [Bool.false_eq_true, if_false] at hW hI
    subst hW hI
    repeat' (first | refine W_seq ?_ | refine W_skip ?_ | refine W_block ?_ | refine W_exit ?_ | refine pick_pos rfl ?_ | refine pick_neg rfl ?_ | ((first | refine W_regP fun K hK => ?_ | refine W_regPD fun K hK => ?_ | refine W_ret ?_ | with_reducible refine callQ (cw) ?_ | with_reducible refine callQ (ccp) ?_); simp [Fin]) | (with_reducible refine hK _ ?_; clear hK K) | (with_reducible refine goL_split (fun h => ?_) (fun h => ?_) <;> first | (exfalso; simp at h; first | done | omega | contradiction) | ((try simp at h); simp)) | with_reducible refine And.intro ?_ ?_ | with_reducible exact okay_rfl rfl | with_reducible assumption | (refine W_cond rfl (fun h => ?_) (fun h => ?_) <;> first | (exfalso; simp at h; first | done | omega | contradiction) | (exfalso; simp_all; done) | (try simp at h)) | omega)
  have hnum := hnum rfl
  rw [hfb rfl, Bool.true_and] at cft
  simp only [Bool.true_and] at hB
  generalize hasTok ⟨tk⟩ tok = H at *
  generalize overB (findT ⟨tk⟩ tok).fEnds now = O at *
  have hit := ind_strs (findT ⟨tk⟩ tok).fNames
  generalize findT ⟨tk⟩ tok = T at *
  obtain ⟨t1, t2, t3, t4, t5, t6, t7⟩ := T
  dsimp only at hit
  have hN : (next == 1000000000) = decide (next = 1000000000) := rfl
  have hM : decide (1000000000 < limit) = !decide (limit ≤ 1000000000) := by rw [← decide_not]; exact decide_eq_decide.2 (by omega)
  generalize decide (next = 1000000000) = N at *
  have hinl : inB ttl 1 limit = true → 1 ≤ ttl ∧ ttl ≤ limit := inB_true
  generalize inB ttl 1 limit = I at *
  by_cases hml : limit ≤ 1000000000
  rotate_left
  · rw [decide_eq_false hml] at hB
    simp only [Bool.and_false, Bool.false_and] at hB
    subst hB
    simp only [Bool.false_eq_true, if_false] at hW hI
    subst hW hI
    have hlt : 1000000000 < limit := by omega
    cases H
    · repeat' (first | refine W_seq ?_ | refine W_skip ?_ | refine W_block ?_ | refine W_exit ?_ | refine pick_pos rfl ?_ | refine pick_neg rfl ?_ | ((first | refine W_regP fun K hK => ?_ | refine W_regPD fun K hK => ?_ | refine W_ret ?_ | with_reducible refine callQ (cw) ?_ | with_reducible refine callQ (ccp) ?_ | with_reducible refine callQ (cft) ?_); simp [Fin]) | (with_reducible refine hK _ ?_; clear hK K) | (with_reducible refine goL_split (fun h => ?_) (fun h => ?_) <;> first | (exfalso; simp at h; first | done | omega | contradiction) | ((try simp at h); simp)) | with_reducible refine And.intro ?_ ?_ | with_reducible exact okay_rfl rfl | with_reducible assumption | (refine W_cond rfl (fun h => ?_) (fun h => ?_) <;> first | (exfalso; simp at h; first | done | omega | contradiction) | (exfalso; simp_all; done) | (try simp at h)) | omega)
    · cases O
      · cases N
        · repeat' (first | refine W_seq ?_ | refine W_skip ?_ | refine W_block ?_ | refine W_exit ?_ | refine pick_pos rfl ?_ | refine pick_neg rfl ?_ | ((first | refine W_regP fun K hK => ?_ | refine W_regPD fun K hK => ?_ | refine W_ret ?_ | with_reducible refine callQ (cw) ?_ | with_reducible refine callQ (ccp) ?_ | with_reducible refine callQ (cft) ?_ | with_reducible refine callQ (cov) ?_); simp [Fin, hN, hlt]) | (with_reducible refine hK _ ?_; clear hK K) | (with_reducible refine goL_split (fun h => ?_) (fun h => ?_) <;> first | (exfalso; simp at h; first | done | omega | contradiction) | ((try simp at h); simp [hN, hlt])) | with_reducible refine And.intro ?_ ?_ | with_reducible exact okay_rfl rfl | with_reducible assumption | (refine W_cond rfl (fun h => ?_) (fun h => ?_) <;> first | (exfalso; simp at h; first | done | omega | contradiction) | (exfalso; simp_all; done) | (try simp at h)) | omega)
        · repeat' (first | refine W_seq ?_ | refine W_skip ?_ | refine W_block ?_ | refine W_exit ?_ | refine pick_pos rfl ?_ | refine pick_neg rfl ?_ | ((first | refine W_regP fun K hK => ?_ | refine W_regPD fun K hK => ?_ | refine W_ret ?_ | with_reducible refine callQ (cw) ?_ | with_reducible refine callQ (ccp) ?_ | with_reducible refine callQ (cft) ?_ | with_reducible refine callQ (cov) ?_); simp [Fin, hN]) | (with_reducible refine hK _ ?_; clear hK K) | (with_reducible refine goL_split (fun h => ?_) (fun h => ?_) <;> first | (exfalso; simp at h; first | done | omega | contradiction) | ((try simp at h); simp [hN])) | with_reducible refine And.intro ?_ ?_ | with_reducible exact okay_rfl rfl | with_reducible assumption | (refine W_cond rfl (fun h => ?_) (fun h => ?_) <;> first | (exfalso; simp at h; first | done | omega | contradiction) | (exfalso; simp_all; done) | (try simp at h)) | omega)
      · repeat' (first | refine W_seq ?_ | refine W_skip ?_ | refine W_block ?_ | refine W_exit ?_ | refine pick_pos rfl ?_ | refine pick_neg rfl ?_ | ((first | refine W_regP fun K hK => ?_ | refine W_regPD fun K hK => ?_ | refine W_ret ?_ | with_reducible refine callQ (cw) ?_ | with_reducible refine callQ (ccp) ?_ | with_reducible refine callQ (cft) ?_ | with_reducible refine callQ (cov) ?_); simp [Fin]) | (with_reducible refine hK _ ?_; clear hK K) | (with_reducible refine goL_split (fun h => ?_) (fun h => ?_) <;> first | (exfalso; simp at h; first | done | omega | contradiction) | ((try simp at h); simp)) | with_reducible refine And.intro ?_ ?_ | with_reducible exact okay_rfl rfl | with_reducible assumption | (refine W_cond rfl (fun h => ?_) (fun h => ?_) <;> first | (exfalso; simp at h; first | done | omega | contradiction) | (exfalso; simp_all; done) | (try simp at h)) | omega)
  have hnl : ¬ 1000000000 < limit := by omega
  rw [decide_eq_true hml, Bool.and_true] at hB
  cases H
  · simp only [Bool.false_and] at hB
    subst hB
    simp only [Bool.false_eq_true, if_false] at hW hI
    subst hW hI
    repeat' (first | refine W_seq ?_ | refine W_skip ?_ | refine W_block ?_ | refine W_exit ?_ | refine pick_pos rfl ?_ | refine pick_neg rfl ?_ | ((first | refine W_regP fun K hK => ?_ | refine W_regPD fun K hK => ?_ | refine W_ret ?_ | with_reducible refine callQ (cw) ?_ | with_reducible refine callQ (ccp) ?_ | with_reducible refine callQ (cft) ?_); simp [Fin]) | (with_reducible refine hK _ ?_; clear hK K) | (with_reducible refine goL_split (fun h => ?_) (fun h => ?_) <;> first | (exfalso; simp at h; first | done | omega | contradiction) | ((try simp at h); simp)) | with_reducible refine And.intro ?_ ?_ | with_reducible exact okay_rfl rfl | with_reducible assumption | (refine W_cond rfl (fun h => ?_) (fun h => ?_) <;> first | (exfalso; simp at h; first | done | omega | contradiction) | (exfalso; simp_all; done) | (try simp at h)) | omega)
  cases O
  rotate_left
  · simp only [Bool.not_true, Bool.and_false, Bool.false_and] at hB
    subst hB
    simp only [Bool.false_eq_true, if_false] at hW hI
    subst hW hI
    repeat' (first | refine W_seq ?_ | refine W_skip ?_ | refine W_block ?_ | refine W_exit ?_ | refine pick_pos rfl ?_ | refine pick_neg rfl ?_ | ((first | refine W_regP fun K hK => ?_ | refine W_regPD fun K hK => ?_ | refine W_ret ?_ | with_reducible refine callQ (cw) ?_ | with_reducible refine callQ (ccp) ?_ | with_reducible refine callQ (cft) ?_ | with_reducible refine callQ (cov) ?_); simp [Fin]) | (with_reducible refine hK _ ?_; clear hK K) | (with_reducible refine goL_split (fun h => ?_) (fun h => ?_) <;> first | (exfalso; simp at h; first | done | omega | contradiction) | ((try simp at h); simp)) | with_reducible refine And.intro ?_ ?_ | with_reducible exact okay_rfl rfl | with_reducible assumption | (refine W_cond rfl (fun h => ?_) (fun h => ?_) <;> first | (exfalso; simp at h; first | done | omega | contradiction) | (exfalso; simp_all; done) | (try simp at h)) | omega)
  cases N
  rotate_left
  · simp only [Bool.not_true, Bool.and_false, Bool.false_and] at hB
    subst hB
    simp only [Bool.false_eq_true, if_false] at hW hI
    subst hW hI
    repeat' (first | refine W_seq ?_ | refine W_skip ?_ | refine W_block ?_ | refine W_exit ?_ | refine pick_pos rfl ?_ | refine pick_neg rfl ?_ | ((first | refine W_regP fun K hK => ?_ | refine W_regPD fun K hK => ?_ | refine W_ret ?_ | with_reducible refine callQ (cw) ?_ | with_reducible refine callQ (ccp) ?_ | with_reducible refine callQ (cft) ?_ | with_reducible refine callQ (cov) ?_); simp [Fin, hN]) | (with_reducible refine hK _ ?_; clear hK K) | (with_reducible refine goL_split (fun h => ?_) (fun h => ?_) <;> first | (exfalso; simp at h; first | done | omega | contradiction) | ((try simp at h); simp [hN])) | with_reducible refine And.intro ?_ ?_ | with_reducible exact okay_rfl rfl | with_reducible assumption | (refine W_cond rfl (fun h => ?_) (fun h => ?_) <;> first | (exfalso; simp at h; first | done | omega | contradiction) | (exfalso; simp_all; done) | (try simp at h)) | omega)
  cases I
  · simp only [Bool.and_false, Bool.false_and] at hB
    subst hB
    simp only [Bool.false_eq_true, if_false] at hW hI
    subst hW hI
    repeat' (first | refine W_seq ?_ | refine W_skip ?_ | refine W_block ?_ | refine W_exit ?_ | refine pick_pos rfl ?_ | refine pick_neg rfl ?_ | ((first | refine W_regP fun K hK => ?_ | refine W_regPD fun K hK => ?_ | refine W_ret ?_ | with_reducible refine callQ (cw) ?_ | with_reducible refine callQ (ccp) ?_ | with_reducible refine callQ (cft) ?_ | with_reducible refine callQ (cov) ?_ | with_reducible refine callQ (cin) ?_); simp [Fin, hN, hnl]) | (with_reducible refine hK _ ?_; clear hK K) | (with_reducible refine goL_split (fun h => ?_) (fun h => ?_) <;> first | (exfalso; simp at h; first | done | omega | contradiction) | ((try simp at h); simp [hN, hnl])) | with_reducible refine And.intro ?_ ?_ | with_reducible exact okay_rfl rfl | with_reducible assumption | (refine W_cond rfl (fun h => ?_) (fun h => ?_) <;> first | (exfalso; simp at h; first | done | omega | contradiction) | (exfalso; simp_all; done) | (try simp at h)) | omega)
  have hinl := hinl rfl
  simp only [Bool.not_false, Bool.and_true, Bool.true_and] at hB
  subst hB
  have hw1 : IntKind.i64.wrap (now + ttl) = now + ttl := wrap_id (by omega) (by omega)
  have hw2 : IntKind.i64.wrap (now + limit) = now + limit := wrap_id (by omega) (by omega)
  have hw3 : IntKind.i64.wrap (next + 1) = next + 1 := wrap_id (by omega) (by omega)
  subst hNL
  generalize addBk ⟨ls⟩ ⟨next, tok, path, now, now + ttl, now + limit⟩ = AB at *
  obtain ⟨ab⟩ := AB
  have hi6 := ind_rLease ab
  cases hAL : addL ⟨ls⟩ ⟨next, tok, path, now, now + ttl, now + limit⟩ with
  | false =>
    rw [hAL] at hAB hW hI cad
    simp only [Bool.false_eq_true, if_false] at hAB hW hI
    cases hAB
    subst hW hI
    repeat' (first | refine W_seq ?_ | refine W_skip ?_ | refine W_block ?_ | refine W_exit ?_ | refine pick_pos rfl ?_ | refine pick_neg rfl ?_ | ((first | refine W_regP fun K hK => ?_ | refine W_regPD fun K hK => ?_ | refine W_ret ?_ | with_reducible refine callQ (cw) ?_ | with_reducible refine callQ (ccp) ?_ | with_reducible refine callQ (cft) ?_ | with_reducible refine callQ (cov) ?_ | with_reducible refine callQ (cin) ?_ | with_reducible refine callQ (cad) ?_); simp [Fin, hN, hnl, hw1, hw2]) | (with_reducible refine hK _ ?_; clear hK K) | (with_reducible refine goL_split (fun h => ?_) (fun h => ?_) <;> first | (exfalso; simp at h; first | done | omega | contradiction) | ((try simp at h); simp [hN, hnl, hw1, hw2])) | with_reducible refine And.intro ?_ ?_ | with_reducible exact okay_rfl rfl | with_reducible assumption | (refine W_cond rfl (fun h => ?_) (fun h => ?_) <;> first | (exfalso; simp at h; first | done | omega | contradiction) | (exfalso; simp_all; done) | (try simp at h)) | omega)
  | true =>
    rw [hAL] at hAB hW hI cad
    simp only [if_true] at hAB hW hI
    cases hAB
    subst hW hI
    repeat' (first | refine W_seq ?_ | refine W_skip ?_ | refine W_block ?_ | refine W_exit ?_ | refine pick_pos rfl ?_ | refine pick_neg rfl ?_ | ((first | refine W_regP fun K hK => ?_ | refine W_regPD fun K hK => ?_ | refine W_ret ?_ | with_reducible refine callQ (cw) ?_ | with_reducible refine callQ (ccp) ?_ | with_reducible refine callQ (cft) ?_ | with_reducible refine callQ (cov) ?_ | with_reducible refine callQ (cin) ?_ | with_reducible refine callQ (cad) ?_); simp [Fin, hN, hnl, hw1, hw2, hw3]) | (with_reducible refine hK _ ?_; clear hK K) | (with_reducible refine goL_split (fun h => ?_) (fun h => ?_) <;> first | (exfalso; simp at h; first | done | omega | contradiction) | ((try simp at h); simp [hN, hnl, hw1, hw2, hw3])) | with_reducible refine And.intro ?_ ?_ | with_reducible exact okay_rfl rfl | with_reducible assumption | (refine W_cond rfl (fun h => ?_) (fun h => ?_) <;> first | (exfalso; simp at h; first | done | omega | contradiction) | (exfalso; simp_all; done) | (try simp at h)) | omega)

theorem grantLease_ok [MaxL GG] (w : GWorld) (tok : Int) (path : List UInt8) (ttl limit : Int) (hf : fitW w) (hp : path.length ≤ 1048576) (hWB : worldB w = true) :
    Valid PP GG F_I_grantLease [.agg w.c, .d (.int .i64 tok), .d (.str path), .d (.int .i64 ttl), .d (.int .i64 limit)] (.tup [.agg (grantW w tok path ttl limit).o, .d (.int .i64 (grantI w tok path ttl limit))]) [none, none, none, none, none] := by
  refine v_I_grantLease [.agg (grantW w tok path ttl limit).o, .d (.int .i64 (grantI w tok path ttl limit))] rfl rfl ?_
  have ccp := cloneWorld_ok (GG := GG) w hf
  have cft := tokenIndex_ok (GG := GG) w.fForest tok hf.1.1
  have hno : decide (idxF (fun t => decide (t.fId = tok)) w.fForest.fTokens < 0) = !hasTok w.fForest tok := idxF_none _ _
  have hfi := fun (h : hasTok w.fForest tok = true) => idxF_find (p := fun t : GToken => decide (t.fId = tok)) (l := w.fForest.fTokens) h
  have hFT : findT w.fForest tok = if forestB w.fForest then (w.fForest.fTokens.find? fun t => decide (t.fId = tok)).getD zTok else zTok := rfl
  have cin : Valid PP GG F_I_within [.d (.int .i64 ttl), .d (.int .i64 1), .d (.int .i64 limit)] (.d (.bool (inB ttl 1 limit))) [none, none, none] := within_ok _ _ _
  have cad := addLease_ok (GG := GG) w.fBook (newL w tok path ttl limit) hf.2.1 hp (world_book hWB)
  have hnum := world_nums hWB
  have hfb := world_forest hWB
  rw [if_pos hfb] at hFT
  have hB : grantB w tok path ttl limit = ((hasTok w.fForest tok && !overB (findT w.fForest tok).fEnds w.fNow && !decide (w.fNext = 1000000000) && decide (limit ≤ 1000000000) && inB ttl 1 limit) && addL w.fBook (newL w tok path ttl limit)) := by
    have : grantB w tok path ttl limit = (worldB w && (hasTok w.fForest tok && !overB (findT w.fForest tok).fEnds w.fNow && !decide (w.fNext = 1000000000) && decide (limit ≤ 1000000000) && inB ttl 1 limit) && addL w.fBook (newL w tok path ttl limit)) := rfl
    rw [this, hWB, Bool.true_and]
  have hW : grantW w tok path ttl limit = if grantB w tok path ttl limit then { w with fBook := ⟨w.fBook.fLeases ++ [newL w tok path ttl limit]⟩, fNext := w.fNext + 1 } else w := rfl
  have hI : grantI w tok path ttl limit = if grantB w tok path ttl limit then w.fNext else 0 := rfl
  have hAB : addBk w.fBook (newL w tok path ttl limit) = if addL w.fBook (newL w tok path ttl limit) then ⟨w.fBook.fLeases ++ [newL w tok path ttl limit]⟩ else w.fBook := rfl
  have hNL : newL w tok path ttl limit = ⟨w.fNext, tok, path, w.fNow, w.fNow + ttl, w.fNow + limit⟩ := rfl
  obtain ⟨now, next, lost, ⟨tk⟩, ⟨ls⟩, ⟨us, ff, fm⟩, ⟨js⟩, ow⟩ := w
  dsimp only at cft cad hnum hfb hB hW hI hAB hNL hno hfi hFT
  have hi1 := ind_rToken tk
  have hi2 := ind_rLease ls
  have hi3 := ind_rUser us
  have hi4 := ind_rJob js
  have hi5 := ind_rOwned ow
  generalize grantW ⟨now, next, lost, ⟨tk⟩, ⟨ls⟩, ⟨us, ff, fm⟩, ⟨js⟩, ow⟩ tok path ttl limit = GW at *
  generalize grantI ⟨now, next, lost, ⟨tk⟩, ⟨ls⟩, ⟨us, ff, fm⟩, ⟨js⟩, ow⟩ tok path ttl limit = GI at *
  generalize grantB ⟨now, next, lost, ⟨tk⟩, ⟨ls⟩, ⟨us, ff, fm⟩, ⟨js⟩, ow⟩ tok path ttl limit = GB at *
  generalize newL ⟨now, next, lost, ⟨tk⟩, ⟨ls⟩, ⟨us, ff, fm⟩, ⟨js⟩, ow⟩ tok path ttl limit = NL at *
  generalize hasTok ⟨tk⟩ tok = H at *
  cases H
  · simp only [Bool.false_and] at hB
    subst hB
    simp only [Bool.false_eq_true, if_false] at hW hI
    subst hW hI
    simp only [Bool.not_false] at hno
    repeat' (first | refine W_seq ?_ | refine W_skip ?_ | refine W_block ?_ | refine W_exit ?_ | refine pick_pos rfl ?_ | refine pick_neg rfl ?_ | ((first | refine W_regP fun K hK => ?_ | refine W_regPD fun K hK => ?_ | refine W_ret ?_ | with_reducible refine callQ (ccp) ?_ | with_reducible refine callQ (cft) ?_); simp [Fin, hno]) | (with_reducible refine hK _ ?_; clear hK K) | (with_reducible refine goL_split (fun h => ?_) (fun h => ?_) <;> first | (exfalso; simp at h; first | done | omega | contradiction) | ((try simp at h); simp [hno])) | with_reducible refine And.intro ?_ ?_ | with_reducible exact okay_rfl rfl | with_reducible assumption | (refine W_cond rfl (fun h => ?_) (fun h => ?_) <;> first | (exfalso; simp at h; first | done | omega | contradiction) | (exfalso; simp_all; done) | (try simp at h)) | omega)
  obtain ⟨k, t, hk, ht, _, hfd⟩ := hfi rfl
  rw [hfd] at hFT
  simp only [Option.getD_some] at hFT
  rw [hFT] at hB
  simp only [Bool.not_true] at hno
  rw [hk] at cft hno
  have hkl := (List.getElem?_eq_some_iff.1 ht).1
  clear hfi hfd hFT hk
  obtain ⟨t1, t2, t3, t4, t5, t6, t7⟩ := t
  dsimp only at hB
  have cov := isOver_ok (GG := GG) t5 now
  generalize overB t5 now = O at *
  simp only [Bool.true_and] at hB
  have hN : (next == 1000000000) = decide (next = 1000000000) := rfl
  have hM : decide (1000000000 < limit) = !decide (limit ≤ 1000000000) := by rw [← decide_not]; exact decide_eq_decide.2 (by omega)
  generalize decide (next = 1000000000) = N at *
  have hinl : inB ttl 1 limit = true → 1 ≤ ttl ∧ ttl ≤ limit := inB_true
  generalize inB ttl 1 limit = I at *
  cases O
  rotate_left
  · simp only [Bool.not_true, Bool.and_false, Bool.false_and] at hB
    subst hB
    simp only [Bool.false_eq_true, if_false] at hW hI
    subst hW hI
    repeat' (first | refine W_seq ?_ | refine W_skip ?_ | refine W_block ?_ | refine W_exit ?_ | refine pick_pos rfl ?_ | refine pick_neg rfl ?_ | ((first | refine W_regP fun K hK => ?_ | refine W_regPD fun K hK => ?_ | refine W_ret ?_ | with_reducible refine callQ (ccp) ?_ | with_reducible refine callQ (cft) ?_ | with_reducible refine callQ (cov) ?_); simp [Fin, ht]) | (with_reducible refine hK _ ?_; clear hK K) | (with_reducible refine goL_split (fun h => ?_) (fun h => ?_) <;> first | (exfalso; simp at h; first | done | omega | contradiction) | ((try simp at h); simp [ht])) | with_reducible refine And.intro ?_ ?_ | with_reducible exact okay_rfl rfl | with_reducible assumption | (refine W_cond rfl (fun h => ?_) (fun h => ?_) <;> first | (exfalso; simp at h; first | done | omega | contradiction) | (exfalso; simp_all; done) | (try simp at h)) | omega)
  cases N
  rotate_left
  · simp only [Bool.not_true, Bool.and_false, Bool.false_and] at hB
    subst hB
    simp only [Bool.false_eq_true, if_false] at hW hI
    subst hW hI
    repeat' (first | refine W_seq ?_ | refine W_skip ?_ | refine W_block ?_ | refine W_exit ?_ | refine pick_pos rfl ?_ | refine pick_neg rfl ?_ | ((first | refine W_regP fun K hK => ?_ | refine W_regPD fun K hK => ?_ | refine W_ret ?_ | with_reducible refine callQ (ccp) ?_ | with_reducible refine callQ (cft) ?_ | with_reducible refine callQ (cov) ?_); simp [Fin, ht, hN]) | (with_reducible refine hK _ ?_; clear hK K) | (with_reducible refine goL_split (fun h => ?_) (fun h => ?_) <;> first | (exfalso; simp at h; first | done | omega | contradiction) | ((try simp at h); simp [ht, hN])) | with_reducible refine And.intro ?_ ?_ | with_reducible exact okay_rfl rfl | with_reducible assumption | (refine W_cond rfl (fun h => ?_) (fun h => ?_) <;> first | (exfalso; simp at h; first | done | omega | contradiction) | (exfalso; simp_all; done) | (try simp at h)) | omega)
  cases I
  · simp only [Bool.and_false, Bool.false_and] at hB
    subst hB
    simp only [Bool.false_eq_true, if_false] at hW hI
    subst hW hI
    repeat' (first | refine W_seq ?_ | refine W_skip ?_ | refine W_block ?_ | refine W_exit ?_ | refine pick_pos rfl ?_ | refine pick_neg rfl ?_ | ((first | refine W_regP fun K hK => ?_ | refine W_regPD fun K hK => ?_ | refine W_ret ?_ | with_reducible refine callQ (ccp) ?_ | with_reducible refine callQ (cft) ?_ | with_reducible refine callQ (cov) ?_ | with_reducible refine callQ (cin) ?_); simp [Fin, ht, hN]) | (with_reducible refine hK _ ?_; clear hK K) | (with_reducible refine goL_split (fun h => ?_) (fun h => ?_) <;> first | (exfalso; simp at h; first | done | omega | contradiction) | ((try simp at h); simp [ht, hN])) | with_reducible refine And.intro ?_ ?_ | with_reducible exact okay_rfl rfl | with_reducible assumption | (refine W_cond rfl (fun h => ?_) (fun h => ?_) <;> first | (exfalso; simp at h; first | done | omega | contradiction) | (exfalso; simp_all; done) | (try simp at h)) | omega)
  have hinl := hinl rfl
  by_cases hml : limit ≤ 1000000000
  rotate_left
  · rw [decide_eq_false hml] at hB
    simp only [Bool.and_false, Bool.false_and] at hB
    subst hB
    simp only [Bool.false_eq_true, if_false] at hW hI
    subst hW hI
    have hlt : 1000000000 < limit := by omega
    repeat' (first | refine W_seq ?_ | refine W_skip ?_ | refine W_block ?_ | refine W_exit ?_ | refine pick_pos rfl ?_ | refine pick_neg rfl ?_ | ((first | refine W_regP fun K hK => ?_ | refine W_regPD fun K hK => ?_ | refine W_ret ?_ | with_reducible refine callQ (ccp) ?_ | with_reducible refine callQ (cft) ?_ | with_reducible refine callQ (cov) ?_ | with_reducible refine callQ (cin) ?_); simp [Fin, ht, hN, hlt]) | (with_reducible refine hK _ ?_; clear hK K) | (with_reducible refine goL_split (fun h => ?_) (fun h => ?_) <;> first | (exfalso; simp at h; first | done | omega | contradiction) | ((try simp at h); simp [ht, hN, hlt])) | with_reducible refine And.intro ?_ ?_ | with_reducible exact okay_rfl rfl | with_reducible assumption | (refine W_cond rfl (fun h => ?_) (fun h => ?_) <;> first | (exfalso; simp at h; first | done | omega | contradiction) | (exfalso; simp_all; done) | (try simp at h)) | omega)
  have hnl : ¬ 1000000000 < limit := by omega
  rw [decide_eq_true hml] at hB
  simp only [Bool.not_false, Bool.and_true, Bool.true_and] at hB
  subst hB
  have hw1 : IntKind.i64.wrap (now + ttl) = now + ttl := wrap_id (by omega) (by omega)
  have hw2 : IntKind.i64.wrap (now + limit) = now + limit := wrap_id (by omega) (by omega)
  have hw3 : IntKind.i64.wrap (next + 1) = next + 1 := wrap_id (by omega) (by omega)
  subst hNL
  generalize addBk ⟨ls⟩ ⟨next, tok, path, now, now + ttl, now + limit⟩ = AB at *
  obtain ⟨ab⟩ := AB
  have hi6 := ind_rLease ab
  cases hAL : addL ⟨ls⟩ ⟨next, tok, path, now, now + ttl, now + limit⟩ with
  | false =>
    rw [hAL] at hAB hW hI cad
    simp only [Bool.false_eq_true, if_false] at hAB hW hI
    cases hAB
    subst hW hI
    repeat' (first | refine W_seq ?_ | refine W_skip ?_ | refine W_block ?_ | refine W_exit ?_ | refine pick_pos rfl ?_ | refine pick_neg rfl ?_ | ((first | refine W_regP fun K hK => ?_ | refine W_regPD fun K hK => ?_ | refine W_ret ?_ | with_reducible refine callQ (ccp) ?_ | with_reducible refine callQ (cft) ?_ | with_reducible refine callQ (cov) ?_ | with_reducible refine callQ (cin) ?_ | with_reducible refine callQ (cad) ?_); simp [Fin, ht, hN, hnl, hw1, hw2]) | (with_reducible refine hK _ ?_; clear hK K) | (with_reducible refine goL_split (fun h => ?_) (fun h => ?_) <;> first | (exfalso; simp at h; first | done | omega | contradiction) | ((try simp at h); simp [ht, hN, hnl, hw1, hw2])) | with_reducible refine And.intro ?_ ?_ | with_reducible exact okay_rfl rfl | with_reducible assumption | (refine W_cond rfl (fun h => ?_) (fun h => ?_) <;> first | (exfalso; simp at h; first | done | omega | contradiction) | (exfalso; simp_all; done) | (try simp at h)) | omega)
  | true =>
    rw [hAL] at hAB hW hI cad
    simp only [if_true] at hAB hW hI
    cases hAB
    subst hW hI
    repeat' (first | refine W_seq ?_ | refine W_skip ?_ | refine W_block ?_ | refine W_exit ?_ | refine pick_pos rfl ?_ | refine pick_neg rfl ?_ | ((first | refine W_regP fun K hK => ?_ | refine W_regPD fun K hK => ?_ | refine W_ret ?_ | with_reducible refine callQ (ccp) ?_ | with_reducible refine callQ (cft) ?_ | with_reducible refine callQ (cov) ?_ | with_reducible refine callQ (cin) ?_ | with_reducible refine callQ (cad) ?_); simp [Fin, ht, hN, hnl, hw1, hw2, hw3]) | (with_reducible refine hK _ ?_; clear hK K) | (with_reducible refine goL_split (fun h => ?_) (fun h => ?_) <;> first | (exfalso; simp at h; first | done | omega | contradiction) | ((try simp at h); simp [ht, hN, hnl, hw1, hw2, hw3])) | with_reducible refine And.intro ?_ ?_ | with_reducible exact okay_rfl rfl | with_reducible assumption | (refine W_cond rfl (fun h => ?_) (fun h => ?_) <;> first | (exfalso; simp at h; first | done | omega | contradiction) | (exfalso; simp_all; done) | (try simp at h)) | omega)

theorem i_GrantLease_ok [MaxL GG] (w : GWorld) (tok : Int) (path : List UInt8) (ttl limit : Int) (hf : fitW w) (hp : path.length ≤ 1048576) :
    Valid PP GG F_I_GrantLease [.agg w.c, .d (.int .i64 tok), .d (.str path), .d (.int .i64 ttl), .d (.int .i64 limit)] (.tup [.agg (grantW w tok path ttl limit).o, .d (.int .i64 (grantI w tok path ttl limit))]) [none, none, none, none, none] := by
  refine v_I_GrantLease [.agg (grantW w tok path ttl limit).o, .d (.int .i64 (grantI w tok path ttl limit))] rfl rfl ?_
  have cw := isWorld_ok (GG := GG) w hf
  have ccp := cloneWorld_ok (GG := GG) w hf
  have cg := fun h => grantLease_ok (GG := GG) w tok path ttl limit hf hp h
  cases hWB : worldB w with
  | false =>
    rw [hWB] at cw
    have hB : grantB w tok path ttl limit = false := by unfold grantB; rw [hWB]; rfl
    have hW : grantW w tok path ttl limit = w := by unfold grantW; rw [hB]; rfl
    have hI : grantI w tok path ttl limit = 0 := by unfold grantI; rw [hB]; rfl
    rw [hW, hI]
    clear hW hI hB cg hWB
    have hi1 := ind_rToken w.fForest.fTokens
    have hi2 := ind_rLease w.fBook.fLeases
    have hi3 := ind_rUser w.fFar.fUsers
    have hi4 := ind_rJob w.fQueue.fJobs
    have hi5 := ind_rOwned w.fOwned
    repeat' (first | refine W_seq ?_ | refine W_skip ?_ | refine W_block ?_ | refine W_exit ?_ | refine pick_pos rfl ?_ | refine pick_neg rfl ?_ | ((first | refine W_regP fun K hK => ?_ | refine W_regPD fun K hK => ?_ | refine W_ret ?_ | with_reducible refine callQ (cw) ?_ | with_reducible refine callQ (ccp) ?_); simp [Fin]) | (with_reducible refine hK _ ?_; clear hK K) | (with_reducible refine goL_split (fun h => ?_) (fun h => ?_) <;> first | (exfalso; simp at h; first | done | omega | contradiction) | ((try simp at h); simp)) | with_reducible refine And.intro ?_ ?_ | with_reducible exact okay_rfl rfl | with_reducible assumption | (refine W_cond rfl (fun h => ?_) (fun h => ?_) <;> first | (exfalso; simp at h; first | done | omega | contradiction) | (exfalso; simp_all; done) | (try simp at h)) | omega)
  | true =>
    rw [hWB] at cw
    have cg := cg hWB
    generalize grantW w tok path ttl limit = v at *
    generalize grantI w tok path ttl limit = j at *
    have hi1 := ind_rToken v.fForest.fTokens
    have hi2 := ind_rLease v.fBook.fLeases
    have hi3 := ind_rUser v.fFar.fUsers
    have hi4 := ind_rJob v.fQueue.fJobs
    have hi5 := ind_rOwned v.fOwned
    repeat' (first | refine W_seq ?_ | refine W_skip ?_ | refine W_block ?_ | refine W_exit ?_ | refine pick_pos rfl ?_ | refine pick_neg rfl ?_ | ((first | refine W_regP fun K hK => ?_ | refine W_regPD fun K hK => ?_ | refine W_ret ?_ | with_reducible refine callQ (cw) ?_ | with_reducible refine callQ (cg) ?_); simp [Fin]) | (with_reducible refine hK _ ?_; clear hK K) | (with_reducible refine goL_split (fun h => ?_) (fun h => ?_) <;> first | (exfalso; simp at h; first | done | omega | contradiction) | ((try simp at h); simp)) | with_reducible refine And.intro ?_ ?_ | with_reducible exact okay_rfl rfl | with_reducible assumption | (refine W_cond rfl (fun h => ?_) (fun h => ?_) <;> first | (exfalso; simp at h; first | done | omega | contradiction) | (exfalso; simp_all; done) | (try simp at h)) | omega)

theorem sumBy_one {α : Type} (f : α → Nat) (x : α) : sumBy f [x] = f x := rfl

theorem grantW_cost (w : GWorld) (tok : Int) (path : List UInt8) (ttl limit : Int) : (grantW w tok path ttl limit).cost ≤ w.cost + 1 + path.length := by
  unfold grantW
  split
  · have e : ∀ w : GWorld, w.cost = w.fForest.cost + w.fBook.cost + w.fFar.cost + w.fQueue.cost + (w.fOwned.length + sumBy GOwned.cost w.fOwned) := fun _ => rfl
    have e2 : ∀ b : GBook, b.cost = b.fLeases.length + sumBy GLease.cost b.fLeases := fun _ => rfl
    rw [e, e, e2, e2]
    dsimp only
    rw [sumBy_append, sumBy_one, List.length_append]
    have : (newL w tok path ttl limit).cost = path.length := rfl
    simp only [List.length_cons, List.length_nil]
    omega
  · omega

theorem law_GrantLease [MaxL GG] (w : GWorld) (tok : Int) (path : List UInt8) (ttl limit : Int) (hok : w.ok) (hpl : path.length ≤ maxLen) : Valid PP GG F_L_FnExactGrantLease [.agg w.c, .d (.int .i64 tok), .d (.str path), .d (.int .i64 ttl), .d (.int .i64 limit)] (.d (.bool true)) [none, none, none, none, none] := by
  refine v_L_FnExactGrantLease [.d (.bool true)] rfl rfl ?_
  have hmx : maxLen = 9223372036854775807 := rfl
  by_cases hp : path.length ≤ 1048576
  rotate_left
  · have hp2 : 1048576 < path.length := by omega
    repeat' (first | refine W_seq ?_ | refine W_skip ?_ | refine W_block ?_ | refine W_exit ?_ | refine pick_pos rfl ?_ | refine pick_neg rfl ?_ | ((first | refine W_regP fun K hK => ?_ | refine W_regPD fun K hK => ?_ | refine W_ret ?_); simp [Fin, hp2]) | (with_reducible refine hK _ ?_; clear hK K) | (with_reducible refine goL_split (fun h => ?_) (fun h => ?_) <;> first | (exfalso; simp at h; first | done | omega | contradiction) | ((try simp at h); simp [hp2])) | with_reducible refine And.intro ?_ ?_ | with_reducible exact okay_rfl rfl | with_reducible assumption | (refine W_cond rfl (fun h => ?_) (fun h => ?_) <;> first | (exfalso; simp at h; first | done | omega | contradiction) | (exfalso; simp_all; done) | (try simp at h)) | omega)
  have hp2 : ¬ 1048576 < path.length := by omega
  have csz := szWorld_g (GG := GG) w 1048576 hok ⟨by omega, by omega⟩
  by_cases hcost : w.cost ≤ 1048576
  · rw [leftR_yes (by omega)] at csz
    have ct := toWorld_g (GG := GG) w (by omega)
    have cex := eqWorld_g (GG := GG) w w (by omega) (by omega)
    rw [decide_eq_true rfl] at cex
    have hmr := world_marks (w := w) (by omega)
    have ck := markWorld_g (GG := GG) w 1 (by omega) ⟨by omega, by omega⟩
    simp only [GWorld.markIn, GForest.markIn, GBook.markIn, GFar.markIn, GQueue.markIn] at ck
    have cs := s_GrantLease_ok (GG := GG) w tok path ttl limit (fitW_of hcost) hp
    have ci := i_GrantLease_ok (GG := GG) w tok path ttl limit (fitW_of hcost) hp
    have hgc := grantW_cost w tok path ttl limit
    generalize grantW w tok path ttl limit = g at *
    generalize grantI w tok path ttl limit = j at *
    have ce := eqWorld_g (GG := GG) g g (by omega) (by omega)
    rw [decide_eq_true rfl] at ce
    have hmg := world_marks (w := g) (by omega)
    have cm := markWorld_g (GG := GG) g 1 (by omega) ⟨by omega, by omega⟩
    have ch := heldWorld_g (GG := GG) g 1 (by omega) ⟨by omega, by omega⟩
    simp only [GWorld.markIn, GForest.markIn, GBook.markIn, GFar.markIn, GQueue.markIn] at cm ch
    have hi1 := ind_rToken g.fForest.fTokens
    have hi2 := ind_rLease g.fBook.fLeases
    have hi3 := ind_rUser g.fFar.fUsers
    have hi4 := ind_rJob g.fQueue.fJobs
    have hi5 := ind_rOwned g.fOwned
    repeat' (first | refine W_seq ?_ | refine W_skip ?_ | refine W_block ?_ | refine W_exit ?_ | refine pick_pos rfl ?_ | refine pick_neg rfl ?_ | ((first | refine W_regP fun K hK => ?_ | refine W_regPD fun K hK => ?_ | refine W_ret ?_ | with_reducible refine callQ (csz) ?_ | with_reducible refine callQ (ct) ?_ | with_reducible refine callQ (cs) ?_ | with_reducible refine callQ (ci) ?_ | with_reducible refine callQ (cex) ?_ | with_reducible refine callQ (ce) ?_ | with_reducible refine callQ (ck) ?_ | with_reducible refine callQ (cm) ?_ | with_reducible refine callQ (ch) ?_); simp [Fin, hp2]) | (with_reducible refine hK _ ?_; clear hK K) | (with_reducible refine goL_split (fun h => ?_) (fun h => ?_) <;> first | (exfalso; simp at h; first | done | omega | contradiction) | ((try simp at h); simp [hp2])) | with_reducible refine And.intro ?_ ?_ | with_reducible exact okay_rfl rfl | with_reducible assumption | (refine W_cond rfl (fun h => ?_) (fun h => ?_) <;> first | (exfalso; simp at h; first | done | omega | contradiction) | (exfalso; simp_all; done) | (try simp at h)) | omega)
  · rw [leftR_no (by omega)] at csz
    repeat' (first | refine W_seq ?_ | refine W_skip ?_ | refine W_block ?_ | refine W_exit ?_ | refine pick_pos rfl ?_ | refine pick_neg rfl ?_ | ((first | refine W_regP fun K hK => ?_ | refine W_regPD fun K hK => ?_ | refine W_ret ?_ | with_reducible refine callQ (csz) ?_); simp [Fin, hp2]) | (with_reducible refine hK _ ?_; clear hK K) | (with_reducible refine goL_split (fun h => ?_) (fun h => ?_) <;> first | (exfalso; simp at h; first | done | omega | contradiction) | ((try simp at h); simp [hp2])) | with_reducible refine And.intro ?_ ?_ | with_reducible exact okay_rfl rfl | with_reducible assumption | (refine W_cond rfl (fun h => ?_) (fun h => ?_) <;> first | (exfalso; simp at h; first | done | omega | contradiction) | (exfalso; simp_all; done) | (try simp at h)) | omega)


end Go.Proofs.YtdckkojgnkoabaaGreatDoor.Ab

