/-
  A part of a proof about the given program; what is proved is said where each theorem stands.
-/
import Derived.Test.YtpbofdbleajagaaDoorFrameA
import Derived.Test.YtpbofdbleajagaaDoorFrameB
import Derived.Test.YtpbofdbleajagaaDoorFrameC
import Derived.Test.YtpbofdbleajagaaDoorFrameD
import Derived.Test.YtpbofdbleajagaaDoorFrameE
import Derived.Test.YtpbofdbleajagaaDoorShelf
import Derived.Test.YtpbofdbleajagaaDoorCodesA
import Derived.Test.YtpbofdbleajagaaDoorCodesB
import Derived.Test.YtpbofdbleajagaaDoorCodesC
import Derived.Test.YtpbofdbleajagaaDoorPartA
import Derived.Test.YtpbofdbleajagaaDoorPartB
import Derived.Test.YtpbofdbleajagaaDoorPartC
import Derived.Test.YtpbofdbleajagaaDoorPartD
import Derived.Test.YtpbofdbleajagaaDoorCodesD
namespace Go.Proofs
end Go.Proofs
set_option linter.unusedSimpArgs false
set_option linter.unusedVariables false
set_option maxRecDepth 100000
set_option maxHeartbeats 2000000
namespace Go.Proofs.YtpbofdbleajagaaDoor.Ab
open Go.Proofs
variable {GG : GV}

def wrapOk (next : Int) (x : GWrap) : Bool := inB x.fId 1 (next - 1) && inB x.fEnds 1 1000000000 && pathOk x.fKind

def wlinkAt (next : Int) (l : List GWrap) (i : Nat) : Bool := match l[i]? with
  | none => true
  | some x => wrapOk next x && (match i with | 0 => true | j + 1 => match l[j]? with | some y => decide (y.fId < x.fId) | none => true)

def rackOk (r : GRack) : Bool := keyB r.fKey && inB r.fNext 1 1000000000 && decide (r.fWraps.length ≤ 60) && (List.range r.fWraps.length).all (wlinkAt r.fNext r.fWraps)

theorem inB_true {x lo hi : Int} (h : inB x lo hi = true) : lo ≤ x ∧ x ≤ hi := by
  simp only [inB, Bool.and_eq_true, decide_eq_true_eq] at h; exact h

theorem s_RackOk_ok (r : GRack) (hc : r.cost ≤ 1048576) : Valid PP GG F_S_RackOk [.agg r.c] (.d (.bool (rackOk r))) [none] := by
  refine v_S_RackOk [.d (.bool (rackOk r))] rfl rfl ?_
  obtain ⟨f, k, l⟩ := r
  have hco : (GRack.mk f k l).cost = l.length + sumBy GWrap.cost l := rfl
  have ck := l04Key_ok (GG := GG) f
  have cn : Valid PP GG F_S_l01In [.d (.int .i64 k), .d (.int .i64 1), .d (.int .i64 1000000000)] (.d (.bool (inB k 1 1000000000))) [none, none, none] := l01In_ok _ _ _
  have hr : rackOk (GRack.mk f k l) = (keyB f && inB k 1 1000000000 && decide (l.length ≤ 60) && (List.range l.length).all (wlinkAt k l)) := rfl
  have hkr : inB k 1 1000000000 = true → 1 ≤ k ∧ k ≤ 1000000000 := inB_true
  generalize keyB f = p at ck hr
  generalize inB k 1 1000000000 = u at cn hr hkr
  obtain ⟨v, hv⟩ : ∃ v, decide (l.length ≤ 60) = v := ⟨_, rfl⟩
  have hv2 : decide (60 < (l.length : Int)) = !v := by rw [← hv, ← decide_not]; exact decide_eq_decide.2 (by omega)
  rw [hv] at hr
  refine W_seq (?_)
  apply W_regS
  · intro K hK
    simp
    repeat' (first | with_reducible exact hK | (with_reducible refine goL_split (fun _ => ?_) (fun _ => ?_) <;> simp) | with_reducible refine And.intro ?_ ?_ | with_reducible exact okay_rfl rfl | with_reducible assumption | omega)
  refine W_seq (W_seq (?_))
  refine W_regB 20 (!(p && u && v)) (fun K hK => ?_) ?_
  · simp [hv2]
    repeat' (first | exact hK _ _ (by clear hK; first | omega | (exact decide_eq_false (by omega)) | (exact decide_eq_true (by omega)) | (exact (decide_eq_true (by omega)).symm) | (exact (decide_eq_false (by omega)).symm) | (exact decide_eq_decide.2 (by omega)) | (simp [*]; done) | (simp [*]; omega) | (simp_all; done) | (simp_all; omega) | (rw [Bool.eq_iff_iff]; simp at *; omega)) | (with_reducible refine callQ (ck) ?_; simp [hv2]) | (with_reducible refine callQ (cn) ?_; simp [hv2]) | (with_reducible refine goL_split (fun _ => ?_) (fun _ => ?_) <;> simp [hv2]) | with_reducible refine And.intro ?_ ?_ | with_reducible exact okay_rfl rfl | with_reducible assumption | omega)
  refine W_cond rfl (fun h => W_seq ?_) (fun h => W_skip ?_)
  · apply W_regS
    · intro K hK
      simp
      repeat' (first | with_reducible exact hK | (with_reducible refine goL_split (fun _ => ?_) (fun _ => ?_) <;> simp) | with_reducible refine And.intro ?_ ?_ | with_reducible exact okay_rfl rfl | with_reducible assumption | omega)
    have : rackOk (GRack.mk f k l) = false := by rw [hr]; revert h; cases u <;> cases p <;> cases v <;> simp
    refine W_ret ?_
    simp [Fin, this]
    all_goals omega
  have hr2 : rackOk (GRack.mk f k l) = (List.range l.length).all (wlinkAt k l) := by rw [hr]; revert h; cases u <;> cases p <;> cases v <;> simp
  have hk := hkr (by revert h; cases u <;> cases p <;> cases v <;> simp)
  have hwk : IntKind.i64.wrap (k - 1) = k - 1 := wrap_id (by omega) (by omega)
  refine W_seq (W_seq (?_))
  apply W_regS
  · intro K hK
    simp
    repeat' (first | with_reducible exact hK | (with_reducible refine goL_split (fun _ => ?_) (fun _ => ?_) <;> simp) | with_reducible refine And.intro ?_ ?_ | with_reducible exact okay_rfl rfl | with_reducible assumption | omega)
  refine W_block (W_loop (fun n st => ∃ i : Nat, n = l.length - i ∧ i ≤ l.length ∧ (∀ j, j < i → wlinkAt k l j = true) ∧
    st = ⟨[], [(1, .ptr 0 0), (3, .d (.int .i64 i))], [(0, .box [.d (.int .i64 f), .d (.int .i64 k), .d (.slc 6 (rWrap l))])], 1⟩) _ ⟨0, rfl, by omega, fun j h => by omega, rfl⟩ ?_)
  rintro n st ⟨i, rfl, hi, hn, rfl⟩
  refine W_seq (W_seq (?_))
  apply W_regS
  · intro K hK
    simp
    repeat' (first | with_reducible exact hK | (with_reducible refine goL_split (fun _ => ?_) (fun _ => ?_) <;> simp) | with_reducible refine And.intro ?_ ?_ | with_reducible exact okay_rfl rfl | with_reducible assumption | omega)
  refine W_cond rfl (fun h2 => W_skip ?_) (fun h2 => W_exit ?_)
  · simp at h2
    have ha := List.getElem?_eq_getElem h2
    generalize l[i] = x at ha
    have hg := sumBy_get (f := GWrap.cost) ha
    have hcx : x.cost = x.fKind.length + x.fBox.cost := rfl
    refine W_seq (W_block (W_seq ?_))
    apply W_regS
    · intro K hK
      simp [ha]
      repeat' (first | with_reducible exact hK | (with_reducible refine goL_split (fun _ => ?_) (fun _ => ?_) <;> simp [ha]) | with_reducible refine And.intro ?_ ?_ | with_reducible exact okay_rfl rfl | with_reducible assumption | omega)
    have c1 : Valid PP GG F_S_l01In [.d (.int .i64 x.fId), .d (.int .i64 1), .d (.int .i64 (k - 1))] (.d (.bool (inB x.fId 1 (k - 1)))) [none, none, none] := l01In_ok _ _ _
    have c2 : Valid PP GG F_S_l01In [.d (.int .i64 x.fEnds), .d (.int .i64 1), .d (.int .i64 1000000000)] (.d (.bool (inB x.fEnds 1 1000000000))) [none, none, none] := l01In_ok _ _ _
    have c3 := s_PathOk_ok (GG := GG) x.fKind (by omega)
    have hno : wrapOk k x = (inB x.fId 1 (k - 1) && inB x.fEnds 1 1000000000 && pathOk x.fKind) := rfl
    generalize inB x.fId 1 (k - 1) = p1 at c1 hno
    generalize inB x.fEnds 1 1000000000 = p2 at c2 hno
    generalize pathOk x.fKind = p3 at c3 hno
    refine W_seq (?_)
    cases i with
    | zero =>
      have hlk : wlinkAt k l 0 = (p1 && p2 && p3) := by unfold wlinkAt; rw [ha]; simp only [hno, Bool.and_true]
      refine W_regBD 67 (!(p1 && p2 && p3)) (fun K hK => ?_) ?_
      · simp [ha, hwk]
        repeat' (first | exact hK _ _ (by clear hK; first | omega | (exact decide_eq_false (by omega)) | (exact decide_eq_true (by omega)) | (exact (decide_eq_true (by omega)).symm) | (exact (decide_eq_false (by omega)).symm) | (exact decide_eq_decide.2 (by omega)) | (simp [*]; done) | (simp [*]; omega) | (simp_all; done) | (simp_all; omega) | (rw [Bool.eq_iff_iff]; simp at *; omega)) | (with_reducible refine callQ (c1) ?_; simp [ha, hwk]) | (with_reducible refine callQ (c2) ?_; simp [ha, hwk]) | (with_reducible refine callQ (c3) ?_; simp [ha, hwk]) | (with_reducible refine goL_split (fun _ => ?_) (fun _ => ?_) <;> simp [ha, hwk]) | with_reducible refine And.intro ?_ ?_ | with_reducible exact okay_rfl rfl | with_reducible assumption | omega)
      generalize (p1 && p2 && p3) = q at hlk
      refine W_cond rfl (fun h4 => W_seq ?_) (fun h4 => W_skip ?_)
      · apply W_regS
        · intro K hK
          simp
          repeat' (first | with_reducible exact hK | (with_reducible refine goL_split (fun _ => ?_) (fun _ => ?_) <;> simp) | with_reducible refine And.intro ?_ ?_ | with_reducible exact okay_rfl rfl | with_reducible assumption | omega)
        have : rackOk (GRack.mk f k l) = false := by rw [hr2]; exact range_no (i := 0) (by omega) (by rw [hlk]; revert h4; cases q <;> simp)
        refine W_ret ?_
        simp [Fin, this]
        all_goals omega
      apply W_regS
      · intro K hK
        simp
        repeat' (first | with_reducible exact hK | (with_reducible refine goL_split (fun _ => ?_) (fun _ => ?_) <;> simp) | with_reducible refine And.intro ?_ ?_ | with_reducible exact okay_rfl rfl | with_reducible assumption | omega)
      exact ⟨l.length - (0 + 1), by omega, 0 + 1, rfl, h2, range_step hn (by rw [hlk]; revert h4; cases q <;> simp), by simp [gc, closeN, liveA, gcV, gcO, renA, renAs, renO, namesAs, namesA, namesO, posn]; exact wrap_id (by omega) (by omega)⟩
    | succ j =>
      have hb := List.getElem?_eq_getElem (show j < l.length by omega)
      generalize l[j]'_ = y at hb
      have hw1 : IntKind.i64.wrap (j : Int) = j := wrap_id (by omega) (by omega)
      obtain ⟨z, hz⟩ : ∃ z, decide (y.fId < x.fId) = z := ⟨_, rfl⟩
      have hz2 : decide (x.fId ≤ y.fId) = !z := by rw [← hz, ← decide_not]; exact decide_eq_decide.2 (by omega)
      have hlk : wlinkAt k l (j + 1) = (p1 && p2 && p3 && z) := by unfold wlinkAt; rw [ha]; simp only [hno, hb, hz]
      have hlt : j < l.length := by omega
      refine W_regBD 67 (!(p1 && p2 && p3 && z)) (fun K hK => ?_) ?_
      · simp [ha, hb, hw1, hwk, hz2]
        repeat' (first | exact hK _ _ (by clear hK; first | omega | (exact decide_eq_false (by omega)) | (exact decide_eq_true (by omega)) | (exact (decide_eq_true (by omega)).symm) | (exact (decide_eq_false (by omega)).symm) | (exact decide_eq_decide.2 (by omega)) | (simp [*]; done) | (simp [*]; omega) | (simp_all; done) | (simp_all; omega) | (rw [Bool.eq_iff_iff]; simp at *; omega)) | (with_reducible refine callQ (c1) ?_; simp [ha, hb, hw1, hwk, hz2]) | (with_reducible refine callQ (c2) ?_; simp [ha, hb, hw1, hwk, hz2]) | (with_reducible refine callQ (c3) ?_; simp [ha, hb, hw1, hwk, hz2]) | (with_reducible refine goL_split (fun _ => ?_) (fun _ => ?_) <;> simp [ha, hb, hw1, hwk, hz2]) | with_reducible refine And.intro ?_ ?_ | with_reducible exact okay_rfl rfl | with_reducible assumption | omega)
      generalize (p1 && p2 && p3 && z) = q at hlk
      refine W_cond rfl (fun h4 => W_seq ?_) (fun h4 => W_skip ?_)
      · apply W_regS
        · intro K hK
          simp
          repeat' (first | with_reducible exact hK | (with_reducible refine goL_split (fun _ => ?_) (fun _ => ?_) <;> simp) | with_reducible refine And.intro ?_ ?_ | with_reducible exact okay_rfl rfl | with_reducible assumption | omega)
        have : rackOk (GRack.mk f k l) = false := by rw [hr2]; exact range_no (i := j + 1) (by omega) (by rw [hlk]; revert h4; cases q <;> simp)
        refine W_ret ?_
        simp [Fin, this]
        all_goals omega
      apply W_regS
      · intro K hK
        simp
        repeat' (first | with_reducible exact hK | (with_reducible refine goL_split (fun _ => ?_) (fun _ => ?_) <;> simp) | with_reducible refine And.intro ?_ ?_ | with_reducible exact okay_rfl rfl | with_reducible assumption | omega)
      refine ⟨l.length - (j + 1 + 1), by omega, j + 1 + 1, rfl, h2, range_step hn (by rw [hlk]; revert h4; cases q <;> simp), ?_⟩
      simp [gc, closeN, liveA, gcV, gcO, renA, renAs, renO, namesAs, namesA, namesO, posn]
      rw [wrap_id (by omega) (by omega)]
  · simp at h2
    rw [if_pos rfl]
    refine W_seq (?_)
    apply W_regS
    · intro K hK
      simp
      repeat' (first | with_reducible exact hK | (with_reducible refine goL_split (fun _ => ?_) (fun _ => ?_) <;> simp) | with_reducible refine And.intro ?_ ?_ | with_reducible exact okay_rfl rfl | with_reducible assumption | omega)
    have : rackOk (GRack.mk f k l) = true := by rw [hr2]; exact List.all_eq_true.2 fun j hj => hn j (by have := List.mem_range.1 hj; omega)
    refine W_ret ?_
    simp [Fin, this]
    all_goals omega

theorem isRack_ok [MaxL GG] (r : GRack) (hc : r.cost ≤ 1048576) : Valid PP GG F_I_isRack [.agg r.c] (.d (.bool (rackOk r))) [none] := by
  refine v_I_isRack [.d (.bool (rackOk r))] rfl rfl ?_
  obtain ⟨f, k, l⟩ := r
  have hco : (GRack.mk f k l).cost = l.length + sumBy GWrap.cost l := rfl
  have ck := isKey_ok (GG := GG) f
  have cn : Valid PP GG F_I_within [.d (.int .i64 k), .d (.int .i64 1), .d (.int .i64 1000000000)] (.d (.bool (inB k 1 1000000000))) [none, none, none] := within_ok _ _ _
  have hr : rackOk (GRack.mk f k l) = (keyB f && inB k 1 1000000000 && decide (l.length ≤ 60) && (List.range l.length).all (wlinkAt k l)) := rfl
  have hkr : inB k 1 1000000000 = true → 1 ≤ k ∧ k ≤ 1000000000 := inB_true
  generalize keyB f = p at ck hr
  generalize inB k 1 1000000000 = u at cn hr hkr
  obtain ⟨v, hv⟩ : ∃ v, decide (l.length ≤ 60) = v := ⟨_, rfl⟩
  have hv2 : decide (60 < (l.length : Int)) = !v := by rw [← hv, ← decide_not]; exact decide_eq_decide.2 (by omega)
  rw [hv] at hr
  refine W_seq (?_)
  apply W_regS
  · intro K hK
    simp
    repeat' (first | with_reducible exact hK | (with_reducible refine goL_split (fun _ => ?_) (fun _ => ?_) <;> simp) | with_reducible refine And.intro ?_ ?_ | with_reducible exact okay_rfl rfl | with_reducible assumption | omega)
  refine W_seq (W_seq (?_))
  refine W_regB 20 (!(p && u && v)) (fun K hK => ?_) ?_
  · simp [hv2]
    repeat' (first | exact hK _ _ (by clear hK; first | omega | (exact decide_eq_false (by omega)) | (exact decide_eq_true (by omega)) | (exact (decide_eq_true (by omega)).symm) | (exact (decide_eq_false (by omega)).symm) | (exact decide_eq_decide.2 (by omega)) | (simp [*]; done) | (simp [*]; omega) | (simp_all; done) | (simp_all; omega) | (rw [Bool.eq_iff_iff]; simp at *; omega)) | (with_reducible refine callQ (ck) ?_; simp [hv2]) | (with_reducible refine callQ (cn) ?_; simp [hv2]) | (with_reducible refine goL_split (fun _ => ?_) (fun _ => ?_) <;> simp [hv2]) | with_reducible refine And.intro ?_ ?_ | with_reducible exact okay_rfl rfl | with_reducible assumption | omega)
  refine W_cond rfl (fun h => W_seq ?_) (fun h => W_skip ?_)
  · apply W_regS
    · intro K hK
      simp
      repeat' (first | with_reducible exact hK | (with_reducible refine goL_split (fun _ => ?_) (fun _ => ?_) <;> simp) | with_reducible refine And.intro ?_ ?_ | with_reducible exact okay_rfl rfl | with_reducible assumption | omega)
    have : rackOk (GRack.mk f k l) = false := by rw [hr]; revert h; cases u <;> cases p <;> cases v <;> simp
    refine W_ret ?_
    simp [Fin, this]
    all_goals omega
  have hr2 : rackOk (GRack.mk f k l) = (List.range l.length).all (wlinkAt k l) := by rw [hr]; revert h; cases u <;> cases p <;> cases v <;> simp
  have hk := hkr (by revert h; cases u <;> cases p <;> cases v <;> simp)
  have hwk : IntKind.i64.wrap (k - 1) = k - 1 := wrap_id (by omega) (by omega)
  refine W_seq (W_seq (?_))
  apply W_regS
  · intro K hK
    simp
    repeat' (first | with_reducible exact hK | (with_reducible refine goL_split (fun _ => ?_) (fun _ => ?_) <;> simp) | with_reducible refine And.intro ?_ ?_ | with_reducible exact okay_rfl rfl | with_reducible assumption | omega)
  refine W_block (W_loop (fun n st => ∃ i : Nat, n = l.length - i ∧ i ≤ l.length ∧ (∀ j, j < i → wlinkAt k l j = true) ∧
    st = ⟨[], [(1, .ptr 0 0), (22, .d (.slc 6 (rWrap l))), (23, .d (.int .i64 l.length)), (24, .d (.int .i64 i))], [(0, .box [.d (.int .i64 f), .d (.int .i64 k), .d (.slc 6 (rWrap l))])], 1⟩) _ ⟨0, rfl, by omega, fun j h => by omega, rfl⟩ ?_)
  rintro n st ⟨i, rfl, hi, hn, rfl⟩
  refine W_seq (?_)
  apply W_regS
  · intro K hK
    simp
    repeat' (first | with_reducible exact hK | (with_reducible refine goL_split (fun _ => ?_) (fun _ => ?_) <;> simp) | with_reducible refine And.intro ?_ ?_ | with_reducible exact okay_rfl rfl | with_reducible assumption | omega)
  refine W_seq (?_)
  refine W_cond rfl (fun h2 => W_skip ?_) (fun h2 => W_exit ?_)
  · simp at h2
    have ha := List.getElem?_eq_getElem h2
    generalize l[i] = x at ha
    have hg := sumBy_get (f := GWrap.cost) ha
    have hcx : x.cost = x.fKind.length + x.fBox.cost := rfl
    refine W_seq (W_block (W_seq ?_))
    apply W_regS
    · intro K hK
      simp [ha]
      repeat' (first | with_reducible exact hK | (with_reducible refine goL_split (fun _ => ?_) (fun _ => ?_) <;> simp [ha]) | with_reducible refine And.intro ?_ ?_ | with_reducible exact okay_rfl rfl | with_reducible assumption | omega)
    have c1 : Valid PP GG F_I_within [.d (.int .i64 x.fId), .d (.int .i64 1), .d (.int .i64 (k - 1))] (.d (.bool (inB x.fId 1 (k - 1)))) [none, none, none] := within_ok _ _ _
    have c2 : Valid PP GG F_I_within [.d (.int .i64 x.fEnds), .d (.int .i64 1), .d (.int .i64 1000000000)] (.d (.bool (inB x.fEnds 1 1000000000))) [none, none, none] := within_ok _ _ _
    have c3 := isPath_ok (GG := GG) x.fKind (by omega)
    have hno : wrapOk k x = (inB x.fId 1 (k - 1) && inB x.fEnds 1 1000000000 && pathOk x.fKind) := rfl
    generalize inB x.fId 1 (k - 1) = p1 at c1 hno
    generalize inB x.fEnds 1 1000000000 = p2 at c2 hno
    generalize pathOk x.fKind = p3 at c3 hno
    refine W_seq (?_)
    cases i with
    | zero =>
      have hlk : wlinkAt k l 0 = (p1 && p2 && p3) := by unfold wlinkAt; rw [ha]; simp only [hno, Bool.and_true]
      refine W_regBD 63 (!(p1 && p2 && p3)) (fun K hK => ?_) ?_
      · simp [ha, hwk]
        repeat' (first | exact hK _ _ (by clear hK; first | omega | (exact decide_eq_false (by omega)) | (exact decide_eq_true (by omega)) | (exact (decide_eq_true (by omega)).symm) | (exact (decide_eq_false (by omega)).symm) | (exact decide_eq_decide.2 (by omega)) | (simp [*]; done) | (simp [*]; omega) | (simp_all; done) | (simp_all; omega) | (rw [Bool.eq_iff_iff]; simp at *; omega)) | (with_reducible refine callQ (c1) ?_; simp [ha, hwk]) | (with_reducible refine callQ (c2) ?_; simp [ha, hwk]) | (with_reducible refine callQ (c3) ?_; simp [ha, hwk]) | (with_reducible refine goL_split (fun _ => ?_) (fun _ => ?_) <;> simp [ha, hwk]) | with_reducible refine And.intro ?_ ?_ | with_reducible exact okay_rfl rfl | with_reducible assumption | omega)
      generalize (p1 && p2 && p3) = q at hlk
      refine W_cond rfl (fun h4 => W_seq ?_) (fun h4 => W_skip ?_)
      · apply W_regS
        · intro K hK
          simp
          repeat' (first | with_reducible exact hK | (with_reducible refine goL_split (fun _ => ?_) (fun _ => ?_) <;> simp) | with_reducible refine And.intro ?_ ?_ | with_reducible exact okay_rfl rfl | with_reducible assumption | omega)
        have : rackOk (GRack.mk f k l) = false := by rw [hr2]; exact range_no (i := 0) (by omega) (by rw [hlk]; revert h4; cases q <;> simp)
        refine W_ret ?_
        simp [Fin, this]
        all_goals omega
      apply W_regS
      · intro K hK
        simp
        repeat' (first | with_reducible exact hK | (with_reducible refine goL_split (fun _ => ?_) (fun _ => ?_) <;> simp) | with_reducible refine And.intro ?_ ?_ | with_reducible exact okay_rfl rfl | with_reducible assumption | omega)
      exact ⟨l.length - (0 + 1), by omega, 0 + 1, rfl, h2, range_step hn (by rw [hlk]; revert h4; cases q <;> simp), by simp [gc, closeN, liveA, gcV, gcO, renA, renAs, renO, namesAs, namesA, namesO, posn]; exact wrap_id (by omega) (by omega)⟩
    | succ j =>
      have hb := List.getElem?_eq_getElem (show j < l.length by omega)
      generalize l[j]'_ = y at hb
      have hw1 : IntKind.i64.wrap (j : Int) = j := wrap_id (by omega) (by omega)
      obtain ⟨z, hz⟩ : ∃ z, decide (y.fId < x.fId) = z := ⟨_, rfl⟩
      have hz2 : decide (x.fId ≤ y.fId) = !z := by rw [← hz, ← decide_not]; exact decide_eq_decide.2 (by omega)
      have hlk : wlinkAt k l (j + 1) = (p1 && p2 && p3 && z) := by unfold wlinkAt; rw [ha]; simp only [hno, hb, hz]
      have hlt : j < l.length := by omega
      refine W_regBD 63 (!(p1 && p2 && p3 && z)) (fun K hK => ?_) ?_
      · simp [ha, hb, hw1, hwk, hz2]
        repeat' (first | exact hK _ _ (by clear hK; first | omega | (exact decide_eq_false (by omega)) | (exact decide_eq_true (by omega)) | (exact (decide_eq_true (by omega)).symm) | (exact (decide_eq_false (by omega)).symm) | (exact decide_eq_decide.2 (by omega)) | (simp [*]; done) | (simp [*]; omega) | (simp_all; done) | (simp_all; omega) | (rw [Bool.eq_iff_iff]; simp at *; omega)) | (with_reducible refine callQ (c1) ?_; simp [ha, hb, hw1, hwk, hz2]) | (with_reducible refine callQ (c2) ?_; simp [ha, hb, hw1, hwk, hz2]) | (with_reducible refine callQ (c3) ?_; simp [ha, hb, hw1, hwk, hz2]) | (with_reducible refine goL_split (fun _ => ?_) (fun _ => ?_) <;> simp [ha, hb, hw1, hwk, hz2]) | with_reducible refine And.intro ?_ ?_ | with_reducible exact okay_rfl rfl | with_reducible assumption | omega)
      generalize (p1 && p2 && p3 && z) = q at hlk
      refine W_cond rfl (fun h4 => W_seq ?_) (fun h4 => W_skip ?_)
      · apply W_regS
        · intro K hK
          simp
          repeat' (first | with_reducible exact hK | (with_reducible refine goL_split (fun _ => ?_) (fun _ => ?_) <;> simp) | with_reducible refine And.intro ?_ ?_ | with_reducible exact okay_rfl rfl | with_reducible assumption | omega)
        have : rackOk (GRack.mk f k l) = false := by rw [hr2]; exact range_no (i := j + 1) (by omega) (by rw [hlk]; revert h4; cases q <;> simp)
        refine W_ret ?_
        simp [Fin, this]
        all_goals omega
      apply W_regS
      · intro K hK
        simp
        repeat' (first | with_reducible exact hK | (with_reducible refine goL_split (fun _ => ?_) (fun _ => ?_) <;> simp) | with_reducible refine And.intro ?_ ?_ | with_reducible exact okay_rfl rfl | with_reducible assumption | omega)
      refine ⟨l.length - (j + 1 + 1), by omega, j + 1 + 1, rfl, h2, range_step hn (by rw [hlk]; revert h4; cases q <;> simp), ?_⟩
      simp [gc, closeN, liveA, gcV, gcO, renA, renAs, renO, namesAs, namesA, namesO, posn]
      rw [wrap_id (by omega) (by omega)]
  · simp at h2
    rw [if_pos rfl]
    refine W_seq (?_)
    apply W_regS
    · intro K hK
      simp
      repeat' (first | with_reducible exact hK | (with_reducible refine goL_split (fun _ => ?_) (fun _ => ?_) <;> simp) | with_reducible refine And.intro ?_ ?_ | with_reducible exact okay_rfl rfl | with_reducible assumption | omega)
    have : rackOk (GRack.mk f k l) = true := by rw [hr2]; exact List.all_eq_true.2 fun j hj => hn j (by have := List.mem_range.1 hj; omega)
    refine W_ret ?_
    simp [Fin, this]
    all_goals omega

end Go.Proofs.YtpbofdbleajagaaDoor.Ab


namespace Go.Proofs
end Go.Proofs
set_option linter.unusedSimpArgs false
set_option linter.unusedVariables false
set_option maxRecDepth 100000
set_option maxHeartbeats 2000000
namespace Go.Proofs.YtpbofdbleajagaaDoor.Ab
open Go.Proofs
variable {GG : GV}

theorem findIdx_hit {α : Type} {p : α → Bool} {l : List α} {i : Nat} {x : α} (ha : l[i]? = some x) (hn : ∀ y, y ∈ l.take i → p y = false) (hx : p x = true) : l.findIdx? p = some i := by
  obtain ⟨h, e⟩ := List.getElem?_eq_some_iff.1 ha
  rw [List.findIdx?_eq_some_iff_getElem]
  refine ⟨h, by rw [e]; exact hx, fun j hj => ?_⟩
  have := hn l[j] (List.mem_take_iff_getElem.2 ⟨j, by omega, rfl⟩)
  simp [this]

theorem findIdx_miss {α : Type} {p : α → Bool} {l : List α} (hn : ∀ y, y ∈ l → p y = false) : l.findIdx? p = none := List.findIdx?_eq_none_iff.2 hn

def idxV {α : Type} (p : α → Bool) (l : List α) : Int := match l.findIdx? p with | some i => (i : Int) | none => -1

theorem s_l14At_ok (r : GRack) (id : Int) (hc : r.cost ≤ 1048576) : Valid PP GG F_S_l14At [.agg r.c, .d (.int .i64 id)] (.d (.int .i64 (idxV (fun x : GWrap => x.fId == id) r.fWraps))) [none, none] := by
  refine v_S_l14At [.d (.int .i64 (idxV (fun x : GWrap => x.fId == id) r.fWraps))] rfl rfl ?_
  obtain ⟨f, k, l⟩ := r
  have hco : (GRack.mk f k l).cost = l.length + sumBy GWrap.cost l := rfl
  simp only
  refine W_seq (?_)
  apply W_regS
  · intro K hK
    simp
    repeat' (first | with_reducible exact hK | (with_reducible refine goL_split (fun _ => ?_) (fun _ => ?_) <;> simp) | with_reducible refine And.intro ?_ ?_ | with_reducible exact okay_rfl rfl | with_reducible assumption | omega)
  refine W_seq (W_seq (?_))
  apply W_regS
  · intro K hK
    simp
    repeat' (first | with_reducible exact hK | (with_reducible refine goL_split (fun _ => ?_) (fun _ => ?_) <;> simp) | with_reducible refine And.intro ?_ ?_ | with_reducible exact okay_rfl rfl | with_reducible assumption | omega)
  refine W_block (W_loop (fun n st => ∃ i : Nat, n = l.length - i ∧ i ≤ l.length ∧ (∀ y, y ∈ l.take i → (y.fId == id) = false) ∧
    st = ⟨[], [(1, .d (.int .i64 id)), (2, .ptr 0 0), (5, .d (.int .i64 i))], [(0, .box [.d (.int .i64 f), .d (.int .i64 k), .d (.slc 6 (rWrap l))])], 1⟩) _ ⟨0, rfl, by omega, fun y h => by simp at h, rfl⟩ ?_)
  rintro n st ⟨i, rfl, hi, hn, rfl⟩
  refine W_seq (W_seq (?_))
  apply W_regS
  · intro K hK
    simp
    repeat' (first | with_reducible exact hK | (with_reducible refine goL_split (fun _ => ?_) (fun _ => ?_) <;> simp) | with_reducible refine And.intro ?_ ?_ | with_reducible exact okay_rfl rfl | with_reducible assumption | omega)
  refine W_cond rfl (fun h2 => W_skip ?_) (fun h2 => W_exit ?_)
  · simp at h2
    have ha := List.getElem?_eq_getElem h2
    generalize l[i] = x at ha
    refine W_seq (W_block (W_seq ?_))
    apply W_regS
    · intro K hK
      simp [ha]
      repeat' (first | with_reducible exact hK | (with_reducible refine goL_split (fun _ => ?_) (fun _ => ?_) <;> simp [ha]) | with_reducible refine And.intro ?_ ?_ | with_reducible exact okay_rfl rfl | with_reducible assumption | omega)
    refine W_cond rfl (fun h3 => W_seq ?_) (fun h3 => W_skip ?_)
    · apply W_regS
      · intro K hK
        simp
        repeat' (first | with_reducible exact hK | (with_reducible refine goL_split (fun _ => ?_) (fun _ => ?_) <;> simp) | with_reducible refine And.intro ?_ ?_ | with_reducible exact okay_rfl rfl | with_reducible assumption | omega)
      have : idxV (fun x : GWrap => x.fId == id) l = i := by unfold idxV; rw [findIdx_hit ha hn (by simpa using h3)]
      refine W_ret ?_
      simp [Fin, this]
      all_goals omega
    apply W_regS
    · intro K hK
      simp
      repeat' (first | with_reducible exact hK | (with_reducible refine goL_split (fun _ => ?_) (fun _ => ?_) <;> simp) | with_reducible refine And.intro ?_ ?_ | with_reducible exact okay_rfl rfl | with_reducible assumption | omega)
    exact ⟨l.length - (i + 1), by omega, i + 1, rfl, h2, take_all ha hn (by simpa using h3), by simp [gc, closeN, liveA, gcV, gcO, renA, renAs, renO, namesAs, namesA, namesO, posn]; exact wrap_id (by omega) (by omega)⟩
  · simp at h2
    rw [if_pos rfl]
    rw [List.take_of_length_le h2] at hn
    refine W_seq (?_)
    apply W_regS
    · intro K hK
      simp
      repeat' (first | with_reducible exact hK | (with_reducible refine goL_split (fun _ => ?_) (fun _ => ?_) <;> simp) | with_reducible refine And.intro ?_ ?_ | with_reducible exact okay_rfl rfl | with_reducible assumption | omega)
    have : idxV (fun x : GWrap => x.fId == id) l = -1 := by unfold idxV; rw [findIdx_miss hn]
    refine W_ret ?_
    simp [Fin, this]
    all_goals omega

theorem wrapIndex_c1_ok (x : GWrap) (id : Int) : Valid PP GG F_I_wrapIndex_c1 [.agg x.c, .rp [.int .i64 id]] (.d (.bool (x.fId == id))) [none] := by
  refine v_I_wrapIndex_c1 [.d (.bool (x.fId == id))] rfl rfl ?_
  refine W_seq (?_)
  apply W_regS
  · intro K hK
    simp
    repeat' (first | with_reducible exact hK | (with_reducible refine goL_split (fun _ => ?_) (fun _ => ?_) <;> simp) | with_reducible refine And.intro ?_ ?_ | with_reducible exact okay_rfl rfl | with_reducible assumption | omega)
  refine W_seq (?_)
  apply W_regS
  · intro K hK
    simp
    repeat' (first | with_reducible exact hK | (with_reducible refine goL_split (fun _ => ?_) (fun _ => ?_) <;> simp) | with_reducible refine And.intro ?_ ?_ | with_reducible exact okay_rfl rfl | with_reducible assumption | omega)
  refine W_ret ?_
  simp [Fin]
  all_goals omega

theorem IndexFuncWrap_ok (a : List GWrap) (g : FuncId) (caps : List (List D)) (p : GWrap → Bool) (hsz : a.length ≤ 281474976710656) (hp : ∀ x, x ∈ a → Valid PP GG g (.agg x.c :: caps.map .rp) (.d (.bool (p x))) [none]) :
    Valid PP GG F_slices_IndexFunc___impl_Wrap_impl_Wrap_ [.d (.slc 6 (rWrap a)), .d (.fn g caps)] (.d (.int .i64 (idxV p a))) [none, none] := by
  refine v_slices_IndexFunc___impl_Wrap_impl_Wrap_ [.d (.int .i64 (idxV p a))] rfl rfl ?_
  refine W_seq (?_)
  apply W_regS
  · intro K hK
    simp
    repeat' (first | with_reducible exact hK | (with_reducible refine goL_split (fun _ => ?_) (fun _ => ?_) <;> simp) | with_reducible refine And.intro ?_ ?_ | with_reducible exact okay_rfl rfl | with_reducible assumption | omega)
  refine W_seq (W_seq (?_))
  apply W_regS
  · intro K hK
    simp
    repeat' (first | with_reducible exact hK | (with_reducible refine goL_split (fun _ => ?_) (fun _ => ?_) <;> simp) | with_reducible refine And.intro ?_ ?_ | with_reducible exact okay_rfl rfl | with_reducible assumption | omega)
  refine W_block (W_loop (fun n st => ∃ i : Nat, n = a.length - i ∧ i ≤ a.length ∧ (∀ x, x ∈ a.take i → p x = false) ∧
    st = ⟨[], [(0, .d (.slc 6 (rWrap a))), (1, .d (.fn g caps)), (7, .d (.int .i64 a.length)), (8, .d (.int .i64 i))], [], 0⟩) _ ⟨0, rfl, by omega, fun x hx => by simp at hx, rfl⟩ ?_)
  rintro n st ⟨i, rfl, hi, hn, rfl⟩
  refine W_seq (?_)
  apply W_regS
  · intro K hK
    simp
    repeat' (first | with_reducible exact hK | (with_reducible refine goL_split (fun _ => ?_) (fun _ => ?_) <;> simp) | with_reducible refine And.intro ?_ ?_ | with_reducible exact okay_rfl rfl | with_reducible assumption | omega)
  refine W_seq (?_)
  refine W_cond rfl (fun h => W_skip ?_) (fun h => W_exit ?_)
  · simp at h
    have ha := List.getElem?_eq_getElem h
    generalize a[i] = x at ha
    have cp := hp x (List.mem_of_getElem? ha)
    refine W_seq (W_block (W_seq ?_))
    apply W_regS
    · intro K hK
      simp
      repeat' (first | with_reducible exact hK | (with_reducible refine goL_split (fun _ => ?_) (fun _ => ?_) <;> simp) | with_reducible refine And.intro ?_ ?_ | with_reducible exact okay_rfl rfl | with_reducible assumption | omega)
    refine W_seq (?_)
    apply W_regS
    · intro K hK
      simp [ha]
      repeat' (first | with_reducible exact hK | (with_reducible refine callQ (cp) ?_; simp [ha]) | (with_reducible refine goL_split (fun _ => ?_) (fun _ => ?_) <;> simp [ha]) | with_reducible refine And.intro ?_ ?_ | with_reducible exact okay_rfl rfl | with_reducible assumption | omega)
    refine W_cond rfl (fun h2 => W_seq ?_) (fun h2 => W_skip ?_)
    · apply W_regS
      · intro K hK
        simp
        repeat' (first | with_reducible exact hK | (with_reducible refine goL_split (fun _ => ?_) (fun _ => ?_) <;> simp) | with_reducible refine And.intro ?_ ?_ | with_reducible exact okay_rfl rfl | with_reducible assumption | omega)
      have e : idxV p a = i := by unfold idxV; rw [findIdx_hit ha hn h2]
      refine W_ret ?_
      simp [Fin, e]
      all_goals omega
    apply W_regS
    · intro K hK
      simp
      repeat' (first | with_reducible exact hK | (with_reducible refine goL_split (fun _ => ?_) (fun _ => ?_) <;> simp) | with_reducible refine And.intro ?_ ?_ | with_reducible exact okay_rfl rfl | with_reducible assumption | omega)
    exact ⟨a.length - (i + 1), by omega, i + 1, rfl, h, take_all ha hn h2, by simp [gc, closeN, liveA, gcV, gcO, renA, namesAs, namesA]; rw [wrap_id (by omega) (by omega)]⟩
  · simp at h
    rw [if_pos rfl]
    rw [List.take_of_length_le h] at hn
    refine W_seq (?_)
    apply W_regS
    · intro K hK
      simp
      repeat' (first | with_reducible exact hK | (with_reducible refine goL_split (fun _ => ?_) (fun _ => ?_) <;> simp) | with_reducible refine And.intro ?_ ?_ | with_reducible exact okay_rfl rfl | with_reducible assumption | omega)
    have e : idxV p a = -1 := by unfold idxV; rw [findIdx_miss hn]
    refine W_ret ?_
    simp [Fin, e]
    all_goals omega

theorem wrapIndex_ok (r : GRack) (id : Int) (hc : r.cost ≤ 1048576) : Valid PP GG F_I_wrapIndex [.agg r.c, .d (.int .i64 id)] (.d (.int .i64 (idxV (fun x : GWrap => x.fId == id) r.fWraps))) [none, none] := by
  refine v_I_wrapIndex [.d (.int .i64 (idxV (fun x : GWrap => x.fId == id) r.fWraps))] rfl rfl ?_
  have hco : r.cost = r.fWraps.length + sumBy GWrap.cost r.fWraps := rfl
  have ci : Valid PP GG F_slices_IndexFunc___impl_Wrap_impl_Wrap_ [.d (.slc 6 (rWrap r.fWraps)), .d (.fn 97 [[.int .i64 id]])] (.d (.int .i64 (idxV (fun x : GWrap => x.fId == id) r.fWraps))) [none, none] :=
    IndexFuncWrap_ok r.fWraps 97 [[.int .i64 id]] (fun x => x.fId == id) (by omega) (fun x _ => wrapIndex_c1_ok x id)
  generalize idxV (fun x : GWrap => x.fId == id) r.fWraps = v at ci ⊢
  refine W_seq (?_)
  apply W_regS
  · intro K hK
    simp
    repeat' (first | with_reducible exact hK | (with_reducible refine goL_split (fun _ => ?_) (fun _ => ?_) <;> simp) | with_reducible refine And.intro ?_ ?_ | with_reducible exact okay_rfl rfl | with_reducible assumption | omega)
  refine W_seq (?_)
  apply W_regS
  · intro K hK
    simp
    repeat' (first | with_reducible exact hK | (with_reducible refine callQ (ci) ?_; simp) | (with_reducible refine goL_split (fun _ => ?_) (fun _ => ?_) <;> simp) | with_reducible refine And.intro ?_ ?_ | with_reducible exact okay_rfl rfl | with_reducible assumption | omega)
  refine W_ret ?_
  simp [Fin]
  all_goals omega

def peekK (r : GRack) (id : Int) : List UInt8 := if rackOk r = true then (match r.fWraps[(idxV (fun x : GWrap => x.fId == id) r.fWraps).toNat]? with | some x => if idxV (fun x : GWrap => x.fId == id) r.fWraps < 0 then [] else x.fKind | none => []) else []

def peekE (r : GRack) (id : Int) : Int := if rackOk r = true then (match r.fWraps[(idxV (fun x : GWrap => x.fId == id) r.fWraps).toNat]? with | some x => if idxV (fun x : GWrap => x.fId == id) r.fWraps < 0 then 0 else x.fEnds | none => 0) else 0

def peekC (r : GRack) (id : Int) : Int := if rackOk r = true then (if idxV (fun x : GWrap => x.fId == id) r.fWraps < 0 then 2 else 0) else 1

theorem idxV_range {α : Type} (p : α → Bool) (l : List α) : idxV p l = -1 ∨ ∃ (i : Nat) (x : α), idxV p l = i ∧ l[i]? = some x ∧ p x = true := by
  unfold idxV
  cases h : l.findIdx? p with
  | none => exact .inl rfl
  | some i =>
    obtain ⟨h1, h2, _⟩ := List.findIdx?_eq_some_iff_getElem.1 h
    exact .inr ⟨i, l[i], rfl, List.getElem?_eq_getElem h1, h2⟩

theorem s_PeekWrap_ok (r : GRack) (id : Int) (hc : r.cost ≤ 1048576) : Valid PP GG F_S_PeekWrap [.agg r.c, .d (.int .i64 id)] (.tup [.d (.str (peekK r id)), .d (.int .i64 (peekE r id)), .d (.int .i64 (peekC r id))]) [none, none] := by
  refine v_S_PeekWrap [.d (.str (peekK r id)), .d (.int .i64 (peekE r id)), .d (.int .i64 (peekC r id))] rfl rfl ?_
  have cr := s_RackOk_ok (GG := GG) r hc
  have ca := s_l14At_ok (GG := GG) r id hc
  have hk : peekK r id = (if rackOk r = true then (match r.fWraps[(idxV (fun x : GWrap => x.fId == id) r.fWraps).toNat]? with | some x => if idxV (fun x : GWrap => x.fId == id) r.fWraps < 0 then [] else x.fKind | none => []) else []) := rfl
  have he : peekE r id = (if rackOk r = true then (match r.fWraps[(idxV (fun x : GWrap => x.fId == id) r.fWraps).toNat]? with | some x => if idxV (fun x : GWrap => x.fId == id) r.fWraps < 0 then 0 else x.fEnds | none => 0) else 0) := rfl
  have hcc : peekC r id = (if rackOk r = true then (if idxV (fun x : GWrap => x.fId == id) r.fWraps < 0 then 2 else 0) else 1) := rfl
  generalize peekK r id = vk at hk ⊢
  generalize peekE r id = ve at he ⊢
  generalize peekC r id = vc at hcc ⊢
  have hx := idxV_range (fun x : GWrap => x.fId == id) r.fWraps
  generalize idxV (fun x : GWrap => x.fId == id) r.fWraps = at' at ca hk he hcc hx
  generalize rackOk r = b at cr hk he hcc
  cases b with
  | false =>
    rw [if_neg (by simp)] at hk he hcc
    subst hk he hcc
    refine W_seq (?_)
    apply W_regS
    · intro K hK
      simp
      repeat' (first | with_reducible exact hK | (with_reducible refine goL_split (fun _ => ?_) (fun _ => ?_) <;> simp) | with_reducible refine And.intro ?_ ?_ | with_reducible exact okay_rfl rfl | with_reducible assumption | omega)
    refine W_seq (W_seq (?_))
    apply W_regS
    · intro K hK
      simp
      repeat' (first | with_reducible exact hK | (with_reducible refine callQ (cr) ?_; simp) | (with_reducible refine goL_split (fun _ => ?_) (fun _ => ?_) <;> simp) | with_reducible refine And.intro ?_ ?_ | with_reducible exact okay_rfl rfl | with_reducible assumption | omega)
    refine W_cond rfl (fun h => W_seq ?_) (fun h => ?_)
    rotate_left
    · simp at h
    apply W_regS
    · intro K hK
      simp
      repeat' (first | with_reducible exact hK | (with_reducible refine goL_split (fun _ => ?_) (fun _ => ?_) <;> simp) | with_reducible refine And.intro ?_ ?_ | with_reducible exact okay_rfl rfl | with_reducible assumption | omega)
    refine W_ret ?_
    simp [Fin]
    all_goals omega
  | true =>
    rw [if_pos rfl] at hk he hcc
    refine W_seq (?_)
    apply W_regS
    · intro K hK
      simp
      repeat' (first | with_reducible exact hK | (with_reducible refine goL_split (fun _ => ?_) (fun _ => ?_) <;> simp) | with_reducible refine And.intro ?_ ?_ | with_reducible exact okay_rfl rfl | with_reducible assumption | omega)
    refine W_seq (W_seq (?_))
    apply W_regS
    · intro K hK
      simp
      repeat' (first | with_reducible exact hK | (with_reducible refine callQ (cr) ?_; simp) | (with_reducible refine goL_split (fun _ => ?_) (fun _ => ?_) <;> simp) | with_reducible refine And.intro ?_ ?_ | with_reducible exact okay_rfl rfl | with_reducible assumption | omega)
    refine W_cond rfl (fun h => ?_) (fun h => W_skip ?_)
    · simp at h
    refine W_seq (?_)
    apply W_regS
    · intro K hK
      simp
      repeat' (first | with_reducible exact hK | (with_reducible refine callQ (ca) ?_; simp) | (with_reducible refine goL_split (fun _ => ?_) (fun _ => ?_) <;> simp) | with_reducible refine And.intro ?_ ?_ | with_reducible exact okay_rfl rfl | with_reducible assumption | omega)
    rcases hx with rfl | ⟨i, x, rfl, ha, _⟩
    · rw [if_pos (by omega)] at hcc
      have hk2 : vk = [] := by rw [hk]; split <;> simp
      have he2 : ve = 0 := by rw [he]; split <;> simp
      subst hk2 he2 hcc
      refine W_seq (W_seq (?_))
      apply W_regS
      · intro K hK
        simp
        repeat' (first | with_reducible exact hK | (with_reducible refine goL_split (fun _ => ?_) (fun _ => ?_) <;> simp) | with_reducible refine And.intro ?_ ?_ | with_reducible exact okay_rfl rfl | with_reducible assumption | omega)
      refine W_cond rfl (fun h => W_seq ?_) (fun h => ?_)
      rotate_left
      · simp at h
      apply W_regS
      · intro K hK
        simp
        repeat' (first | with_reducible exact hK | (with_reducible refine goL_split (fun _ => ?_) (fun _ => ?_) <;> simp) | with_reducible refine And.intro ?_ ?_ | with_reducible exact okay_rfl rfl | with_reducible assumption | omega)
      refine W_ret ?_
      simp [Fin]
      all_goals omega
    · have hlt := (List.getElem?_eq_some_iff.1 ha).1
      rw [if_neg (by omega)] at hcc
      rw [Int.toNat_natCast, ha] at hk he
      simp only [show ¬ ((i : Int) < 0) by omega, if_false] at hk he
      subst hk he hcc
      refine W_seq (W_seq (?_))
      apply W_regS
      · intro K hK
        simp
        repeat' (first | with_reducible exact hK | (with_reducible refine goL_split (fun _ => ?_) (fun _ => ?_) <;> simp) | with_reducible refine And.intro ?_ ?_ | with_reducible exact okay_rfl rfl | with_reducible assumption | omega)
      refine W_cond rfl (fun h => ?_) (fun h => W_skip ?_)
      · simp at h; omega
      refine W_seq (?_)
      apply W_regD
      · intro K hK
        simp [ha]
        repeat' (first | with_reducible exact hK | (with_reducible refine goL_split (fun _ => ?_) (fun _ => ?_) <;> simp [ha]) | with_reducible refine And.intro ?_ ?_ | with_reducible exact okay_rfl rfl | with_reducible assumption | omega)
      refine W_ret ?_
      simp [Fin]
      all_goals omega

theorem i_PeekWrap_ok [MaxL GG] (r : GRack) (id : Int) (hc : r.cost ≤ 1048576) : Valid PP GG F_I_PeekWrap [.agg r.c, .d (.int .i64 id)] (.tup [.d (.str (peekK r id)), .d (.int .i64 (peekE r id)), .d (.int .i64 (peekC r id))]) [none, none] := by
  refine v_I_PeekWrap [.d (.str (peekK r id)), .d (.int .i64 (peekE r id)), .d (.int .i64 (peekC r id))] rfl rfl ?_
  have cr := isRack_ok (GG := GG) r hc
  have ca := wrapIndex_ok (GG := GG) r id hc
  have hk : peekK r id = (if rackOk r = true then (match r.fWraps[(idxV (fun x : GWrap => x.fId == id) r.fWraps).toNat]? with | some x => if idxV (fun x : GWrap => x.fId == id) r.fWraps < 0 then [] else x.fKind | none => []) else []) := rfl
  have he : peekE r id = (if rackOk r = true then (match r.fWraps[(idxV (fun x : GWrap => x.fId == id) r.fWraps).toNat]? with | some x => if idxV (fun x : GWrap => x.fId == id) r.fWraps < 0 then 0 else x.fEnds | none => 0) else 0) := rfl
  have hcc : peekC r id = (if rackOk r = true then (if idxV (fun x : GWrap => x.fId == id) r.fWraps < 0 then 2 else 0) else 1) := rfl
  generalize peekK r id = vk at hk ⊢
  generalize peekE r id = ve at he ⊢
  generalize peekC r id = vc at hcc ⊢
  have hx := idxV_range (fun x : GWrap => x.fId == id) r.fWraps
  generalize idxV (fun x : GWrap => x.fId == id) r.fWraps = at' at ca hk he hcc hx
  generalize rackOk r = b at cr hk he hcc
  cases b with
  | false =>
    rw [if_neg (by simp)] at hk he hcc
    subst hk he hcc
    refine W_seq (?_)
    apply W_regS
    · intro K hK
      simp
      repeat' (first | with_reducible exact hK | (with_reducible refine goL_split (fun _ => ?_) (fun _ => ?_) <;> simp) | with_reducible refine And.intro ?_ ?_ | with_reducible exact okay_rfl rfl | with_reducible assumption | omega)
    refine W_seq (W_seq (?_))
    apply W_regS
    · intro K hK
      simp
      repeat' (first | with_reducible exact hK | (with_reducible refine callQ (cr) ?_; simp) | (with_reducible refine goL_split (fun _ => ?_) (fun _ => ?_) <;> simp) | with_reducible refine And.intro ?_ ?_ | with_reducible exact okay_rfl rfl | with_reducible assumption | omega)
    refine W_cond rfl (fun h => W_seq ?_) (fun h => ?_)
    rotate_left
    · simp at h
    apply W_regS
    · intro K hK
      simp
      repeat' (first | with_reducible exact hK | (with_reducible refine goL_split (fun _ => ?_) (fun _ => ?_) <;> simp) | with_reducible refine And.intro ?_ ?_ | with_reducible exact okay_rfl rfl | with_reducible assumption | omega)
    refine W_ret ?_
    simp [Fin]
    all_goals omega
  | true =>
    rw [if_pos rfl] at hk he hcc
    refine W_seq (?_)
    apply W_regS
    · intro K hK
      simp
      repeat' (first | with_reducible exact hK | (with_reducible refine goL_split (fun _ => ?_) (fun _ => ?_) <;> simp) | with_reducible refine And.intro ?_ ?_ | with_reducible exact okay_rfl rfl | with_reducible assumption | omega)
    refine W_seq (W_seq (?_))
    apply W_regS
    · intro K hK
      simp
      repeat' (first | with_reducible exact hK | (with_reducible refine callQ (cr) ?_; simp) | (with_reducible refine goL_split (fun _ => ?_) (fun _ => ?_) <;> simp) | with_reducible refine And.intro ?_ ?_ | with_reducible exact okay_rfl rfl | with_reducible assumption | omega)
    refine W_cond rfl (fun h => ?_) (fun h => W_skip ?_)
    · simp at h
    refine W_seq (?_)
    apply W_regS
    · intro K hK
      simp
      repeat' (first | with_reducible exact hK | (with_reducible refine callQ (ca) ?_; simp) | (with_reducible refine goL_split (fun _ => ?_) (fun _ => ?_) <;> simp) | with_reducible refine And.intro ?_ ?_ | with_reducible exact okay_rfl rfl | with_reducible assumption | omega)
    rcases hx with rfl | ⟨i, x, rfl, ha, _⟩
    · rw [if_pos (by omega)] at hcc
      have hk2 : vk = [] := by rw [hk]; split <;> simp
      have he2 : ve = 0 := by rw [he]; split <;> simp
      subst hk2 he2 hcc
      refine W_seq (W_seq (?_))
      apply W_regS
      · intro K hK
        simp
        repeat' (first | with_reducible exact hK | (with_reducible refine goL_split (fun _ => ?_) (fun _ => ?_) <;> simp) | with_reducible refine And.intro ?_ ?_ | with_reducible exact okay_rfl rfl | with_reducible assumption | omega)
      refine W_cond rfl (fun h => W_seq ?_) (fun h => ?_)
      rotate_left
      · simp at h
      apply W_regS
      · intro K hK
        simp
        repeat' (first | with_reducible exact hK | (with_reducible refine goL_split (fun _ => ?_) (fun _ => ?_) <;> simp) | with_reducible refine And.intro ?_ ?_ | with_reducible exact okay_rfl rfl | with_reducible assumption | omega)
      refine W_ret ?_
      simp [Fin]
      all_goals omega
    · have hlt := (List.getElem?_eq_some_iff.1 ha).1
      rw [if_neg (by omega)] at hcc
      rw [Int.toNat_natCast, ha] at hk he
      simp only [show ¬ ((i : Int) < 0) by omega, if_false] at hk he
      subst hk he hcc
      refine W_seq (W_seq (?_))
      apply W_regS
      · intro K hK
        simp
        repeat' (first | with_reducible exact hK | (with_reducible refine goL_split (fun _ => ?_) (fun _ => ?_) <;> simp) | with_reducible refine And.intro ?_ ?_ | with_reducible exact okay_rfl rfl | with_reducible assumption | omega)
      refine W_cond rfl (fun h => ?_) (fun h => W_skip ?_)
      · simp at h; omega
      refine W_seq (?_)
      apply W_regD
      · intro K hK
        simp [ha]
        repeat' (first | with_reducible exact hK | (with_reducible refine goL_split (fun _ => ?_) (fun _ => ?_) <;> simp [ha]) | with_reducible refine And.intro ?_ ?_ | with_reducible exact okay_rfl rfl | with_reducible assumption | omega)
      refine W_ret ?_
      simp [Fin]
      all_goals omega

end Go.Proofs.YtpbofdbleajagaaDoor.Ab


namespace Go.Proofs
end Go.Proofs
set_option linter.unusedSimpArgs false
set_option linter.unusedVariables false
set_option maxRecDepth 100000
set_option maxHeartbeats 2000000
namespace Go.Proofs.YtpbofdbleajagaaDoor.Ab
open Go.Proofs
variable {GG : GV}

theorem law_PeekWrap [MaxL GG] (r : GRack) (id : Int) (hok : r.ok) : Valid PP GG F_L_FnExactPeekWrap [.agg r.c, .d (.int .i64 id)] (.d (.bool true)) [none, none] := by
  refine v_L_FnExactPeekWrap [.d (.bool true)] rfl rfl ?_
  refine W_seq (?_)
  apply W_regS
  · intro K hK
    simp
    repeat' (first | with_reducible exact hK | (with_reducible refine goL_split (fun _ => ?_) (fun _ => ?_) <;> simp) | with_reducible refine And.intro ?_ ?_ | with_reducible exact okay_rfl rfl | with_reducible assumption | omega)
  refine W_seq (?_)
  apply W_regS
  · intro K hK
    simp
    repeat' (first | with_reducible exact hK | (with_reducible refine goL_split (fun _ => ?_) (fun _ => ?_) <;> simp) | with_reducible refine And.intro ?_ ?_ | with_reducible exact okay_rfl rfl | with_reducible assumption | omega)
  refine W_seq (?_)
  apply W_regS
  · intro K hK
    simp
    repeat' (first | with_reducible exact hK | (with_reducible refine callQ (szRack_g r 1048576 hok ⟨by omega, by omega⟩) ?_; simp) | (with_reducible refine goL_split (fun _ => ?_) (fun _ => ?_) <;> simp) | with_reducible refine And.intro ?_ ?_ | with_reducible exact okay_rfl rfl | with_reducible assumption | omega)
  refine W_seq (?_)
  refine W_seq (?_)
  apply W_regS
  · intro K hK
    simp
    repeat' (first | with_reducible exact hK | (with_reducible refine goL_split (fun _ => ?_) (fun _ => ?_) <;> simp) | with_reducible refine And.intro ?_ ?_ | with_reducible exact okay_rfl rfl | with_reducible assumption | omega)
  refine W_cond rfl (fun h => W_seq ?_) (fun h => W_skip ?_)
  · apply W_regS
    · intro K hK
      simp
      repeat' (first | with_reducible exact hK | (with_reducible refine goL_split (fun _ => ?_) (fun _ => ?_) <;> simp) | with_reducible refine And.intro ?_ ?_ | with_reducible exact okay_rfl rfl | with_reducible assumption | omega)
    refine W_ret ?_
    simp [Fin]
    all_goals omega
  simp at h
  have hcost : r.cost ≤ 1048576 := by unfold leftR at h; split at h <;> omega
  have ct := toRack_g (GG := GG) r (by omega)
  have ce := eqRack_g (GG := GG) r r (by omega) (by omega)
  rw [decide_eq_true rfl] at ce
  have cs := s_PeekWrap_ok (GG := GG) r id hcost
  have ci := i_PeekWrap_ok (GG := GG) r id hcost
  generalize peekK r id = vk at cs ci
  generalize peekE r id = ve at cs ci
  generalize peekC r id = vc at cs ci
  refine W_seq (?_)
  apply W_regS
  · intro K hK
    simp
    repeat' (first | with_reducible exact hK | (with_reducible refine callQ (ct) ?_; simp) | (with_reducible refine callQ (cs) ?_; simp) | (with_reducible refine goL_split (fun _ => ?_) (fun _ => ?_) <;> simp) | with_reducible refine And.intro ?_ ?_ | with_reducible exact okay_rfl rfl | with_reducible assumption | omega)
  refine W_seq (?_)
  apply W_regS
  · intro K hK
    simp
    repeat' (first | with_reducible exact hK | (with_reducible refine callQ (ct) ?_; simp) | (with_reducible refine goL_split (fun _ => ?_) (fun _ => ?_) <;> simp) | with_reducible refine And.intro ?_ ?_ | with_reducible exact okay_rfl rfl | with_reducible assumption | omega)
  refine W_seq (?_)
  apply W_regS
  · intro K hK
    simp
    repeat' (first | with_reducible exact hK | (with_reducible refine callQ (ci) ?_; simp) | (with_reducible refine goL_split (fun _ => ?_) (fun _ => ?_) <;> simp) | with_reducible refine And.intro ?_ ?_ | with_reducible exact okay_rfl rfl | with_reducible assumption | omega)
  refine W_seq (?_)
  refine W_seq (?_)
  refine W_regB 47 (false) (fun K hK => ?_) ?_
  · simp
    repeat' (first | exact hK _ _ (by clear hK; first | omega | (exact decide_eq_false (by omega)) | (exact decide_eq_true (by omega)) | (exact (decide_eq_true (by omega)).symm) | (exact (decide_eq_false (by omega)).symm) | (exact decide_eq_decide.2 (by omega)) | (simp [*]; done) | (simp [*]; omega) | (simp_all; done) | (simp_all; omega) | (rw [Bool.eq_iff_iff]; simp at *; omega)) | (with_reducible refine goL_split (fun _ => ?_) (fun _ => ?_) <;> simp) | with_reducible refine And.intro ?_ ?_ | with_reducible exact okay_rfl rfl | with_reducible assumption | omega)
  refine W_cond rfl (fun h => ?_) (fun h => W_skip ?_)
  · first | (cases h; done) | (simp at h; done) | (simp at h; omega)
  refine W_seq (?_)
  refine W_seq (?_)
  apply W_regD
  · intro K hK
    simp
    repeat' (first | with_reducible exact hK | (with_reducible refine callQ (ct) ?_; simp) | (with_reducible refine callQ (ce) ?_; simp) | (with_reducible refine goL_split (fun _ => ?_) (fun _ => ?_) <;> simp) | with_reducible refine And.intro ?_ ?_ | with_reducible exact okay_rfl rfl | with_reducible assumption | omega)
  refine W_cond rfl (fun h => ?_) (fun h => W_skip ?_)
  · first | (cases h; done) | (simp at h; done) | (simp at h; omega)
  refine W_seq (?_)
  apply W_regS
  · intro K hK
    simp
    repeat' (first | with_reducible exact hK | (with_reducible refine goL_split (fun _ => ?_) (fun _ => ?_) <;> simp) | with_reducible refine And.intro ?_ ?_ | with_reducible exact okay_rfl rfl | with_reducible assumption | omega)
  refine W_ret ?_
  simp [Fin]
  all_goals omega

end Go.Proofs.YtpbofdbleajagaaDoor.Ab

