/-
  A part of a proof about the given program; what is proved is said where each theorem stands.
-/
import Derived.Test.YtpbofdbleajagaaDoorFrameA
import Derived.Test.YtpbofdbleajagaaDoorFrameB
import Derived.Test.YtpbofdbleajagaaDoorFrameC
import Derived.Test.YtpbofdbleajagaaDoorFrameD
import Derived.Test.YtpbofdbleajagaaDoorFrameE
import Derived.Test.YtpbofdbleajagaaDoorShelf
import Derived.Test.YtpbofdbleajagaaDoorCodesA
import Derived.Test.YtpbofdbleajagaaDoorCodesB
import Derived.Test.YtpbofdbleajagaaDoorCodesC
import Derived.Test.YtpbofdbleajagaaDoorPartA
import Derived.Test.YtpbofdbleajagaaDoorPartB
import Derived.Test.YtpbofdbleajagaaDoorPartC
namespace Go.Proofs
end Go.Proofs
set_option linter.unusedSimpArgs false
set_option linter.unusedVariables false
set_option maxRecDepth 100000
set_option maxHeartbeats 2000000
namespace Go.Proofs.YtpbofdbleajagaaDoor.Ab
open Go.Proofs
variable {GG : GV}

def inB (x lo hi : Int) : Bool := decide (lo ≤ x) && decide (x ≤ hi)

def keyB (x : Int) : Bool := inB x 0 1099511627776

def noteOk (x : GNote) : Bool := inB x.fSeq 1 1000000000 && inB x.fAt 0 1000000000 && inB x.fWho 0 1000000000 && nameOk x.fWhat && pathOk x.fPath && inB x.fCode 0 99

theorem l04Key_ok (x : Int) : Valid PP GG F_S_l04Key [.d (.int .i64 x)] (.d (.bool (keyB x))) [none] := by
  refine v_S_l04Key [.d (.bool (keyB x))] rfl rfl ?_
  have cl : Valid PP GG F_S_l01In [.d (.int .i64 x), .d (.int .i64 0), .d (.int .i64 1099511627776)] (.d (.bool (keyB x))) [none, none, none] := l01In_ok x 0 1099511627776
  refine W_seq (?_)
  apply W_regS
  · intro K hK
    simp
    repeat' (first | with_reducible exact hK | (with_reducible refine goL_split (fun _ => ?_) (fun _ => ?_) <;> simp) | with_reducible refine And.intro ?_ ?_ | with_reducible exact okay_rfl rfl | omega)
  refine W_seq (?_)
  apply W_regS
  · intro K hK
    simp
    repeat' (first | with_reducible exact hK | (with_reducible refine callQ (cl) ?_; simp) | (with_reducible refine goL_split (fun _ => ?_) (fun _ => ?_) <;> simp) | with_reducible refine And.intro ?_ ?_ | with_reducible exact okay_rfl rfl | omega)
  refine W_ret ?_
  simp [Fin]
  all_goals omega

theorem isKey_ok (x : Int) : Valid PP GG F_I_isKey [.d (.int .i64 x)] (.d (.bool (keyB x))) [none] := by
  refine v_I_isKey [.d (.bool (keyB x))] rfl rfl ?_
  have cl : Valid PP GG F_I_within [.d (.int .i64 x), .d (.int .i64 0), .d (.int .i64 1099511627776)] (.d (.bool (keyB x))) [none, none, none] := within_ok x 0 1099511627776
  refine W_seq (?_)
  apply W_regS
  · intro K hK
    simp
    repeat' (first | with_reducible exact hK | (with_reducible refine goL_split (fun _ => ?_) (fun _ => ?_) <;> simp) | with_reducible refine And.intro ?_ ?_ | with_reducible exact okay_rfl rfl | omega)
  refine W_seq (?_)
  apply W_regS
  · intro K hK
    simp
    repeat' (first | with_reducible exact hK | (with_reducible refine callQ (cl) ?_; simp) | (with_reducible refine goL_split (fun _ => ?_) (fun _ => ?_) <;> simp) | with_reducible refine And.intro ?_ ?_ | with_reducible exact okay_rfl rfl | omega)
  refine W_ret ?_
  simp [Fin]
  all_goals omega

theorem isNote_ok [MaxL GG] (x : GNote) (hx : x.cost ≤ 1048576) : Valid PP GG F_I_isNote [.agg x.c] (.d (.bool (noteOk x))) [none] := by
  refine v_I_isNote [.d (.bool (noteOk x))] rfl rfl ?_
  have hco : x.cost = x.fWhat.length + x.fPath.length := rfl
  have c1 : Valid PP GG F_I_within [.d (.int .i64 x.fSeq), .d (.int .i64 1), .d (.int .i64 1000000000)] (.d (.bool (inB x.fSeq 1 1000000000))) [none, none, none] := within_ok _ _ _
  have c2 : Valid PP GG F_I_within [.d (.int .i64 x.fAt), .d (.int .i64 0), .d (.int .i64 1000000000)] (.d (.bool (inB x.fAt 0 1000000000))) [none, none, none] := within_ok _ _ _
  have c3 : Valid PP GG F_I_within [.d (.int .i64 x.fWho), .d (.int .i64 0), .d (.int .i64 1000000000)] (.d (.bool (inB x.fWho 0 1000000000))) [none, none, none] := within_ok _ _ _
  have c4 := isName_ok (GG := GG) x.fWhat (by omega)
  have c5 := isPath_ok (GG := GG) x.fPath (by omega)
  have c6 : Valid PP GG F_I_within [.d (.int .i64 x.fCode), .d (.int .i64 0), .d (.int .i64 99)] (.d (.bool (inB x.fCode 0 99))) [none, none, none] := within_ok _ _ _
  have hr : noteOk x = (inB x.fSeq 1 1000000000 && inB x.fAt 0 1000000000 && inB x.fWho 0 1000000000 && nameOk x.fWhat && pathOk x.fPath && inB x.fCode 0 99) := rfl
  generalize inB x.fSeq 1 1000000000 = p1 at c1 hr
  generalize inB x.fAt 0 1000000000 = p2 at c2 hr
  generalize inB x.fWho 0 1000000000 = p3 at c3 hr
  generalize nameOk x.fWhat = p4 at c4 hr
  generalize pathOk x.fPath = p5 at c5 hr
  generalize inB x.fCode 0 99 = p6 at c6 hr
  refine W_seq (?_)
  apply W_regS
  · intro K hK
    simp
    repeat' (first | with_reducible exact hK | (with_reducible refine goL_split (fun _ => ?_) (fun _ => ?_) <;> simp) | with_reducible refine And.intro ?_ ?_ | with_reducible exact okay_rfl rfl | omega)
  refine W_seq (?_)
  refine W_regB 2 (p1 && p2 && p3 && p4 && p5 && p6) (fun K hK => ?_) ?_
  · simp
    repeat' (first | exact hK _ _ (by clear hK; first | omega | (exact (decide_eq_true (by omega)).symm) | (exact (decide_eq_false (by omega)).symm) | (exact decide_eq_decide.2 (by omega)) | (simp [*]; done) | (simp [*]; omega) | (simp_all; done) | (simp_all; omega) | (rw [Bool.eq_iff_iff]; simp at *; omega)) | (with_reducible refine callQ (c1) ?_; simp) | (with_reducible refine callQ (c2) ?_; simp) | (with_reducible refine callQ (c3) ?_; simp) | (with_reducible refine callQ (c4) ?_; simp) | (with_reducible refine callQ (c5) ?_; simp) | (with_reducible refine callQ (c6) ?_; simp) | (with_reducible refine goL_split (fun _ => ?_) (fun _ => ?_) <;> simp) | with_reducible refine And.intro ?_ ?_ | with_reducible exact okay_rfl rfl | omega)
  refine W_ret ?_
  simp [Fin, hr]
  all_goals omega

end Go.Proofs.YtpbofdbleajagaaDoor.Ab


namespace Go.Proofs
end Go.Proofs
set_option linter.unusedSimpArgs false
set_option linter.unusedVariables false
set_option maxRecDepth 100000
set_option maxHeartbeats 2000000
namespace Go.Proofs.YtpbofdbleajagaaDoor.Ab
open Go.Proofs
variable {GG : GV}

def linkB (y x : GNote) : Bool := decide (x.fSeq = y.fSeq + 1 ∧ y.fAt ≤ x.fAt)

def linkAt (l : List GNote) (i : Nat) : Bool := match l[i]? with
  | none => true
  | some x => noteOk x && (match i with | 0 => true | j + 1 => match l[j]? with | some y => linkB y x | none => true)

def chainOk (c : GChain) : Bool := decide (0 ≤ c.fFirst) && keyB c.fSalt && decide (c.fNotes.length ≤ 120) && (List.range c.fNotes.length).all (linkAt c.fNotes)

theorem note_range {x : GNote} (h : noteOk x = true) : 1 ≤ x.fSeq ∧ x.fSeq ≤ 1000000000 := by
  simp only [noteOk, inB, Bool.and_eq_true, decide_eq_true_eq] at h
  exact h.1.1.1.1.1

theorem link_note {l : List GNote} {j : Nat} {y : GNote} (h : linkAt l j = true) (hy : l[j]? = some y) : noteOk y = true := by
  unfold linkAt at h
  rw [hy] at h
  simp only [Bool.and_eq_true] at h
  exact h.1

theorem range_step {p : Nat → Bool} {i : Nat} (hn : ∀ j, j < i → p j = true) (h : p i = true) : ∀ j, j < i + 1 → p j = true := fun j hj => by
  by_cases e : j = i
  · subst e; exact h
  · exact hn j (by omega)

theorem s_ChainOk_ok (c : GChain) (hc : c.cost ≤ 1048576) : Valid PP GG F_S_ChainOk [.agg c.c] (.d (.bool (chainOk c))) [none] := by
  refine v_S_ChainOk [.d (.bool (chainOk c))] rfl rfl ?_
  obtain ⟨f, k, l⟩ := c
  have hco : (GChain.mk f k l).cost = l.length + sumBy GNote.cost l := rfl
  have ck := l04Key_ok (GG := GG) k
  have hr : chainOk (GChain.mk f k l) = (decide (0 ≤ f) && keyB k && decide (l.length ≤ 120) && (List.range l.length).all (linkAt l)) := rfl
  generalize keyB k = p at ck hr
  obtain ⟨u, hu⟩ : ∃ u, decide (0 ≤ f) = u := ⟨_, rfl⟩
  obtain ⟨v, hv⟩ : ∃ v, decide (l.length ≤ 120) = v := ⟨_, rfl⟩
  have hu2 : decide (f < 0) = !u := by rw [← hu, ← decide_not]; exact decide_eq_decide.2 (by omega)
  have hv2 : decide (120 < (l.length : Int)) = !v := by rw [← hv, ← decide_not]; exact decide_eq_decide.2 (by omega)
  rw [hu, hv] at hr
  refine W_seq (?_)
  apply W_regS
  · intro K hK
    simp
    repeat' (first | with_reducible exact hK | (with_reducible refine goL_split (fun _ => ?_) (fun _ => ?_) <;> simp) | with_reducible refine And.intro ?_ ?_ | with_reducible exact okay_rfl rfl | omega)
  refine W_seq (W_seq (?_))
  refine W_regB 19 (!(u && p && v)) (fun K hK => ?_) ?_
  · simp [hu2, hv2]
    repeat' (first | exact hK _ _ (by clear hK; first | omega | (exact (decide_eq_true (by omega)).symm) | (exact (decide_eq_false (by omega)).symm) | (exact decide_eq_decide.2 (by omega)) | (simp [*]; done) | (simp [*]; omega) | (simp_all; done) | (simp_all; omega) | (rw [Bool.eq_iff_iff]; simp at *; omega)) | (with_reducible refine callQ (ck) ?_; simp [hu2, hv2]) | (with_reducible refine goL_split (fun _ => ?_) (fun _ => ?_) <;> simp [hu2, hv2]) | with_reducible refine And.intro ?_ ?_ | with_reducible exact okay_rfl rfl | omega)
  refine W_cond rfl (fun h => W_seq ?_) (fun h => W_skip ?_)
  · apply W_regS
    · intro K hK
      simp
      repeat' (first | with_reducible exact hK | (with_reducible refine goL_split (fun _ => ?_) (fun _ => ?_) <;> simp) | with_reducible refine And.intro ?_ ?_ | with_reducible exact okay_rfl rfl | omega)
    have : chainOk (GChain.mk f k l) = false := by rw [hr]; revert h; cases u <;> cases p <;> cases v <;> simp
    refine W_ret ?_
    simp [Fin, this]
    all_goals omega
  have hr2 : chainOk (GChain.mk f k l) = (List.range l.length).all (linkAt l) := by rw [hr]; revert h; cases u <;> cases p <;> cases v <;> simp
  refine W_seq (W_seq (?_))
  apply W_regS
  · intro K hK
    simp
    repeat' (first | with_reducible exact hK | (with_reducible refine goL_split (fun _ => ?_) (fun _ => ?_) <;> simp) | with_reducible refine And.intro ?_ ?_ | with_reducible exact okay_rfl rfl | omega)
  refine W_block (W_loop (fun n st => ∃ i : Nat, n = l.length - i ∧ i ≤ l.length ∧ (∀ j, j < i → linkAt l j = true) ∧
    st = ⟨[], [(1, .ptr 0 0), (3, .d (.int .i64 i))], [(0, .box [.d (.int .i64 f), .d (.int .i64 k), .d (.slc 7 (rNote l))])], 1⟩) _ ⟨0, rfl, by omega, fun j h => by omega, rfl⟩ ?_)
  rintro n st ⟨i, rfl, hi, hn, rfl⟩
  refine W_seq (W_seq (?_))
  apply W_regS
  · intro K hK
    simp
    repeat' (first | with_reducible exact hK | (with_reducible refine goL_split (fun _ => ?_) (fun _ => ?_) <;> simp) | with_reducible refine And.intro ?_ ?_ | with_reducible exact okay_rfl rfl | omega)
  refine W_cond rfl (fun h2 => W_skip ?_) (fun h2 => W_exit ?_)
  · simp at h2
    have ha := List.getElem?_eq_getElem h2
    generalize l[i] = x at ha
    have hg := sumBy_get (f := GNote.cost) ha
    have hcx : x.cost = x.fWhat.length + x.fPath.length := rfl
    refine W_seq (W_block (W_seq ?_))
    apply W_regS
    · intro K hK
      simp [ha]
      repeat' (first | with_reducible exact hK | (with_reducible refine goL_split (fun _ => ?_) (fun _ => ?_) <;> simp [ha]) | with_reducible refine And.intro ?_ ?_ | with_reducible exact okay_rfl rfl | omega)
    have c1 : Valid PP GG F_S_l01In [.d (.int .i64 x.fSeq), .d (.int .i64 1), .d (.int .i64 1000000000)] (.d (.bool (inB x.fSeq 1 1000000000))) [none, none, none] := l01In_ok _ _ _
    have c2 : Valid PP GG F_S_l01In [.d (.int .i64 x.fAt), .d (.int .i64 0), .d (.int .i64 1000000000)] (.d (.bool (inB x.fAt 0 1000000000))) [none, none, none] := l01In_ok _ _ _
    have c3 : Valid PP GG F_S_l01In [.d (.int .i64 x.fWho), .d (.int .i64 0), .d (.int .i64 1000000000)] (.d (.bool (inB x.fWho 0 1000000000))) [none, none, none] := l01In_ok _ _ _
    have c4 := l01Name_ok (GG := GG) x.fWhat (by omega)
    have c5 := s_PathOk_ok (GG := GG) x.fPath (by omega)
    have c6 : Valid PP GG F_S_l01In [.d (.int .i64 x.fCode), .d (.int .i64 0), .d (.int .i64 99)] (.d (.bool (inB x.fCode 0 99))) [none, none, none] := l01In_ok _ _ _
    have hno : noteOk x = (inB x.fSeq 1 1000000000 && inB x.fAt 0 1000000000 && inB x.fWho 0 1000000000 && nameOk x.fWhat && pathOk x.fPath && inB x.fCode 0 99) := rfl
    generalize inB x.fSeq 1 1000000000 = p1 at c1 hno
    generalize inB x.fAt 0 1000000000 = p2 at c2 hno
    generalize inB x.fWho 0 1000000000 = p3 at c3 hno
    generalize nameOk x.fWhat = p4 at c4 hno
    generalize pathOk x.fPath = p5 at c5 hno
    generalize inB x.fCode 0 99 = p6 at c6 hno
    refine W_seq (W_seq (?_))
    refine W_regB 65 (!(p1 && p2 && p3 && p4 && p5 && p6)) (fun K hK => ?_) ?_
    · simp
      repeat' (first | exact hK _ _ (by clear hK; first | omega | (exact (decide_eq_true (by omega)).symm) | (exact (decide_eq_false (by omega)).symm) | (exact decide_eq_decide.2 (by omega)) | (simp [*]; done) | (simp [*]; omega) | (simp_all; done) | (simp_all; omega) | (rw [Bool.eq_iff_iff]; simp at *; omega)) | (with_reducible refine callQ (c1) ?_; simp) | (with_reducible refine callQ (c2) ?_; simp) | (with_reducible refine callQ (c3) ?_; simp) | (with_reducible refine callQ (c4) ?_; simp) | (with_reducible refine callQ (c5) ?_; simp) | (with_reducible refine callQ (c6) ?_; simp) | (with_reducible refine goL_split (fun _ => ?_) (fun _ => ?_) <;> simp) | with_reducible refine And.intro ?_ ?_ | with_reducible exact okay_rfl rfl | omega)
    rw [← hno]
    clear c1 c2 c3 c4 c5 c6
    generalize hq : noteOk x = q
    refine W_cond rfl (fun h3 => W_seq ?_) (fun h3 => W_skip ?_)
    · apply W_regS
      · intro K hK
        simp
        repeat' (first | with_reducible exact hK | (with_reducible refine goL_split (fun _ => ?_) (fun _ => ?_) <;> simp) | with_reducible refine And.intro ?_ ?_ | with_reducible exact okay_rfl rfl | omega)
      have : chainOk (GChain.mk f k l) = false := by
        rw [hr2]
        exact range_no (i := i) (by omega) (by unfold linkAt; rw [ha]; simp only; rw [hq]; revert h3; cases q <;> simp)
      refine W_ret ?_
      simp [Fin, this]
      all_goals omega
    have hq1 : q = true := by revert h3; cases q <;> simp
    subst hq1
    cases i with
    | zero =>
      refine W_seq (?_)
      refine W_regBD 92 (false) (fun K hK => ?_) ?_
      · simp [ha]
        repeat' (first | exact hK _ _ (by clear hK; first | omega | (exact (decide_eq_true (by omega)).symm) | (exact (decide_eq_false (by omega)).symm) | (exact decide_eq_decide.2 (by omega)) | (simp [*]; done) | (simp [*]; omega) | (simp_all; done) | (simp_all; omega) | (rw [Bool.eq_iff_iff]; simp at *; omega)) | (with_reducible refine goL_split (fun _ => ?_) (fun _ => ?_) <;> simp [ha]) | with_reducible refine And.intro ?_ ?_ | with_reducible exact okay_rfl rfl | omega)
      refine W_cond rfl (fun h4 => ?_) (fun h4 => W_skip ?_)
      · cases h4
      apply W_regS
      · intro K hK
        simp
        repeat' (first | with_reducible exact hK | (with_reducible refine goL_split (fun _ => ?_) (fun _ => ?_) <;> simp) | with_reducible refine And.intro ?_ ?_ | with_reducible exact okay_rfl rfl | omega)
      exact ⟨l.length - (0 + 1), by omega, 0 + 1, rfl, h2, range_step hn (by unfold linkAt; rw [ha]; simp only; rw [hq]; rfl), by simp [gc, closeN, liveA, gcV, gcO, renA, renAs, renO, namesAs, namesA, namesO, posn]; exact wrap_id (by omega) (by omega)⟩
    | succ j =>
      have hb := List.getElem?_eq_getElem (show j < l.length by omega)
      generalize l[j]'_ = y at hb
      have hy := note_range (link_note (hn j (by omega)) hb)
      have hw1 : IntKind.i64.wrap (j : Int) = j := wrap_id (by omega) (by omega)
      have hw2 : IntKind.i64.wrap (y.fSeq + 1) = y.fSeq + 1 := wrap_id (by omega) (by omega)
      have hlk : linkAt l (j + 1) = decide (x.fSeq = y.fSeq + 1 ∧ y.fAt ≤ x.fAt) := by unfold linkAt; rw [ha]; simp only [hq, hb, linkB, Bool.true_and]
      have hlt : j < l.length := by omega
      refine W_seq (?_)
      refine W_regBD 92 (decide (¬ (x.fSeq = y.fSeq + 1 ∧ y.fAt ≤ x.fAt))) (fun K hK => ?_) ?_
      · simp [ha, hb, hw1, hw2]
        repeat' (first | exact hK _ _ (by clear hK; first | omega | (exact (decide_eq_true (by omega)).symm) | (exact (decide_eq_false (by omega)).symm) | (exact decide_eq_decide.2 (by omega)) | (simp [*]; done) | (simp [*]; omega) | (simp_all; done) | (simp_all; omega) | (rw [Bool.eq_iff_iff]; simp at *; omega)) | (with_reducible refine goL_split (fun _ => ?_) (fun _ => ?_) <;> simp [ha, hb, hw1, hw2]) | with_reducible refine And.intro ?_ ?_ | with_reducible exact okay_rfl rfl | omega)
      refine W_cond rfl (fun h4 => W_seq ?_) (fun h4 => W_skip ?_)
      · rw [h4]
        apply W_regS
        · intro K hK
          simp
          repeat' (first | with_reducible exact hK | (with_reducible refine goL_split (fun _ => ?_) (fun _ => ?_) <;> simp) | with_reducible refine And.intro ?_ ?_ | with_reducible exact okay_rfl rfl | omega)
        have : chainOk (GChain.mk f k l) = false := by
          rw [hr2]
          exact range_no (i := j + 1) (by omega) (by rw [hlk]; exact decide_eq_false (of_decide_eq_true h4))
        refine W_ret ?_
        simp [Fin, this]
        all_goals omega
      rw [h4]
      apply W_regS
      · intro K hK
        simp
        repeat' (first | with_reducible exact hK | (with_reducible refine goL_split (fun _ => ?_) (fun _ => ?_) <;> simp) | with_reducible refine And.intro ?_ ?_ | with_reducible exact okay_rfl rfl | omega)
      refine ⟨l.length - (j + 1 + 1), by omega, j + 1 + 1, rfl, h2, range_step hn (by rw [hlk]; exact decide_eq_true (Decidable.not_not.1 (of_decide_eq_false h4))), ?_⟩
      simp [gc, closeN, liveA, gcV, gcO, renA, renAs, renO, namesAs, namesA, namesO, posn]
      rw [wrap_id (by omega) (by omega)]
  · simp at h2
    rw [if_pos rfl]
    refine W_seq (?_)
    apply W_regS
    · intro K hK
      simp
      repeat' (first | with_reducible exact hK | (with_reducible refine goL_split (fun _ => ?_) (fun _ => ?_) <;> simp) | with_reducible refine And.intro ?_ ?_ | with_reducible exact okay_rfl rfl | omega)
    have : chainOk (GChain.mk f k l) = true := by
      rw [hr2]; exact List.all_eq_true.2 fun j hj => hn j (by have := List.mem_range.1 hj; omega)
    refine W_ret ?_
    simp [Fin, this]
    all_goals omega

end Go.Proofs.YtpbofdbleajagaaDoor.Ab


namespace Go.Proofs
end Go.Proofs
set_option linter.unusedSimpArgs false
set_option linter.unusedVariables false
set_option maxRecDepth 100000
set_option maxHeartbeats 2000000
namespace Go.Proofs.YtpbofdbleajagaaDoor.Ab
open Go.Proofs
variable {GG : GV}

theorem isChain_ok [MaxL GG] (c : GChain) (hc : c.cost ≤ 1048576) : Valid PP GG F_I_isChain [.agg c.c] (.d (.bool (chainOk c))) [none] := by
  refine v_I_isChain [.d (.bool (chainOk c))] rfl rfl ?_
  obtain ⟨f, k, l⟩ := c
  have hco : (GChain.mk f k l).cost = l.length + sumBy GNote.cost l := rfl
  have ck := isKey_ok (GG := GG) k
  have hr : chainOk (GChain.mk f k l) = (decide (0 ≤ f) && keyB k && decide (l.length ≤ 120) && (List.range l.length).all (linkAt l)) := rfl
  generalize keyB k = p at ck hr
  obtain ⟨u, hu⟩ : ∃ u, decide (0 ≤ f) = u := ⟨_, rfl⟩
  obtain ⟨v, hv⟩ : ∃ v, decide (l.length ≤ 120) = v := ⟨_, rfl⟩
  have hv2 : decide ((l.length : Int) ≤ 120) = v := by rw [← hv]; exact decide_eq_decide.2 (by omega)
  rw [hu, hv] at hr
  refine W_seq (?_)
  apply W_regS
  · intro K hK
    simp
    repeat' (first | with_reducible exact hK | (with_reducible refine goL_split (fun _ => ?_) (fun _ => ?_) <;> simp) | with_reducible refine And.intro ?_ ?_ | with_reducible exact okay_rfl rfl | omega)
  refine W_seq (W_seq (?_))
  apply W_regS
  · intro K hK
    simp
    repeat' (first | with_reducible exact hK | (with_reducible refine goL_split (fun _ => ?_) (fun _ => ?_) <;> simp) | with_reducible refine And.intro ?_ ?_ | with_reducible exact okay_rfl rfl | omega)
  refine W_block (W_loop (fun n st => ∃ i : Nat, n = l.length - i ∧ i ≤ l.length ∧ (∀ j, j < i → linkAt l j = true) ∧
    st = ⟨[], [(1, .ptr 0 0), (6, .d (.slc 7 (rNote l))), (7, .d (.int .i64 l.length)), (8, .d (.int .i64 i))], [(0, .box [.d (.int .i64 f), .d (.int .i64 k), .d (.slc 7 (rNote l))])], 1⟩) _ ⟨0, rfl, by omega, fun j h => by omega, rfl⟩ ?_)
  rintro n st ⟨i, rfl, hi, hn, rfl⟩
  refine W_seq (?_)
  apply W_regS
  · intro K hK
    simp
    repeat' (first | with_reducible exact hK | (with_reducible refine goL_split (fun _ => ?_) (fun _ => ?_) <;> simp) | with_reducible refine And.intro ?_ ?_ | with_reducible exact okay_rfl rfl | omega)
  refine W_seq (?_)
  refine W_cond rfl (fun h2 => W_skip ?_) (fun h2 => W_exit ?_)
  · simp at h2
    have ha := List.getElem?_eq_getElem h2
    generalize l[i] = x at ha
    have hg := sumBy_get (f := GNote.cost) ha
    have c1 := isNote_ok (GG := GG) x (by omega)
    refine W_seq (W_block (W_seq ?_))
    apply W_regS
    · intro K hK
      simp [ha]
      repeat' (first | with_reducible exact hK | (with_reducible refine goL_split (fun _ => ?_) (fun _ => ?_) <;> simp [ha]) | with_reducible refine And.intro ?_ ?_ | with_reducible exact okay_rfl rfl | omega)
    refine W_seq (?_)
    cases hq : noteOk x with
    | false =>
      rw [hq] at c1
      refine W_regBD 44 (true) (fun K hK => ?_) ?_
      · simp
        repeat' (first | exact hK _ _ (by clear hK; first | omega | (exact (decide_eq_true (by omega)).symm) | (exact (decide_eq_false (by omega)).symm) | (exact decide_eq_decide.2 (by omega)) | (simp [*]; done) | (simp [*]; omega) | (simp_all; done) | (simp_all; omega) | (rw [Bool.eq_iff_iff]; simp at *; omega)) | (with_reducible refine callQ (c1) ?_; simp) | (with_reducible refine goL_split (fun _ => ?_) (fun _ => ?_) <;> simp) | with_reducible refine And.intro ?_ ?_ | with_reducible exact okay_rfl rfl | omega)
      refine W_cond rfl (fun h3 => W_seq ?_) (fun h3 => ?_)
      rotate_left
      · cases h3
      apply W_regS
      · intro K hK
        simp
        repeat' (first | with_reducible exact hK | (with_reducible refine goL_split (fun _ => ?_) (fun _ => ?_) <;> simp) | with_reducible refine And.intro ?_ ?_ | with_reducible exact okay_rfl rfl | omega)
      have : chainOk (GChain.mk f k l) = false := by
        rw [hr, range_no (i := i) (by omega) (by unfold linkAt; rw [ha]; simp only; rw [hq]; rfl), Bool.and_false]
      refine W_ret ?_
      simp [Fin, this]
      all_goals omega
    | true =>
      rw [hq] at c1
      cases i with
      | zero =>
        refine W_regBD 44 (false) (fun K hK => ?_) ?_
        · simp
          repeat' (first | exact hK _ _ (by clear hK; first | omega | (exact (decide_eq_true (by omega)).symm) | (exact (decide_eq_false (by omega)).symm) | (exact decide_eq_decide.2 (by omega)) | (simp [*]; done) | (simp [*]; omega) | (simp_all; done) | (simp_all; omega) | (rw [Bool.eq_iff_iff]; simp at *; omega)) | (with_reducible refine callQ (c1) ?_; simp) | (with_reducible refine goL_split (fun _ => ?_) (fun _ => ?_) <;> simp) | with_reducible refine And.intro ?_ ?_ | with_reducible exact okay_rfl rfl | omega)
        refine W_cond rfl (fun h4 => ?_) (fun h4 => W_skip ?_)
        · cases h4
        apply W_regS
        · intro K hK
          simp
          repeat' (first | with_reducible exact hK | (with_reducible refine goL_split (fun _ => ?_) (fun _ => ?_) <;> simp) | with_reducible refine And.intro ?_ ?_ | with_reducible exact okay_rfl rfl | omega)
        exact ⟨l.length - (0 + 1), by omega, 0 + 1, rfl, h2, range_step hn (by unfold linkAt; rw [ha]; simp only; rw [hq]; rfl), by simp [gc, closeN, liveA, gcV, gcO, renA, renAs, renO, namesAs, namesA, namesO, posn]; exact wrap_id (by omega) (by omega)⟩
      | succ j =>
        have hb := List.getElem?_eq_getElem (show j < l.length by omega)
        generalize l[j]'_ = y at hb
        have hy := note_range (link_note (hn j (by omega)) hb)
        have hw1 : IntKind.i64.wrap (j : Int) = j := wrap_id (by omega) (by omega)
        have hw2 : IntKind.i64.wrap (y.fSeq + 1) = y.fSeq + 1 := wrap_id (by omega) (by omega)
        have hlk : linkAt l (j + 1) = decide (x.fSeq = y.fSeq + 1 ∧ y.fAt ≤ x.fAt) := by unfold linkAt; rw [ha]; simp only [hq, hb, linkB, Bool.true_and]
        have hlt : j < l.length := by omega
        refine W_regBD 44 (decide (¬ (x.fSeq = y.fSeq + 1 ∧ y.fAt ≤ x.fAt))) (fun K hK => ?_) ?_
        · simp [ha, hb, hw1, hw2]
          repeat' (first | exact hK _ _ (by clear hK; first | omega | (exact (decide_eq_true (by omega)).symm) | (exact (decide_eq_false (by omega)).symm) | (exact decide_eq_decide.2 (by omega)) | (simp [*]; done) | (simp [*]; omega) | (simp_all; done) | (simp_all; omega) | (rw [Bool.eq_iff_iff]; simp at *; omega)) | (with_reducible refine callQ (c1) ?_; simp [ha, hb, hw1, hw2]) | (with_reducible refine goL_split (fun _ => ?_) (fun _ => ?_) <;> simp [ha, hb, hw1, hw2]) | with_reducible refine And.intro ?_ ?_ | with_reducible exact okay_rfl rfl | omega)
        refine W_cond rfl (fun h4 => W_seq ?_) (fun h4 => W_skip ?_)
        · rw [h4]
          apply W_regS
          · intro K hK
            simp
            repeat' (first | with_reducible exact hK | (with_reducible refine goL_split (fun _ => ?_) (fun _ => ?_) <;> simp) | with_reducible refine And.intro ?_ ?_ | with_reducible exact okay_rfl rfl | omega)
          have : chainOk (GChain.mk f k l) = false := by
            rw [hr, range_no (i := j + 1) (by omega) (by rw [hlk]; exact decide_eq_false (of_decide_eq_true h4)), Bool.and_false]
          refine W_ret ?_
          simp [Fin, this]
          all_goals omega
        rw [h4]
        apply W_regS
        · intro K hK
          simp
          repeat' (first | with_reducible exact hK | (with_reducible refine goL_split (fun _ => ?_) (fun _ => ?_) <;> simp) | with_reducible refine And.intro ?_ ?_ | with_reducible exact okay_rfl rfl | omega)
        refine ⟨l.length - (j + 1 + 1), by omega, j + 1 + 1, rfl, h2, range_step hn (by rw [hlk]; exact decide_eq_true (Decidable.not_not.1 (of_decide_eq_false h4))), ?_⟩
        simp [gc, closeN, liveA, gcV, gcO, renA, renAs, renO, namesAs, namesA, namesO, posn]
        rw [wrap_id (by omega) (by omega)]
  · simp at h2
    rw [if_pos rfl]
    have hall : (List.range l.length).all (linkAt l) = true := List.all_eq_true.2 fun j hj => hn j (by have := List.mem_range.1 hj; omega)
    rw [hall, Bool.and_true] at hr
    refine W_seq (?_)
    refine W_regB 2 (u && p && v) (fun K hK => ?_) ?_
    · simp [hu, hv2]
      repeat' (first | exact hK _ _ (by clear hK; first | omega | (exact (decide_eq_true (by omega)).symm) | (exact (decide_eq_false (by omega)).symm) | (exact decide_eq_decide.2 (by omega)) | (simp [*]; done) | (simp [*]; omega) | (simp_all; done) | (simp_all; omega) | (rw [Bool.eq_iff_iff]; simp at *; omega)) | (with_reducible refine callQ (ck) ?_; simp [hu, hv2]) | (with_reducible refine goL_split (fun _ => ?_) (fun _ => ?_) <;> simp [hu, hv2]) | with_reducible refine And.intro ?_ ?_ | with_reducible exact okay_rfl rfl | omega)
    refine W_ret ?_
    simp [Fin, hr]
    all_goals omega

theorem i_ChainOk_ok [MaxL GG] (c : GChain) (hc : c.cost ≤ 1048576) : Valid PP GG F_I_ChainOk [.agg c.c] (.d (.bool (chainOk c))) [none] := by
  refine v_I_ChainOk [.d (.bool (chainOk c))] rfl rfl ?_
  have cc := isChain_ok (GG := GG) c hc
  generalize chainOk c = b at cc ⊢
  refine W_seq (?_)
  apply W_regS
  · intro K hK
    simp
    repeat' (first | with_reducible exact hK | (with_reducible refine goL_split (fun _ => ?_) (fun _ => ?_) <;> simp) | with_reducible refine And.intro ?_ ?_ | with_reducible exact okay_rfl rfl | omega)
  refine W_seq (?_)
  apply W_regS
  · intro K hK
    simp
    repeat' (first | with_reducible exact hK | (with_reducible refine callQ (cc) ?_; simp) | (with_reducible refine goL_split (fun _ => ?_) (fun _ => ?_) <;> simp) | with_reducible refine And.intro ?_ ?_ | with_reducible exact okay_rfl rfl | omega)
  refine W_ret ?_
  simp [Fin]
  all_goals omega

end Go.Proofs.YtpbofdbleajagaaDoor.Ab


namespace Go.Proofs
end Go.Proofs
set_option linter.unusedSimpArgs false
set_option linter.unusedVariables false
set_option maxRecDepth 100000
set_option maxHeartbeats 2000000
namespace Go.Proofs.YtpbofdbleajagaaDoor.Ab
open Go.Proofs
variable {GG : GV}

def headV (c : GChain) : Int := if chainOk c = true then (match c.fNotes.getLast? with | some x => x.fSum | none => c.fFirst) else -1

theorem last_get {α : Type} {l : List α} {x : α} {n : Nat} (h : l.length = n + 1) (hx : l[n]? = some x) : l.getLast? = some x := by
  rw [List.getLast?_eq_getElem?, h]; exact hx

theorem s_HeadOf_ok (c : GChain) (hc : c.cost ≤ 1048576) : Valid PP GG F_S_HeadOf [.agg c.c] (.d (.int .i64 (headV c))) [none] := by
  refine v_S_HeadOf [.d (.int .i64 (headV c))] rfl rfl ?_
  have cc := s_ChainOk_ok (GG := GG) c hc
  have hr : headV c = if chainOk c = true then (match c.fNotes.getLast? with | some x => x.fSum | none => c.fFirst) else -1 := rfl
  obtain ⟨f, k, l⟩ := c
  have hco : (GChain.mk f k l).cost = l.length + sumBy GNote.cost l := rfl
  generalize chainOk (GChain.mk f k l) = b at cc hr
  simp only at hr
  refine W_seq (?_)
  apply W_regS
  · intro K hK
    simp
    repeat' (first | with_reducible exact hK | (with_reducible refine goL_split (fun _ => ?_) (fun _ => ?_) <;> simp) | with_reducible refine And.intro ?_ ?_ | with_reducible exact okay_rfl rfl | omega)
  refine W_seq (W_seq (?_))
  apply W_regS
  · intro K hK
    simp
    repeat' (first | with_reducible exact hK | (with_reducible refine callQ (cc) ?_; simp) | (with_reducible refine goL_split (fun _ => ?_) (fun _ => ?_) <;> simp) | with_reducible refine And.intro ?_ ?_ | with_reducible exact okay_rfl rfl | omega)
  refine W_cond rfl (fun h => W_seq ?_) (fun h => W_skip ?_)
  · simp at h
    subst h
    apply W_regS
    · intro K hK
      simp
      repeat' (first | with_reducible exact hK | (with_reducible refine goL_split (fun _ => ?_) (fun _ => ?_) <;> simp) | with_reducible refine And.intro ?_ ?_ | with_reducible exact okay_rfl rfl | omega)
    rw [if_neg (by simp)] at hr
    refine W_ret ?_
    simp [Fin, hr]
    all_goals omega
  simp at h
  subst h
  rw [if_pos rfl] at hr
  cases hl : l with
  | nil =>
    subst hl
    refine W_seq (W_seq (?_))
    apply W_regS
    · intro K hK
      simp [rNote]
      repeat' (first | with_reducible exact hK | (with_reducible refine goL_split (fun _ => ?_) (fun _ => ?_) <;> simp [rNote]) | with_reducible refine And.intro ?_ ?_ | with_reducible exact okay_rfl rfl | omega)
    refine W_cond rfl (fun h => W_seq ?_) (fun h => ?_)
    rotate_left
    · simp at h
    apply W_regS
    · intro K hK
      simp
      repeat' (first | with_reducible exact hK | (with_reducible refine goL_split (fun _ => ?_) (fun _ => ?_) <;> simp) | with_reducible refine And.intro ?_ ?_ | with_reducible exact okay_rfl rfl | omega)
    refine W_ret ?_
    simp [Fin, hr]
    all_goals omega
  | cons z r =>
    have ha := List.getElem?_eq_getElem (show r.length < (z :: r).length by simp)
    generalize (z :: r)[r.length]'_ = x at ha
    have hlast : l.getLast? = some x := last_get (n := r.length) (by rw [hl]; simp) (by rw [hl]; exact ha)
    have hlen : l.length = r.length + 1 := by rw [hl]; simp
    rw [← hl] at ha ⊢
    rw [hlast] at hr
    simp only at hr
    clear hl
    have hw : IntKind.i64.wrap ((l.length : Int) - 1) = (r.length : Int) := by rw [wrap_id (by omega) (by omega)]; omega
    refine W_seq (W_seq (?_))
    apply W_regS
    · intro K hK
      simp
      repeat' (first | with_reducible exact hK | (with_reducible refine goL_split (fun _ => ?_) (fun _ => ?_) <;> simp) | with_reducible refine And.intro ?_ ?_ | with_reducible exact okay_rfl rfl | omega)
    refine W_cond rfl (fun h => W_seq ?_) (fun h => W_skip ?_)
    · simp at h; subst h; simp at hlen
    refine W_seq (?_)
    apply W_regS
    · intro K hK
      simp [hw, ha]
      repeat' (first | with_reducible exact hK | (with_reducible refine goL_split (fun _ => ?_) (fun _ => ?_) <;> simp [hw, ha]) | with_reducible refine And.intro ?_ ?_ | with_reducible exact okay_rfl rfl | omega)
    refine W_ret ?_
    simp [Fin, hr]
    all_goals omega

theorem headOf_ok (c : GChain) (hc : c.cost ≤ 1048576) : Valid PP GG F_I_headOf [.agg c.c] (.d (.int .i64 (match c.fNotes.getLast? with | some x => x.fSum | none => c.fFirst))) [none] := by
  refine v_I_headOf [.d (.int .i64 (match c.fNotes.getLast? with | some x => x.fSum | none => c.fFirst))] rfl rfl ?_
  obtain ⟨f, k, l⟩ := c
  have hco : (GChain.mk f k l).cost = l.length + sumBy GNote.cost l := rfl
  simp only
  obtain ⟨v, hr⟩ : ∃ v, (match l.getLast? with | some x => x.fSum | none => f) = v := ⟨_, rfl⟩
  rw [hr]
  refine W_seq (?_)
  apply W_regS
  · intro K hK
    simp
    repeat' (first | with_reducible exact hK | (with_reducible refine goL_split (fun _ => ?_) (fun _ => ?_) <;> simp) | with_reducible refine And.intro ?_ ?_ | with_reducible exact okay_rfl rfl | omega)
  cases hl : l with
  | nil =>
    subst hl
    refine W_seq (W_seq (?_))
    apply W_regS
    · intro K hK
      simp [rNote]
      repeat' (first | with_reducible exact hK | (with_reducible refine goL_split (fun _ => ?_) (fun _ => ?_) <;> simp [rNote]) | with_reducible refine And.intro ?_ ?_ | with_reducible exact okay_rfl rfl | omega)
    refine W_cond rfl (fun h => W_seq ?_) (fun h => ?_)
    rotate_left
    · simp at h
    apply W_regS
    · intro K hK
      simp
      repeat' (first | with_reducible exact hK | (with_reducible refine goL_split (fun _ => ?_) (fun _ => ?_) <;> simp) | with_reducible refine And.intro ?_ ?_ | with_reducible exact okay_rfl rfl | omega)
    refine W_ret ?_
    simp [Fin, ← hr]
    all_goals omega
  | cons z r =>
    have ha := List.getElem?_eq_getElem (show r.length < (z :: r).length by simp)
    generalize (z :: r)[r.length]'_ = x at ha
    have hlast : l.getLast? = some x := last_get (n := r.length) (by rw [hl]; simp) (by rw [hl]; exact ha)
    have hlen : l.length = r.length + 1 := by rw [hl]; simp
    rw [← hl] at ha ⊢
    rw [hlast] at hr
    simp only at hr
    clear hl
    have hw : IntKind.i64.wrap ((l.length : Int) - 1) = (r.length : Int) := by rw [wrap_id (by omega) (by omega)]; omega
    refine W_seq (W_seq (?_))
    apply W_regS
    · intro K hK
      simp
      repeat' (first | with_reducible exact hK | (with_reducible refine goL_split (fun _ => ?_) (fun _ => ?_) <;> simp) | with_reducible refine And.intro ?_ ?_ | with_reducible exact okay_rfl rfl | omega)
    refine W_cond rfl (fun h => W_seq ?_) (fun h => W_skip ?_)
    · simp at h; subst h; simp at hlen
    refine W_seq (?_)
    apply W_regS
    · intro K hK
      simp [hw, ha]
      repeat' (first | with_reducible exact hK | (with_reducible refine goL_split (fun _ => ?_) (fun _ => ?_) <;> simp [hw, ha]) | with_reducible refine And.intro ?_ ?_ | with_reducible exact okay_rfl rfl | omega)
    refine W_ret ?_
    simp [Fin, hr]
    all_goals omega

theorem i_HeadOf_ok [MaxL GG] (c : GChain) (hc : c.cost ≤ 1048576) : Valid PP GG F_I_HeadOf [.agg c.c] (.d (.int .i64 (headV c))) [none] := by
  refine v_I_HeadOf [.d (.int .i64 (headV c))] rfl rfl ?_
  have cc := isChain_ok (GG := GG) c hc
  have ch := headOf_ok (GG := GG) c hc
  have hr : headV c = if chainOk c = true then (match c.fNotes.getLast? with | some x => x.fSum | none => c.fFirst) else -1 := rfl
  generalize (match c.fNotes.getLast? with | some x => x.fSum | none => c.fFirst) = v at ch hr
  generalize chainOk c = b at cc hr
  refine W_seq (?_)
  apply W_regS
  · intro K hK
    simp
    repeat' (first | with_reducible exact hK | (with_reducible refine goL_split (fun _ => ?_) (fun _ => ?_) <;> simp) | with_reducible refine And.intro ?_ ?_ | with_reducible exact okay_rfl rfl | omega)
  refine W_seq (W_seq (?_))
  apply W_regS
  · intro K hK
    simp
    repeat' (first | with_reducible exact hK | (with_reducible refine callQ (cc) ?_; simp) | (with_reducible refine goL_split (fun _ => ?_) (fun _ => ?_) <;> simp) | with_reducible refine And.intro ?_ ?_ | with_reducible exact okay_rfl rfl | omega)
  refine W_cond rfl (fun h => W_seq ?_) (fun h => W_skip ?_)
  · simp at h
    subst h
    apply W_regS
    · intro K hK
      simp
      repeat' (first | with_reducible exact hK | (with_reducible refine goL_split (fun _ => ?_) (fun _ => ?_) <;> simp) | with_reducible refine And.intro ?_ ?_ | with_reducible exact okay_rfl rfl | omega)
    rw [if_neg (by simp)] at hr
    refine W_ret ?_
    simp [Fin, hr]
    all_goals omega
  simp at h
  subst h
  rw [if_pos rfl] at hr
  refine W_seq (?_)
  apply W_regS
  · intro K hK
    simp
    repeat' (first | with_reducible exact hK | (with_reducible refine callQ (ch) ?_; simp) | (with_reducible refine goL_split (fun _ => ?_) (fun _ => ?_) <;> simp) | with_reducible refine And.intro ?_ ?_ | with_reducible exact okay_rfl rfl | omega)
  refine W_ret ?_
  simp [Fin, hr]
  all_goals omega

end Go.Proofs.YtpbofdbleajagaaDoor.Ab


namespace Go.Proofs
end Go.Proofs
set_option linter.unusedSimpArgs false
set_option linter.unusedVariables false
set_option maxRecDepth 100000
set_option maxHeartbeats 2000000
namespace Go.Proofs.YtpbofdbleajagaaDoor.Ab
open Go.Proofs
variable {GG : GV}

theorem law_ChainOk [MaxL GG] (c : GChain) (hok : c.ok) : Valid PP GG F_L_FnExactChainOk [.agg c.c] (.d (.bool true)) [none] := by
  refine v_L_FnExactChainOk [.d (.bool true)] rfl rfl ?_
  refine W_seq (?_)
  apply W_regS
  · intro K hK
    simp
    repeat' (first | with_reducible exact hK | (with_reducible refine goL_split (fun _ => ?_) (fun _ => ?_) <;> simp) | with_reducible refine And.intro ?_ ?_ | with_reducible exact okay_rfl rfl | omega)
  refine W_seq (?_)
  apply W_regS
  · intro K hK
    simp
    repeat' (first | with_reducible exact hK | (with_reducible refine goL_split (fun _ => ?_) (fun _ => ?_) <;> simp) | with_reducible refine And.intro ?_ ?_ | with_reducible exact okay_rfl rfl | omega)
  refine W_seq (?_)
  apply W_regS
  · intro K hK
    simp
    repeat' (first | with_reducible exact hK | (with_reducible refine callQ (szChain_g c 1048576 hok ⟨by omega, by omega⟩) ?_; simp) | (with_reducible refine goL_split (fun _ => ?_) (fun _ => ?_) <;> simp) | with_reducible refine And.intro ?_ ?_ | with_reducible exact okay_rfl rfl | omega)
  refine W_seq (?_)
  refine W_seq (?_)
  apply W_regS
  · intro K hK
    simp
    repeat' (first | with_reducible exact hK | (with_reducible refine goL_split (fun _ => ?_) (fun _ => ?_) <;> simp) | with_reducible refine And.intro ?_ ?_ | with_reducible exact okay_rfl rfl | omega)
  refine W_cond rfl (fun h => W_seq ?_) (fun h => W_skip ?_)
  · apply W_regS
    · intro K hK
      simp
      repeat' (first | with_reducible exact hK | (with_reducible refine goL_split (fun _ => ?_) (fun _ => ?_) <;> simp) | with_reducible refine And.intro ?_ ?_ | with_reducible exact okay_rfl rfl | omega)
    refine W_ret ?_
    simp [Fin]
    all_goals omega
  simp at h
  have hcost : c.cost ≤ 1048576 := by unfold leftR at h; split at h <;> omega
  have ct := toChain_g (GG := GG) c (by omega)
  have ce := eqChain_g (GG := GG) c c (by omega) (by omega)
  rw [decide_eq_true rfl] at ce
  have cs := s_ChainOk_ok (GG := GG) c hcost
  have ci := i_ChainOk_ok (GG := GG) c hcost
  generalize chainOk c = r at cs ci
  refine W_seq (?_)
  apply W_regS
  · intro K hK
    simp
    repeat' (first | with_reducible exact hK | (with_reducible refine callQ (ct) ?_; simp) | (with_reducible refine callQ (cs) ?_; simp) | (with_reducible refine goL_split (fun _ => ?_) (fun _ => ?_) <;> simp) | with_reducible refine And.intro ?_ ?_ | with_reducible exact okay_rfl rfl | omega)
  refine W_seq (?_)
  apply W_regS
  · intro K hK
    simp
    repeat' (first | with_reducible exact hK | (with_reducible refine callQ (ct) ?_; simp) | (with_reducible refine goL_split (fun _ => ?_) (fun _ => ?_) <;> simp) | with_reducible refine And.intro ?_ ?_ | with_reducible exact okay_rfl rfl | omega)
  refine W_seq (?_)
  apply W_regS
  · intro K hK
    simp
    repeat' (first | with_reducible exact hK | (with_reducible refine callQ (ci) ?_; simp) | (with_reducible refine goL_split (fun _ => ?_) (fun _ => ?_) <;> simp) | with_reducible refine And.intro ?_ ?_ | with_reducible exact okay_rfl rfl | omega)
  refine W_seq (?_)
  refine W_seq (?_)
  refine W_regB 21 (false) (fun K hK => ?_) ?_
  · simp
    repeat' (first | exact hK _ _ (by clear hK; first | omega | (exact decide_eq_false (by omega)) | (exact decide_eq_true (by omega)) | (exact (decide_eq_true (by omega)).symm) | (exact (decide_eq_false (by omega)).symm) | (exact decide_eq_decide.2 (by omega)) | (simp [*]; done) | (simp [*]; omega) | (simp_all; done) | (simp_all; omega) | (rw [Bool.eq_iff_iff]; simp at *; omega)) | (with_reducible refine goL_split (fun _ => ?_) (fun _ => ?_) <;> simp) | with_reducible refine And.intro ?_ ?_ | with_reducible exact okay_rfl rfl | omega)
  refine W_cond rfl (fun h => ?_) (fun h => W_skip ?_)
  · first | (cases h; done) | (simp at h; done) | (simp at h; omega)
  refine W_seq (?_)
  refine W_seq (?_)
  apply W_regD
  · intro K hK
    simp
    repeat' (first | with_reducible exact hK | (with_reducible refine callQ (ct) ?_; simp) | (with_reducible refine callQ (ce) ?_; simp) | (with_reducible refine goL_split (fun _ => ?_) (fun _ => ?_) <;> simp) | with_reducible refine And.intro ?_ ?_ | with_reducible exact okay_rfl rfl | omega)
  refine W_cond rfl (fun h => ?_) (fun h => W_skip ?_)
  · first | (cases h; done) | (simp at h; done) | (simp at h; omega)
  refine W_seq (?_)
  apply W_regS
  · intro K hK
    simp
    repeat' (first | with_reducible exact hK | (with_reducible refine goL_split (fun _ => ?_) (fun _ => ?_) <;> simp) | with_reducible refine And.intro ?_ ?_ | with_reducible exact okay_rfl rfl | omega)
  refine W_ret ?_
  simp [Fin]
  all_goals omega

theorem law_HeadOf [MaxL GG] (c : GChain) (hok : c.ok) : Valid PP GG F_L_FnExactHeadOf [.agg c.c] (.d (.bool true)) [none] := by
  refine v_L_FnExactHeadOf [.d (.bool true)] rfl rfl ?_
  refine W_seq (?_)
  apply W_regS
  · intro K hK
    simp
    repeat' (first | with_reducible exact hK | (with_reducible refine goL_split (fun _ => ?_) (fun _ => ?_) <;> simp) | with_reducible refine And.intro ?_ ?_ | with_reducible exact okay_rfl rfl | omega)
  refine W_seq (?_)
  apply W_regS
  · intro K hK
    simp
    repeat' (first | with_reducible exact hK | (with_reducible refine goL_split (fun _ => ?_) (fun _ => ?_) <;> simp) | with_reducible refine And.intro ?_ ?_ | with_reducible exact okay_rfl rfl | omega)
  refine W_seq (?_)
  apply W_regS
  · intro K hK
    simp
    repeat' (first | with_reducible exact hK | (with_reducible refine callQ (szChain_g c 1048576 hok ⟨by omega, by omega⟩) ?_; simp) | (with_reducible refine goL_split (fun _ => ?_) (fun _ => ?_) <;> simp) | with_reducible refine And.intro ?_ ?_ | with_reducible exact okay_rfl rfl | omega)
  refine W_seq (?_)
  refine W_seq (?_)
  apply W_regS
  · intro K hK
    simp
    repeat' (first | with_reducible exact hK | (with_reducible refine goL_split (fun _ => ?_) (fun _ => ?_) <;> simp) | with_reducible refine And.intro ?_ ?_ | with_reducible exact okay_rfl rfl | omega)
  refine W_cond rfl (fun h => W_seq ?_) (fun h => W_skip ?_)
  · apply W_regS
    · intro K hK
      simp
      repeat' (first | with_reducible exact hK | (with_reducible refine goL_split (fun _ => ?_) (fun _ => ?_) <;> simp) | with_reducible refine And.intro ?_ ?_ | with_reducible exact okay_rfl rfl | omega)
    refine W_ret ?_
    simp [Fin]
    all_goals omega
  simp at h
  have hcost : c.cost ≤ 1048576 := by unfold leftR at h; split at h <;> omega
  have ct := toChain_g (GG := GG) c (by omega)
  have ce := eqChain_g (GG := GG) c c (by omega) (by omega)
  rw [decide_eq_true rfl] at ce
  have cs := s_HeadOf_ok (GG := GG) c hcost
  have ci := i_HeadOf_ok (GG := GG) c hcost
  generalize headV c = r at cs ci
  refine W_seq (?_)
  apply W_regS
  · intro K hK
    simp
    repeat' (first | with_reducible exact hK | (with_reducible refine callQ (ct) ?_; simp) | (with_reducible refine callQ (cs) ?_; simp) | (with_reducible refine goL_split (fun _ => ?_) (fun _ => ?_) <;> simp) | with_reducible refine And.intro ?_ ?_ | with_reducible exact okay_rfl rfl | omega)
  refine W_seq (?_)
  apply W_regS
  · intro K hK
    simp
    repeat' (first | with_reducible exact hK | (with_reducible refine callQ (ct) ?_; simp) | (with_reducible refine goL_split (fun _ => ?_) (fun _ => ?_) <;> simp) | with_reducible refine And.intro ?_ ?_ | with_reducible exact okay_rfl rfl | omega)
  refine W_seq (?_)
  apply W_regS
  · intro K hK
    simp
    repeat' (first | with_reducible exact hK | (with_reducible refine callQ (ci) ?_; simp) | (with_reducible refine goL_split (fun _ => ?_) (fun _ => ?_) <;> simp) | with_reducible refine And.intro ?_ ?_ | with_reducible exact okay_rfl rfl | omega)
  refine W_seq (?_)
  refine W_seq (?_)
  refine W_regB 21 (false) (fun K hK => ?_) ?_
  · simp
    repeat' (first | exact hK _ _ (by clear hK; first | omega | (exact decide_eq_false (by omega)) | (exact decide_eq_true (by omega)) | (exact (decide_eq_true (by omega)).symm) | (exact (decide_eq_false (by omega)).symm) | (exact decide_eq_decide.2 (by omega)) | (simp [*]; done) | (simp [*]; omega) | (simp_all; done) | (simp_all; omega) | (rw [Bool.eq_iff_iff]; simp at *; omega)) | (with_reducible refine goL_split (fun _ => ?_) (fun _ => ?_) <;> simp) | with_reducible refine And.intro ?_ ?_ | with_reducible exact okay_rfl rfl | omega)
  refine W_cond rfl (fun h => ?_) (fun h => W_skip ?_)
  · first | (cases h; done) | (simp at h; done) | (simp at h; omega)
  refine W_seq (?_)
  refine W_seq (?_)
  apply W_regD
  · intro K hK
    simp
    repeat' (first | with_reducible exact hK | (with_reducible refine callQ (ct) ?_; simp) | (with_reducible refine callQ (ce) ?_; simp) | (with_reducible refine goL_split (fun _ => ?_) (fun _ => ?_) <;> simp) | with_reducible refine And.intro ?_ ?_ | with_reducible exact okay_rfl rfl | omega)
  refine W_cond rfl (fun h => ?_) (fun h => W_skip ?_)
  · first | (cases h; done) | (simp at h; done) | (simp at h; omega)
  refine W_seq (?_)
  apply W_regS
  · intro K hK
    simp
    repeat' (first | with_reducible exact hK | (with_reducible refine goL_split (fun _ => ?_) (fun _ => ?_) <;> simp) | with_reducible refine And.intro ?_ ?_ | with_reducible exact okay_rfl rfl | omega)
  refine W_ret ?_
  simp [Fin]
  all_goals omega

end Go.Proofs.YtpbofdbleajagaaDoor.Ab


namespace Go.Proofs
end Go.Proofs
set_option linter.unusedSimpArgs false
set_option linter.unusedVariables false
set_option maxRecDepth 100000
set_option maxHeartbeats 2000000
namespace Go.Proofs.YtpbofdbleajagaaDoor.Ab
open Go.Proofs
variable {GG : GV}

theorem typ_GNote {k : Nat} {ds : List D} (h : Typ Tryd.prog (k + 2) 106 ds) : ∃ x : GNote, ds = x.row ∧ x.ok := by
  obtain ⟨hl, hf⟩ := typ_struct Tryd.underlying106 h
  rw [show Tryd.prog.cellsOf 106 = 7 by kernel_rfl] at hl
  match ds, hl, hf with
  | [a0, a1, a2, a3, a4, a5, a6], _, hf =>
    obtain ⟨x0, e0, i0⟩ := typ_int (ds := [a0]) Tryd.underlying3 (typ_field hf 0 rfl (n := 1) (by kernel_rfl))
    obtain ⟨x1, e1, i1⟩ := typ_int (ds := [a1]) Tryd.underlying3 (typ_field hf 1 rfl (n := 1) (by kernel_rfl))
    obtain ⟨x2, e2, i2⟩ := typ_int (ds := [a2]) Tryd.underlying3 (typ_field hf 2 rfl (n := 1) (by kernel_rfl))
    obtain ⟨x3, e3, i3⟩ := typ_str (ds := [a3]) Tryd.underlying9 (typ_field hf 3 rfl (n := 1) (by kernel_rfl))
    obtain ⟨x4, e4, i4⟩ := typ_str (ds := [a4]) Tryd.underlying9 (typ_field hf 4 rfl (n := 1) (by kernel_rfl))
    obtain ⟨x5, e5, i5⟩ := typ_int (ds := [a5]) Tryd.underlying3 (typ_field hf 5 rfl (n := 1) (by kernel_rfl))
    obtain ⟨x6, e6, i6⟩ := typ_int (ds := [a6]) Tryd.underlying3 (typ_field hf 6 rfl (n := 1) (by kernel_rfl))
    cases e0; cases e1; cases e2; cases e3; cases e4; cases e5; cases e6
    exact ⟨{ fSeq := x0, fAt := x1, fWho := x2, fWhat := x3, fPath := x4, fCode := x5, fSum := x6 }, rfl, ⟨i0, i1, i2, i3, i4, i5, i6⟩⟩

theorem typ_GChain {k : Nat} {ds : List D} (h : Typ Tryd.prog (k + 4) 30 ds) : ∃ x : GChain, ds = x.row ∧ x.ok := by
  obtain ⟨hl, hf⟩ := typ_struct Tryd.underlying30 h
  rw [show Tryd.prog.cellsOf 30 = 3 by kernel_rfl] at hl
  match ds, hl, hf with
  | [a0, a1, a2], _, hf =>
    obtain ⟨x0, e0, i0⟩ := typ_int (ds := [a0]) Tryd.underlying3 (typ_field hf 0 rfl (n := 1) (by kernel_rfl))
    obtain ⟨x1, e1, i1⟩ := typ_int (ds := [a1]) Tryd.underlying3 (typ_field hf 1 rfl (n := 1) (by kernel_rfl))
    obtain ⟨r2, e2, i2a, w2⟩ := typ_slc (ds := [a2]) Tryd.underlying28 (typ_field hf 2 rfl (n := 1) (by kernel_rfl))
    rw [show Tryd.prog.cellsOf 106 = 7 by kernel_rfl] at e2
    obtain ⟨x2, rfl, i2b⟩ := rows_of (p := GNote.ok) (f := GNote.row) r2 fun r hr => typ_GNote (w2 r hr)
    rw [List.length_map] at i2a
    cases e0; cases e1; cases e2
    exact ⟨{ fFirst := x0, fSalt := x1, fNotes := x2 }, rfl, ⟨i0, i1, i2a, i2b⟩⟩

theorem typ_GBox {k : Nat} {ds : List D} (h : Typ Tryd.prog (k + 3) 111 ds) : ∃ x : GBox, ds = x.row ∧ x.ok := by
  obtain ⟨hl, hf⟩ := typ_struct Tryd.underlying111 h
  rw [show Tryd.prog.cellsOf 111 = 3 by kernel_rfl] at hl
  match ds, hl, hf with
  | [a0, a1, a2], _, hf =>
    obtain ⟨x0, e0, i0⟩ := typ_int (ds := [a0]) Tryd.underlying3 (typ_field hf 0 rfl (n := 1) (by kernel_rfl))
    obtain ⟨x1, e1, i1a⟩ := typ_bytes (ds := [a1]) Tryd.underlying22 Tryd.underlying5 (by kernel_rfl) (typ_field hf 1 rfl (n := 1) (by kernel_rfl))
    obtain ⟨x2, e2, i2⟩ := typ_int (ds := [a2]) Tryd.underlying3 (typ_field hf 2 rfl (n := 1) (by kernel_rfl))
    cases e0; cases e1; cases e2
    exact ⟨{ fNonce := x0, fData := x1, fTag := x2 }, rfl, ⟨i0, i1a, i2⟩⟩

theorem typ_GWrap {k : Nat} {ds : List D} (h : Typ Tryd.prog (k + 4) 113 ds) : ∃ x : GWrap, ds = x.row ∧ x.ok := by
  obtain ⟨hl, hf⟩ := typ_struct Tryd.underlying113 h
  rw [show Tryd.prog.cellsOf 113 = 6 by kernel_rfl] at hl
  match ds, hl, hf with
  | [a0, a1, a2, a3, a4, a5], _, hf =>
    obtain ⟨x0, e0, i0⟩ := typ_int (ds := [a0]) Tryd.underlying3 (typ_field hf 0 rfl (n := 1) (by kernel_rfl))
    obtain ⟨x1, e1, i1⟩ := typ_int (ds := [a1]) Tryd.underlying3 (typ_field hf 1 rfl (n := 1) (by kernel_rfl))
    obtain ⟨x2, e2, i2⟩ := typ_str (ds := [a2]) Tryd.underlying9 (typ_field hf 2 rfl (n := 1) (by kernel_rfl))
    obtain ⟨x3, e3, i3⟩ := typ_GBox (ds := [a3, a4, a5]) (typ_field hf 3 rfl (n := 3) (by kernel_rfl))
    cases e0; cases e1; cases e2; cases e3
    exact ⟨{ fId := x0, fEnds := x1, fKind := x2, fBox := x3 }, rfl, ⟨i0, i1, i2, i3⟩⟩

theorem typ_GRack {k : Nat} {ds : List D} (h : Typ Tryd.prog (k + 6) 42 ds) : ∃ x : GRack, ds = x.row ∧ x.ok := by
  obtain ⟨hl, hf⟩ := typ_struct Tryd.underlying42 h
  rw [show Tryd.prog.cellsOf 42 = 3 by kernel_rfl] at hl
  match ds, hl, hf with
  | [a0, a1, a2], _, hf =>
    obtain ⟨x0, e0, i0⟩ := typ_int (ds := [a0]) Tryd.underlying3 (typ_field hf 0 rfl (n := 1) (by kernel_rfl))
    obtain ⟨x1, e1, i1⟩ := typ_int (ds := [a1]) Tryd.underlying3 (typ_field hf 1 rfl (n := 1) (by kernel_rfl))
    obtain ⟨r2, e2, i2a, w2⟩ := typ_slc (ds := [a2]) Tryd.underlying40 (typ_field hf 2 rfl (n := 1) (by kernel_rfl))
    rw [show Tryd.prog.cellsOf 113 = 6 by kernel_rfl] at e2
    obtain ⟨x2, rfl, i2b⟩ := rows_of (p := GWrap.ok) (f := GWrap.row) r2 fun r hr => typ_GWrap (w2 r hr)
    rw [List.length_map] at i2a
    cases e0; cases e1; cases e2
    exact ⟨{ fKey := x0, fNext := x1, fWraps := x2 }, rfl, ⟨i0, i1, i2a, i2b⟩⟩

end Go.Proofs.YtpbofdbleajagaaDoor.Ab

