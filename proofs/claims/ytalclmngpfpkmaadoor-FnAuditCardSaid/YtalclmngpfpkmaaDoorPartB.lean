/-
  A part of a proof about the given program; what is proved is said where each theorem stands.
-/
import Derived.Test.YtalclmngpfpkmaaDoorFrameA
import Derived.Test.YtalclmngpfpkmaaDoorFrameB
import Derived.Test.YtalclmngpfpkmaaDoorFrameC
import Derived.Test.YtalclmngpfpkmaaDoorFrameD
import Derived.Test.YtalclmngpfpkmaaDoorFrameE
import Derived.Test.YtalclmngpfpkmaaDoorCodesA
import Derived.Test.YtalclmngpfpkmaaDoorShelf
import Derived.Test.YtalclmngpfpkmaaDoorPartA
namespace Go.Proofs
end Go.Proofs
set_option linter.unusedSimpArgs false
set_option linter.unusedVariables false
set_option maxRecDepth 100000
set_option maxHeartbeats 2000000
namespace Go.Proofs.YtalclmngpfpkmaaDoor.Ab
open Go.Proofs
variable {GG : GV}
theorem isChain_ok [MaxL GG] (c : GChain) (hc : c.cost ≤ 4194304) : Valid PP GG F_I_isChain [.agg c.c] (.d (.bool (chainOk c))) [none] := by
  refine v_I_isChain [.d (.bool (chainOk c))] rfl rfl ?_
  obtain ⟨f, k, l⟩ := c
  have hco : (GChain.mk f k l).cost = l.length + sumBy GNote.cost l := rfl
  have ck := isKey_ok (GG := GG) k
  have hr : chainOk (GChain.mk f k l) = (decide (0 ≤ f) && keyB k && decide (l.length ≤ 120) && (List.range l.length).all (linkAt l)) := rfl
  generalize keyB k = p at ck hr
  obtain ⟨u, hu⟩ : ∃ u, decide (0 ≤ f) = u := ⟨_, rfl⟩
  obtain ⟨v, hv⟩ : ∃ v, decide (l.length ≤ 120) = v := ⟨_, rfl⟩
  have hv2 : decide ((l.length : Int) ≤ 120) = v := by rw [← hv]; exact decide_eq_decide.2 (by omega)
  rw [hu, hv] at hr
  refine W_seq (?_)
  apply W_regS
  · intro K hK
    simp
    repeat' (first | with_reducible exact hK | (with_reducible refine goL_split (fun _ => ?_) (fun _ => ?_) <;> simp) | with_reducible refine And.intro ?_ ?_ | with_reducible exact okay_rfl rfl | with_reducible assumption | omega)
  refine W_seq (W_seq (?_))
  apply W_regS
  · intro K hK
    simp
    repeat' (first | with_reducible exact hK | (with_reducible refine goL_split (fun _ => ?_) (fun _ => ?_) <;> simp) | with_reducible refine And.intro ?_ ?_ | with_reducible exact okay_rfl rfl | with_reducible assumption | omega)
  refine W_block (W_loop (fun n st => ∃ i : Nat, n = l.length - i ∧ i ≤ l.length ∧ (∀ j, j < i → linkAt l j = true) ∧
    st = ⟨[], [(1, .ptr 0 0), (6, .d (.slc 7 (rNote l))), (7, .d (.int .i64 l.length)), (8, .d (.int .i64 i))], [(0, .box [.d (.int .i64 f), .d (.int .i64 k), .d (.slc 7 (rNote l))])], 1⟩) _ ⟨0, rfl, by omega, fun j h => by omega, rfl⟩ ?_)
  rintro n st ⟨i, rfl, hi, hn, rfl⟩
  refine W_seq (?_)
  apply W_regS
  · intro K hK
    simp
    repeat' (first | with_reducible exact hK | (with_reducible refine goL_split (fun _ => ?_) (fun _ => ?_) <;> simp) | with_reducible refine And.intro ?_ ?_ | with_reducible exact okay_rfl rfl | with_reducible assumption | omega)
  refine W_seq (?_)
  refine W_cond rfl (fun h2 => W_skip ?_) (fun h2 => W_exit ?_)
  · simp at h2
    have ha := List.getElem?_eq_getElem h2
    generalize l[i] = x at ha
    have hg := sumBy_get (f := GNote.cost) ha
    have c1 := isNote_ok (GG := GG) x (by omega)
    refine W_seq (W_block (W_seq ?_))
    apply W_regS
    · intro K hK
      simp [ha]
      repeat' (first | with_reducible exact hK | (with_reducible refine goL_split (fun _ => ?_) (fun _ => ?_) <;> simp [ha]) | with_reducible refine And.intro ?_ ?_ | with_reducible exact okay_rfl rfl | with_reducible assumption | omega)
    refine W_seq (?_)
    cases hq : noteOk x with
    | false =>
      rw [hq] at c1
      refine W_regBD 44 (true) (fun K hK => ?_) ?_
      · simp
        repeat' (first | exact hK _ _ (by clear hK; first | omega | (exact decide_eq_false (by omega)) | (exact decide_eq_true (by omega)) | (exact (decide_eq_true (by omega)).symm) | (exact (decide_eq_false (by omega)).symm) | (exact decide_eq_decide.2 (by omega)) | (simp only [← decide_not]; exact decide_eq_decide.2 (by omega)) | (simp [*]; done) | (simp [*]; omega) | (simp_all; done) | (simp_all; omega) | (rw [Bool.eq_iff_iff]; simp at *; omega)) | (with_reducible refine callQ (c1) ?_; simp) | (with_reducible refine goL_split (fun _ => ?_) (fun _ => ?_) <;> simp) | with_reducible refine And.intro ?_ ?_ | with_reducible exact okay_rfl rfl | with_reducible assumption | omega)
      refine W_cond rfl (fun h3 => W_seq ?_) (fun h3 => ?_)
      rotate_left
      · cases h3
      apply W_regS
      · intro K hK
        simp
        repeat' (first | with_reducible exact hK | (with_reducible refine goL_split (fun _ => ?_) (fun _ => ?_) <;> simp) | with_reducible refine And.intro ?_ ?_ | with_reducible exact okay_rfl rfl | with_reducible assumption | omega)
      have : chainOk (GChain.mk f k l) = false := by
        rw [hr, range_no (i := i) (by omega) (by unfold linkAt; rw [ha]; simp only; rw [hq]; rfl), Bool.and_false]
      refine W_ret ?_
      simp [Fin, this]
      all_goals omega
    | true =>
      rw [hq] at c1
      cases i with
      | zero =>
        refine W_regBD 44 (false) (fun K hK => ?_) ?_
        · simp
          repeat' (first | exact hK _ _ (by clear hK; first | omega | (exact decide_eq_false (by omega)) | (exact decide_eq_true (by omega)) | (exact (decide_eq_true (by omega)).symm) | (exact (decide_eq_false (by omega)).symm) | (exact decide_eq_decide.2 (by omega)) | (simp only [← decide_not]; exact decide_eq_decide.2 (by omega)) | (simp [*]; done) | (simp [*]; omega) | (simp_all; done) | (simp_all; omega) | (rw [Bool.eq_iff_iff]; simp at *; omega)) | (with_reducible refine callQ (c1) ?_; simp) | (with_reducible refine goL_split (fun _ => ?_) (fun _ => ?_) <;> simp) | with_reducible refine And.intro ?_ ?_ | with_reducible exact okay_rfl rfl | with_reducible assumption | omega)
        refine W_cond rfl (fun h4 => ?_) (fun h4 => W_skip ?_)
        · cases h4
        apply W_regS
        · intro K hK
          simp
          repeat' (first | with_reducible exact hK | (with_reducible refine goL_split (fun _ => ?_) (fun _ => ?_) <;> simp) | with_reducible refine And.intro ?_ ?_ | with_reducible exact okay_rfl rfl | with_reducible assumption | omega)
        exact ⟨l.length - (0 + 1), by omega, 0 + 1, rfl, h2, range_step hn (by unfold linkAt; rw [ha]; simp only; rw [hq]; rfl), by simp [gc, closeN, liveA, gcV, gcO, renA, renAs, renO, namesAs, namesA, namesO, posn]; exact wrap_id (by omega) (by omega)⟩
      | succ j =>
        have hb := List.getElem?_eq_getElem (show j < l.length by omega)
        generalize l[j]'_ = y at hb
        have hy := note_range (link_note (hn j (by omega)) hb)
        have hw1 : IntKind.i64.wrap (j : Int) = j := wrap_id (by omega) (by omega)
        have hw2 : IntKind.i64.wrap (y.fSeq + 1) = y.fSeq + 1 := wrap_id (by omega) (by omega)
        have hlk : linkAt l (j + 1) = decide (x.fSeq = y.fSeq + 1 ∧ y.fAt ≤ x.fAt) := by unfold linkAt; rw [ha]; simp only [hq, hb, linkB, Bool.true_and]
        have hlt : j < l.length := by omega
        refine W_regBD 44 (decide (¬ (x.fSeq = y.fSeq + 1 ∧ y.fAt ≤ x.fAt))) (fun K hK => ?_) ?_
        · simp [ha, hb, hw1, hw2]
          repeat' (first | exact hK _ _ (by clear hK; first | omega | (exact decide_eq_false (by omega)) | (exact decide_eq_true (by omega)) | (exact (decide_eq_true (by omega)).symm) | (exact (decide_eq_false (by omega)).symm) | (exact decide_eq_decide.2 (by omega)) | (simp only [← decide_not]; exact decide_eq_decide.2 (by omega)) | (simp [*]; done) | (simp [*]; omega) | (simp_all; done) | (simp_all; omega) | (rw [Bool.eq_iff_iff]; simp at *; omega)) | (with_reducible refine callQ (c1) ?_; simp [ha, hb, hw1, hw2]) | (with_reducible refine goL_split (fun _ => ?_) (fun _ => ?_) <;> simp [ha, hb, hw1, hw2]) | with_reducible refine And.intro ?_ ?_ | with_reducible exact okay_rfl rfl | with_reducible assumption | omega)
        refine W_cond rfl (fun h4 => W_seq ?_) (fun h4 => W_skip ?_)
        · rw [h4]
          apply W_regS
          · intro K hK
            simp
            repeat' (first | with_reducible exact hK | (with_reducible refine goL_split (fun _ => ?_) (fun _ => ?_) <;> simp) | with_reducible refine And.intro ?_ ?_ | with_reducible exact okay_rfl rfl | with_reducible assumption | omega)
          have : chainOk (GChain.mk f k l) = false := by
            rw [hr, range_no (i := j + 1) (by omega) (by rw [hlk]; exact decide_eq_false (of_decide_eq_true h4)), Bool.and_false]
          refine W_ret ?_
          simp [Fin, this]
          all_goals omega
        rw [h4]
        apply W_regS
        · intro K hK
          simp
          repeat' (first | with_reducible exact hK | (with_reducible refine goL_split (fun _ => ?_) (fun _ => ?_) <;> simp) | with_reducible refine And.intro ?_ ?_ | with_reducible exact okay_rfl rfl | with_reducible assumption | omega)
        refine ⟨l.length - (j + 1 + 1), by omega, j + 1 + 1, rfl, h2, range_step hn (by rw [hlk]; exact decide_eq_true (Decidable.not_not.1 (of_decide_eq_false h4))), ?_⟩
        simp [gc, closeN, liveA, gcV, gcO, renA, renAs, renO, namesAs, namesA, namesO, posn]
        rw [wrap_id (by omega) (by omega)]
  · simp at h2
    rw [if_pos rfl]
    have hall : (List.range l.length).all (linkAt l) = true := List.all_eq_true.2 fun j hj => hn j (by have := List.mem_range.1 hj; omega)
    rw [hall, Bool.and_true] at hr
    refine W_seq (?_)
    refine W_regB 2 (u && p && v) (fun K hK => ?_) ?_
    · simp [hu, hv2]
      repeat' (first | exact hK _ _ (by clear hK; first | omega | (exact decide_eq_false (by omega)) | (exact decide_eq_true (by omega)) | (exact (decide_eq_true (by omega)).symm) | (exact (decide_eq_false (by omega)).symm) | (exact decide_eq_decide.2 (by omega)) | (simp only [← decide_not]; exact decide_eq_decide.2 (by omega)) | (simp [*]; done) | (simp [*]; omega) | (simp_all; done) | (simp_all; omega) | (rw [Bool.eq_iff_iff]; simp at *; omega)) | (with_reducible refine callQ (ck) ?_; simp [hu, hv2]) | (with_reducible refine goL_split (fun _ => ?_) (fun _ => ?_) <;> simp [hu, hv2]) | with_reducible refine And.intro ?_ ?_ | with_reducible exact okay_rfl rfl | with_reducible assumption | omega)
    refine W_ret ?_
    simp [Fin, hr]
    all_goals omega

def headV (c : GChain) : Int := if chainOk c = true then (match c.fNotes.getLast? with | some x => x.fSum | none => c.fFirst) else -1

theorem last_get {α : Type} {l : List α} {x : α} {n : Nat} (h : l.length = n + 1) (hx : l[n]? = some x) : l.getLast? = some x := by
  rw [List.getLast?_eq_getElem?, h]; exact hx

theorem s_HeadOf_ok (c : GChain) (hc : c.cost ≤ 1048576) : Valid PP GG F_S_HeadOf [.agg c.c] (.d (.int .i64 (headV c))) [none] := by
  refine v_S_HeadOf [.d (.int .i64 (headV c))] rfl rfl ?_
  have cc := s_ChainOk_ok (GG := GG) c (by omega)
  have hr : headV c = if chainOk c = true then (match c.fNotes.getLast? with | some x => x.fSum | none => c.fFirst) else -1 := rfl
  obtain ⟨f, k, l⟩ := c
  have hco : (GChain.mk f k l).cost = l.length + sumBy GNote.cost l := rfl
  generalize chainOk (GChain.mk f k l) = b at cc hr
  simp only at hr
  refine W_seq (?_)
  apply W_regS
  · intro K hK
    simp
    repeat' (first | with_reducible exact hK | (with_reducible refine goL_split (fun _ => ?_) (fun _ => ?_) <;> simp) | with_reducible refine And.intro ?_ ?_ | with_reducible exact okay_rfl rfl | with_reducible assumption | omega)
  refine W_seq (W_seq (?_))
  apply W_regS
  · intro K hK
    simp
    repeat' (first | with_reducible exact hK | (with_reducible refine callQ (cc) ?_; simp) | (with_reducible refine goL_split (fun _ => ?_) (fun _ => ?_) <;> simp) | with_reducible refine And.intro ?_ ?_ | with_reducible exact okay_rfl rfl | with_reducible assumption | omega)
  refine W_cond rfl (fun h => W_seq ?_) (fun h => W_skip ?_)
  · simp at h
    subst h
    apply W_regS
    · intro K hK
      simp
      repeat' (first | with_reducible exact hK | (with_reducible refine goL_split (fun _ => ?_) (fun _ => ?_) <;> simp) | with_reducible refine And.intro ?_ ?_ | with_reducible exact okay_rfl rfl | with_reducible assumption | omega)
    rw [if_neg (by simp)] at hr
    refine W_ret ?_
    simp [Fin, hr]
    all_goals omega
  simp at h
  subst h
  rw [if_pos rfl] at hr
  cases hl : l with
  | nil =>
    subst hl
    refine W_seq (W_seq (?_))
    apply W_regS
    · intro K hK
      simp [rNote]
      repeat' (first | with_reducible exact hK | (with_reducible refine goL_split (fun _ => ?_) (fun _ => ?_) <;> simp [rNote]) | with_reducible refine And.intro ?_ ?_ | with_reducible exact okay_rfl rfl | with_reducible assumption | omega)
    refine W_cond rfl (fun h => W_seq ?_) (fun h => ?_)
    rotate_left
    · simp at h
    apply W_regS
    · intro K hK
      simp
      repeat' (first | with_reducible exact hK | (with_reducible refine goL_split (fun _ => ?_) (fun _ => ?_) <;> simp) | with_reducible refine And.intro ?_ ?_ | with_reducible exact okay_rfl rfl | with_reducible assumption | omega)
    refine W_ret ?_
    simp [Fin, hr]
    all_goals omega
  | cons z r =>
    have ha := List.getElem?_eq_getElem (show r.length < (z :: r).length by simp)
    generalize (z :: r)[r.length]'_ = x at ha
    have hlast : l.getLast? = some x := last_get (n := r.length) (by rw [hl]; simp) (by rw [hl]; exact ha)
    have hlen : l.length = r.length + 1 := by rw [hl]; simp
    rw [← hl] at ha ⊢
    rw [hlast] at hr
    simp only at hr
    clear hl
    have hw : IntKind.i64.wrap ((l.length : Int) - 1) = (r.length : Int) := by rw [wrap_id (by omega) (by omega)]; omega
    refine W_seq (W_seq (?_))
    apply W_regS
    · intro K hK
      simp
      repeat' (first | with_reducible exact hK | (with_reducible refine goL_split (fun _ => ?_) (fun _ => ?_) <;> simp) | with_reducible refine And.intro ?_ ?_ | with_reducible exact okay_rfl rfl | with_reducible assumption | omega)
    refine W_cond rfl (fun h => W_seq ?_) (fun h => W_skip ?_)
    · simp at h; subst h; simp at hlen
    refine W_seq (?_)
    apply W_regS
    · intro K hK
      simp [hw, ha]
      repeat' (first | with_reducible exact hK | (with_reducible refine goL_split (fun _ => ?_) (fun _ => ?_) <;> simp [hw, ha]) | with_reducible refine And.intro ?_ ?_ | with_reducible exact okay_rfl rfl | with_reducible assumption | omega)
    refine W_ret ?_
    simp [Fin, hr]
    all_goals omega

theorem headOf_ok (c : GChain) (hc : c.cost ≤ 1048576) : Valid PP GG F_I_headOf [.agg c.c] (.d (.int .i64 (match c.fNotes.getLast? with | some x => x.fSum | none => c.fFirst))) [none] := by
  refine v_I_headOf [.d (.int .i64 (match c.fNotes.getLast? with | some x => x.fSum | none => c.fFirst))] rfl rfl ?_
  obtain ⟨f, k, l⟩ := c
  have hco : (GChain.mk f k l).cost = l.length + sumBy GNote.cost l := rfl
  simp only
  obtain ⟨v, hr⟩ : ∃ v, (match l.getLast? with | some x => x.fSum | none => f) = v := ⟨_, rfl⟩
  rw [hr]
  refine W_seq (?_)
  apply W_regS
  · intro K hK
    simp
    repeat' (first | with_reducible exact hK | (with_reducible refine goL_split (fun _ => ?_) (fun _ => ?_) <;> simp) | with_reducible refine And.intro ?_ ?_ | with_reducible exact okay_rfl rfl | with_reducible assumption | omega)
  cases hl : l with
  | nil =>
    subst hl
    refine W_seq (W_seq (?_))
    apply W_regS
    · intro K hK
      simp [rNote]
      repeat' (first | with_reducible exact hK | (with_reducible refine goL_split (fun _ => ?_) (fun _ => ?_) <;> simp [rNote]) | with_reducible refine And.intro ?_ ?_ | with_reducible exact okay_rfl rfl | with_reducible assumption | omega)
    refine W_cond rfl (fun h => W_seq ?_) (fun h => ?_)
    rotate_left
    · simp at h
    apply W_regS
    · intro K hK
      simp
      repeat' (first | with_reducible exact hK | (with_reducible refine goL_split (fun _ => ?_) (fun _ => ?_) <;> simp) | with_reducible refine And.intro ?_ ?_ | with_reducible exact okay_rfl rfl | with_reducible assumption | omega)
    refine W_ret ?_
    simp [Fin, ← hr]
    all_goals omega
  | cons z r =>
    have ha := List.getElem?_eq_getElem (show r.length < (z :: r).length by simp)
    generalize (z :: r)[r.length]'_ = x at ha
    have hlast : l.getLast? = some x := last_get (n := r.length) (by rw [hl]; simp) (by rw [hl]; exact ha)
    have hlen : l.length = r.length + 1 := by rw [hl]; simp
    rw [← hl] at ha ⊢
    rw [hlast] at hr
    simp only at hr
    clear hl
    have hw : IntKind.i64.wrap ((l.length : Int) - 1) = (r.length : Int) := by rw [wrap_id (by omega) (by omega)]; omega
    refine W_seq (W_seq (?_))
    apply W_regS
    · intro K hK
      simp
      repeat' (first | with_reducible exact hK | (with_reducible refine goL_split (fun _ => ?_) (fun _ => ?_) <;> simp) | with_reducible refine And.intro ?_ ?_ | with_reducible exact okay_rfl rfl | with_reducible assumption | omega)
    refine W_cond rfl (fun h => W_seq ?_) (fun h => W_skip ?_)
    · simp at h; subst h; simp at hlen
    refine W_seq (?_)
    apply W_regS
    · intro K hK
      simp [hw, ha]
      repeat' (first | with_reducible exact hK | (with_reducible refine goL_split (fun _ => ?_) (fun _ => ?_) <;> simp [hw, ha]) | with_reducible refine And.intro ?_ ?_ | with_reducible exact okay_rfl rfl | with_reducible assumption | omega)
    refine W_ret ?_
    simp [Fin, hr]
    all_goals omega

theorem i_HeadOf_ok [MaxL GG] (c : GChain) (hc : c.cost ≤ 1048576) : Valid PP GG F_I_HeadOf [.agg c.c] (.d (.int .i64 (headV c))) [none] := by
  refine v_I_HeadOf [.d (.int .i64 (headV c))] rfl rfl ?_
  have cc := isChain_ok (GG := GG) c (by omega)
  have ch := headOf_ok (GG := GG) c hc
  have hr : headV c = if chainOk c = true then (match c.fNotes.getLast? with | some x => x.fSum | none => c.fFirst) else -1 := rfl
  generalize (match c.fNotes.getLast? with | some x => x.fSum | none => c.fFirst) = v at ch hr
  generalize chainOk c = b at cc hr
  refine W_seq (?_)
  apply W_regS
  · intro K hK
    simp
    repeat' (first | with_reducible exact hK | (with_reducible refine goL_split (fun _ => ?_) (fun _ => ?_) <;> simp) | with_reducible refine And.intro ?_ ?_ | with_reducible exact okay_rfl rfl | with_reducible assumption | omega)
  refine W_seq (W_seq (?_))
  apply W_regS
  · intro K hK
    simp
    repeat' (first | with_reducible exact hK | (with_reducible refine callQ (cc) ?_; simp) | (with_reducible refine goL_split (fun _ => ?_) (fun _ => ?_) <;> simp) | with_reducible refine And.intro ?_ ?_ | with_reducible exact okay_rfl rfl | with_reducible assumption | omega)
  refine W_cond rfl (fun h => W_seq ?_) (fun h => W_skip ?_)
  · simp at h
    subst h
    apply W_regS
    · intro K hK
      simp
      repeat' (first | with_reducible exact hK | (with_reducible refine goL_split (fun _ => ?_) (fun _ => ?_) <;> simp) | with_reducible refine And.intro ?_ ?_ | with_reducible exact okay_rfl rfl | with_reducible assumption | omega)
    rw [if_neg (by simp)] at hr
    refine W_ret ?_
    simp [Fin, hr]
    all_goals omega
  simp at h
  subst h
  rw [if_pos rfl] at hr
  refine W_seq (?_)
  apply W_regS
  · intro K hK
    simp
    repeat' (first | with_reducible exact hK | (with_reducible refine callQ (ch) ?_; simp) | (with_reducible refine goL_split (fun _ => ?_) (fun _ => ?_) <;> simp) | with_reducible refine And.intro ?_ ?_ | with_reducible exact okay_rfl rfl | with_reducible assumption | omega)
  refine W_ret ?_
  simp [Fin, hr]
  all_goals omega

theorem digN_range (l : List UInt8) : 0 ≤ digN l ∧ digN l ≤ 4611686018427387904 := by
  have h1 := dA_lt l
  have h2 := dB_lt l
  unfold digN
  omega

/-- A row of one's own, as the kit's contracts say it: elements of any size. -/
theorem own_rowG {w : World} {Fz : PSet} {base sz : Nat} {e : TypeId} {v : Value} {rows : List (List D)} {xs : List Value} (h : w.ownsRow base e sz v rows.length xs) (hrow : ∀ row, row ∈ rows → row.length = sz)
    (hs : ∀ (m : Nat) d, rows.flatten[m]? = some d → ∃ u, xs[m]? = some u ∧ Shr w Fz u d) : ∃ S, Own w Fz 1 v (.slc sz rows) S ∧ ∀ x y, S x y → base ≤ x ∧ x < w.heap.size := by
  obtain ⟨hl, h⟩ := h
  rcases h with ⟨rfl, hz⟩ | ⟨g, cap, cur, rfl, hb, hg, hnc, _, hsz, htk⟩
  · have : rows = [] := List.length_eq_zero_iff.1 hz
    subst this
    exact ⟨fun _ _ => False, .inl ⟨rfl, rfl, fun _ _ h => h⟩, fun _ _ h => h.elim⟩
  · have hlt : g < w.heap.size := by
      rcases Nat.lt_or_ge g w.heap.size with h | h
      · exact h
      · rw [Array.getElem?_eq_none h] at hg; cases hg
    have hcell : ∀ o, o < cap * sz → w.cell? (at_ g (0 + o)) = some (cur.getD o Go.undef) := by
      intro o ho
      have ho2 : o < cur.size := by omega
      unfold World.cell?
      rw [show (at_ g (0 + o)).block = g from rfl, hg]
      simp [Array.getD_eq_getD_getElem?, ho2]
    have hle : rows.length * sz ≤ cap * sz := Nat.mul_le_mul_right _ hnc
    refine ⟨rng g 0 (cap * sz), .inr ⟨g, 0, cap, fun _ _ _ => False, rfl, hnc, ?_, hrow, ?_, fun _ _ _ _ _ _ _ h => h.elim, fun _ _ _ _ _ h => h, fun x y => ?_⟩, ?_⟩
    · intro o ho
      refine ⟨⟨_, hcell o (by omega)⟩, ?_⟩
      unfold World.frz?
      rw [show (at_ g (0 + o)).block = g from rfl, hg]
      simp
    · intro m d hm
      have hml := mem_len hm
      rw [flat_len hrow] at hml
      obtain ⟨u, hu, hsu⟩ := hs m d hm
      refine ⟨_, hcell m (by omega), ?_⟩
      have hc : cur.toList[m]? = some u := by
        have h1 : (cur.toList.take (rows.length * sz))[m]? = some u := by rw [htk, hu]
        rw [List.getElem?_take_of_lt hml] at h1
        exact h1
      rw [Array.getD_eq_getD_getElem?, ← Array.getElem?_toList, hc]
      exact ⟨hsu, fun _ _ h => h⟩
    · constructor
      · intro h; exact .inl h
      · rintro (h | ⟨_, _, h⟩)
        · exact h
        · exact h.elim
    · rintro x y ⟨rfl, _, _⟩
      exact ⟨hb, hlt⟩

theorem rNote_rows (l : List GNote) : ∀ row, row ∈ rNote l → row.length = 7 := by
  intro row h
  simp only [rNote, List.mem_map] at h
  obtain ⟨x, _, rfl⟩ := h
  rfl

theorem CloneNote_ok (l : List GNote) (hN : l.length ≤ 1099511627776) : Valid PP GG 56 [.d (.slc 7 (rNote l))] (.own 0 7 (rNote l)) [none] := by
  refine lib_new [.slc 7 (rNote l)] ⟨Tryd.f56, Tryd.func56, by kernel_rfl, by kernel_rfl⟩ fun w Fz args hG hFz hl hA => ?_
  have h0 := hA 0 _ rfl
  have hrow := rNote_rows l
  have hlen : (rNote l).length = l.length := by simp [rNote]
  generalize rNote l = rows at h0 hrow hlen
  obtain ⟨i0, hi0⟩ : ∃ i0, PP.info? 34 = some i0 := Option.isSome_iff_exists.1 (by kernel_rfl)
  obtain ⟨z, hz0⟩ : ∃ z, i0.zero = some z := by
    have h : ((PP.info? 34).bind (·.zero)).isSome = true := by kernel_rfl
    rw [hi0] at h; exact Option.isSome_iff_exists.1 h
  have hz1 : i0.size = 7 := by
    have h : (PP.info? 34).map (·.size) = some 7 := by kernel_rfl
    rw [hi0] at h; exact Option.some.inj h
  have hz2 : i0.bytes = 72 := by
    have h : (PP.info? 34).map (·.bytes) = some 72 := by kernel_rfl
    rw [hi0] at h; exact Option.some.inj h
  have hzs : z.cells.size = 7 := by
    have h : ((PP.info? 34).bind (·.zero)).map (·.cells.size) = some 7 := by kernel_rfl
    rw [hi0] at h; simp only [Option.bind_some, hz0, Option.map_some] at h; exact Option.some.inj h
  have fin : ∀ (v : Value) (xs : List Value), args = #[v] → (∀ (m : Nat) d, rows.flatten[m]? = some d → ∃ u, xs[m]? = some u ∧ Shr w Fz u d) →
      (Calls PP 56 #[v] w fun e w' => ∃ v', e = .returned v' ∧ w'.ownsRow w.heap.size 34 7 v' rows.length xs ∧ w'.os = w.os ∧ w'.output = w.output ∧ w.heap.size ≤ w'.heap.size ∧ ∀ b, b < w.heap.size → w'.heap[b]? = w.heap[b]?) →
      Calls PP 56 args w fun e w' => ∃ v Fz' S, e = .returned v ∧ (w'.os = w.os ∧ w'.output = w.output) ∧ w.heap.size ≤ w'.heap.size ∧ (∀ b, b < w.heap.size → w'.heap[b]? = w.heap[b]?) ∧
        (∀ b o, Fz b o → Fz' b o) ∧ (∀ b o, Fz' b o → (Fz b o ∨ w.heap.size ≤ b) ∧ b < w'.heap.size) ∧ RC w' Fz' (.own 0 7 rows) v S ∧ ∀ x y, S x y → w.heap.size ≤ x ∧ ¬ Fz' x y ∧ x < w'.heap.size := by
    intro v xs hv hxs hc
    subst hv
    refine hc.mono ?_
    rintro e w' ⟨v', rfl, hown, h1, h2, h3, h4⟩
    have hmono : ∀ u d, Shr w Fz u d → Shr w' Fz u d := fun u d h => h.mono (fun b o hf => by
      unfold World.cell?
      rw [show (at_ b o).block = b from rfl, h4 b (hFz b o hf)]) (fun _ _ h => h)
    obtain ⟨S, hS, hSb⟩ := own_rowG (Fz := Fz) hown hrow (fun m d hm => let ⟨u, a, b⟩ := hxs m d hm; ⟨u, a, hmono u d b⟩)
    exact ⟨v', Fz, S, rfl, ⟨h1, h2⟩, h3, h4, fun _ _ h => h, fun b o h => ⟨.inl h, Nat.lt_of_lt_of_le (hFz b o h) h3⟩, .own 0 7 _ _ _ hS, fun x y h => ⟨(hSb x y h).1, fun hf => by have := hFz x y hf; have := (hSb x y h).1; omega, (hSb x y h).2⟩⟩
  have harg : ∀ v, args.getD 0 Go.undef = v → args = #[v] := fun v hv => args_eq (l := [v]) hl fun i u hu => by
    match i, hu with
    | 0, hu => cases hu; exact hv
  rcases shr_slc_inv h0 with ⟨ad, cap, hv, hrows⟩ | ⟨b, off, cap, vs, hv, hcap, hc⟩
  · subst hrows
    refine fin _ [] (harg _ hv) (fun m d hm => by simp at hm) ?_
    cases ad with
    | none =>
      refine (AnyE.slices_Clone_nil Go.Proofs.YtalclmngpfpkmaaDoor.Tryd.clnNote 0 cap w).mono ?_
      rintro e w' ⟨rfl, rfl⟩
      exact ⟨_, rfl, ⟨rfl, .inl ⟨rfl, rfl⟩⟩, rfl, rfl, Nat.le_refl _, fun _ _ => rfl⟩
    | some ad =>
      refine (clone_zero Go.Proofs.YtalclmngpfpkmaaDoor.Tryd.clnNote i0 z 7 72 hi0 hz0 hz1 hz2 hzs (by omega) Tryd.sizeOf34 ad cap w).mono ?_
      rintro e w' ⟨v', rfl, hrow, hb⟩
      exact ⟨v', rfl, hrow, hb.os, hb.output, hb.size, fun b h => hb.block b h⟩
  · have hfl := flat_len hrow
    refine fin _ ((List.range rows.flatten.length).map vs) (harg _ hv) (fun m d hm => ⟨vs m, ?_, (hc m d hm).2⟩) ?_
    · rw [List.getElem?_map, List.getElem?_range (mem_len hm)]; rfl
    refine (AnyE.slices_Clone Go.Proofs.YtalclmngpfpkmaaDoor.Tryd.clnNote i0 z 7 72 hi0 hz0 hz1 hz2 hzs (by omega) Tryd.sizeOf34 b off rows.length cap ((List.range rows.flatten.length).map vs) w (by simp [hfl]) (by rw [hlen]; have : maxLen = 9223372036854775807 := rfl; omega) (by omega) (fun j u hj => ?_) (fun u hu => ?_)).mono ?_
    · rw [List.getElem?_map] at hj
      cases hr : (List.range rows.flatten.length)[j]? with
      | none => rw [hr] at hj; cases hj
      | some q =>
        rw [hr] at hj
        cases hj
        obtain ⟨hq, rfl⟩ := List.getElem?_eq_some_iff.1 hr
        simp only [List.getElem_range] at *
        exact (hc j _ (List.getElem?_eq_getElem (by simpa using hq))).1
    · obtain ⟨q, hq, rfl⟩ := List.mem_map.1 hu
      have hq' := List.mem_range.1 hq
      exact (hc q _ (List.getElem?_eq_getElem hq')).2.one
    · rintro e w' ⟨v', rfl, hrow, _, hb⟩
      exact ⟨v', rfl, hrow, hb.os, hb.output, hb.size, fun b h => hb.block b h⟩

def sumV (a : Int) (x : GNote) : Int := digN (sumT a x.fSeq x.fAt x.fWho x.fWhat x.fPath x.fCode)

def breakL (a : Int) : List GNote → Nat
  | [] => 0
  | x :: r => if x.fSum = sumV a x then breakL x.fSum r + 1 else 0

theorem breakL_le (a : Int) (l : List GNote) : breakL a l ≤ l.length := by
  induction l generalizing a with
  | nil => simp [breakL]
  | cons x r ih => unfold breakL; split <;> simp [ih]

theorem breakL_hit {f a : Int} {l : List GNote} {i : Nat} {x : GNote} (h : l[i]? = some x) (hb : breakL f l = i + breakL a (l.drop i)) (hs : x.fSum = sumV a x) : breakL f l = (i + 1) + breakL x.fSum (l.drop (i + 1)) := by
  obtain ⟨hi, rfl⟩ := List.getElem?_eq_some_iff.1 h
  rw [List.drop_eq_getElem_cons hi, breakL, if_pos hs] at hb
  omega

theorem breakL_miss {f a : Int} {l : List GNote} {i : Nat} {x : GNote} (h : l[i]? = some x) (hb : breakL f l = i + breakL a (l.drop i)) (hs : x.fSum ≠ sumV a x) : breakL f l = i := by
  obtain ⟨hi, rfl⟩ := List.getElem?_eq_some_iff.1 h
  rw [List.drop_eq_getElem_cons hi, breakL, if_neg hs] at hb
  omega

theorem breakL_end {f a : Int} {l : List GNote} {i : Nat} (h : ¬ i < l.length) (hi : i ≤ l.length) (hb : breakL f l = i + breakL a (l.drop i)) : breakL f l = l.length := by
  rw [List.drop_eq_nil_of_le (by omega), breakL] at hb; omega

def breakV (c : GChain) : Int := if chainOk c = true then (breakL c.fFirst c.fNotes : Nat) else -1

theorem chain_note {c : GChain} {i : Nat} {x : GNote} (h : chainOk c = true) (hx : c.fNotes[i]? = some x) : noteOk x = true := by
  simp only [chainOk, Bool.and_eq_true, List.all_eq_true, List.mem_range] at h
  exact link_note (h.2 i ((List.getElem?_eq_some_iff.1 hx).1)) hx

theorem s_SumOf_g (a : Int) (x : GNote) (ha : int64 a) (hx : x.ok) (h1 : x.fWhat.length ≤ 1048576) (h2 : x.fPath.length ≤ 1048576) : Valid PP GG F_S_SumOf [.d (.int .i64 a), .agg x.c] (.d (.int .i64 (sumV a x))) [none, none] :=
  s_SumOf_ok a x.fSeq x.fAt x.fWho x.fWhat x.fPath x.fCode x.fSum ha hx.1 hx.2.1 hx.2.2.1 hx.2.2.2.2.2.1 h1 h2

theorem sumOf_g [P10 GG] (a : Int) (x : GNote) (ha : int64 a) (hx : x.ok) (h1 : x.fWhat.length ≤ 1048576) (h2 : x.fPath.length ≤ 1048576) : Valid PP GG F_I_sumOf [.d (.int .i64 a), .agg x.c] (.d (.int .i64 (sumV a x))) [none, none] :=
  i_sumOf_ok a x.fSeq x.fAt x.fWho x.fWhat x.fPath x.fCode x.fSum ha hx.1 hx.2.1 hx.2.2.1 hx.2.2.2.2.2.1 h1 h2

theorem s_BreakOf_ok (c : GChain) (hok : c.ok) (hc : c.cost ≤ 1048576) : Valid PP GG F_S_BreakOf [.agg c.c] (.d (.int .i64 (breakV c))) [none] := by
  refine v_S_BreakOf [.d (.int .i64 (breakV c))] rfl rfl ?_
  have cc := s_ChainOk_ok (GG := GG) c (by omega)
  have hr : breakV c = if chainOk c = true then ((breakL c.fFirst c.fNotes : Nat) : Int) else -1 := rfl
  obtain ⟨f, k, l⟩ := c
  have hco : (GChain.mk f k l).cost = l.length + sumBy GNote.cost l := rfl
  obtain ⟨o1, o2, o3, o4⟩ := hok
  simp only at o1 o4
  generalize chainOk (GChain.mk f k l) = b at cc hr
  simp only at hr
  refine W_seq (?_)
  apply W_regS
  · intro K hK
    simp
    repeat' (first | with_reducible exact hK | (with_reducible refine goL_split (fun _ => ?_) (fun _ => ?_) <;> simp) | with_reducible refine And.intro ?_ ?_ | with_reducible exact okay_rfl rfl | with_reducible assumption | omega)
  refine W_seq (W_seq (?_))
  apply W_regS
  · intro K hK
    simp
    repeat' (first | with_reducible exact hK | (with_reducible refine callQ (cc) ?_; simp) | (with_reducible refine goL_split (fun _ => ?_) (fun _ => ?_) <;> simp) | with_reducible refine And.intro ?_ ?_ | with_reducible exact okay_rfl rfl | with_reducible assumption | omega)
  refine W_cond rfl (fun h => W_seq ?_) (fun h => W_skip ?_)
  · simp at h
    subst h
    apply W_regS
    · intro K hK
      simp
      repeat' (first | with_reducible exact hK | (with_reducible refine goL_split (fun _ => ?_) (fun _ => ?_) <;> simp) | with_reducible refine And.intro ?_ ?_ | with_reducible exact okay_rfl rfl | with_reducible assumption | omega)
    rw [if_neg (by simp)] at hr
    refine W_ret ?_
    simp [Fin, hr]
    all_goals omega
  simp at h
  subst h
  rw [if_pos rfl] at hr
  refine W_seq (?_)
  apply W_regS
  · intro K hK
    simp
    repeat' (first | with_reducible exact hK | (with_reducible refine goL_split (fun _ => ?_) (fun _ => ?_) <;> simp) | with_reducible refine And.intro ?_ ?_ | with_reducible exact okay_rfl rfl | with_reducible assumption | omega)
  refine W_seq (W_seq (?_))
  apply W_regS
  · intro K hK
    simp
    repeat' (first | with_reducible exact hK | (with_reducible refine goL_split (fun _ => ?_) (fun _ => ?_) <;> simp) | with_reducible refine And.intro ?_ ?_ | with_reducible exact okay_rfl rfl | with_reducible assumption | omega)
  refine W_block (W_loop (fun n st => ∃ (i : Nat) (a : Int), n = l.length - i ∧ i ≤ l.length ∧ int64 a ∧ breakL f l = i + breakL a (l.drop i) ∧
    st = ⟨[], [(1, .ptr 0 0), (3, .d (.int .i64 a)), (4, .d (.int .i64 i))], [(0, .box [.d (.int .i64 f), .d (.int .i64 k), .d (.slc 7 (rNote l))])], 1⟩) _ ⟨0, f, rfl, by omega, o1, by simp, rfl⟩ ?_)
  rintro n st ⟨i, a, rfl, hi, ha64, hb, rfl⟩
  refine W_seq (W_seq (?_))
  apply W_regS
  · intro K hK
    simp
    repeat' (first | with_reducible exact hK | (with_reducible refine goL_split (fun _ => ?_) (fun _ => ?_) <;> simp) | with_reducible refine And.intro ?_ ?_ | with_reducible exact okay_rfl rfl | with_reducible assumption | omega)
  refine W_cond rfl (fun h2 => W_skip ?_) (fun h2 => W_exit ?_)
  · simp at h2
    have ha := List.getElem?_eq_getElem h2
    have hmem := List.getElem_mem h2
    generalize l[i] = x at ha hmem
    have hg := sumBy_get (f := GNote.cost) ha
    have hcx : x.cost = x.fWhat.length + x.fPath.length := rfl
    have cs := s_SumOf_g (GG := GG) a x ha64 (o4 x hmem) (by omega) (by omega)
    have hx64 := (o4 x hmem).2.2.2.2.2.2
    refine W_seq (W_block (W_seq ?_))
    refine W_seq (?_)
    by_cases hs : x.fSum = sumV a x
    · have hb2 := breakL_hit ha hb hs
      generalize sumV a x = y at cs hs
      refine W_regBD 30 (false) (fun K hK => ?_) ?_
      · simp [ha]
        repeat' (first | exact hK _ _ (by clear hK; first | omega | (exact decide_eq_false (by omega)) | (exact decide_eq_true (by omega)) | (exact (decide_eq_true (by omega)).symm) | (exact (decide_eq_false (by omega)).symm) | (exact decide_eq_decide.2 (by omega)) | (simp only [← decide_not]; exact decide_eq_decide.2 (by omega)) | (simp [*]; done) | (simp [*]; omega) | (simp_all; done) | (simp_all; omega) | (rw [Bool.eq_iff_iff]; simp at *; omega)) | (with_reducible refine callQ (cs) ?_; simp [ha]) | (with_reducible refine goL_split (fun _ => ?_) (fun _ => ?_) <;> simp [ha]) | with_reducible refine And.intro ?_ ?_ | with_reducible exact okay_rfl rfl | with_reducible assumption | omega)
      refine W_cond rfl (fun h3 => ?_) (fun h3 => W_skip ?_)
      · cases h3
      apply W_regS
      · intro K hK
        simp [ha]
        repeat' (first | with_reducible exact hK | (with_reducible refine goL_split (fun _ => ?_) (fun _ => ?_) <;> simp [ha]) | with_reducible refine And.intro ?_ ?_ | with_reducible exact okay_rfl rfl | with_reducible assumption | omega)
      apply W_regS
      · intro K hK
        simp
        repeat' (first | with_reducible exact hK | (with_reducible refine goL_split (fun _ => ?_) (fun _ => ?_) <;> simp) | with_reducible refine And.intro ?_ ?_ | with_reducible exact okay_rfl rfl | with_reducible assumption | omega)
      exact ⟨l.length - (i + 1), by omega, i + 1, x.fSum, rfl, h2, hx64, hb2, by simp [gc, closeN, liveA, gcV, gcO, renA, renAs, renO, namesAs, namesA, namesO, posn]; exact wrap_id (by omega) (by omega)⟩
    · have hb2 := breakL_miss ha hb hs
      generalize sumV a x = y at cs hs
      refine W_regBD 30 (true) (fun K hK => ?_) ?_
      · simp [ha]
        repeat' (first | exact hK _ _ (by clear hK; first | omega | (exact decide_eq_false (by omega)) | (exact decide_eq_true (by omega)) | (exact (decide_eq_true (by omega)).symm) | (exact (decide_eq_false (by omega)).symm) | (exact decide_eq_decide.2 (by omega)) | (simp only [← decide_not]; exact decide_eq_decide.2 (by omega)) | (simp [*]; done) | (simp [*]; omega) | (simp_all; done) | (simp_all; omega) | (rw [Bool.eq_iff_iff]; simp at *; omega)) | (with_reducible refine callQ (cs) ?_; simp [ha]) | (with_reducible refine goL_split (fun _ => ?_) (fun _ => ?_) <;> simp [ha]) | with_reducible refine And.intro ?_ ?_ | with_reducible exact okay_rfl rfl | with_reducible assumption | omega)
      refine W_cond rfl (fun h3 => W_seq ?_) (fun h3 => ?_)
      rotate_left
      · cases h3
      apply W_regS
      · intro K hK
        simp
        repeat' (first | with_reducible exact hK | (with_reducible refine goL_split (fun _ => ?_) (fun _ => ?_) <;> simp) | with_reducible refine And.intro ?_ ?_ | with_reducible exact okay_rfl rfl | with_reducible assumption | omega)
      rw [hb2] at hr
      refine W_ret ?_
      simp [Fin, hr]
      all_goals omega
  · simp at h2
    have hb2 := breakL_end (by omega) hi hb
    rw [if_pos rfl]
    refine W_seq (?_)
    apply W_regS
    · intro K hK
      simp
      repeat' (first | with_reducible exact hK | (with_reducible refine goL_split (fun _ => ?_) (fun _ => ?_) <;> simp) | with_reducible refine And.intro ?_ ?_ | with_reducible exact okay_rfl rfl | with_reducible assumption | omega)
    rw [hb2] at hr
    refine W_ret ?_
    simp [Fin, hr]
    all_goals omega

theorem breakOf_ok [P10 GG] (c : GChain) (hok : c.ok) (hc : c.cost ≤ 1048576) : Valid PP GG F_I_breakOf [.agg c.c] (.d (.int .i64 (breakL c.fFirst c.fNotes : Nat))) [none] := by
  refine v_I_breakOf [.d (.int .i64 (breakL c.fFirst c.fNotes : Nat))] rfl rfl ?_
  obtain ⟨f, k, l⟩ := c
  have hco : (GChain.mk f k l).cost = l.length + sumBy GNote.cost l := rfl
  obtain ⟨o1, o2, o3, o4⟩ := hok
  simp only at o1 o4
  simp only
  obtain ⟨m, hr⟩ : ∃ m, breakL f l = m := ⟨_, rfl⟩
  rw [hr]
  refine W_seq (?_)
  apply W_regS
  · intro K hK
    simp
    repeat' (first | with_reducible exact hK | (with_reducible refine goL_split (fun _ => ?_) (fun _ => ?_) <;> simp) | with_reducible refine And.intro ?_ ?_ | with_reducible exact okay_rfl rfl | with_reducible assumption | omega)
  refine W_seq (?_)
  apply W_regS
  · intro K hK
    simp
    repeat' (first | with_reducible exact hK | (with_reducible refine goL_split (fun _ => ?_) (fun _ => ?_) <;> simp) | with_reducible refine And.intro ?_ ?_ | with_reducible exact okay_rfl rfl | with_reducible assumption | omega)
  refine W_seq (W_seq (?_))
  apply W_regS
  · intro K hK
    simp
    repeat' (first | with_reducible exact hK | (with_reducible refine goL_split (fun _ => ?_) (fun _ => ?_) <;> simp) | with_reducible refine And.intro ?_ ?_ | with_reducible exact okay_rfl rfl | with_reducible assumption | omega)
  refine W_block (W_loop (fun n st => ∃ (i : Nat) (a : Int), n = l.length - i ∧ i ≤ l.length ∧ int64 a ∧ breakL f l = i + breakL a (l.drop i) ∧
    st = ⟨[], [(1, .ptr 0 0), (3, .d (.int .i64 a)), (9, .d (.slc 7 (rNote l))), (10, .d (.int .i64 l.length)), (11, .d (.int .i64 i))], [(0, .box [.d (.int .i64 f), .d (.int .i64 k), .d (.slc 7 (rNote l))])], 1⟩) _ ⟨0, f, rfl, by omega, o1, by simp, rfl⟩ ?_)
  rintro n st ⟨i, a, rfl, hi, ha64, hb, rfl⟩
  refine W_seq (?_)
  apply W_regS
  · intro K hK
    simp
    repeat' (first | with_reducible exact hK | (with_reducible refine goL_split (fun _ => ?_) (fun _ => ?_) <;> simp) | with_reducible refine And.intro ?_ ?_ | with_reducible exact okay_rfl rfl | with_reducible assumption | omega)
  refine W_seq (?_)
  refine W_cond rfl (fun h2 => W_skip ?_) (fun h2 => W_exit ?_)
  · simp at h2
    have ha := List.getElem?_eq_getElem h2
    have hmem := List.getElem_mem h2
    generalize l[i] = x at ha hmem
    have hg := sumBy_get (f := GNote.cost) ha
    have hcx : x.cost = x.fWhat.length + x.fPath.length := rfl
    have cs := sumOf_g (GG := GG) a x ha64 (o4 x hmem) (by omega) (by omega)
    have hx64 := (o4 x hmem).2.2.2.2.2.2
    refine W_seq (W_block (W_seq ?_))
    apply W_regS
    · intro K hK
      simp [ha]
      repeat' (first | with_reducible exact hK | (with_reducible refine goL_split (fun _ => ?_) (fun _ => ?_) <;> simp [ha]) | with_reducible refine And.intro ?_ ?_ | with_reducible exact okay_rfl rfl | with_reducible assumption | omega)
    refine W_seq (W_seq (?_))
    by_cases hs : x.fSum = sumV a x
    · have hb2 := breakL_hit ha hb hs
      generalize sumV a x = y at cs hs
      refine W_regBD 21 (false) (fun K hK => ?_) ?_
      · simp
        repeat' (first | exact hK _ _ (by clear hK; first | omega | (exact decide_eq_false (by omega)) | (exact decide_eq_true (by omega)) | (exact (decide_eq_true (by omega)).symm) | (exact (decide_eq_false (by omega)).symm) | (exact decide_eq_decide.2 (by omega)) | (simp only [← decide_not]; exact decide_eq_decide.2 (by omega)) | (simp [*]; done) | (simp [*]; omega) | (simp_all; done) | (simp_all; omega) | (rw [Bool.eq_iff_iff]; simp at *; omega)) | (with_reducible refine callQ (cs) ?_; simp) | (with_reducible refine goL_split (fun _ => ?_) (fun _ => ?_) <;> simp) | with_reducible refine And.intro ?_ ?_ | with_reducible exact okay_rfl rfl | with_reducible assumption | omega)
      refine W_cond rfl (fun h3 => ?_) (fun h3 => W_skip ?_)
      · cases h3
      apply W_regS
      · intro K hK
        simp
        repeat' (first | with_reducible exact hK | (with_reducible refine goL_split (fun _ => ?_) (fun _ => ?_) <;> simp) | with_reducible refine And.intro ?_ ?_ | with_reducible exact okay_rfl rfl | with_reducible assumption | omega)
      apply W_regS
      · intro K hK
        simp
        repeat' (first | with_reducible exact hK | (with_reducible refine goL_split (fun _ => ?_) (fun _ => ?_) <;> simp) | with_reducible refine And.intro ?_ ?_ | with_reducible exact okay_rfl rfl | with_reducible assumption | omega)
      exact ⟨l.length - (i + 1), by omega, i + 1, x.fSum, rfl, h2, hx64, hb2, by simp [gc, closeN, liveA, gcV, gcO, renA, renAs, renO, namesAs, namesA, namesO, posn]; exact wrap_id (by omega) (by omega)⟩
    · have hb2 := breakL_miss ha hb hs
      generalize sumV a x = y at cs hs
      refine W_regBD 21 (true) (fun K hK => ?_) ?_
      · simp
        repeat' (first | exact hK _ _ (by clear hK; first | omega | (exact decide_eq_false (by omega)) | (exact decide_eq_true (by omega)) | (exact (decide_eq_true (by omega)).symm) | (exact (decide_eq_false (by omega)).symm) | (exact decide_eq_decide.2 (by omega)) | (simp only [← decide_not]; exact decide_eq_decide.2 (by omega)) | (simp [*]; done) | (simp [*]; omega) | (simp_all; done) | (simp_all; omega) | (rw [Bool.eq_iff_iff]; simp at *; omega)) | (with_reducible refine callQ (cs) ?_; simp) | (with_reducible refine goL_split (fun _ => ?_) (fun _ => ?_) <;> simp) | with_reducible refine And.intro ?_ ?_ | with_reducible exact okay_rfl rfl | with_reducible assumption | omega)
      refine W_cond rfl (fun h3 => W_seq ?_) (fun h3 => ?_)
      rotate_left
      · cases h3
      apply W_regS
      · intro K hK
        simp
        repeat' (first | with_reducible exact hK | (with_reducible refine goL_split (fun _ => ?_) (fun _ => ?_) <;> simp) | with_reducible refine And.intro ?_ ?_ | with_reducible exact okay_rfl rfl | with_reducible assumption | omega)
      rw [hb2] at hr
      refine W_ret ?_
      simp [Fin, hr]
      all_goals omega
  · simp at h2
    have hb2 := breakL_end (by omega) hi hb
    rw [if_pos rfl]
    refine W_seq (?_)
    apply W_regS
    · intro K hK
      simp
      repeat' (first | with_reducible exact hK | (with_reducible refine goL_split (fun _ => ?_) (fun _ => ?_) <;> simp) | with_reducible refine And.intro ?_ ?_ | with_reducible exact okay_rfl rfl | with_reducible assumption | omega)
    rw [hb2] at hr
    refine W_ret ?_
    simp [Fin, hr]
    all_goals omega

theorem i_BreakOf_ok [P10 GG] [MaxL GG] (c : GChain) (hok : c.ok) (hc : c.cost ≤ 1048576) : Valid PP GG F_I_BreakOf [.agg c.c] (.d (.int .i64 (breakV c))) [none] := by
  refine v_I_BreakOf [.d (.int .i64 (breakV c))] rfl rfl ?_
  have cc := isChain_ok (GG := GG) c (by omega)
  have ch := breakOf_ok (GG := GG) c hok hc
  have hr : breakV c = if chainOk c = true then ((breakL c.fFirst c.fNotes : Nat) : Int) else -1 := rfl
  generalize breakL c.fFirst c.fNotes = v at ch hr
  generalize chainOk c = b at cc hr
  refine W_seq (?_)
  apply W_regS
  · intro K hK
    simp
    repeat' (first | with_reducible exact hK | (with_reducible refine goL_split (fun _ => ?_) (fun _ => ?_) <;> simp) | with_reducible refine And.intro ?_ ?_ | with_reducible exact okay_rfl rfl | with_reducible assumption | omega)
  refine W_seq (W_seq (?_))
  apply W_regS
  · intro K hK
    simp
    repeat' (first | with_reducible exact hK | (with_reducible refine callQ (cc) ?_; simp) | (with_reducible refine goL_split (fun _ => ?_) (fun _ => ?_) <;> simp) | with_reducible refine And.intro ?_ ?_ | with_reducible exact okay_rfl rfl | with_reducible assumption | omega)
  refine W_cond rfl (fun h => W_seq ?_) (fun h => W_skip ?_)
  · simp at h
    subst h
    apply W_regS
    · intro K hK
      simp
      repeat' (first | with_reducible exact hK | (with_reducible refine goL_split (fun _ => ?_) (fun _ => ?_) <;> simp) | with_reducible refine And.intro ?_ ?_ | with_reducible exact okay_rfl rfl | with_reducible assumption | omega)
    rw [if_neg (by simp)] at hr
    refine W_ret ?_
    simp [Fin, hr]
    all_goals omega
  simp at h
  subst h
  rw [if_pos rfl] at hr
  refine W_seq (?_)
  apply W_regS
  · intro K hK
    simp
    repeat' (first | with_reducible exact hK | (with_reducible refine callQ (ch) ?_; simp) | (with_reducible refine goL_split (fun _ => ?_) (fun _ => ?_) <;> simp) | with_reducible refine And.intro ?_ ?_ | with_reducible exact okay_rfl rfl | with_reducible assumption | omega)
  refine W_ret ?_
  simp [Fin, hr]
  all_goals omega

def headL (c : GChain) : Int := match c.fNotes.getLast? with | some x => x.fSum | none => c.fFirst

def joinB (a b : List GNote) : Bool := match a.getLast?, b with
  | none, _ => true
  | _, [] => true
  | some x, y :: _ => decide (y.fSeq = x.fSeq + 1)

def followsV (a b : GChain) : Bool := chainOk a && chainOk b && decide (breakL a.fFirst a.fNotes = a.fNotes.length) && decide (breakL b.fFirst b.fNotes = b.fNotes.length) && decide (headL a = b.fFirst) && joinB a.fNotes b.fNotes

theorem i_Follows_ok [P10 GG] [MaxL GG] (a b : GChain) (hoa : a.ok) (hob : b.ok) (ha : a.cost ≤ 1048576) (hb : b.cost ≤ 1048576) : Valid PP GG F_I_Follows [.agg a.c, .agg b.c] (.d (.bool (followsV a b))) [none, none] := by
  refine v_I_Follows [.d (.bool (followsV a b))] rfl rfl ?_
  have c1 := isChain_ok (GG := GG) a (by omega)
  have c2 := isChain_ok (GG := GG) b (by omega)
  have c3 := breakOf_ok (GG := GG) a hoa ha
  have c4 := breakOf_ok (GG := GG) b hob hb
  have c5 := headOf_ok (GG := GG) a ha
  change Valid PP GG F_I_headOf [.agg a.c] (.d (.int .i64 (headL a))) [none] at c5
  have h3 := breakL_le a.fFirst a.fNotes
  have h4 := breakL_le b.fFirst b.fNotes
  have hca : a.cost = a.fNotes.length + sumBy GNote.cost a.fNotes := rfl
  have hcb : b.cost = b.fNotes.length + sumBy GNote.cost b.fNotes := rfl
  have hr : followsV a b = (chainOk a && chainOk b && decide (breakL a.fFirst a.fNotes = a.fNotes.length) && decide (breakL b.fFirst b.fNotes = b.fNotes.length) && decide (headL a = b.fFirst) && joinB a.fNotes b.fNotes) := rfl
  have hna : chainOk a = true → ∀ (i : Nat) x, a.fNotes[i]? = some x → noteOk x = true := fun h i x hx => chain_note h hx
  generalize followsV a b = r at hr
  generalize breakL a.fFirst a.fNotes = m1 at c3 h3 hr
  generalize breakL b.fFirst b.fNotes = m2 at c4 h4 hr
  generalize headL a = v3 at c5 hr
  generalize chainOk a = p at c1 hr hna
  generalize chainOk b = q at c2 hr
  obtain ⟨f, k, l⟩ := a
  obtain ⟨f2, k2, l2⟩ := b
  simp only at hr hca hcb hna h3 h4
  refine W_seq (?_)
  apply W_regS
  · intro K hK
    simp
    repeat' (first | with_reducible exact hK | (with_reducible refine goL_split (fun _ => ?_) (fun _ => ?_) <;> simp) | with_reducible refine And.intro ?_ ?_ | with_reducible exact okay_rfl rfl | with_reducible assumption | omega)
  refine W_seq (W_seq (?_))
  cases p with
  | false =>
    refine W_regBD 35 (true) (fun K hK => ?_) ?_
    · simp
      repeat' (first | exact hK _ _ (by clear hK; first | omega | (exact decide_eq_false (by omega)) | (exact decide_eq_true (by omega)) | (exact (decide_eq_true (by omega)).symm) | (exact (decide_eq_false (by omega)).symm) | (exact decide_eq_decide.2 (by omega)) | (simp only [← decide_not]; exact decide_eq_decide.2 (by omega)) | (simp [*]; done) | (simp [*]; omega) | (simp_all; done) | (simp_all; omega) | (rw [Bool.eq_iff_iff]; simp at *; omega)) | (with_reducible refine callQ (c1) ?_; simp) | (with_reducible refine goL_split (fun _ => ?_) (fun _ => ?_) <;> simp) | with_reducible refine And.intro ?_ ?_ | with_reducible exact okay_rfl rfl | with_reducible assumption | omega)
    refine W_cond rfl (fun h => W_seq ?_) (fun h => ?_)
    rotate_left
    · cases h
    apply W_regS
    · intro K hK
      simp
      repeat' (first | with_reducible exact hK | (with_reducible refine goL_split (fun _ => ?_) (fun _ => ?_) <;> simp) | with_reducible refine And.intro ?_ ?_ | with_reducible exact okay_rfl rfl | with_reducible assumption | omega)
    simp at hr
    refine W_ret ?_
    simp [Fin, hr]
    all_goals omega
  | true =>
  cases q with
  | false =>
    refine W_regBD 35 (true) (fun K hK => ?_) ?_
    · simp
      repeat' (first | exact hK _ _ (by clear hK; first | omega | (exact decide_eq_false (by omega)) | (exact decide_eq_true (by omega)) | (exact (decide_eq_true (by omega)).symm) | (exact (decide_eq_false (by omega)).symm) | (exact decide_eq_decide.2 (by omega)) | (simp only [← decide_not]; exact decide_eq_decide.2 (by omega)) | (simp [*]; done) | (simp [*]; omega) | (simp_all; done) | (simp_all; omega) | (rw [Bool.eq_iff_iff]; simp at *; omega)) | (with_reducible refine callQ (c1) ?_; simp) | (with_reducible refine callQ (c2) ?_; simp) | (with_reducible refine goL_split (fun _ => ?_) (fun _ => ?_) <;> simp) | with_reducible refine And.intro ?_ ?_ | with_reducible exact okay_rfl rfl | with_reducible assumption | omega)
    refine W_cond rfl (fun h => W_seq ?_) (fun h => ?_)
    rotate_left
    · cases h
    apply W_regS
    · intro K hK
      simp
      repeat' (first | with_reducible exact hK | (with_reducible refine goL_split (fun _ => ?_) (fun _ => ?_) <;> simp) | with_reducible refine And.intro ?_ ?_ | with_reducible exact okay_rfl rfl | with_reducible assumption | omega)
    simp at hr
    refine W_ret ?_
    simp [Fin, hr]
    all_goals omega
  | true =>
  simp only [Bool.true_and] at hr
  by_cases e1 : m1 = l.length
  case neg =>
    refine W_regBD 35 (true) (fun K hK => ?_) ?_
    · simp
      repeat' (first | exact hK _ _ (by clear hK; first | omega | (exact decide_eq_false (by omega)) | (exact decide_eq_true (by omega)) | (exact (decide_eq_true (by omega)).symm) | (exact (decide_eq_false (by omega)).symm) | (exact decide_eq_decide.2 (by omega)) | (simp only [← decide_not]; exact decide_eq_decide.2 (by omega)) | (simp [*]; done) | (simp [*]; omega) | (simp_all; done) | (simp_all; omega) | (rw [Bool.eq_iff_iff]; simp at *; omega)) | (with_reducible refine callQ (c1) ?_; simp) | (with_reducible refine callQ (c2) ?_; simp) | (with_reducible refine callQ (c3) ?_; simp) | (with_reducible refine callQ (c4) ?_; simp) | (with_reducible refine callQ (c5) ?_; simp) | (with_reducible refine goL_split (fun _ => ?_) (fun _ => ?_) <;> simp) | with_reducible refine And.intro ?_ ?_ | with_reducible exact okay_rfl rfl | with_reducible assumption | omega)
    refine W_cond rfl (fun h => W_seq ?_) (fun h => ?_)
    rotate_left
    · cases h
    rw [decide_eq_false (by omega)] at hr
    apply W_regS
    · intro K hK
      simp
      repeat' (first | with_reducible exact hK | (with_reducible refine goL_split (fun _ => ?_) (fun _ => ?_) <;> simp) | with_reducible refine And.intro ?_ ?_ | with_reducible exact okay_rfl rfl | with_reducible assumption | omega)
    simp at hr
    refine W_ret ?_
    simp [Fin, hr]
    all_goals omega
  rw [decide_eq_true (by omega)] at hr
  by_cases e2 : m2 = l2.length
  case neg =>
    refine W_regBD 35 (true) (fun K hK => ?_) ?_
    · simp
      repeat' (first | exact hK _ _ (by clear hK; first | omega | (exact decide_eq_false (by omega)) | (exact decide_eq_true (by omega)) | (exact (decide_eq_true (by omega)).symm) | (exact (decide_eq_false (by omega)).symm) | (exact decide_eq_decide.2 (by omega)) | (simp only [← decide_not]; exact decide_eq_decide.2 (by omega)) | (simp [*]; done) | (simp [*]; omega) | (simp_all; done) | (simp_all; omega) | (rw [Bool.eq_iff_iff]; simp at *; omega)) | (with_reducible refine callQ (c1) ?_; simp) | (with_reducible refine callQ (c2) ?_; simp) | (with_reducible refine callQ (c3) ?_; simp) | (with_reducible refine callQ (c4) ?_; simp) | (with_reducible refine callQ (c5) ?_; simp) | (with_reducible refine goL_split (fun _ => ?_) (fun _ => ?_) <;> simp) | with_reducible refine And.intro ?_ ?_ | with_reducible exact okay_rfl rfl | with_reducible assumption | omega)
    refine W_cond rfl (fun h => W_seq ?_) (fun h => ?_)
    rotate_left
    · cases h
    rw [decide_eq_false (by omega)] at hr
    apply W_regS
    · intro K hK
      simp
      repeat' (first | with_reducible exact hK | (with_reducible refine goL_split (fun _ => ?_) (fun _ => ?_) <;> simp) | with_reducible refine And.intro ?_ ?_ | with_reducible exact okay_rfl rfl | with_reducible assumption | omega)
    simp at hr
    refine W_ret ?_
    simp [Fin, hr]
    all_goals omega
  rw [decide_eq_true (by omega)] at hr
  by_cases e3 : v3 = f2
  case neg =>
    refine W_regBD 35 (true) (fun K hK => ?_) ?_
    · simp
      repeat' (first | exact hK _ _ (by clear hK; first | omega | (exact decide_eq_false (by omega)) | (exact decide_eq_true (by omega)) | (exact (decide_eq_true (by omega)).symm) | (exact (decide_eq_false (by omega)).symm) | (exact decide_eq_decide.2 (by omega)) | (simp only [← decide_not]; exact decide_eq_decide.2 (by omega)) | (simp [*]; done) | (simp [*]; omega) | (simp_all; done) | (simp_all; omega) | (rw [Bool.eq_iff_iff]; simp at *; omega)) | (with_reducible refine callQ (c1) ?_; simp) | (with_reducible refine callQ (c2) ?_; simp) | (with_reducible refine callQ (c3) ?_; simp) | (with_reducible refine callQ (c4) ?_; simp) | (with_reducible refine callQ (c5) ?_; simp) | (with_reducible refine goL_split (fun _ => ?_) (fun _ => ?_) <;> simp) | with_reducible refine And.intro ?_ ?_ | with_reducible exact okay_rfl rfl | with_reducible assumption | omega)
    refine W_cond rfl (fun h => W_seq ?_) (fun h => ?_)
    rotate_left
    · cases h
    rw [decide_eq_false (by omega)] at hr
    apply W_regS
    · intro K hK
      simp
      repeat' (first | with_reducible exact hK | (with_reducible refine goL_split (fun _ => ?_) (fun _ => ?_) <;> simp) | with_reducible refine And.intro ?_ ?_ | with_reducible exact okay_rfl rfl | with_reducible assumption | omega)
    simp at hr
    refine W_ret ?_
    simp [Fin, hr]
    all_goals omega
  rw [decide_eq_true (by omega)] at hr
  simp only [Bool.true_and] at hr
  refine W_regBD 35 (false) (fun K hK => ?_) ?_
  · simp
    repeat' (first | exact hK _ _ (by clear hK; first | omega | (exact decide_eq_false (by omega)) | (exact decide_eq_true (by omega)) | (exact (decide_eq_true (by omega)).symm) | (exact (decide_eq_false (by omega)).symm) | (exact decide_eq_decide.2 (by omega)) | (simp only [← decide_not]; exact decide_eq_decide.2 (by omega)) | (simp [*]; done) | (simp [*]; omega) | (simp_all; done) | (simp_all; omega) | (rw [Bool.eq_iff_iff]; simp at *; omega)) | (with_reducible refine callQ (c1) ?_; simp) | (with_reducible refine callQ (c2) ?_; simp) | (with_reducible refine callQ (c3) ?_; simp) | (with_reducible refine callQ (c4) ?_; simp) | (with_reducible refine callQ (c5) ?_; simp) | (with_reducible refine goL_split (fun _ => ?_) (fun _ => ?_) <;> simp) | with_reducible refine And.intro ?_ ?_ | with_reducible exact okay_rfl rfl | with_reducible assumption | omega)
  refine W_cond rfl (fun h => ?_) (fun h => W_skip ?_)
  · cases h
  clear c1 c2 c3 c4 c5
  cases hl : l with
  | nil =>
    subst hl
    simp [joinB] at hr
    refine W_seq (?_)
    refine W_regBD 4 (true) (fun K hK => ?_) ?_
    · simp [rNote]
      repeat' (first | exact hK _ _ (by clear hK; first | omega | (exact decide_eq_false (by omega)) | (exact decide_eq_true (by omega)) | (exact (decide_eq_true (by omega)).symm) | (exact (decide_eq_false (by omega)).symm) | (exact decide_eq_decide.2 (by omega)) | (simp only [← decide_not]; exact decide_eq_decide.2 (by omega)) | (simp [*]; done) | (simp [*]; omega) | (simp_all; done) | (simp_all; omega) | (rw [Bool.eq_iff_iff]; simp at *; omega)) | (with_reducible refine goL_split (fun _ => ?_) (fun _ => ?_) <;> simp [rNote]) | with_reducible refine And.intro ?_ ?_ | with_reducible exact okay_rfl rfl | with_reducible assumption | omega)
    refine W_ret ?_
    simp [Fin, hr]
    all_goals omega
  | cons z t =>
  cases hl2 : l2 with
  | nil =>
    rw [← hl]
    subst hl2
    have : joinB l [] = true := by unfold joinB; split <;> simp_all
    simp [this] at hr
    refine W_seq (?_)
    refine W_regBD 4 (true) (fun K hK => ?_) ?_
    · simp [rNote]
      repeat' (first | exact hK _ _ (by clear hK; first | omega | (exact decide_eq_false (by omega)) | (exact decide_eq_true (by omega)) | (exact (decide_eq_true (by omega)).symm) | (exact (decide_eq_false (by omega)).symm) | (exact decide_eq_decide.2 (by omega)) | (simp only [← decide_not]; exact decide_eq_decide.2 (by omega)) | (simp [*]; done) | (simp [*]; omega) | (simp_all; done) | (simp_all; omega) | (rw [Bool.eq_iff_iff]; simp at *; omega)) | (with_reducible refine goL_split (fun _ => ?_) (fun _ => ?_) <;> simp [rNote]) | with_reducible refine And.intro ?_ ?_ | with_reducible exact okay_rfl rfl | with_reducible assumption | omega)
    refine W_ret ?_
    simp [Fin, hr]
    all_goals omega
  | cons y u =>
    have hx := List.getElem?_eq_getElem (show t.length < (z :: t).length by simp)
    generalize (z :: t)[t.length]'_ = x at hx
    have hlast : l.getLast? = some x := last_get (n := t.length) (by rw [hl]; simp) (by rw [hl]; exact hx)
    have hlen : l.length = t.length + 1 := by rw [hl]; simp
    have hy : l2[0]? = some y := by rw [hl2]; rfl
    have hlen2 : l2.length = u.length + 1 := by rw [hl2]; simp
    have hj : joinB l l2 = decide (y.fSeq = x.fSeq + 1) := by rw [hl2]; unfold joinB; rw [hlast]
    rw [← hl] at hx ⊢
    rw [← hl2]
    rw [hj] at hr
    have hn := note_range (hna rfl _ _ hx)
    clear hl hl2 hj hlast
    have hw : IntKind.i64.wrap ((l.length : Int) - 1) = (t.length : Int) := by rw [wrap_id (by omega) (by omega)]; omega
    have hw2 : IntKind.i64.wrap (x.fSeq + 1) = x.fSeq + 1 := wrap_id (by omega) (by omega)
    have h0 : t.length < l.length := by omega
    have h02 : 0 < l2.length := by omega
    have hz1 : ((l.length : Int) == 0) = false := beq_eq_false_iff_ne.2 (by omega)
    have hz2 : ((l2.length : Int) == 0) = false := beq_eq_false_iff_ne.2 (by omega)
    refine W_seq (?_)
    refine W_regBD 4 (decide (y.fSeq = x.fSeq + 1)) (fun K hK => ?_) ?_
    · simp [hz1, hz2, hw, hw2, hx, hy]
      repeat' (first | exact hK _ _ (by clear hK; first | omega | (exact decide_eq_false (by omega)) | (exact decide_eq_true (by omega)) | (exact (decide_eq_true (by omega)).symm) | (exact (decide_eq_false (by omega)).symm) | (exact decide_eq_decide.2 (by omega)) | (simp only [← decide_not]; exact decide_eq_decide.2 (by omega)) | (simp [*]; done) | (simp [*]; omega) | (simp_all; done) | (simp_all; omega) | (rw [Bool.eq_iff_iff]; simp at *; omega)) | (with_reducible refine goL_split (fun _ => ?_) (fun _ => ?_) <;> simp [hz1, hz2, hw, hw2, hx, hy]) | with_reducible refine And.intro ?_ ?_ | with_reducible exact okay_rfl rfl | with_reducible assumption | omega)
    refine W_ret ?_
    simp [Fin, hr]
    all_goals omega

theorem ind_rNote (l : List GNote) : ∀ row, row ∈ rNote l → ∀ d, d ∈ row → IndD 0 d := by
  intro row hr d hd
  simp only [rNote, List.mem_map] at hr
  obtain ⟨x, _, rfl⟩ := hr
  simp only [GNote.row, List.mem_cons, List.not_mem_nil, or_false] at hd
  rcases hd with rfl | rfl | rfl | rfl | rfl | rfl | rfl <;> trivial

theorem rNote_snoc (l : List GNote) (x : GNote) : rNote (l ++ [x]) = rNote l ++ [x.row] := by simp [rNote]

theorem l15Copy_ok (r : GChain) (hc : r.cost ≤ 4194304) : Valid PP GG F_S_l15Copy [.agg r.c] (.agg r.o) [none] := by
  refine v_S_l15Copy [.agg r.o] rfl rfl ?_
  obtain ⟨f, k, l⟩ := r
  have hco : (GChain.mk f k l).cost = l.length + sumBy GNote.cost l := rfl
  refine W_seq (?_)
  apply W_regS
  · intro K hK
    simp
    repeat' (first | with_reducible exact hK | (with_reducible refine goL_split (fun _ => ?_) (fun _ => ?_) <;> simp) | with_reducible refine And.intro ?_ ?_ | with_reducible exact okay_rfl rfl | with_reducible assumption | omega)
  refine W_seq (?_)
  apply W_regS
  · intro K hK
    simp
    repeat' (first | with_reducible exact hK | (with_reducible refine goL_split (fun _ => ?_) (fun _ => ?_) <;> simp) | with_reducible refine And.intro ?_ ?_ | with_reducible exact okay_rfl rfl | with_reducible assumption | omega)
  refine W_seq (W_seq (?_))
  apply W_regS
  · intro K hK
    simp
    repeat' (first | with_reducible exact hK | (with_reducible refine goL_split (fun _ => ?_) (fun _ => ?_) <;> simp) | with_reducible refine And.intro ?_ ?_ | with_reducible exact okay_rfl rfl | with_reducible assumption | omega)
  refine W_block (W_loop (fun n st => ∃ (i : Nat) (w : List GNote), n = l.length - i ∧ i ≤ l.length ∧ w = l.take i ∧
    ((i = 0 ∧ st = ⟨[], [(1, .ptr 0 0), (2, .ptr 1 0), (3, .ptr 2 0), (4, .d (.int .i64 0))], [(0, .box [.d (.int .i64 f), .d (.int .i64 k), .d (.slc 7 (rNote l))]), (1, .box [.d (.int .i64 0), .d (.int .i64 0), .nil 0 7]), (2, .box [.d (.int .i64 f), .d (.int .i64 k), .nil 0 7])], 3⟩) ∨
     st = ⟨[], [(1, .ptr 0 0), (2, .ptr 1 0), (3, .ptr 2 0), (4, .d (.int .i64 i))], [(0, .box [.d (.int .i64 f), .d (.int .i64 k), .d (.slc 7 (rNote l))]), (1, .box [.d (.int .i64 0), .d (.int .i64 0), .nil 0 7]), (2, .box [.d (.int .i64 f), .d (.int .i64 k), .sl 3]), (3, .arr 0 0 7 (rNote w))], 4⟩)) _ ⟨0, [], rfl, by omega, rfl, .inl ⟨rfl, rfl⟩⟩ ?_)
  rintro n st ⟨i, w, rfl, hi, hw, ⟨rfl, rfl⟩ | rfl⟩
  · refine W_seq (W_seq (?_))
    apply W_regS
    · intro K hK
      simp
      repeat' (first | with_reducible exact hK | (with_reducible refine goL_split (fun _ => ?_) (fun _ => ?_) <;> simp) | with_reducible refine And.intro ?_ ?_ | with_reducible exact okay_rfl rfl | with_reducible assumption | omega)
    refine W_cond rfl (fun h => W_skip ?_) (fun h => W_exit ?_)
    · simp at h
      have ha := List.getElem?_eq_getElem h
      generalize l[0] = x at ha
      have hg := sumBy_get (f := GNote.cost) ha
      refine W_seq (W_block ?_)
      apply W_regD
      · intro K hK
        simp [ha, limit]
        repeat' (first | with_reducible exact hK | (with_reducible refine goL_split (fun _ => ?_) (fun _ => ?_) <;> simp [ha, limit]) | with_reducible refine And.intro ?_ ?_ | with_reducible exact okay_rfl rfl | with_reducible assumption | omega)
      apply W_regS
      · intro K hK
        simp
        repeat' (first | with_reducible exact hK | (with_reducible refine goL_split (fun _ => ?_) (fun _ => ?_) <;> simp) | with_reducible refine And.intro ?_ ?_ | with_reducible exact okay_rfl rfl | with_reducible assumption | omega)
      refine ⟨l.length - (0 + 1), by omega, 0 + 1, [x], rfl, h, by rw [List.take_add_one, ha]; rfl, .inr ?_⟩
      simp [gc, closeN, liveA, gcV, gcO, renA, renAs, renO, namesAs, namesA, namesO, posn, rNote]
      exact wrap_id (by omega) (by omega)
    · simp at h
      have hnil : l = [] := by first | exact h | exact List.length_eq_zero_iff.1 (by omega)
      rw [if_pos rfl]
      refine W_seq (?_)
      apply W_regS
      · intro K hK
        simp
        repeat' (first | with_reducible exact hK | (with_reducible refine goL_split (fun _ => ?_) (fun _ => ?_) <;> simp) | with_reducible refine And.intro ?_ ?_ | with_reducible exact okay_rfl rfl | with_reducible assumption | omega)
      refine W_ret ?_
      simp [Fin, hnil, rNote]
      all_goals omega
  · refine W_seq (W_seq (?_))
    apply W_regS
    · intro K hK
      simp
      repeat' (first | with_reducible exact hK | (with_reducible refine goL_split (fun _ => ?_) (fun _ => ?_) <;> simp) | with_reducible refine And.intro ?_ ?_ | with_reducible exact okay_rfl rfl | with_reducible assumption | omega)
    refine W_cond rfl (fun h => W_skip ?_) (fun h => W_exit ?_)
    · simp at h
      have ha := List.getElem?_eq_getElem h
      generalize l[i] = x at ha
      have hg := sumBy_get (f := GNote.cost) ha
      have hwl : w.length ≤ l.length := by rw [hw, List.length_take]; omega
      have hs : w ++ [x] = l.take (i + 1) := by rw [hw, List.take_add_one, ha]; rfl
      refine W_seq (W_block ?_)
      apply W_regD
      · intro K hK
        simp [ha, limit]
        repeat' (first | with_reducible exact hK | (with_reducible refine goL_split (fun _ => ?_) (fun _ => ?_) <;> simp [ha, limit]) | with_reducible refine And.intro ?_ ?_ | with_reducible exact okay_rfl rfl | with_reducible assumption | omega)
      apply W_regS
      · intro K hK
        simp
        repeat' (first | with_reducible exact hK | (with_reducible refine goL_split (fun _ => ?_) (fun _ => ?_) <;> simp) | with_reducible refine And.intro ?_ ?_ | with_reducible exact okay_rfl rfl | with_reducible assumption | omega)
      refine ⟨l.length - (i + 1), by omega, i + 1, w ++ [x], rfl, h, hs, .inr ?_⟩
      rw [rNote_snoc]
      simp [gc, closeN, liveA, gcV, gcO, renA, renAs, renO, namesAs, namesA, namesO, posn]
      exact wrap_id (by omega) (by omega)
    · simp at h
      rw [List.take_of_length_le h] at hw
      subst hw
      rw [if_pos rfl]
      refine W_seq (?_)
      apply W_regS
      · intro K hK
        simp
        repeat' (first | with_reducible exact hK | (with_reducible refine goL_split (fun _ => ?_) (fun _ => ?_) <;> simp) | with_reducible refine And.intro ?_ ?_ | with_reducible exact okay_rfl rfl | with_reducible assumption | omega)
      refine W_ret ?_
      simp [Fin]
      all_goals omega

theorem cloneChain_ok (c : GChain) (hc : c.cost ≤ 4194304) : Valid PP GG F_I_cloneChain [.agg c.c] (.agg c.o) [none] := by
  refine v_I_cloneChain [.agg c.o] rfl rfl ?_
  obtain ⟨f, k, l⟩ := c
  have hco : (GChain.mk f k l).cost = l.length + sumBy GNote.cost l := rfl
  have cc := CloneNote_ok (GG := GG) l (by omega)
  have hind := ind_rNote l
  refine W_seq (?_)
  apply W_regS
  · intro K hK
    simp
    repeat' (first | with_reducible exact hK | (with_reducible refine goL_split (fun _ => ?_) (fun _ => ?_) <;> simp) | with_reducible refine And.intro ?_ ?_ | with_reducible exact okay_rfl rfl | with_reducible assumption | omega)
  refine W_seq (?_)
  apply W_regS
  · intro K hK
    simp
    repeat' (first | with_reducible exact hK | (with_reducible refine callQ (cc) ?_; simp) | (with_reducible refine goL_split (fun _ => ?_) (fun _ => ?_) <;> simp) | with_reducible refine And.intro ?_ ?_ | with_reducible exact okay_rfl rfl | with_reducible assumption | omega)
  refine W_seq (?_)
  apply W_regS
  · intro K hK
    simp
    repeat' (first | with_reducible exact hK | (with_reducible refine goL_split (fun _ => ?_) (fun _ => ?_) <;> simp) | with_reducible refine And.intro ?_ ?_ | with_reducible exact okay_rfl rfl | with_reducible assumption | omega)
  refine W_ret ?_
  simp [Fin]
  all_goals omega

def putSeq (n : GNote) (s : Int) : GNote := { n with fSeq := s }

def putSum (n : GNote) (s : Int) : GNote := { n with fSum := s }

/-- The note as it comes into the chain. -/
def newNote (c : GChain) (n : GNote) : GNote :=
  let m := putSeq n (match c.fNotes.getLast? with | some x => x.fSeq + 1 | none => 1)
  putSum m (sumV (headL c) m)

def grown (c : GChain) (x : GNote) : GChain :=
  if c.fNotes.length = 120 then { fFirst := (match c.fNotes with | z :: _ => z.fSum | [] => 0), fSalt := c.fSalt, fNotes := c.fNotes.drop 1 ++ [x] }
  else { fFirst := c.fFirst, fSalt := c.fSalt, fNotes := c.fNotes ++ [x] }

def addB (c : GChain) (n : GNote) : Bool := chainOk c && chainOk (grown c (newNote c n))

def addC (c : GChain) (n : GNote) : GChain := if addB c n = true then grown c (newNote c n) else c

theorem grown_cost (c : GChain) (x : GNote) : (grown c x).cost ≤ c.cost + 1 + x.cost := by
  have hsum : ∀ (a b : List GNote), sumBy GNote.cost (a ++ b) = sumBy GNote.cost a + sumBy GNote.cost b := fun a b => sumBy_append _ a b
  have hd : sumBy GNote.cost (c.fNotes.drop 1) ≤ sumBy GNote.cost c.fNotes := by
    cases c.fNotes with
    | nil => simp
    | cons z t => show sumBy GNote.cost t ≤ sumBy GNote.cost (z :: t); simp [sumBy]
  have h1 : sumBy GNote.cost [x] = x.cost := by simp [sumBy]
  unfold grown
  split
  · show (c.fNotes.drop 1 ++ [x]).length + sumBy GNote.cost (c.fNotes.drop 1 ++ [x]) ≤ c.fNotes.length + sumBy GNote.cost c.fNotes + 1 + x.cost
    rw [hsum, h1, List.length_append, List.length_drop]; simp only [List.length_cons, List.length_nil]; omega
  · show (c.fNotes ++ [x]).length + sumBy GNote.cost (c.fNotes ++ [x]) ≤ c.fNotes.length + sumBy GNote.cost c.fNotes + 1 + x.cost
    rw [hsum, h1, List.length_append]; simp; omega

theorem chain_len {c : GChain} (h : chainOk c = true) : c.fNotes.length ≤ 120 := by
  unfold chainOk at h; simp only [Bool.and_eq_true, decide_eq_true_eq] at h; omega

theorem s_AddNote_ok (c : GChain) (n : GNote) (hok : c.ok) (hon : n.ok) (hc : c.cost + n.cost ≤ 1048576) : Valid PP GG F_S_AddNote [.agg c.c, .agg n.c] (.tup [.agg (addC c n).o, .d (.bool (addB c n))]) [none, none] := by
  have cp := l15Copy_ok (GG := GG) c (by omega)
  have ch := s_HeadOf_ok (GG := GG) c (by omega)
  have cc := s_ChainOk_ok (GG := GG) c (by omega)
  have hhv : headV c = if chainOk c = true then headL c else -1 := rfl
  have hind := ind_rNote c.fNotes
  have hB : addB c n = (chainOk c && chainOk (grown c (newNote c n))) := rfl
  have hC : addC c n = if addB c n = true then grown c (newNote c n) else c := rfl
  have hna : chainOk c = true → ∀ (i : Nat) x, c.fNotes[i]? = some x → noteOk x = true := fun h i x hx => chain_note h hx
  have hlc : chainOk c = true → c.fNotes.length ≤ 120 := chain_len
  obtain ⟨f, k, l⟩ := c
  obtain ⟨q, a, w, t, p, cd, m⟩ := n
  have hco : (GChain.mk f k l).cost = l.length + sumBy GNote.cost l := rfl
  have hcn : (GNote.mk q a w t p cd m).cost = t.length + p.length := rfl
  obtain ⟨o1, o2, o3, o4⟩ := hok
  simp only at o1 o4 hna hind hlc
  have hhl : headL ⟨f, k, l⟩ = match l.getLast? with | some x => x.fSum | none => f := rfl
  have hsl : newNote ⟨f, k, l⟩ ⟨q, a, w, t, p, cd, m⟩ = ⟨(match l.getLast? with | some x => x.fSeq + 1 | none => 1), a, w, t, p, cd, sumV (headL ⟨f, k, l⟩) ⟨(match l.getLast? with | some x => x.fSeq + 1 | none => 1), a, w, t, p, cd, m⟩⟩ := rfl
  generalize addC ⟨f, k, l⟩ ⟨q, a, w, t, p, cd, m⟩ = rC at hC ⊢
  generalize addB ⟨f, k, l⟩ ⟨q, a, w, t, p, cd, m⟩ = rB at hB hC ⊢
  have hd64 : int64 (headL ⟨f, k, l⟩) := by
    rw [hhl]
    cases hl : l.getLast? with
    | none => exact o1
    | some x => exact (o4 x (List.mem_of_getLast? hl)).2.2.2.2.2.2
  generalize headL ⟨f, k, l⟩ = hd at hhv hsl hd64 hhl
  clear hhl
  refine v_S_AddNote [.agg rC.o, .d (.bool rB)] rfl rfl ?_
  cases hk : chainOk ⟨f, k, l⟩ with
  | false =>
    rw [hk] at cc hB
    rw [Bool.false_and] at hB
    subst hB
    rw [if_neg (by simp)] at hC
    subst hC
    repeat' (first | refine W_seq ?_ | refine W_skip ?_ | refine W_block ?_ | refine W_exit ?_ | refine pick_pos rfl ?_ | refine pick_neg rfl ?_ | ((first | refine W_regP fun K hK => ?_ | refine W_regPD fun K hK => ?_ | refine W_ret ?_ | with_reducible refine callQ (cp) ?_ | with_reducible refine callQ (cc) ?_); simp [Fin]) | (with_reducible refine hK _ ?_; clear hK K) | (with_reducible refine goL_split (fun h => ?_) (fun h => ?_) <;> first | (exfalso; simp at h; first | done | omega | contradiction) | ((try simp at h); simp)) | with_reducible refine And.intro ?_ ?_ | with_reducible exact okay_rfl rfl | with_reducible assumption | (refine W_cond rfl (fun h => ?_) (fun h => ?_) <;> first | (exfalso; simp at h; first | done | omega | contradiction) | (exfalso; simp_all; done) | (try simp at h)) | omega)
  | true =>
  rw [hk] at cc hB hhv
  rw [if_pos rfl] at hhv
  rw [hhv] at ch
  rw [Bool.true_and] at hB
  have hl120 := hlc hk
  obtain ⟨s, hs⟩ : ∃ s : Int, (match l.getLast? with | some x => x.fSeq + 1 | none => 1) = s := ⟨_, rfl⟩
  rw [hs] at hsl
  have hs64 : int64 s := by
    rw [← hs]
    cases hl : l.getLast? with
    | none => show int64 1; exact ⟨by omega, by omega⟩
    | some x =>
      show int64 (x.fSeq + 1)
      obtain ⟨j, hj⟩ := List.getElem?_of_mem (List.mem_of_getLast? hl)
      have hn := note_range (hna hk j x hj)
      exact ⟨by omega, by omega⟩
  have cs := s_SumOf_g (GG := GG) hd ⟨s, a, w, t, p, cd, m⟩ hd64 ⟨hs64, hon.2⟩ (by show t.length ≤ _; omega) (by show p.length ≤ _; omega)
  obtain ⟨v, hv⟩ : ∃ v, sumV hd ⟨s, a, w, t, p, cd, m⟩ = v := ⟨_, rfl⟩
  rw [hv] at cs hsl
  rw [hsl] at hB hC
  clear hv hsl
  have hgc := grown_cost ⟨f, k, l⟩ ⟨s, a, w, t, p, cd, v⟩
  have hcx : (GNote.mk s a w t p cd v).cost = t.length + p.length := rfl
  have cg0 := s_ChainOk_ok (GG := GG) (grown ⟨f, k, l⟩ ⟨s, a, w, t, p, cd, v⟩) (by omega)
  cases hl : l.getLast? with
  | none =>
    have hlen : l.length = 0 := by rw [List.getLast?_eq_none_iff.1 hl]; rfl
    have hnil : l = [] := List.getLast?_eq_none_iff.1 hl
    rw [hl] at hs
    simp only at hs
    subst hs
    have hg : grown ⟨f, k, l⟩ ⟨1, a, w, t, p, cd, v⟩ = ⟨f, k, l ++ [⟨1, a, w, t, p, cd, v⟩]⟩ := by unfold grown; rw [if_neg (show ¬ l.length = 120 by omega)]
    rw [hg] at hB hC cg0
    clear hgc hg
    generalize chainOk ⟨f, k, l ++ [⟨1, a, w, t, p, cd, v⟩]⟩ = b at hB cg0
    have hsn := rNote_snoc l ⟨1, a, w, t, p, cd, v⟩
    have cg : Valid PP GG F_S_ChainOk [.agg [.d (.int .i64 f), .d (.int .i64 k), .d (.slc 7 (rNote l ++ [(GNote.mk 1 a w t p cd v).row]))]] (.d (.bool b)) [none] := by rw [← hsn]; exact cg0
    simp only [GNote.row] at cg hsn
    repeat' (first | refine W_seq ?_ | refine W_skip ?_ | refine W_block ?_ | (refine W_exit ?_; first | refine pick_pos rfl ?_ | (refine pick_neg rfl ?_; first | refine pick_pos rfl ?_ | (refine pick_neg rfl ?_; refine pick_pos rfl ?_))) | (refine W_regP fun K hK => ?_; simp [limit]) | (refine W_regPD fun K hK => ?_; simp [limit]) | (with_reducible refine hK _ ?_; clear hK K) | (with_reducible refine callQ (cp) ?_; simp [limit]) | (with_reducible refine callQ (cc) ?_; simp [limit]) | (with_reducible refine callQ (ch) ?_; simp [limit]) | (with_reducible refine callQ (cs) ?_; simp [limit]) | (with_reducible refine callQ (cg) ?_; simp [limit]) | (with_reducible refine goL_split (fun h => ?_) (fun h => ?_) <;> first | (exfalso; simp at h; done) | (exfalso; simp at h; omega) | (exfalso; simp at h; contradiction) | ((try simp at h); simp [limit])) | with_reducible refine And.intro ?_ ?_ | with_reducible exact okay_rfl rfl | with_reducible assumption | (refine W_cond rfl (fun h => ?_) (fun h => ?_) <;> first | (exfalso; simp at h; done) | (exfalso; simp at h; omega) | (exfalso; simp at h; contradiction) | (exfalso; simp_all; done) | (try simp at h)) | (refine W_ret ?_; simp [Fin, limit]) | omega)
    all_goals simp_all
  | some x =>
    obtain ⟨j, hlen, hx⟩ : ∃ j, l.length = j + 1 ∧ l[j]? = some x := by
      rw [List.getLast?_eq_getElem?] at hl
      have := (List.getElem?_eq_some_iff.1 hl).1
      exact ⟨l.length - 1, by omega, hl⟩
    have hn := note_range (hna hk j x hx)
    rw [hl] at hs
    simp only at hs
    have hw : IntKind.i64.wrap ((l.length : Int) - 1) = (j : Int) := by rw [wrap_id (by omega) (by omega)]; omega
    have hw' : IntKind.i64.wrap ((j : Int) + 1 - 1) = (j : Int) := by rw [wrap_id (by omega) (by omega)]; omega
    have hw2 : IntKind.i64.wrap (x.fSeq + 1) = s := by rw [wrap_id (by omega) (by omega)]; exact hs
    clear hs
    by_cases h120 : l.length = 120
    · have hw3 : IntKind.i64.wrap 119 = (j : Int) := by rw [wrap_id (by omega) (by omega)]; omega
      obtain ⟨z, hz⟩ : ∃ z, l[0]? = some z := ⟨_, List.getElem?_eq_getElem (by omega)⟩
      have htk2 : ∀ r : List D, List.take 121 (rNote l ++ [r]) = rNote l ++ [r] := fun r => List.take_of_length_le (by simp; omega)
      have htk3 : ∀ r : List D, (rNote l ++ [r]).tail = (rNote l).tail ++ [r] := fun r => by
        cases l with
        | nil => simp at h120
        | cons y u => simp [rNote]
      have hr2 : ∀ h : 0 < (rNote l).length, (rNote l)[0]'h = z.row := fun h => by simp only [rNote, List.getElem_map]; rw [List.getElem?_eq_getElem (by omega)] at hz; rw [Option.some.inj hz]
      have hz2 : ∀ h : 0 < l.length, l[0]'h = z := fun h => by rw [List.getElem?_eq_getElem h] at hz; exact Option.some.inj hz
      have hg : grown ⟨f, k, l⟩ ⟨s, a, w, t, p, cd, v⟩ = ⟨z.fSum, k, l.drop 1 ++ [⟨s, a, w, t, p, cd, v⟩]⟩ := by
        unfold grown; rw [if_pos h120]; cases l with | nil => simp at h120 | cons y u => simp at hz; subst hz; rfl
      rw [hg] at hB hC cg0
      clear hg hgc
      generalize chainOk ⟨z.fSum, k, l.drop 1 ++ [⟨s, a, w, t, p, cd, v⟩]⟩ = b at hB cg0
      have hsn : rNote (l.drop 1 ++ [⟨s, a, w, t, p, cd, v⟩]) = (rNote l).drop 1 ++ [(GNote.mk s a w t p cd v).row] := by rw [rNote_snoc]; simp [rNote]
      have htk : List.take 120 (rNote l) = rNote l := List.take_of_length_le (by rw [rNote_len]; omega)
      have cg : Valid PP GG F_S_ChainOk [.agg [.d (.int .i64 z.fSum), .d (.int .i64 k), .d (.slc 7 ((rNote l).drop 1 ++ [(GNote.mk s a w t p cd v).row]))]] (.d (.bool b)) [none] := by rw [← hsn]; exact cg0
      simp only [GNote.row] at cg hsn
      simp at cg
      repeat' (first | refine W_seq ?_ | refine W_skip ?_ | refine W_block ?_ | (refine W_exit ?_; first | refine pick_pos rfl ?_ | (refine pick_neg rfl ?_; first | refine pick_pos rfl ?_ | (refine pick_neg rfl ?_; refine pick_pos rfl ?_))) | (refine W_regP fun K hK => ?_; simp [limit, hw3, hw2, hx, hz, hz2, hr2, h120, htk, htk2, htk3]) | (refine W_regPD fun K hK => ?_; simp [limit, hw3, hw2, hx, hz, hz2, hr2, h120, htk, htk2, htk3]) | (with_reducible refine hK _ ?_; clear hK K) | (with_reducible refine callQ (cp) ?_; simp [limit, hw3, hw2, hx, hz, hz2, hr2, h120, htk, htk2, htk3]) | (with_reducible refine callQ (cc) ?_; simp [limit, hw3, hw2, hx, hz, hz2, hr2, h120, htk, htk2, htk3]) | (with_reducible refine callQ (ch) ?_; simp [limit, hw3, hw2, hx, hz, hz2, hr2, h120, htk, htk2, htk3]) | (with_reducible refine callQ (cs) ?_; simp [limit, hw3, hw2, hx, hz, hz2, hr2, h120, htk, htk2, htk3]) | (with_reducible refine callQ (cg) ?_; simp [limit, hw3, hw2, hx, hz, hz2, hr2, h120, htk, htk2, htk3]) | (with_reducible refine goL_split (fun h => ?_) (fun h => ?_) <;> first | (exfalso; simp at h; done) | (exfalso; simp at h; omega) | (exfalso; simp at h; contradiction) | ((try simp at h); simp [limit, hw3, hw2, hx, hz, hz2, hr2, h120, htk, htk2, htk3])) | with_reducible refine And.intro ?_ ?_ | with_reducible exact okay_rfl rfl | with_reducible assumption | (refine W_cond rfl (fun h => ?_) (fun h => ?_) <;> first | (exfalso; simp at h; done) | (exfalso; simp at h; omega) | (exfalso; simp at h; contradiction) | (exfalso; simp_all; done) | (try simp at h)) | (refine W_ret ?_; simp [Fin, limit, hw3, hw2, hx, hz, hz2, hr2, h120, htk, htk2, htk3]) | omega)
      all_goals simp_all
    · have hg : grown ⟨f, k, l⟩ ⟨s, a, w, t, p, cd, v⟩ = ⟨f, k, l ++ [⟨s, a, w, t, p, cd, v⟩]⟩ := by unfold grown; rw [if_neg h120]
      rw [hg] at hB hC cg0
      clear hg hgc
      generalize chainOk ⟨f, k, l ++ [⟨s, a, w, t, p, cd, v⟩]⟩ = b at hB cg0
      have hsn := rNote_snoc l ⟨s, a, w, t, p, cd, v⟩
      have cg : Valid PP GG F_S_ChainOk [.agg [.d (.int .i64 f), .d (.int .i64 k), .d (.slc 7 (rNote l ++ [(GNote.mk s a w t p cd v).row]))]] (.d (.bool b)) [none] := by rw [← hsn]; exact cg0
      simp only [GNote.row] at cg hsn
      repeat' (first | refine W_seq ?_ | refine W_skip ?_ | refine W_block ?_ | (refine W_exit ?_; first | refine pick_pos rfl ?_ | (refine pick_neg rfl ?_; first | refine pick_pos rfl ?_ | (refine pick_neg rfl ?_; refine pick_pos rfl ?_))) | (refine W_regP fun K hK => ?_; simp [limit, hw, hw', hw2, hx, h120]) | (refine W_regPD fun K hK => ?_; simp [limit, hw, hw', hw2, hx, h120]) | (with_reducible refine hK _ ?_; clear hK K) | (with_reducible refine callQ (cp) ?_; simp [limit, hw, hw', hw2, hx, h120]) | (with_reducible refine callQ (cc) ?_; simp [limit, hw, hw', hw2, hx, h120]) | (with_reducible refine callQ (ch) ?_; simp [limit, hw, hw', hw2, hx, h120]) | (with_reducible refine callQ (cs) ?_; simp [limit, hw, hw', hw2, hx, h120]) | (with_reducible refine callQ (cg) ?_; simp [limit, hw, hw', hw2, hx, h120]) | (with_reducible refine goL_split (fun h => ?_) (fun h => ?_) <;> first | (exfalso; simp at h; done) | (exfalso; simp at h; omega) | (exfalso; simp at h; contradiction) | ((try simp at h); simp [limit, hw, hw', hw2, hx, h120])) | with_reducible refine And.intro ?_ ?_ | with_reducible exact okay_rfl rfl | with_reducible assumption | (refine W_cond rfl (fun h => ?_) (fun h => ?_) <;> first | (exfalso; simp at h; done) | (exfalso; simp at h; omega) | (exfalso; simp at h; contradiction) | (exfalso; simp_all; done) | (try simp at h)) | (refine W_ret ?_; simp [Fin, limit, hw, hw', hw2, hx, h120]) | omega)
      all_goals simp_all

theorem addNote_ok [P10 GG] [MaxL GG] (c : GChain) (n : GNote) (hok : c.ok) (hon : n.ok) (hc : c.cost + n.cost ≤ 1048576) (hkc : chainOk c = true) : Valid PP GG F_I_addNote [.agg c.c, .agg n.c] (.tup [.agg (addC c n).o, .d (.bool (addB c n))]) [none, none] := by
  have cp := cloneChain_ok (GG := GG) c (by omega)
  have ch := headOf_ok (GG := GG) c (by omega)
  have hind := ind_rNote c.fNotes
  have hB : addB c n = (chainOk c && chainOk (grown c (newNote c n))) := rfl
  have hC : addC c n = if addB c n = true then grown c (newNote c n) else c := rfl
  have hna : chainOk c = true → ∀ (i : Nat) x, c.fNotes[i]? = some x → noteOk x = true := fun h i x hx => chain_note h hx
  have hlc : chainOk c = true → c.fNotes.length ≤ 120 := chain_len
  obtain ⟨f, k, l⟩ := c
  obtain ⟨q, a, w, t, p, cd, m⟩ := n
  have hco : (GChain.mk f k l).cost = l.length + sumBy GNote.cost l := rfl
  have hcn : (GNote.mk q a w t p cd m).cost = t.length + p.length := rfl
  obtain ⟨o1, o2, o3, o4⟩ := hok
  simp only at o1 o4 hna hind hlc
  have hhl : headL ⟨f, k, l⟩ = match l.getLast? with | some x => x.fSum | none => f := rfl
  have hsl : newNote ⟨f, k, l⟩ ⟨q, a, w, t, p, cd, m⟩ = ⟨(match l.getLast? with | some x => x.fSeq + 1 | none => 1), a, w, t, p, cd, sumV (headL ⟨f, k, l⟩) ⟨(match l.getLast? with | some x => x.fSeq + 1 | none => 1), a, w, t, p, cd, m⟩⟩ := rfl
  generalize addC ⟨f, k, l⟩ ⟨q, a, w, t, p, cd, m⟩ = rC at hC ⊢
  generalize addB ⟨f, k, l⟩ ⟨q, a, w, t, p, cd, m⟩ = rB at hB hC ⊢
  have hd64 : int64 (headL ⟨f, k, l⟩) := by
    rw [hhl]
    cases hl : l.getLast? with
    | none => exact o1
    | some x => exact (o4 x (List.mem_of_getLast? hl)).2.2.2.2.2.2
  change Valid PP GG F_I_headOf [.agg (GChain.mk f k l).c] (.d (.int .i64 (headL ⟨f, k, l⟩))) [none] at ch
  generalize headL ⟨f, k, l⟩ = hd at ch hsl hd64 hhl
  clear hhl
  refine v_I_addNote [.agg rC.o, .d (.bool rB)] rfl rfl ?_
  rw [hkc] at hB
  have hk := hkc
  rw [Bool.true_and] at hB
  have hl120 := hlc hk
  obtain ⟨s, hs⟩ : ∃ s : Int, (match l.getLast? with | some x => x.fSeq + 1 | none => 1) = s := ⟨_, rfl⟩
  rw [hs] at hsl
  have hs64 : int64 s := by
    rw [← hs]
    cases hl : l.getLast? with
    | none => show int64 1; exact ⟨by omega, by omega⟩
    | some x =>
      show int64 (x.fSeq + 1)
      obtain ⟨j, hj⟩ := List.getElem?_of_mem (List.mem_of_getLast? hl)
      have hn := note_range (hna hk j x hj)
      exact ⟨by omega, by omega⟩
  have cs := sumOf_g (GG := GG) hd ⟨s, a, w, t, p, cd, m⟩ hd64 ⟨hs64, hon.2⟩ (by show t.length ≤ _; omega) (by show p.length ≤ _; omega)
  obtain ⟨v, hv⟩ : ∃ v, sumV hd ⟨s, a, w, t, p, cd, m⟩ = v := ⟨_, rfl⟩
  rw [hv] at cs hsl
  rw [hsl] at hB hC
  clear hv hsl
  have hgc := grown_cost ⟨f, k, l⟩ ⟨s, a, w, t, p, cd, v⟩
  have hcx : (GNote.mk s a w t p cd v).cost = t.length + p.length := rfl
  have cg0 := isChain_ok (GG := GG) (grown ⟨f, k, l⟩ ⟨s, a, w, t, p, cd, v⟩) (by omega)
  cases hl : l.getLast? with
  | none =>
    have hlen : l.length = 0 := by rw [List.getLast?_eq_none_iff.1 hl]; rfl
    have hnil : l = [] := List.getLast?_eq_none_iff.1 hl
    rw [hl] at hs
    simp only at hs
    subst hs
    have hg : grown ⟨f, k, l⟩ ⟨1, a, w, t, p, cd, v⟩ = ⟨f, k, l ++ [⟨1, a, w, t, p, cd, v⟩]⟩ := by unfold grown; rw [if_neg (show ¬ l.length = 120 by omega)]
    rw [hg] at hB hC cg0
    clear hgc hg
    generalize chainOk ⟨f, k, l ++ [⟨1, a, w, t, p, cd, v⟩]⟩ = b at hB cg0
    have hsn := rNote_snoc l ⟨1, a, w, t, p, cd, v⟩
    have cg : Valid PP GG F_I_isChain [.agg [.d (.int .i64 f), .d (.int .i64 k), .d (.slc 7 (rNote l ++ [(GNote.mk 1 a w t p cd v).row]))]] (.d (.bool b)) [none] := by rw [← hsn]; exact cg0
    simp only [GNote.row] at cg hsn
    repeat' (first | refine W_seq ?_ | refine W_skip ?_ | refine W_block ?_ | (refine W_exit ?_; first | refine pick_pos rfl ?_ | (refine pick_neg rfl ?_; first | refine pick_pos rfl ?_ | (refine pick_neg rfl ?_; refine pick_pos rfl ?_))) | (refine W_regP fun K hK => ?_; simp [limit]) | (refine W_regPD fun K hK => ?_; simp [limit]) | (with_reducible refine hK _ ?_; clear hK K) | (with_reducible refine callQ (cp) ?_; simp [limit]) | (with_reducible refine callQ (ch) ?_; simp [limit]) | (with_reducible refine callQ (cs) ?_; simp [limit]) | (with_reducible refine callQ (cg) ?_; simp [limit]) | (with_reducible refine goL_split (fun h => ?_) (fun h => ?_) <;> first | (exfalso; simp at h; done) | (exfalso; simp at h; omega) | (exfalso; simp at h; contradiction) | ((try simp at h); simp [limit])) | with_reducible refine And.intro ?_ ?_ | with_reducible exact okay_rfl rfl | with_reducible assumption | (refine W_cond rfl (fun h => ?_) (fun h => ?_) <;> first | (exfalso; simp at h; done) | (exfalso; simp at h; omega) | (exfalso; simp at h; contradiction) | (exfalso; simp_all; done) | (try simp at h)) | (refine W_ret ?_; simp [Fin, limit]) | omega)
    all_goals simp_all
  | some x =>
    obtain ⟨j, hlen, hx⟩ : ∃ j, l.length = j + 1 ∧ l[j]? = some x := by
      rw [List.getLast?_eq_getElem?] at hl
      have := (List.getElem?_eq_some_iff.1 hl).1
      exact ⟨l.length - 1, by omega, hl⟩
    have hn := note_range (hna hk j x hx)
    rw [hl] at hs
    simp only at hs
    have hw : IntKind.i64.wrap ((l.length : Int) - 1) = (j : Int) := by rw [wrap_id (by omega) (by omega)]; omega
    have hw' : IntKind.i64.wrap ((j : Int) + 1 - 1) = (j : Int) := by rw [wrap_id (by omega) (by omega)]; omega
    have hw2 : IntKind.i64.wrap (x.fSeq + 1) = s := by rw [wrap_id (by omega) (by omega)]; exact hs
    clear hs
    by_cases h120 : l.length = 120
    · have hw3 : IntKind.i64.wrap 119 = (j : Int) := by rw [wrap_id (by omega) (by omega)]; omega
      obtain ⟨z, hz⟩ : ∃ z, l[0]? = some z := ⟨_, List.getElem?_eq_getElem (by omega)⟩
      have htk2 : ∀ r : List D, List.take 121 (rNote l ++ [r]) = rNote l ++ [r] := fun r => List.take_of_length_le (by simp; omega)
      have htk3 : ∀ r : List D, (rNote l ++ [r]).tail = (rNote l).tail ++ [r] := fun r => by
        cases l with
        | nil => simp at h120
        | cons y u => simp [rNote]
      have hr2 : ∀ h : 0 < (rNote l).length, (rNote l)[0]'h = z.row := fun h => by simp only [rNote, List.getElem_map]; rw [List.getElem?_eq_getElem (by omega)] at hz; rw [Option.some.inj hz]
      have hz2 : ∀ h : 0 < l.length, l[0]'h = z := fun h => by rw [List.getElem?_eq_getElem h] at hz; exact Option.some.inj hz
      have hg : grown ⟨f, k, l⟩ ⟨s, a, w, t, p, cd, v⟩ = ⟨z.fSum, k, l.drop 1 ++ [⟨s, a, w, t, p, cd, v⟩]⟩ := by
        unfold grown; rw [if_pos h120]; cases l with | nil => simp at h120 | cons y u => simp at hz; subst hz; rfl
      rw [hg] at hB hC cg0
      clear hg hgc
      generalize chainOk ⟨z.fSum, k, l.drop 1 ++ [⟨s, a, w, t, p, cd, v⟩]⟩ = b at hB cg0
      have hsn : rNote (l.drop 1 ++ [⟨s, a, w, t, p, cd, v⟩]) = (rNote l).drop 1 ++ [(GNote.mk s a w t p cd v).row] := by rw [rNote_snoc]; simp [rNote]
      have htk : List.take 120 (rNote l) = rNote l := List.take_of_length_le (by rw [rNote_len]; omega)
      have cg : Valid PP GG F_I_isChain [.agg [.d (.int .i64 z.fSum), .d (.int .i64 k), .d (.slc 7 ((rNote l).drop 1 ++ [(GNote.mk s a w t p cd v).row]))]] (.d (.bool b)) [none] := by rw [← hsn]; exact cg0
      simp only [GNote.row] at cg hsn
      simp at cg
      repeat' (first | refine W_seq ?_ | refine W_skip ?_ | refine W_block ?_ | (refine W_exit ?_; first | refine pick_pos rfl ?_ | (refine pick_neg rfl ?_; first | refine pick_pos rfl ?_ | (refine pick_neg rfl ?_; refine pick_pos rfl ?_))) | (refine W_regP fun K hK => ?_; simp [limit, hw3, hw2, hx, hz, hz2, hr2, h120, htk, htk2, htk3]) | (refine W_regPD fun K hK => ?_; simp [limit, hw3, hw2, hx, hz, hz2, hr2, h120, htk, htk2, htk3]) | (with_reducible refine hK _ ?_; clear hK K) | (with_reducible refine callQ (cp) ?_; simp [limit, hw3, hw2, hx, hz, hz2, hr2, h120, htk, htk2, htk3]) | (with_reducible refine callQ (ch) ?_; simp [limit, hw3, hw2, hx, hz, hz2, hr2, h120, htk, htk2, htk3]) | (with_reducible refine callQ (cs) ?_; simp [limit, hw3, hw2, hx, hz, hz2, hr2, h120, htk, htk2, htk3]) | (with_reducible refine callQ (cg) ?_; simp [limit, hw3, hw2, hx, hz, hz2, hr2, h120, htk, htk2, htk3]) | (with_reducible refine goL_split (fun h => ?_) (fun h => ?_) <;> first | (exfalso; simp at h; done) | (exfalso; simp at h; omega) | (exfalso; simp at h; contradiction) | ((try simp at h); simp [limit, hw3, hw2, hx, hz, hz2, hr2, h120, htk, htk2, htk3])) | with_reducible refine And.intro ?_ ?_ | with_reducible exact okay_rfl rfl | with_reducible assumption | (refine W_cond rfl (fun h => ?_) (fun h => ?_) <;> first | (exfalso; simp at h; done) | (exfalso; simp at h; omega) | (exfalso; simp at h; contradiction) | (exfalso; simp_all; done) | (try simp at h)) | (refine W_ret ?_; simp [Fin, limit, hw3, hw2, hx, hz, hz2, hr2, h120, htk, htk2, htk3]) | omega)
      all_goals simp_all
    · have hg : grown ⟨f, k, l⟩ ⟨s, a, w, t, p, cd, v⟩ = ⟨f, k, l ++ [⟨s, a, w, t, p, cd, v⟩]⟩ := by unfold grown; rw [if_neg h120]
      rw [hg] at hB hC cg0
      clear hg hgc
      generalize chainOk ⟨f, k, l ++ [⟨s, a, w, t, p, cd, v⟩]⟩ = b at hB cg0
      have hsn := rNote_snoc l ⟨s, a, w, t, p, cd, v⟩
      have cg : Valid PP GG F_I_isChain [.agg [.d (.int .i64 f), .d (.int .i64 k), .d (.slc 7 (rNote l ++ [(GNote.mk s a w t p cd v).row]))]] (.d (.bool b)) [none] := by rw [← hsn]; exact cg0
      simp only [GNote.row] at cg hsn
      repeat' (first | refine W_seq ?_ | refine W_skip ?_ | refine W_block ?_ | (refine W_exit ?_; first | refine pick_pos rfl ?_ | (refine pick_neg rfl ?_; first | refine pick_pos rfl ?_ | (refine pick_neg rfl ?_; refine pick_pos rfl ?_))) | (refine W_regP fun K hK => ?_; simp [limit, hw, hw', hw2, hx, h120]) | (refine W_regPD fun K hK => ?_; simp [limit, hw, hw', hw2, hx, h120]) | (with_reducible refine hK _ ?_; clear hK K) | (with_reducible refine callQ (cp) ?_; simp [limit, hw, hw', hw2, hx, h120]) | (with_reducible refine callQ (ch) ?_; simp [limit, hw, hw', hw2, hx, h120]) | (with_reducible refine callQ (cs) ?_; simp [limit, hw, hw', hw2, hx, h120]) | (with_reducible refine callQ (cg) ?_; simp [limit, hw, hw', hw2, hx, h120]) | (with_reducible refine goL_split (fun h => ?_) (fun h => ?_) <;> first | (exfalso; simp at h; done) | (exfalso; simp at h; omega) | (exfalso; simp at h; contradiction) | ((try simp at h); simp [limit, hw, hw', hw2, hx, h120])) | with_reducible refine And.intro ?_ ?_ | with_reducible exact okay_rfl rfl | with_reducible assumption | (refine W_cond rfl (fun h => ?_) (fun h => ?_) <;> first | (exfalso; simp at h; done) | (exfalso; simp at h; omega) | (exfalso; simp at h; contradiction) | (exfalso; simp_all; done) | (try simp at h)) | (refine W_ret ?_; simp [Fin, limit, hw, hw', hw2, hx, h120]) | omega)
      all_goals simp_all

theorem i_AddNote_ok [P10 GG] [MaxL GG] (c : GChain) (n : GNote) (hok : c.ok) (hon : n.ok) (hc : c.cost + n.cost ≤ 1048576) : Valid PP GG F_I_AddNote [.agg c.c, .agg n.c] (.tup [.agg (addC c n).o, .d (.bool (addB c n))]) [none, none] := by
  refine v_I_AddNote [.agg (addC c n).o, .d (.bool (addB c n))] rfl rfl ?_
  have cc := isChain_ok (GG := GG) c (by omega)
  have cp := cloneChain_ok (GG := GG) c (by omega)
  have hind := ind_rNote (addC c n).fNotes
  cases hk : chainOk c with
  | false =>
    rw [hk] at cc
    have hB : addB c n = false := by unfold addB; rw [hk]; rfl
    have hC : addC c n = c := by unfold addC; rw [hB]; rfl
    rw [hB, hC]
    repeat' (first | refine W_seq ?_ | refine W_skip ?_ | refine W_block ?_ | refine W_exit ?_ | refine pick_pos rfl ?_ | refine pick_neg rfl ?_ | ((first | refine W_regP fun K hK => ?_ | refine W_regPD fun K hK => ?_ | refine W_ret ?_ | with_reducible refine callQ (cc) ?_ | with_reducible refine callQ (cp) ?_); simp [Fin]) | (with_reducible refine hK _ ?_; clear hK K) | (with_reducible refine goL_split (fun h => ?_) (fun h => ?_) <;> first | (exfalso; simp at h; first | done | omega | contradiction) | ((try simp at h); simp)) | with_reducible refine And.intro ?_ ?_ | with_reducible exact okay_rfl rfl | with_reducible assumption | (refine W_cond rfl (fun h => ?_) (fun h => ?_) <;> first | (exfalso; simp at h; first | done | omega | contradiction) | (exfalso; simp_all; done) | (try simp at h)) | omega)
  | true =>
    rw [hk] at cc
    have ca := addNote_ok (GG := GG) c n hok hon hc hk
    generalize addC c n = g at ca hind ⊢
    generalize addB c n = b at ca ⊢
    repeat' (first | refine W_seq ?_ | refine W_skip ?_ | refine W_block ?_ | refine W_exit ?_ | refine pick_pos rfl ?_ | refine pick_neg rfl ?_ | ((first | refine W_regP fun K hK => ?_ | refine W_regPD fun K hK => ?_ | refine W_ret ?_ | with_reducible refine callQ (cc) ?_ | with_reducible refine callQ (ca) ?_); simp [Fin]) | (with_reducible refine hK _ ?_; clear hK K) | (with_reducible refine goL_split (fun h => ?_) (fun h => ?_) <;> first | (exfalso; simp at h; first | done | omega | contradiction) | ((try simp at h); simp)) | with_reducible refine And.intro ?_ ?_ | with_reducible exact okay_rfl rfl | with_reducible assumption | (refine W_cond rfl (fun h => ?_) (fun h => ?_) <;> first | (exfalso; simp at h; first | done | omega | contradiction) | (exfalso; simp_all; done) | (try simp at h)) | omega)

theorem addC_cost (c : GChain) (n : GNote) : (addC c n).cost ≤ c.cost + 1 + n.cost := by
  unfold addC
  split
  · exact grown_cost c _
  · omega

def zReq : GReq := ⟨0, 0, [], [], [], 0⟩

def S0 (ws : List (List UInt8)) : St := ⟨[], [(2, .ptr 0 0), (4, .ptr 1 0), (5, .sl 2)], [(0, .box (zReq.row.map A.d)), (1, .box (zReq.row.map A.d)), (2, .arr 0 0 1 (strsD ws))], 3⟩

@[simp] theorem binA_strgeq (s t : List UInt8) : binA .str .geq (.d (.str s)) (.d (.str t)) = out (.d (.bool (!(Go.Op.bytesLess s t)))) := id rfl

@[simp] theorem binA_strlss (s t : List UInt8) : binA .str .lss (.d (.str s)) (.d (.str t)) = out (.d (.bool (Go.Op.bytesLess s t))) := id rfl

@[simp] theorem binA_strleq (s t : List UInt8) : binA .str .leq (.d (.str s)) (.d (.str t)) = out (.d (.bool (Go.Op.bytesLess s t || s == t))) := id rfl

@[simp] theorem binA_strgtr (s t : List UInt8) : binA .str .gtr (.d (.str s)) (.d (.str t)) = out (.d (.bool (!(Go.Op.bytesLess s t || s == t)))) := id rfl

theorem strs_get (l : List (List UInt8)) (i : Nat) : (strsD l)[i]? = (l[i]?).map fun s => [.str s] := by simp [strsD]

theorem ints_get (l : List Int) (i : Nat) : (intsD l)[i]? = (l[i]?).map fun s => [.int .i64 s] := by simp [intsD]

theorem ints_len (l : List Int) : (intsD l).length = l.length := by simp [intsD]

def hdF (f : Int) (l : List GNote) : Int := match l.getLast? with | some x => x.fSum | none => f

theorem hdF_cons (f : Int) (a : GNote) (t : List GNote) : hdF f (a :: t) = hdF a.fSum t := by
  unfold hdF
  cases t with
  | nil => rfl
  | cons b u => rw [List.getLast?_cons_cons]; cases h : (b :: u).getLast? with
    | none => simp at h
    | some y => rfl

theorem breakL_app (l m : List GNote) : ∀ f, breakL f l = l.length → breakL f (l ++ m) = l.length + breakL (hdF f l) m := by
  induction l with
  | nil => intro f _; simp [hdF]
  | cons a t ih =>
    intro f h
    rw [show breakL f (a :: t) = if a.fSum = sumV f a then breakL a.fSum t + 1 else 0 from rfl] at h
    by_cases hs : a.fSum = sumV f a
    · rw [if_pos hs] at h
      rw [show breakL f (a :: t ++ m) = if a.fSum = sumV f a then breakL a.fSum (t ++ m) + 1 else 0 from rfl, if_pos hs, hdF_cons]
      rw [ih a.fSum (by simp at h; omega), List.length_cons]
      omega
    · rw [if_neg hs] at h; simp at h

theorem breakL_split {l m : List GNote} {f : Int} (h : breakL f (l ++ m) = (l ++ m).length) : breakL f l = l.length ∧ breakL (hdF f l) m = m.length := by
  induction l generalizing f with
  | nil => exact ⟨rfl, by simpa [hdF] using h⟩
  | cons a t ih =>
    rw [show breakL f (a :: t ++ m) = if a.fSum = sumV f a then breakL a.fSum (t ++ m) + 1 else 0 from rfl] at h
    by_cases hs : a.fSum = sumV f a
    · rw [if_pos hs] at h
      have h2 : breakL a.fSum (t ++ m) = (t ++ m).length := by simp only [List.cons_append, List.length_cons] at h; omega
      obtain ⟨h3, h4⟩ := ih h2
      rw [show breakL f (a :: t) = if a.fSum = sumV f a then breakL a.fSum t + 1 else 0 from rfl, if_pos hs, hdF_cons, h3]
      exact ⟨rfl, h4⟩
    · rw [if_neg hs] at h; simp at h

theorem breakL_sums {f : Int} {l : List GNote} (h : breakL f l = l.length) : ∀ x, x ∈ l → 0 ≤ x.fSum := by
  induction l generalizing f with
  | nil => intro x hx; cases hx
  | cons a t ih =>
    rw [show breakL f (a :: t) = if a.fSum = sumV f a then breakL a.fSum t + 1 else 0 from rfl] at h
    by_cases hs : a.fSum = sumV f a
    · rw [if_pos hs] at h
      intro x hx
      rcases List.mem_cons.1 hx with rfl | hx
      · rw [hs]; exact (digN_range _).1
      · exact ih (by simp at h; omega) x hx
    · rw [if_neg hs] at h; simp at h

theorem hdF_pos {f : Int} {l : List GNote} (hf : 0 ≤ f) (h : ∀ x, x ∈ l → 0 ≤ x.fSum) : 0 ≤ hdF f l := by
  unfold hdF
  cases hl : l.getLast? with
  | none => exact hf
  | some x => exact h x (List.mem_of_getLast? hl)

theorem linkAt_take {l : List GNote} {k i : Nat} (hi : i < k) : linkAt (l.take k) i = linkAt l i := by
  unfold linkAt
  rw [List.getElem?_take_of_lt hi]
  cases l[i]? with
  | none => rfl
  | some x =>
    cases i with
    | zero => rfl
    | succ j => simp only; rw [List.getElem?_take_of_lt (by omega)]

theorem linkAt_drop {l : List GNote} {k i : Nat} (h : linkAt l (k + i) = true) : linkAt (l.drop k) i = true := by
  unfold linkAt at h ⊢
  rw [List.getElem?_drop]
  cases hx : l[k + i]? with
  | none => rfl
  | some x =>
    rw [hx] at h
    simp only [Bool.and_eq_true] at h ⊢
    refine ⟨h.1, ?_⟩
    cases i with
    | zero => rfl
    | succ j =>
      have h2 := h.2
      rw [show k + (j + 1) = (k + j) + 1 by omega] at h2
      simp only at h2 ⊢
      rw [List.getElem?_drop]
      exact h2

theorem chainOk_iff (c : GChain) : chainOk c = true ↔ 0 ≤ c.fFirst ∧ keyB c.fSalt = true ∧ c.fNotes.length ≤ 120 ∧ ∀ i, i < c.fNotes.length → linkAt c.fNotes i = true := by
  unfold chainOk
  simp only [Bool.and_eq_true, decide_eq_true_eq, List.all_eq_true, List.mem_range]
  exact ⟨fun h => ⟨h.1.1.1, h.1.1.2, h.1.2, h.2⟩, fun h => ⟨⟨⟨h.1, h.2.1⟩, h.2.2.1⟩, h.2.2.2⟩⟩

/-- A chain that AddNote alone has made, of at most n notes. -/
structure Grew (c : GChain) (n : Nat) : Prop where
  good : chainOk c = true
  len : c.fNotes.length ≤ n
  whole : breakL c.fFirst c.fNotes = c.fNotes.length

theorem grew_add {c : GChain} {n : Nat} (h : Grew c n) (hn : n < 120) (x : GNote) : Grew (addC c x) (n + 1) := by
  obtain ⟨h1, h2, h3⟩ := h
  unfold addC
  cases hb : addB c x with
  | false => exact ⟨h1, by simp; omega, by simpa using h3⟩
  | true =>
    simp only [if_true]
    unfold addB at hb
    rw [Bool.and_eq_true] at hb
    have hg : grown c (newNote c x) = { fFirst := c.fFirst, fSalt := c.fSalt, fNotes := c.fNotes ++ [newNote c x] } := by unfold grown; rw [if_neg (by omega)]
    refine ⟨hb.2, by rw [hg]; simp; omega, ?_⟩
    rw [hg]
    dsimp only
    rw [breakL_app _ _ _ h3, List.length_append]
    have hs : (newNote c x).fSum = sumV (hdF c.fFirst c.fNotes) (newNote c x) := rfl
    rw [show breakL (hdF c.fFirst c.fNotes) [newNote c x] = if (newNote c x).fSum = sumV (hdF c.fFirst c.fNotes) (newNote c x) then 0 + 1 else 0 from rfl, if_pos hs]
    rfl

def cutA (c : GChain) (k : Nat) : GChain := { fFirst := c.fFirst, fSalt := c.fSalt, fNotes := c.fNotes.take k }

def cutC (c : GChain) (k : Nat) : GChain := { fFirst := hdF c.fFirst (c.fNotes.take k), fSalt := c.fSalt, fNotes := c.fNotes.drop k }

theorem cut_follows {c : GChain} {n k : Nat} (h : Grew c n) : chainOk (cutA c k) = true ∧ headL (cutA c k) = hdF c.fFirst (c.fNotes.take k) ∧ followsV (cutA c k) (cutC c k) = true := by
  obtain ⟨h1, h2, h3⟩ := h
  have h1 := (chainOk_iff c).1 h1
  have hsp := breakL_split (l := c.fNotes.take k) (m := c.fNotes.drop k) (f := c.fFirst) (by rw [List.take_append_drop]; exact h3)
  have ha : chainOk (cutA c k) = true := by
    rw [chainOk_iff]
    refine ⟨h1.1, h1.2.1, by unfold cutA; rw [List.length_take]; have := h1.2.2.1; omega, fun i hi => ?_⟩
    unfold cutA at hi ⊢
    rw [List.length_take] at hi
    rw [linkAt_take (by omega)]
    exact h1.2.2.2 i (by omega)
  have hb : chainOk (cutC c k) = true := by
    rw [chainOk_iff]
    refine ⟨hdF_pos h1.1 (breakL_sums hsp.1), h1.2.1, by unfold cutC; rw [List.length_drop]; have := h1.2.2.1; omega, fun i hi => ?_⟩
    unfold cutC at hi ⊢
    rw [List.length_drop] at hi
    exact linkAt_drop (h1.2.2.2 (k + i) (by omega))
  refine ⟨ha, rfl, ?_⟩
  have hj : joinB (cutA c k).fNotes (cutC c k).fNotes = true := by
    unfold joinB cutA cutC
    dsimp only
    cases hg : (c.fNotes.take k).getLast? with
    | none => rfl
    | some x =>
      cases hd : c.fNotes.drop k with
      | nil => rfl
      | cons y u =>
        have hy : c.fNotes[k]? = some y := by have := congrArg (fun l => l[0]?) hd; simpa using this
        have hkl := (List.getElem?_eq_some_iff.1 hy).1
        rw [List.getLast?_eq_getElem?, List.length_take, Nat.min_eq_left (by omega)] at hg
        cases k with
        | zero => simp at hg
        | succ j =>
          rw [List.getElem?_take_of_lt (by omega)] at hg
          have hl := h1.2.2.2 (j + 1) hkl
          unfold linkAt at hl
          rw [hy] at hl
          simp only [Nat.add_sub_cancel] at hg
          simp only [hg, Bool.and_eq_true] at hl
          have := hl.2
          unfold linkB at this
          simp only [decide_eq_true_eq] at this ⊢
          exact this.1
  unfold followsV
  rw [ha, hb, hj]
  have e1 : breakL (cutA c k).fFirst (cutA c k).fNotes = (cutA c k).fNotes.length := hsp.1
  have e2 : breakL (cutC c k).fFirst (cutC c k).fNotes = (cutC c k).fNotes.length := hsp.2
  have e3 : headL (cutA c k) = (cutC c k).fFirst := rfl
  rw [decide_eq_true e1, decide_eq_true e2, decide_eq_true e3]
  rfl

structure Cur where
  b : List UInt8
  i : Int
  h : Int

@[simp] abbrev Cur.o (c : Cur) : List C := [.d (.slc 1 (bytesD c.b)), .d (.int .i64 c.i), .d (.int .i64 c.h)]

def Cur.good (c : Cur) : Prop := 0 ≤ c.i ∧ c.i ≤ c.b.length ∧ c.b.length ≤ 1048577

def and64 (a b : Int) : Int := IntKind.i64.wrap ((BitVec.ofInt 64 a &&& BitVec.ofInt 64 b).toNat)

def xor64 (a b : Int) : Int := IntKind.i64.wrap ((BitVec.ofInt 64 a ^^^ BitVec.ofInt 64 b).toNat)

theorem and64_ev (a b : Int) : intBin .and .i64 a b = some (.int .i64 (and64 a b)) := rfl

theorem xor64_ev (a b : Int) : intBin .xor .i64 a b = some (.int .i64 (xor64 a b)) := rfl

theorem and64_255 (a : Int) : 0 ≤ and64 a 255 ∧ and64 a 255 ≤ 255 := by
  unfold and64
  have h : (BitVec.ofInt 64 a &&& BitVec.ofInt 64 255).toNat ≤ 255 := by
    rw [BitVec.toNat_and]
    exact Nat.and_le_right
  rw [show IntKind.i64.wrap ((BitVec.ofInt 64 a &&& BitVec.ofInt 64 255).toNat : Int) = ((BitVec.ofInt 64 a &&& BitVec.ofInt 64 255).toNat : Int) from wrap_id (by omega) (by omega)]
  omega

def curH (h : Int) : Int := IntKind.i64.wrap (IntKind.i64.wrap (h * 6364136223846793005) + 1442695040888963407)

def byteX (h : Int) : Int := and64 (xor64 (h.fdiv 8589934592) (h.fdiv 35184372088832)) 255

def nthB (l : List UInt8) (i : Int) : Int := ((l.getD i.toNat 0).toNat : Nat)

def lByte (c : Cur) : Int × Cur :=
  if c.i < (c.b.length : Nat) then (and64 (byteX (curH c.h) + nthB c.b c.i) 255, ⟨c.b, c.i + 1, curH c.h⟩) else (byteX (curH c.h), ⟨c.b, c.i, curH c.h⟩)

theorem lByte_rng (c : Cur) : 0 ≤ (lByte c).1 ∧ (lByte c).1 ≤ 255 := by
  unfold lByte
  split
  · exact and64_255 _
  · exact and64_255 _

theorem lByte_good {c : Cur} (h : c.good) : (lByte c).2.good := by
  unfold lByte
  split <;> (unfold Cur.good at *; dsimp only at *; omega)

def lBelow (c : Cur) (n : Int) : Int × Cur :=
  if n ≤ 0 then (0, c) else if n ≤ 256 then ((lByte c).1.tmod n, (lByte c).2) else
    (((lByte c).1 * 65536 + (lByte (lByte c).2).1 * 256 + (lByte (lByte (lByte c).2).2).1).tmod n, (lByte (lByte (lByte c).2).2).2)

theorem lBelow_rng (c : Cur) {n : Int} (h : 0 < n) : 0 ≤ (lBelow c n).1 ∧ (lBelow c n).1 < n := by
  have h1 := lByte_rng c
  have h2 := lByte_rng (lByte c).2
  have h3 := lByte_rng (lByte (lByte c).2).2
  unfold lBelow
  rw [if_neg (by omega)]
  split
  · exact ⟨Int.tmod_nonneg _ h1.1, Int.tmod_lt_of_pos _ h⟩
  · exact ⟨Int.tmod_nonneg _ (by omega), Int.tmod_lt_of_pos _ h⟩

theorem lBelow_rng0 (c : Cur) (n : Int) : 0 ≤ (lBelow c n).1 ∧ (lBelow c n).1 ≤ (if n ≤ 0 then 0 else n - 1) := by
  by_cases h : n ≤ 0
  · unfold lBelow; rw [if_pos h, if_pos h]; exact ⟨Int.le_refl _, Int.le_refl _⟩
  · have := lBelow_rng c (n := n) (by omega); rw [if_neg h]; omega

theorem lBelow_good {c : Cur} (h : c.good) (n : Int) : (lBelow c n).2.good := by
  unfold lBelow
  split
  · exact h
  · split
    · exact lByte_good h
    · exact lByte_good (lByte_good (lByte_good h))

def lOnce (c : Cur) (n : Int) : Bool × Cur := (decide ((lBelow c n).1 = 0), (lBelow c n).2)

theorem lOnce_good {c : Cur} (h : c.good) (n : Int) : (lOnce c n).2.good := lBelow_good h n

def lPick {α : Type} (c : Cur) (z : α) (l : List α) : α × Cur := (l.getD (lBelow c l.length).1.toNat z, (lBelow c l.length).2)

theorem lPick_good {α : Type} {c : Cur} (h : c.good) (z : α) (l : List α) : (lPick c z l).2.good := lBelow_good h _

theorem lPick_get {α : Type} (c : Cur) (z : α) {l : List α} (h : l ≠ []) : ∃ k : Nat, (lBelow c l.length).1 = (k : Int) ∧ l[k]? = some (lPick c z l).1 := by
  have hl : 0 < l.length := List.length_pos_iff.2 h
  obtain ⟨h1, h2⟩ := lBelow_rng c (n := (l.length : Int)) (by omega)
  refine ⟨(lBelow c l.length).1.toNat, by omega, ?_⟩
  unfold lPick
  rw [List.getD_eq_getElem?_getD, List.getElem?_eq_getElem (by omega)]
  rfl

theorem lPick_mem {α : Type} (c : Cur) (z : α) {l : List α} (h : l ≠ []) : (lPick c z l).1 ∈ l := by
  obtain ⟨k, _, hk⟩ := lPick_get c z h
  exact List.mem_of_getElem? hk

def seg1 : List (List UInt8) := [[], [65], [97, 47, 98], [97, 98, 99, 100, 101, 102, 103, 104, 105, 106, 107, 108, 109, 110, 111, 112], [97, 98, 99, 100, 101, 102, 103, 104, 105, 106, 107, 108, 109, 110, 111, 112, 113], [45], [97, 32, 98], [43, 97], [42, 42]]

def seg2 : List (List UInt8) := [[97], [98], [99], [107, 118], [100, 98], [120, 45, 49], [57]]

def lSeg (c : Cur) : List UInt8 × Cur := if (lOnce c 25).1 = true then lPick (lOnce c 25).2 [] seg1 else lPick (lOnce c 25).2 [] seg2

theorem lSeg_good {c : Cur} (h : c.good) : (lSeg c).2.good := by
  unfold lSeg
  split
  · exact lPick_good (lOnce_good h _) _ _
  · exact lPick_good (lOnce_good h _) _ _

theorem lSeg_len (c : Cur) : (lSeg c).1.length ≤ 17 := by
  unfold lSeg
  have ha : ∀ x, x ∈ seg1 → x.length ≤ 17 := by decide
  have hb : ∀ x, x ∈ seg2 → x.length ≤ 17 := by decide
  split
  · exact ha _ (lPick_mem _ _ (by decide))
  · exact hb _ (lPick_mem _ _ (by decide))

def lPathL (s : List UInt8 × Cur) : Nat → List UInt8 × Cur
  | 0 => s
  | n + 1 => ((lPathL s n).1 ++ [47] ++ (lSeg (lPathL s n).2).1, (lSeg (lPathL s n).2).2)

theorem lPathL_good {s : List UInt8 × Cur} (h : s.2.good) (n : Nat) : (lPathL s n).2.good := by
  induction n with
  | zero => exact h
  | succ n ih => exact lSeg_good ih

theorem lPathL_len (s : List UInt8 × Cur) (n : Nat) : (lPathL s n).1.length ≤ s.1.length + 18 * n := by
  induction n with
  | zero => exact Nat.le_refl _
  | succ n ih =>
    have := lSeg_len (lPathL s n).2
    show ((lPathL s n).1 ++ [47] ++ (lSeg (lPathL s n).2).1).length ≤ _
    simp only [List.length_append, List.length_cons, List.length_nil]
    omega

def lPathN (c : Cur) : Int × Cur :=
  if (lOnce (lBelow c 4).2 20).1 = true then (7 + (lBelow (lOnce (lBelow c 4).2 20).2 2).1, (lBelow (lOnce (lBelow c 4).2 20).2 2).2) else ((lBelow c 4).1, (lOnce (lBelow c 4).2 20).2)

def lPath (c : Cur) : List UInt8 × Cur := lPathL ((lSeg c).1, (lPathN (lSeg c).2).2) (lPathN (lSeg c).2).1.toNat

theorem lPathN_rng (c : Cur) : 0 ≤ (lPathN c).1 ∧ (lPathN c).1 ≤ 8 := by
  have h1 := lBelow_rng c (n := 4) (by omega)
  have h2 := lBelow_rng (lOnce (lBelow c 4).2 20).2 (n := 2) (by omega)
  unfold lPathN
  split
  · dsimp only; omega
  · dsimp only; omega

theorem lPathN_good {c : Cur} (h : c.good) : (lPathN c).2.good := by
  unfold lPathN
  split
  · exact lBelow_good (lOnce_good (lBelow_good h _) _) _
  · exact lOnce_good (lBelow_good h _) _

theorem lPath_good {c : Cur} (h : c.good) : (lPath c).2.good := lPathL_good (lPathN_good (lSeg_good h)) _

theorem lPath_len (c : Cur) : (lPath c).1.length ≤ 200 := by
  have h1 := lSeg_len c
  have h2 := lPathN_rng (lSeg c).2
  have h3 := lPathL_len ((lSeg c).1, (lPathN (lSeg c).2).2) (lPathN (lSeg c).2).1.toNat
  unfold lPath
  dsimp only at h3
  omega

def lGood (c : Cur) : Int × Cur := ((lBelow c 16777216).1 * 65536 + (lBelow (lBelow c 16777216).2 65536).1, (lBelow (lBelow c 16777216).2 65536).2)

theorem lGood_good {c : Cur} (h : c.good) : (lGood c).2.good := lBelow_good (lBelow_good h _) _

theorem lGood_rng (c : Cur) : 0 ≤ (lGood c).1 ∧ (lGood c).1 < 1099511627776 := by
  have h1 := lBelow_rng c (n := 16777216) (by omega)
  have h2 := lBelow_rng (lBelow c 16777216).2 (n := 65536) (by omega)
  unfold lGood
  dsimp only
  omega

def lSize (n : Nat) (most : Int) : Int := if most < 2 + ((n / 16 : Nat) : Int) then most else 2 + ((n / 16 : Nat) : Int)

def wha1 : List (List UInt8) := [[114, 101, 97, 100], [119, 114, 105, 116, 101], [108, 111, 103, 105, 110], [120, 49]]

def wha2 : List (List UInt8) := [[], [82, 101, 97, 100], [97, 98, 99, 100, 101, 102, 103, 104, 105, 106, 107, 108, 109]]

def pat1 : List (List UInt8) := [[97], [107, 118, 47, 98], [100, 98, 47, 120, 45, 49]]

/-- The five first draws of a note. -/
def lNoteA (c : Cur) (at_ : Int) : GNote × Cur :=
  let w := lBelow c 9
  let t := lPick w.2 [] wha1
  let p := lPick t.2 [] pat1
  let k := lBelow p.2 8
  ({ fSeq := 0, fAt := at_, fWho := w.1, fWhat := t.1, fPath := p.1, fCode := k.1, fSum := 0 }, k.2)

def lNoteB (n : GNote) (c : Cur) : GNote × Cur :=
  let s := lBelow c 5
  if s.1 = 0 then let q := lPick s.2 0 [-1, 1000000000, 1000000001, 0]; ({ n with fAt := q.1 }, q.2)
  else if s.1 = 1 then let q := lPick s.2 0 [-1, 1000000000, 1000000001]; ({ n with fWho := q.1 }, q.2)
  else if s.1 = 2 then let q := lPick s.2 [] wha2; ({ n with fWhat := q.1 }, q.2)
  else if s.1 = 3 then let q := lPath s.2; ({ n with fPath := q.1 }, q.2)
  else if s.1 = 4 then let q := lPick s.2 0 [-1, 99, 100]; ({ n with fCode := q.1 }, q.2)
  else (n, s.2)

def lNote (c : Cur) (at_ : Int) : GNote × Cur :=
  let a := lNoteA c at_
  let o := lOnce a.2 25
  if o.1 = true then lNoteB a.1 o.2 else (a.1, o.2)

def smallN (n : GNote) : Prop := n.fWhat.length ≤ 20 ∧ n.fPath.length ≤ 200 ∧ n.fSeq = 0 ∧ n.fSum = 0 ∧ (-1 ≤ n.fWho ∧ n.fWho ≤ 1000000001) ∧ (-1 ≤ n.fCode ∧ n.fCode ≤ 100)

theorem lNoteA_small (c : Cur) (a : Int) : smallN (lNoteA c a).1 ∧ (lNoteA c a).1.fAt = a := by
  have h1 := lBelow_rng c (n := 9) (by omega)
  have ha : ∀ x, x ∈ wha1 → x.length ≤ 20 := by decide
  have hb : ∀ x, x ∈ pat1 → x.length ≤ 200 := by decide
  have h2 := ha _ (lPick_mem (lBelow c 9).2 [] (l := wha1) (by decide))
  have h3 := hb _ (lPick_mem (lPick (lBelow c 9).2 [] wha1).2 [] (l := pat1) (by decide))
  have h4 := lBelow_rng (lPick (lPick (lBelow c 9).2 [] wha1).2 [] pat1).2 (n := 8) (by omega)
  refine ⟨⟨h2, h3, rfl, rfl, ?_, ?_⟩, rfl⟩
  · show -1 ≤ (lBelow c 9).1 ∧ (lBelow c 9).1 ≤ _; omega
  · show -1 ≤ (lBelow (lPick (lPick (lBelow c 9).2 [] wha1).2 [] pat1).2 8).1 ∧ (lBelow (lPick (lPick (lBelow c 9).2 [] wha1).2 [] pat1).2 8).1 ≤ 100; omega

theorem lNoteA_good {c : Cur} (h : c.good) (a : Int) : (lNoteA c a).2.good := lBelow_good (lPick_good (lPick_good (lBelow_good h _) _ _) _ _) _

theorem lNoteB_small {n : GNote} (h : smallN n) (c : Cur) : smallN (lNoteB n c).1 ∧ ((lNoteB n c).1.fAt = n.fAt ∨ (-1 ≤ (lNoteB n c).1.fAt ∧ (lNoteB n c).1.fAt ≤ 1000000001)) := by
  have hb : ∀ x, x ∈ wha2 → x.length ≤ 20 := by decide
  have hA : ∀ x : Int, x ∈ [-1, 1000000000, 1000000001, 0] → -1 ≤ x ∧ x ≤ 1000000001 := by decide
  have hW : ∀ x : Int, x ∈ [-1, 1000000000, 1000000001] → -1 ≤ x ∧ x ≤ 1000000001 := by decide
  have hC : ∀ x : Int, x ∈ [-1, 99, 100] → -1 ≤ x ∧ x ≤ 100 := by decide
  obtain ⟨h1, h2, h3, h4, h5, h6⟩ := h
  unfold lNoteB
  dsimp only
  split
  · exact ⟨⟨h1, h2, h3, h4, h5, h6⟩, .inr (hA _ (lPick_mem _ _ (by simp)))⟩
  split
  · exact ⟨⟨h1, h2, h3, h4, hW _ (lPick_mem _ _ (by simp)), h6⟩, .inl rfl⟩
  split
  · exact ⟨⟨hb _ (lPick_mem _ _ (by decide)), h2, h3, h4, h5, h6⟩, .inl rfl⟩
  split
  · exact ⟨⟨h1, lPath_len _, h3, h4, h5, h6⟩, .inl rfl⟩
  split
  · exact ⟨⟨h1, h2, h3, h4, h5, hC _ (lPick_mem _ _ (by simp))⟩, .inl rfl⟩
  · exact ⟨⟨h1, h2, h3, h4, h5, h6⟩, .inl rfl⟩

theorem lNoteB_good {c : Cur} (h : c.good) (n : GNote) : (lNoteB n c).2.good := by
  have hs := lBelow_good h 5
  unfold lNoteB
  dsimp only
  split
  · exact lPick_good hs (0 : Int) _
  split
  · exact lPick_good hs (0 : Int) _
  split
  · exact lPick_good hs ([] : List UInt8) _
  split
  · exact lPath_good hs
  split
  · exact lPick_good hs (0 : Int) _
  · exact hs

theorem lNote_small (c : Cur) (a : Int) : smallN (lNote c a).1 ∧ ((lNote c a).1.fAt = a ∨ (-1 ≤ (lNote c a).1.fAt ∧ (lNote c a).1.fAt ≤ 1000000001)) := by
  obtain ⟨h1, h2⟩ := lNoteA_small c a
  unfold lNote
  dsimp only
  split
  · have := lNoteB_small h1 (lOnce (lNoteA c a).2 25).2
    rw [h2] at this
    exact this
  · exact ⟨h1, .inl h2⟩

theorem lNote_good {c : Cur} (h : c.good) (a : Int) : (lNote c a).2.good := by
  unfold lNote
  dsimp only
  split
  · exact lNoteB_good (lOnce_good (lNoteA_good h a) _) _
  · exact lOnce_good (lNoteA_good h a) _

structure DrS where
  ch : GChain
  at_ : Int
  cu : Cur

def chStep (s : DrS) : DrS :=
  ⟨addC s.ch (lNote (lBelow s.cu 3).2 (s.at_ + (lBelow s.cu 3).1)).1, s.at_ + (lBelow s.cu 3).1, (lNote (lBelow s.cu 3).2 (s.at_ + (lBelow s.cu 3).1)).2⟩

def chRun (s : DrS) : Nat → DrS
  | 0 => s
  | n + 1 => chStep (chRun s n)

def lCh0 (c : Cur) : DrS :=
  let b := lBelow c 16777216
  let f := lPick b.2 0 [0, 0, 7, b.1]
  let g := lGood f.2
  ⟨{ fFirst := f.1, fSalt := g.1, fNotes := [] }, 0, g.2⟩

structure DrOk (s : DrS) (i : Nat) : Prop where
  good : s.cu.good
  at_ : 0 ≤ s.at_ ∧ s.at_ ≤ 2 * (i : Int)
  ok : s.ch.ok
  cost : s.ch.cost ≤ 230 * i

theorem small_ok {n : GNote} (h : smallN n) {a : Int} (ha : n.fAt = a ∨ (-1 ≤ n.fAt ∧ n.fAt ≤ 1000000001)) (hb : 0 ≤ a ∧ a ≤ 1000) : n.ok ∧ n.cost ≤ 220 := by
  obtain ⟨h1, h2, h3, h4, h5, h6⟩ := h
  have hm : maxLen = 9223372036854775807 := rfl
  refine ⟨?_, by unfold GNote.cost; omega⟩
  unfold GNote.ok int64
  rw [h3, h4]
  omega

theorem sumV_int (a : Int) (x : GNote) : int64 (sumV a x) := by
  have := digN_range (sumT a x.fSeq x.fAt x.fWho x.fWhat x.fPath x.fCode)
  unfold int64 sumV
  omega

theorem addC_ok {c : GChain} {n : GNote} (hc : c.ok) (hn : n.ok) (hcc : c.cost ≤ 1048576) (hnc : n.cost ≤ 1048576) : (addC c n).ok := by
  unfold addC
  split
  · rename_i hb
    unfold addB at hb
    rw [Bool.and_eq_true] at hb
    have hseq := chain_note hb.2 (i := (grown c (newNote c n)).fNotes.length - 1) (x := newNote c n) (by
      unfold grown
      split
      · simp
      · simp)
    have hr := note_range hseq
    obtain ⟨h1, h2, h3, h4⟩ := hc
    obtain ⟨n1, n2, n3, n4, n5, n6, n7⟩ := hn
    have hm : maxLen = 9223372036854775807 := rfl
    have hnew : (newNote c n).ok := ⟨by unfold int64; omega, n2, n3, n4, n5, n6, sumV_int _ _⟩
    have hlen := chain_len hb.1
    unfold grown
    split
    · refine ⟨?_, h2, ?_, ?_⟩
      · dsimp only
        cases hl : c.fNotes with
        | nil => show int64 0; unfold int64; omega
        | cons z t => exact (h4 z (by rw [hl]; simp)).2.2.2.2.2.2
      · simp; omega
      · intro y hy
        rcases List.mem_append.1 hy with hy | hy
        · exact h4 y (List.mem_of_mem_drop hy)
        · simp at hy; subst hy; exact hnew
    · refine ⟨h1, h2, ?_, ?_⟩
      · simp; omega
      · intro y hy
        rcases List.mem_append.1 hy with hy | hy
        · exact h4 y hy
        · simp at hy; subst hy; exact hnew
  · exact hc

theorem lCh0_ok {c : Cur} (h : c.good) : DrOk (lCh0 c) 0 := by
  have hb := lBelow_rng c (n := 16777216) (by omega)
  have hp := lPick_mem (lBelow c 16777216).2 0 (l := [0, 0, 7, (lBelow c 16777216).1]) (by simp)
  have hg := lGood_rng (lPick (lBelow c 16777216).2 0 [0, 0, 7, (lBelow c 16777216).1]).2
  refine ⟨lGood_good (lPick_good (lBelow_good h _) (0 : Int) _), ⟨Int.le_refl _, by simp [lCh0]⟩, ⟨?_, ?_, ?_, ?_⟩, ?_⟩
  · show int64 (lPick (lBelow c 16777216).2 0 [0, 0, 7, (lBelow c 16777216).1]).1
    simp only [List.mem_cons, List.not_mem_nil, or_false] at hp
    unfold int64; omega
  · show int64 (lGood (lPick (lBelow c 16777216).2 0 [0, 0, 7, (lBelow c 16777216).1]).2).1
    unfold int64; omega
  · simp [lCh0]
  · intro y hy; simp [lCh0] at hy
  · simp [lCh0, GChain.cost, sumBy]

theorem chStep_ok {s : DrS} {i : Nat} (h : DrOk s i) (hi : i < 122) : DrOk (chStep s) (i + 1) := by
  obtain ⟨h1, h2, h3, h4⟩ := h
  have hb := lBelow_rng s.cu (n := 3) (by omega)
  have hg := lBelow_good h1 3
  obtain ⟨n1, n2⟩ := lNote_small (lBelow s.cu 3).2 (s.at_ + (lBelow s.cu 3).1)
  obtain ⟨n3, n4⟩ := small_ok n1 n2 ⟨by omega, by omega⟩
  have hc := addC_cost s.ch (lNote (lBelow s.cu 3).2 (s.at_ + (lBelow s.cu 3).1)).1
  refine ⟨lNote_good hg _, ⟨?_, ?_⟩, addC_ok h3 n3 (by omega) (by omega), ?_⟩
  · show 0 ≤ s.at_ + (lBelow s.cu 3).1; omega
  · show s.at_ + (lBelow s.cu 3).1 ≤ _; omega
  · show (addC s.ch (lNote (lBelow s.cu 3).2 (s.at_ + (lBelow s.cu 3).1)).1).cost ≤ _; omega

theorem chRun_ok {s : DrS} (h : DrOk s 0) : ∀ n, n ≤ 122 → DrOk (chRun s n) n := by
  intro n
  induction n with
  | zero => intro _; exact h
  | succ n ih => intro hn; exact chStep_ok (ih (by omega)) (by omega)

def setN (l : List GNote) (i : Nat) (f : GNote → GNote) : List GNote := match l[i]? with
  | some x => l.set i (f x)
  | none => l

/-- What is turned in a chain that is drawn. -/
def bendN (c : GChain) (i : Nat) (k : Int) (q : Int) : GChain :=
  if k = 0 then { c with fNotes := setN c.fNotes i fun x => { x with fCode := IntKind.i64.wrap (x.fCode + 1) } }
  else if k = 1 then { c with fNotes := setN c.fNotes i fun x => { x with fSum := IntKind.i64.wrap (x.fSum + 1) } }
  else if k = 2 then { c with fNotes := setN c.fNotes i fun x => { x with fWhat := [111, 116, 104, 101, 114] } }
  else if k = 3 then { c with fNotes := c.fNotes.drop 1 }
  else if k = 4 then { c with fNotes := setN c.fNotes i fun x => { x with fSeq := IntKind.i64.wrap (x.fSeq + 1) } }
  else if k = 5 then { c with fNotes := setN c.fNotes i fun x => { x with fAt := q } }
  else c

def lChB (c : GChain) (u : Cur) : GChain × Cur :=
  let o := lOnce u 5
  if o.1 = true ∧ 0 < c.fNotes.length then
    let i := lBelow o.2 (c.fNotes.length : Nat)
    let k := lBelow i.2 6
    let q := lPick k.2 0 [-1, 0]
    (bendN c i.1.toNat k.1 q.1, if k.1 = 5 then q.2 else k.2)
  else (c, o.2)

def lChC (c : GChain) (u : Cur) : GChain × Cur :=
  ((if (lOnce u 30).1 = true then { c with fFirst := -1 } else c), (lOnce u 30).2)

def lChain (c : Cur) (n : Int) : GChain × Cur :=
  lChC (lChB (chRun (lCh0 c) n.toNat).ch (chRun (lCh0 c) n.toNat).cu).1 (lChB (chRun (lCh0 c) n.toNat).ch (chRun (lCh0 c) n.toNat).cu).2

theorem sumBy_set {l : List GNote} {i : Nat} {x y : GNote} (h : l[i]? = some x) : sumBy GNote.cost (l.set i y) ≤ sumBy GNote.cost l + y.cost := by
  induction l generalizing i with
  | nil => simp at h
  | cons a t ih =>
    cases i with
    | zero => simp only [List.set_cons_zero, sumBy]; omega
    | succ i => simp only [List.set_cons_succ, sumBy]; have := ih (i := i) (by simpa using h); omega

theorem mem_cost {l : List GNote} {x : GNote} (h : x ∈ l) : x.cost ≤ sumBy GNote.cost l := by
  induction l with
  | nil => cases h
  | cons a t ih =>
    rcases List.mem_cons.1 h with rfl | h
    · simp only [sumBy]; omega
    · simp only [sumBy]; have := ih h; omega

theorem setN_ok {c : GChain} (hc : c.ok) (i : Nat) (f : GNote → GNote) (hf : ∀ x, x.ok → (f x).ok ∧ (f x).cost ≤ x.cost + 5) : ({ c with fNotes := setN c.fNotes i f } : GChain).ok ∧ ({ c with fNotes := setN c.fNotes i f } : GChain).cost ≤ 2 * c.cost + 5 := by
  obtain ⟨h1, h2, h3, h4⟩ := hc
  unfold setN
  cases hx : c.fNotes[i]? with
  | none => exact ⟨⟨h1, h2, h3, h4⟩, by show c.cost ≤ _; omega⟩
  | some x =>
    have hm := List.mem_of_getElem? hx
    obtain ⟨f1, f2⟩ := hf x (h4 x hm)
    refine ⟨⟨h1, h2, by simpa using h3, ?_⟩, ?_⟩
    · intro y hy
      rcases List.mem_or_eq_of_mem_set hy with hy | rfl
      · exact h4 y hy
      · exact f1
    · have h5 := sumBy_set (y := f x) hx
      have h6 := mem_cost hm
      show (c.fNotes.set i (f x)).length + sumBy GNote.cost (c.fNotes.set i (f x)) ≤ 2 * (c.fNotes.length + sumBy GNote.cost c.fNotes) + 5
      rw [List.length_set]
      omega

theorem wrap_int (x : Int) : int64 (IntKind.i64.wrap x) := by
  unfold int64 IntKind.wrap
  simp only [show IntKind.i64.signed = true from rfl, show IntKind.i64.bits = 64 from rfl, Bool.true_and, decide_eq_true_eq]
  split <;> omega

theorem bendN_ok {c : GChain} (hc : c.ok) (i : Nat) (k q : Int) (hq : -1 ≤ q ∧ q ≤ 0) : (bendN c i k q).ok ∧ (bendN c i k q).cost ≤ 2 * c.cost + 5 := by
  have hm : maxLen = 9223372036854775807 := rfl
  unfold bendN
  split
  · exact setN_ok hc i _ fun x hx => ⟨⟨hx.1, hx.2.1, hx.2.2.1, hx.2.2.2.1, hx.2.2.2.2.1, wrap_int _, hx.2.2.2.2.2.2⟩, Nat.le_add_right _ _⟩
  split
  · exact setN_ok hc i _ fun x hx => ⟨⟨hx.1, hx.2.1, hx.2.2.1, hx.2.2.2.1, hx.2.2.2.2.1, hx.2.2.2.2.2.1, wrap_int _⟩, Nat.le_add_right _ _⟩
  split
  · exact setN_ok hc i _ fun x hx => ⟨⟨hx.1, hx.2.1, hx.2.2.1, by show 5 ≤ maxLen; omega, hx.2.2.2.2.1, hx.2.2.2.2.2.1, hx.2.2.2.2.2.2⟩, by show 5 + x.fPath.length ≤ x.fWhat.length + x.fPath.length + 5; omega⟩
  split
  · obtain ⟨h1, h2, h3, h4⟩ := hc
    refine ⟨⟨h1, h2, by simp; omega, fun y hy => h4 y (List.mem_of_mem_drop hy)⟩, ?_⟩
    show (c.fNotes.drop 1).length + sumBy GNote.cost (c.fNotes.drop 1) ≤ 2 * (c.fNotes.length + sumBy GNote.cost c.fNotes) + 5
    cases c.fNotes with
    | nil => simp [sumBy]
    | cons z t => simp [sumBy]; omega
  split
  · exact setN_ok hc i _ fun x hx => ⟨⟨wrap_int _, hx.2.1, hx.2.2.1, hx.2.2.2.1, hx.2.2.2.2.1, hx.2.2.2.2.2.1, hx.2.2.2.2.2.2⟩, Nat.le_add_right _ _⟩
  split
  · exact setN_ok hc i _ fun x hx => ⟨⟨hx.1, by show int64 q; unfold int64; omega, hx.2.2.1, hx.2.2.2.1, hx.2.2.2.2.1, hx.2.2.2.2.2.1, hx.2.2.2.2.2.2⟩, Nat.le_add_right _ _⟩
  · exact ⟨hc, by omega⟩

end Go.Proofs.YtalclmngpfpkmaaDoor.Ab

