/-
  A part of a proof about the given program; what is proved is said where each theorem stands.
-/
import Derived.Test.YtpboimnecoakiaaDoorFrameA
import Derived.Test.YtpboimnecoakiaaDoorFrameB
import Derived.Test.YtpboimnecoakiaaDoorFrameC
import Derived.Test.YtpboimnecoakiaaDoorFrameD
import Derived.Test.YtpboimnecoakiaaDoorFrameE
import Derived.Test.YtpboimnecoakiaaDoorShelf
import Derived.Test.YtpboimnecoakiaaDoorCodesA
import Derived.Test.YtpboimnecoakiaaDoorPartA
namespace Go.Proofs
end Go.Proofs
set_option linter.unusedSimpArgs false
set_option linter.unusedVariables false
set_option maxRecDepth 100000
set_option maxHeartbeats 2000000
namespace Go.Proofs.YtpboimnecoakiaaDoor.Ab
open Go.Proofs
variable {GG : GV}

def sumV (a : Int) (x : GNote) : Int := digN (sumT a x.fSeq x.fAt x.fWho x.fWhat x.fPath x.fCode)

def breakL (a : Int) : List GNote → Nat
  | [] => 0
  | x :: r => if x.fSum = sumV a x then breakL x.fSum r + 1 else 0

theorem breakL_hit {f a : Int} {l : List GNote} {i : Nat} {x : GNote} (h : l[i]? = some x) (hb : breakL f l = i + breakL a (l.drop i)) (hs : x.fSum = sumV a x) : breakL f l = (i + 1) + breakL x.fSum (l.drop (i + 1)) := by
  obtain ⟨hi, rfl⟩ := List.getElem?_eq_some_iff.1 h
  rw [List.drop_eq_getElem_cons hi, breakL, if_pos hs] at hb
  omega

theorem breakL_miss {f a : Int} {l : List GNote} {i : Nat} {x : GNote} (h : l[i]? = some x) (hb : breakL f l = i + breakL a (l.drop i)) (hs : x.fSum ≠ sumV a x) : breakL f l = i := by
  obtain ⟨hi, rfl⟩ := List.getElem?_eq_some_iff.1 h
  rw [List.drop_eq_getElem_cons hi, breakL, if_neg hs] at hb
  omega

theorem breakL_end {f a : Int} {l : List GNote} {i : Nat} (h : ¬ i < l.length) (hi : i ≤ l.length) (hb : breakL f l = i + breakL a (l.drop i)) : breakL f l = l.length := by
  rw [List.drop_eq_nil_of_le (by omega), breakL] at hb; omega

def breakV (c : GChain) : Int := if chainOk c = true then (breakL c.fFirst c.fNotes : Nat) else -1

theorem s_SumOf_g (a : Int) (x : GNote) (ha : int64 a) (hx : x.ok) (h1 : x.fWhat.length ≤ 1048576) (h2 : x.fPath.length ≤ 1048576) : Valid PP GG F_S_SumOf [.d (.int .i64 a), .agg x.c] (.d (.int .i64 (sumV a x))) [none, none] :=
  s_SumOf_ok a x.fSeq x.fAt x.fWho x.fWhat x.fPath x.fCode x.fSum ha hx.1 hx.2.1 hx.2.2.1 hx.2.2.2.2.2.1 h1 h2

theorem sumOf_g [P10 GG] (a : Int) (x : GNote) (ha : int64 a) (hx : x.ok) (h1 : x.fWhat.length ≤ 1048576) (h2 : x.fPath.length ≤ 1048576) : Valid PP GG F_I_sumOf [.d (.int .i64 a), .agg x.c] (.d (.int .i64 (sumV a x))) [none, none] :=
  i_sumOf_ok a x.fSeq x.fAt x.fWho x.fWhat x.fPath x.fCode x.fSum ha hx.1 hx.2.1 hx.2.2.1 hx.2.2.2.2.2.1 h1 h2

theorem s_BreakOf_ok (c : GChain) (hok : c.ok) (hc : c.cost ≤ 1048576) : Valid PP GG F_S_BreakOf [.agg c.c] (.d (.int .i64 (breakV c))) [none] := by
  refine v_S_BreakOf [.d (.int .i64 (breakV c))] rfl rfl ?_
  have cc := s_ChainOk_ok (GG := GG) c (by omega)
  have hr : breakV c = if chainOk c = true then ((breakL c.fFirst c.fNotes : Nat) : Int) else -1 := rfl
  obtain ⟨f, k, l⟩ := c
  have hco : (GChain.mk f k l).cost = l.length + sumBy GNote.cost l := rfl
  obtain ⟨o1, o2, o3, o4⟩ := hok
  simp only at o1 o4
  generalize chainOk (GChain.mk f k l) = b at cc hr
  simp only at hr
  refine W_seq (?_)
  apply W_regS
  · intro K hK
    simp
    repeat' (first | with_reducible exact hK | (with_reducible refine goL_split (fun _ => ?_) (fun _ => ?_) <;> simp) | with_reducible refine And.intro ?_ ?_ | with_reducible exact okay_rfl rfl | with_reducible assumption | omega)
  refine W_seq (W_seq (?_))
  apply W_regS
  · intro K hK
    simp
    repeat' (first | with_reducible exact hK | (with_reducible refine callQ (cc) ?_; simp) | (with_reducible refine goL_split (fun _ => ?_) (fun _ => ?_) <;> simp) | with_reducible refine And.intro ?_ ?_ | with_reducible exact okay_rfl rfl | with_reducible assumption | omega)
  refine W_cond rfl (fun h => W_seq ?_) (fun h => W_skip ?_)
  · simp at h
    subst h
    apply W_regS
    · intro K hK
      simp
      repeat' (first | with_reducible exact hK | (with_reducible refine goL_split (fun _ => ?_) (fun _ => ?_) <;> simp) | with_reducible refine And.intro ?_ ?_ | with_reducible exact okay_rfl rfl | with_reducible assumption | omega)
    rw [if_neg (by simp)] at hr
    refine W_ret ?_
    simp [Fin, hr]
    all_goals omega
  simp at h
  subst h
  rw [if_pos rfl] at hr
  refine W_seq (?_)
  apply W_regS
  · intro K hK
    simp
    repeat' (first | with_reducible exact hK | (with_reducible refine goL_split (fun _ => ?_) (fun _ => ?_) <;> simp) | with_reducible refine And.intro ?_ ?_ | with_reducible exact okay_rfl rfl | with_reducible assumption | omega)
  refine W_seq (W_seq (?_))
  apply W_regS
  · intro K hK
    simp
    repeat' (first | with_reducible exact hK | (with_reducible refine goL_split (fun _ => ?_) (fun _ => ?_) <;> simp) | with_reducible refine And.intro ?_ ?_ | with_reducible exact okay_rfl rfl | with_reducible assumption | omega)
  refine W_block (W_loop (fun n st => ∃ (i : Nat) (a : Int), n = l.length - i ∧ i ≤ l.length ∧ int64 a ∧ breakL f l = i + breakL a (l.drop i) ∧
    st = ⟨[], [(1, .ptr 0 0), (3, .d (.int .i64 a)), (4, .d (.int .i64 i))], [(0, .box [.d (.int .i64 f), .d (.int .i64 k), .d (.slc 7 (rNote l))])], 1⟩) _ ⟨0, f, rfl, by omega, o1, by simp, rfl⟩ ?_)
  rintro n st ⟨i, a, rfl, hi, ha64, hb, rfl⟩
  refine W_seq (W_seq (?_))
  apply W_regS
  · intro K hK
    simp
    repeat' (first | with_reducible exact hK | (with_reducible refine goL_split (fun _ => ?_) (fun _ => ?_) <;> simp) | with_reducible refine And.intro ?_ ?_ | with_reducible exact okay_rfl rfl | with_reducible assumption | omega)
  refine W_cond rfl (fun h2 => W_skip ?_) (fun h2 => W_exit ?_)
  · simp at h2
    have ha := List.getElem?_eq_getElem h2
    have hmem := List.getElem_mem h2
    generalize l[i] = x at ha hmem
    have hg := sumBy_get (f := GNote.cost) ha
    have hcx : x.cost = x.fWhat.length + x.fPath.length := rfl
    have cs := s_SumOf_g (GG := GG) a x ha64 (o4 x hmem) (by omega) (by omega)
    have hx64 := (o4 x hmem).2.2.2.2.2.2
    refine W_seq (W_block (W_seq ?_))
    refine W_seq (?_)
    by_cases hs : x.fSum = sumV a x
    · have hb2 := breakL_hit ha hb hs
      generalize sumV a x = y at cs hs
      refine W_regBD 30 (false) (fun K hK => ?_) ?_
      · simp [ha]
        repeat' (first | exact hK _ _ (by clear hK; first | omega | (exact decide_eq_false (by omega)) | (exact decide_eq_true (by omega)) | (exact (decide_eq_true (by omega)).symm) | (exact (decide_eq_false (by omega)).symm) | (exact decide_eq_decide.2 (by omega)) | (simp [*]; done) | (simp [*]; omega) | (simp_all; done) | (simp_all; omega) | (rw [Bool.eq_iff_iff]; simp at *; omega)) | (with_reducible refine callQ (cs) ?_; simp [ha]) | (with_reducible refine goL_split (fun _ => ?_) (fun _ => ?_) <;> simp [ha]) | with_reducible refine And.intro ?_ ?_ | with_reducible exact okay_rfl rfl | with_reducible assumption | omega)
      refine W_cond rfl (fun h3 => ?_) (fun h3 => W_skip ?_)
      · cases h3
      apply W_regS
      · intro K hK
        simp [ha]
        repeat' (first | with_reducible exact hK | (with_reducible refine goL_split (fun _ => ?_) (fun _ => ?_) <;> simp [ha]) | with_reducible refine And.intro ?_ ?_ | with_reducible exact okay_rfl rfl | with_reducible assumption | omega)
      apply W_regS
      · intro K hK
        simp
        repeat' (first | with_reducible exact hK | (with_reducible refine goL_split (fun _ => ?_) (fun _ => ?_) <;> simp) | with_reducible refine And.intro ?_ ?_ | with_reducible exact okay_rfl rfl | with_reducible assumption | omega)
      exact ⟨l.length - (i + 1), by omega, i + 1, x.fSum, rfl, h2, hx64, hb2, by simp [gc, closeN, liveA, gcV, gcO, renA, renAs, renO, namesAs, namesA, namesO, posn]; exact wrap_id (by omega) (by omega)⟩
    · have hb2 := breakL_miss ha hb hs
      generalize sumV a x = y at cs hs
      refine W_regBD 30 (true) (fun K hK => ?_) ?_
      · simp [ha]
        repeat' (first | exact hK _ _ (by clear hK; first | omega | (exact decide_eq_false (by omega)) | (exact decide_eq_true (by omega)) | (exact (decide_eq_true (by omega)).symm) | (exact (decide_eq_false (by omega)).symm) | (exact decide_eq_decide.2 (by omega)) | (simp [*]; done) | (simp [*]; omega) | (simp_all; done) | (simp_all; omega) | (rw [Bool.eq_iff_iff]; simp at *; omega)) | (with_reducible refine callQ (cs) ?_; simp [ha]) | (with_reducible refine goL_split (fun _ => ?_) (fun _ => ?_) <;> simp [ha]) | with_reducible refine And.intro ?_ ?_ | with_reducible exact okay_rfl rfl | with_reducible assumption | omega)
      refine W_cond rfl (fun h3 => W_seq ?_) (fun h3 => ?_)
      rotate_left
      · cases h3
      apply W_regS
      · intro K hK
        simp
        repeat' (first | with_reducible exact hK | (with_reducible refine goL_split (fun _ => ?_) (fun _ => ?_) <;> simp) | with_reducible refine And.intro ?_ ?_ | with_reducible exact okay_rfl rfl | with_reducible assumption | omega)
      rw [hb2] at hr
      refine W_ret ?_
      simp [Fin, hr]
      all_goals omega
  · simp at h2
    have hb2 := breakL_end (by omega) hi hb
    rw [if_pos rfl]
    refine W_seq (?_)
    apply W_regS
    · intro K hK
      simp
      repeat' (first | with_reducible exact hK | (with_reducible refine goL_split (fun _ => ?_) (fun _ => ?_) <;> simp) | with_reducible refine And.intro ?_ ?_ | with_reducible exact okay_rfl rfl | with_reducible assumption | omega)
    rw [hb2] at hr
    refine W_ret ?_
    simp [Fin, hr]
    all_goals omega

theorem breakOf_ok [P10 GG] (c : GChain) (hok : c.ok) (hc : c.cost ≤ 1048576) : Valid PP GG F_I_breakOf [.agg c.c] (.d (.int .i64 (breakL c.fFirst c.fNotes : Nat))) [none] := by
  refine v_I_breakOf [.d (.int .i64 (breakL c.fFirst c.fNotes : Nat))] rfl rfl ?_
  obtain ⟨f, k, l⟩ := c
  have hco : (GChain.mk f k l).cost = l.length + sumBy GNote.cost l := rfl
  obtain ⟨o1, o2, o3, o4⟩ := hok
  simp only at o1 o4
  simp only
  obtain ⟨m, hr⟩ : ∃ m, breakL f l = m := ⟨_, rfl⟩
  rw [hr]
  refine W_seq (?_)
  apply W_regS
  · intro K hK
    simp
    repeat' (first | with_reducible exact hK | (with_reducible refine goL_split (fun _ => ?_) (fun _ => ?_) <;> simp) | with_reducible refine And.intro ?_ ?_ | with_reducible exact okay_rfl rfl | with_reducible assumption | omega)
  refine W_seq (?_)
  apply W_regS
  · intro K hK
    simp
    repeat' (first | with_reducible exact hK | (with_reducible refine goL_split (fun _ => ?_) (fun _ => ?_) <;> simp) | with_reducible refine And.intro ?_ ?_ | with_reducible exact okay_rfl rfl | with_reducible assumption | omega)
  refine W_seq (W_seq (?_))
  apply W_regS
  · intro K hK
    simp
    repeat' (first | with_reducible exact hK | (with_reducible refine goL_split (fun _ => ?_) (fun _ => ?_) <;> simp) | with_reducible refine And.intro ?_ ?_ | with_reducible exact okay_rfl rfl | with_reducible assumption | omega)
  refine W_block (W_loop (fun n st => ∃ (i : Nat) (a : Int), n = l.length - i ∧ i ≤ l.length ∧ int64 a ∧ breakL f l = i + breakL a (l.drop i) ∧
    st = ⟨[], [(1, .ptr 0 0), (3, .d (.int .i64 a)), (9, .d (.slc 7 (rNote l))), (10, .d (.int .i64 l.length)), (11, .d (.int .i64 i))], [(0, .box [.d (.int .i64 f), .d (.int .i64 k), .d (.slc 7 (rNote l))])], 1⟩) _ ⟨0, f, rfl, by omega, o1, by simp, rfl⟩ ?_)
  rintro n st ⟨i, a, rfl, hi, ha64, hb, rfl⟩
  refine W_seq (?_)
  apply W_regS
  · intro K hK
    simp
    repeat' (first | with_reducible exact hK | (with_reducible refine goL_split (fun _ => ?_) (fun _ => ?_) <;> simp) | with_reducible refine And.intro ?_ ?_ | with_reducible exact okay_rfl rfl | with_reducible assumption | omega)
  refine W_seq (?_)
  refine W_cond rfl (fun h2 => W_skip ?_) (fun h2 => W_exit ?_)
  · simp at h2
    have ha := List.getElem?_eq_getElem h2
    have hmem := List.getElem_mem h2
    generalize l[i] = x at ha hmem
    have hg := sumBy_get (f := GNote.cost) ha
    have hcx : x.cost = x.fWhat.length + x.fPath.length := rfl
    have cs := sumOf_g (GG := GG) a x ha64 (o4 x hmem) (by omega) (by omega)
    have hx64 := (o4 x hmem).2.2.2.2.2.2
    refine W_seq (W_block (W_seq ?_))
    apply W_regS
    · intro K hK
      simp [ha]
      repeat' (first | with_reducible exact hK | (with_reducible refine goL_split (fun _ => ?_) (fun _ => ?_) <;> simp [ha]) | with_reducible refine And.intro ?_ ?_ | with_reducible exact okay_rfl rfl | with_reducible assumption | omega)
    refine W_seq (W_seq (?_))
    by_cases hs : x.fSum = sumV a x
    · have hb2 := breakL_hit ha hb hs
      generalize sumV a x = y at cs hs
      refine W_regBD 21 (false) (fun K hK => ?_) ?_
      · simp
        repeat' (first | exact hK _ _ (by clear hK; first | omega | (exact decide_eq_false (by omega)) | (exact decide_eq_true (by omega)) | (exact (decide_eq_true (by omega)).symm) | (exact (decide_eq_false (by omega)).symm) | (exact decide_eq_decide.2 (by omega)) | (simp [*]; done) | (simp [*]; omega) | (simp_all; done) | (simp_all; omega) | (rw [Bool.eq_iff_iff]; simp at *; omega)) | (with_reducible refine callQ (cs) ?_; simp) | (with_reducible refine goL_split (fun _ => ?_) (fun _ => ?_) <;> simp) | with_reducible refine And.intro ?_ ?_ | with_reducible exact okay_rfl rfl | with_reducible assumption | omega)
      refine W_cond rfl (fun h3 => ?_) (fun h3 => W_skip ?_)
      · cases h3
      apply W_regS
      · intro K hK
        simp
        repeat' (first | with_reducible exact hK | (with_reducible refine goL_split (fun _ => ?_) (fun _ => ?_) <;> simp) | with_reducible refine And.intro ?_ ?_ | with_reducible exact okay_rfl rfl | with_reducible assumption | omega)
      apply W_regS
      · intro K hK
        simp
        repeat' (first | with_reducible exact hK | (with_reducible refine goL_split (fun _ => ?_) (fun _ => ?_) <;> simp) | with_reducible refine And.intro ?_ ?_ | with_reducible exact okay_rfl rfl | with_reducible assumption | omega)
      exact ⟨l.length - (i + 1), by omega, i + 1, x.fSum, rfl, h2, hx64, hb2, by simp [gc, closeN, liveA, gcV, gcO, renA, renAs, renO, namesAs, namesA, namesO, posn]; exact wrap_id (by omega) (by omega)⟩
    · have hb2 := breakL_miss ha hb hs
      generalize sumV a x = y at cs hs
      refine W_regBD 21 (true) (fun K hK => ?_) ?_
      · simp
        repeat' (first | exact hK _ _ (by clear hK; first | omega | (exact decide_eq_false (by omega)) | (exact decide_eq_true (by omega)) | (exact (decide_eq_true (by omega)).symm) | (exact (decide_eq_false (by omega)).symm) | (exact decide_eq_decide.2 (by omega)) | (simp [*]; done) | (simp [*]; omega) | (simp_all; done) | (simp_all; omega) | (rw [Bool.eq_iff_iff]; simp at *; omega)) | (with_reducible refine callQ (cs) ?_; simp) | (with_reducible refine goL_split (fun _ => ?_) (fun _ => ?_) <;> simp) | with_reducible refine And.intro ?_ ?_ | with_reducible exact okay_rfl rfl | with_reducible assumption | omega)
      refine W_cond rfl (fun h3 => W_seq ?_) (fun h3 => ?_)
      rotate_left
      · cases h3
      apply W_regS
      · intro K hK
        simp
        repeat' (first | with_reducible exact hK | (with_reducible refine goL_split (fun _ => ?_) (fun _ => ?_) <;> simp) | with_reducible refine And.intro ?_ ?_ | with_reducible exact okay_rfl rfl | with_reducible assumption | omega)
      rw [hb2] at hr
      refine W_ret ?_
      simp [Fin, hr]
      all_goals omega
  · simp at h2
    have hb2 := breakL_end (by omega) hi hb
    rw [if_pos rfl]
    refine W_seq (?_)
    apply W_regS
    · intro K hK
      simp
      repeat' (first | with_reducible exact hK | (with_reducible refine goL_split (fun _ => ?_) (fun _ => ?_) <;> simp) | with_reducible refine And.intro ?_ ?_ | with_reducible exact okay_rfl rfl | with_reducible assumption | omega)
    rw [hb2] at hr
    refine W_ret ?_
    simp [Fin, hr]
    all_goals omega

theorem i_BreakOf_ok [P10 GG] [MaxL GG] (c : GChain) (hok : c.ok) (hc : c.cost ≤ 1048576) : Valid PP GG F_I_BreakOf [.agg c.c] (.d (.int .i64 (breakV c))) [none] := by
  refine v_I_BreakOf [.d (.int .i64 (breakV c))] rfl rfl ?_
  have cc := isChain_ok (GG := GG) c (by omega)
  have ch := breakOf_ok (GG := GG) c hok hc
  have hr : breakV c = if chainOk c = true then ((breakL c.fFirst c.fNotes : Nat) : Int) else -1 := rfl
  generalize breakL c.fFirst c.fNotes = v at ch hr
  generalize chainOk c = b at cc hr
  refine W_seq (?_)
  apply W_regS
  · intro K hK
    simp
    repeat' (first | with_reducible exact hK | (with_reducible refine goL_split (fun _ => ?_) (fun _ => ?_) <;> simp) | with_reducible refine And.intro ?_ ?_ | with_reducible exact okay_rfl rfl | with_reducible assumption | omega)
  refine W_seq (W_seq (?_))
  apply W_regS
  · intro K hK
    simp
    repeat' (first | with_reducible exact hK | (with_reducible refine callQ (cc) ?_; simp) | (with_reducible refine goL_split (fun _ => ?_) (fun _ => ?_) <;> simp) | with_reducible refine And.intro ?_ ?_ | with_reducible exact okay_rfl rfl | with_reducible assumption | omega)
  refine W_cond rfl (fun h => W_seq ?_) (fun h => W_skip ?_)
  · simp at h
    subst h
    apply W_regS
    · intro K hK
      simp
      repeat' (first | with_reducible exact hK | (with_reducible refine goL_split (fun _ => ?_) (fun _ => ?_) <;> simp) | with_reducible refine And.intro ?_ ?_ | with_reducible exact okay_rfl rfl | with_reducible assumption | omega)
    rw [if_neg (by simp)] at hr
    refine W_ret ?_
    simp [Fin, hr]
    all_goals omega
  simp at h
  subst h
  rw [if_pos rfl] at hr
  refine W_seq (?_)
  apply W_regS
  · intro K hK
    simp
    repeat' (first | with_reducible exact hK | (with_reducible refine callQ (ch) ?_; simp) | (with_reducible refine goL_split (fun _ => ?_) (fun _ => ?_) <;> simp) | with_reducible refine And.intro ?_ ?_ | with_reducible exact okay_rfl rfl | with_reducible assumption | omega)
  refine W_ret ?_
  simp [Fin, hr]
  all_goals omega

end Go.Proofs.YtpboimnecoakiaaDoor.Ab


namespace Go.Proofs
end Go.Proofs
set_option linter.unusedSimpArgs false
set_option linter.unusedVariables false
set_option maxRecDepth 100000
set_option maxHeartbeats 2000000
namespace Go.Proofs.YtpboimnecoakiaaDoor.Ab
open Go.Proofs
variable {GG : GV}

/-- A row of one's own, as the kit's contracts say it: elements of any size. -/
theorem own_rowG {w : World} {Fz : PSet} {base sz : Nat} {e : TypeId} {v : Value} {rows : List (List D)} {xs : List Value} (h : w.ownsRow base e sz v rows.length xs) (hrow : ∀ row, row ∈ rows → row.length = sz)
    (hs : ∀ (m : Nat) d, rows.flatten[m]? = some d → ∃ u, xs[m]? = some u ∧ Shr w Fz u d) : ∃ S, Own w Fz 1 v (.slc sz rows) S ∧ ∀ x y, S x y → base ≤ x ∧ x < w.heap.size := by
  obtain ⟨hl, h⟩ := h
  rcases h with ⟨rfl, hz⟩ | ⟨g, cap, cur, rfl, hb, hg, hnc, _, hsz, htk⟩
  · have : rows = [] := List.length_eq_zero_iff.1 hz
    subst this
    exact ⟨fun _ _ => False, .inl ⟨rfl, rfl, fun _ _ h => h⟩, fun _ _ h => h.elim⟩
  · have hlt : g < w.heap.size := by
      rcases Nat.lt_or_ge g w.heap.size with h | h
      · exact h
      · rw [Array.getElem?_eq_none h] at hg; cases hg
    have hcell : ∀ o, o < cap * sz → w.cell? (at_ g (0 + o)) = some (cur.getD o Go.undef) := by
      intro o ho
      have ho2 : o < cur.size := by omega
      unfold World.cell?
      rw [show (at_ g (0 + o)).block = g from rfl, hg]
      simp [Array.getD_eq_getD_getElem?, ho2]
    have hle : rows.length * sz ≤ cap * sz := Nat.mul_le_mul_right _ hnc
    refine ⟨rng g 0 (cap * sz), .inr ⟨g, 0, cap, fun _ _ _ => False, rfl, hnc, ?_, hrow, ?_, fun _ _ _ _ _ _ _ h => h.elim, fun _ _ _ _ _ h => h, fun x y => ?_⟩, ?_⟩
    · intro o ho
      refine ⟨⟨_, hcell o (by omega)⟩, ?_⟩
      unfold World.frz?
      rw [show (at_ g (0 + o)).block = g from rfl, hg]
      simp
    · intro m d hm
      have hml := mem_len hm
      rw [flat_len hrow] at hml
      obtain ⟨u, hu, hsu⟩ := hs m d hm
      refine ⟨_, hcell m (by omega), ?_⟩
      have hc : cur.toList[m]? = some u := by
        have h1 : (cur.toList.take (rows.length * sz))[m]? = some u := by rw [htk, hu]
        rw [List.getElem?_take_of_lt hml] at h1
        exact h1
      rw [Array.getD_eq_getD_getElem?, ← Array.getElem?_toList, hc]
      exact ⟨hsu, fun _ _ h => h⟩
    · constructor
      · intro h; exact .inl h
      · rintro (h | ⟨_, _, h⟩)
        · exact h
        · exact h.elim
    · rintro x y ⟨rfl, _, _⟩
      exact ⟨hb, hlt⟩

theorem rNote_rows (l : List GNote) : ∀ row, row ∈ rNote l → row.length = 7 := by
  intro row h
  simp only [rNote, List.mem_map] at h
  obtain ⟨x, _, rfl⟩ := h
  rfl

theorem CloneNote_ok (l : List GNote) (hN : l.length ≤ 1099511627776) : Valid PP GG 103 [.d (.slc 7 (rNote l))] (.own 0 7 (rNote l)) [none] := by
  refine lib_new [.slc 7 (rNote l)] ⟨Tryd.f103, Tryd.func103, by kernel_rfl, by kernel_rfl⟩ fun w Fz args hG hFz hl hA => ?_
  have h0 := hA 0 _ rfl
  have hrow := rNote_rows l
  have hlen : (rNote l).length = l.length := by simp [rNote]
  generalize rNote l = rows at h0 hrow hlen
  obtain ⟨i0, hi0⟩ : ∃ i0, PP.info? 39 = some i0 := Option.isSome_iff_exists.1 (by kernel_rfl)
  obtain ⟨z, hz0⟩ : ∃ z, i0.zero = some z := by
    have h : ((PP.info? 39).bind (·.zero)).isSome = true := by kernel_rfl
    rw [hi0] at h; exact Option.isSome_iff_exists.1 h
  have hz1 : i0.size = 7 := by
    have h : (PP.info? 39).map (·.size) = some 7 := by kernel_rfl
    rw [hi0] at h; exact Option.some.inj h
  have hz2 : i0.bytes = 72 := by
    have h : (PP.info? 39).map (·.bytes) = some 72 := by kernel_rfl
    rw [hi0] at h; exact Option.some.inj h
  have hzs : z.cells.size = 7 := by
    have h : ((PP.info? 39).bind (·.zero)).map (·.cells.size) = some 7 := by kernel_rfl
    rw [hi0] at h; simp only [Option.bind_some, hz0, Option.map_some] at h; exact Option.some.inj h
  have fin : ∀ (v : Value) (xs : List Value), args = #[v] → (∀ (m : Nat) d, rows.flatten[m]? = some d → ∃ u, xs[m]? = some u ∧ Shr w Fz u d) →
      (Calls PP 103 #[v] w fun e w' => ∃ v', e = .returned v' ∧ w'.ownsRow w.heap.size 39 7 v' rows.length xs ∧ w'.os = w.os ∧ w'.output = w.output ∧ w.heap.size ≤ w'.heap.size ∧ ∀ b, b < w.heap.size → w'.heap[b]? = w.heap[b]?) →
      Calls PP 103 args w fun e w' => ∃ v Fz' S, e = .returned v ∧ (w'.os = w.os ∧ w'.output = w.output) ∧ w.heap.size ≤ w'.heap.size ∧ (∀ b, b < w.heap.size → w'.heap[b]? = w.heap[b]?) ∧
        (∀ b o, Fz b o → Fz' b o) ∧ (∀ b o, Fz' b o → (Fz b o ∨ w.heap.size ≤ b) ∧ b < w'.heap.size) ∧ RC w' Fz' (.own 0 7 rows) v S ∧ ∀ x y, S x y → w.heap.size ≤ x ∧ ¬ Fz' x y ∧ x < w'.heap.size := by
    intro v xs hv hxs hc
    subst hv
    refine hc.mono ?_
    rintro e w' ⟨v', rfl, hown, h1, h2, h3, h4⟩
    have hmono : ∀ u d, Shr w Fz u d → Shr w' Fz u d := fun u d h => h.mono (fun b o hf => by
      unfold World.cell?
      rw [show (at_ b o).block = b from rfl, h4 b (hFz b o hf)]) (fun _ _ h => h)
    obtain ⟨S, hS, hSb⟩ := own_rowG (Fz := Fz) hown hrow (fun m d hm => let ⟨u, a, b⟩ := hxs m d hm; ⟨u, a, hmono u d b⟩)
    exact ⟨v', Fz, S, rfl, ⟨h1, h2⟩, h3, h4, fun _ _ h => h, fun b o h => ⟨.inl h, Nat.lt_of_lt_of_le (hFz b o h) h3⟩, .own 0 7 _ _ _ hS, fun x y h => ⟨(hSb x y h).1, fun hf => by have := hFz x y hf; have := (hSb x y h).1; omega, (hSb x y h).2⟩⟩
  have harg : ∀ v, args.getD 0 Go.undef = v → args = #[v] := fun v hv => args_eq (l := [v]) hl fun i u hu => by
    match i, hu with
    | 0, hu => cases hu; exact hv
  rcases shr_slc_inv h0 with ⟨ad, cap, hv, hrows⟩ | ⟨b, off, cap, vs, hv, hcap, hc⟩
  · subst hrows
    refine fin _ [] (harg _ hv) (fun m d hm => by simp at hm) ?_
    cases ad with
    | none =>
      refine (AnyE.slices_Clone_nil Go.Proofs.YtpboimnecoakiaaDoor.Tryd.clnNote 0 cap w).mono ?_
      rintro e w' ⟨rfl, rfl⟩
      exact ⟨_, rfl, ⟨rfl, .inl ⟨rfl, rfl⟩⟩, rfl, rfl, Nat.le_refl _, fun _ _ => rfl⟩
    | some ad =>
      refine (clone_zero Go.Proofs.YtpboimnecoakiaaDoor.Tryd.clnNote i0 z 7 72 hi0 hz0 hz1 hz2 hzs (by omega) Tryd.sizeOf39 ad cap w).mono ?_
      rintro e w' ⟨v', rfl, hrow, hb⟩
      exact ⟨v', rfl, hrow, hb.os, hb.output, hb.size, fun b h => hb.block b h⟩
  · have hfl := flat_len hrow
    refine fin _ ((List.range rows.flatten.length).map vs) (harg _ hv) (fun m d hm => ⟨vs m, ?_, (hc m d hm).2⟩) ?_
    · rw [List.getElem?_map, List.getElem?_range (mem_len hm)]; rfl
    refine (AnyE.slices_Clone Go.Proofs.YtpboimnecoakiaaDoor.Tryd.clnNote i0 z 7 72 hi0 hz0 hz1 hz2 hzs (by omega) Tryd.sizeOf39 b off rows.length cap ((List.range rows.flatten.length).map vs) w (by simp [hfl]) (by rw [hlen]; have : maxLen = 9223372036854775807 := rfl; omega) (by omega) (fun j u hj => ?_) (fun u hu => ?_)).mono ?_
    · rw [List.getElem?_map] at hj
      cases hr : (List.range rows.flatten.length)[j]? with
      | none => rw [hr] at hj; cases hj
      | some q =>
        rw [hr] at hj
        cases hj
        obtain ⟨hq, rfl⟩ := List.getElem?_eq_some_iff.1 hr
        simp only [List.getElem_range] at *
        exact (hc j _ (List.getElem?_eq_getElem (by simpa using hq))).1
    · obtain ⟨q, hq, rfl⟩ := List.mem_map.1 hu
      have hq' := List.mem_range.1 hq
      exact (hc q _ (List.getElem?_eq_getElem hq')).2.one
    · rintro e w' ⟨v', rfl, hrow, _, hb⟩
      exact ⟨v', rfl, hrow, hb.os, hb.output, hb.size, fun b h => hb.block b h⟩

theorem ind_rNote (l : List GNote) : ∀ row, row ∈ rNote l → ∀ d, d ∈ row → IndD 0 d := by
  intro row hr d hd
  simp only [rNote, List.mem_map] at hr
  obtain ⟨x, _, rfl⟩ := hr
  simp only [GNote.row, List.mem_cons, List.not_mem_nil, or_false] at hd
  rcases hd with rfl | rfl | rfl | rfl | rfl | rfl | rfl <;> trivial

theorem rNote_snoc (l : List GNote) (x : GNote) : rNote (l ++ [x]) = rNote l ++ [x.row] := by simp [rNote]

theorem l15Copy_ok (r : GChain) (hc : r.cost ≤ 4194304) : Valid PP GG F_S_l15Copy [.agg r.c] (.agg r.o) [none] := by
  refine v_S_l15Copy [.agg r.o] rfl rfl ?_
  obtain ⟨f, k, l⟩ := r
  have hco : (GChain.mk f k l).cost = l.length + sumBy GNote.cost l := rfl
  refine W_seq (?_)
  apply W_regS
  · intro K hK
    simp
    repeat' (first | with_reducible exact hK | (with_reducible refine goL_split (fun _ => ?_) (fun _ => ?_) <;> simp) | with_reducible refine And.intro ?_ ?_ | with_reducible exact okay_rfl rfl | with_reducible assumption | omega)
  refine W_seq (?_)
  apply W_regS
  · intro K hK
    simp
    repeat' (first | with_reducible exact hK | (with_reducible refine goL_split (fun _ => ?_) (fun _ => ?_) <;> simp) | with_reducible refine And.intro ?_ ?_ | with_reducible exact okay_rfl rfl | with_reducible assumption | omega)
  refine W_seq (W_seq (?_))
  apply W_regS
  · intro K hK
    simp
    repeat' (first | with_reducible exact hK | (with_reducible refine goL_split (fun _ => ?_) (fun _ => ?_) <;> simp) | with_reducible refine And.intro ?_ ?_ | with_reducible exact okay_rfl rfl | with_reducible assumption | omega)
  refine W_block (W_loop (fun n st => ∃ (i : Nat) (w : List GNote), n = l.length - i ∧ i ≤ l.length ∧ w = l.take i ∧
    ((i = 0 ∧ st = ⟨[], [(1, .ptr 0 0), (2, .ptr 1 0), (3, .ptr 2 0), (4, .d (.int .i64 0))], [(0, .box [.d (.int .i64 f), .d (.int .i64 k), .d (.slc 7 (rNote l))]), (1, .box [.d (.int .i64 0), .d (.int .i64 0), .nil 0 7]), (2, .box [.d (.int .i64 f), .d (.int .i64 k), .nil 0 7])], 3⟩) ∨
     st = ⟨[], [(1, .ptr 0 0), (2, .ptr 1 0), (3, .ptr 2 0), (4, .d (.int .i64 i))], [(0, .box [.d (.int .i64 f), .d (.int .i64 k), .d (.slc 7 (rNote l))]), (1, .box [.d (.int .i64 0), .d (.int .i64 0), .nil 0 7]), (2, .box [.d (.int .i64 f), .d (.int .i64 k), .sl 3]), (3, .arr 0 0 7 (rNote w))], 4⟩)) _ ⟨0, [], rfl, by omega, rfl, .inl ⟨rfl, rfl⟩⟩ ?_)
  rintro n st ⟨i, w, rfl, hi, hw, ⟨rfl, rfl⟩ | rfl⟩
  · refine W_seq (W_seq (?_))
    apply W_regS
    · intro K hK
      simp
      repeat' (first | with_reducible exact hK | (with_reducible refine goL_split (fun _ => ?_) (fun _ => ?_) <;> simp) | with_reducible refine And.intro ?_ ?_ | with_reducible exact okay_rfl rfl | with_reducible assumption | omega)
    refine W_cond rfl (fun h => W_skip ?_) (fun h => W_exit ?_)
    · simp at h
      have ha := List.getElem?_eq_getElem h
      generalize l[0] = x at ha
      have hg := sumBy_get (f := GNote.cost) ha
      refine W_seq (W_block ?_)
      apply W_regD
      · intro K hK
        simp [ha, limit]
        repeat' (first | with_reducible exact hK | (with_reducible refine goL_split (fun _ => ?_) (fun _ => ?_) <;> simp [ha, limit]) | with_reducible refine And.intro ?_ ?_ | with_reducible exact okay_rfl rfl | with_reducible assumption | omega)
      apply W_regS
      · intro K hK
        simp
        repeat' (first | with_reducible exact hK | (with_reducible refine goL_split (fun _ => ?_) (fun _ => ?_) <;> simp) | with_reducible refine And.intro ?_ ?_ | with_reducible exact okay_rfl rfl | with_reducible assumption | omega)
      refine ⟨l.length - (0 + 1), by omega, 0 + 1, [x], rfl, h, by rw [List.take_add_one, ha]; rfl, .inr ?_⟩
      simp [gc, closeN, liveA, gcV, gcO, renA, renAs, renO, namesAs, namesA, namesO, posn, rNote]
      exact wrap_id (by omega) (by omega)
    · simp at h
      have hnil : l = [] := by first | exact h | exact List.length_eq_zero_iff.1 (by omega)
      rw [if_pos rfl]
      refine W_seq (?_)
      apply W_regS
      · intro K hK
        simp
        repeat' (first | with_reducible exact hK | (with_reducible refine goL_split (fun _ => ?_) (fun _ => ?_) <;> simp) | with_reducible refine And.intro ?_ ?_ | with_reducible exact okay_rfl rfl | with_reducible assumption | omega)
      refine W_ret ?_
      simp [Fin, hnil, rNote]
      all_goals omega
  · refine W_seq (W_seq (?_))
    apply W_regS
    · intro K hK
      simp
      repeat' (first | with_reducible exact hK | (with_reducible refine goL_split (fun _ => ?_) (fun _ => ?_) <;> simp) | with_reducible refine And.intro ?_ ?_ | with_reducible exact okay_rfl rfl | with_reducible assumption | omega)
    refine W_cond rfl (fun h => W_skip ?_) (fun h => W_exit ?_)
    · simp at h
      have ha := List.getElem?_eq_getElem h
      generalize l[i] = x at ha
      have hg := sumBy_get (f := GNote.cost) ha
      have hwl : w.length ≤ l.length := by rw [hw, List.length_take]; omega
      have hs : w ++ [x] = l.take (i + 1) := by rw [hw, List.take_add_one, ha]; rfl
      refine W_seq (W_block ?_)
      apply W_regD
      · intro K hK
        simp [ha, limit]
        repeat' (first | with_reducible exact hK | (with_reducible refine goL_split (fun _ => ?_) (fun _ => ?_) <;> simp [ha, limit]) | with_reducible refine And.intro ?_ ?_ | with_reducible exact okay_rfl rfl | with_reducible assumption | omega)
      apply W_regS
      · intro K hK
        simp
        repeat' (first | with_reducible exact hK | (with_reducible refine goL_split (fun _ => ?_) (fun _ => ?_) <;> simp) | with_reducible refine And.intro ?_ ?_ | with_reducible exact okay_rfl rfl | with_reducible assumption | omega)
      refine ⟨l.length - (i + 1), by omega, i + 1, w ++ [x], rfl, h, hs, .inr ?_⟩
      rw [rNote_snoc]
      simp [gc, closeN, liveA, gcV, gcO, renA, renAs, renO, namesAs, namesA, namesO, posn]
      exact wrap_id (by omega) (by omega)
    · simp at h
      rw [List.take_of_length_le h] at hw
      subst hw
      rw [if_pos rfl]
      refine W_seq (?_)
      apply W_regS
      · intro K hK
        simp
        repeat' (first | with_reducible exact hK | (with_reducible refine goL_split (fun _ => ?_) (fun _ => ?_) <;> simp) | with_reducible refine And.intro ?_ ?_ | with_reducible exact okay_rfl rfl | with_reducible assumption | omega)
      refine W_ret ?_
      simp [Fin]
      all_goals omega

theorem cloneChain_ok (c : GChain) (hc : c.cost ≤ 4194304) : Valid PP GG F_I_cloneChain [.agg c.c] (.agg c.o) [none] := by
  refine v_I_cloneChain [.agg c.o] rfl rfl ?_
  obtain ⟨f, k, l⟩ := c
  have hco : (GChain.mk f k l).cost = l.length + sumBy GNote.cost l := rfl
  have cc := CloneNote_ok (GG := GG) l (by omega)
  have hind := ind_rNote l
  refine W_seq (?_)
  apply W_regS
  · intro K hK
    simp
    repeat' (first | with_reducible exact hK | (with_reducible refine goL_split (fun _ => ?_) (fun _ => ?_) <;> simp) | with_reducible refine And.intro ?_ ?_ | with_reducible exact okay_rfl rfl | with_reducible assumption | omega)
  refine W_seq (?_)
  apply W_regS
  · intro K hK
    simp
    repeat' (first | with_reducible exact hK | (with_reducible refine callQ (cc) ?_; simp) | (with_reducible refine goL_split (fun _ => ?_) (fun _ => ?_) <;> simp) | with_reducible refine And.intro ?_ ?_ | with_reducible exact okay_rfl rfl | with_reducible assumption | omega)
  refine W_seq (?_)
  apply W_regS
  · intro K hK
    simp
    repeat' (first | with_reducible exact hK | (with_reducible refine goL_split (fun _ => ?_) (fun _ => ?_) <;> simp) | with_reducible refine And.intro ?_ ?_ | with_reducible exact okay_rfl rfl | with_reducible assumption | omega)
  refine W_ret ?_
  simp [Fin]
  all_goals omega

def grown (c : GChain) (x : GNote) : GChain :=
  if c.fNotes.length = 120 then { fFirst := (match c.fNotes with | z :: _ => z.fSum | [] => 0), fSalt := c.fSalt, fNotes := c.fNotes.drop 1 ++ [x] }
  else { fFirst := c.fFirst, fSalt := c.fSalt, fNotes := c.fNotes ++ [x] }

theorem grown_cost (c : GChain) (x : GNote) : (grown c x).cost ≤ c.cost + 1 + x.cost := by
  have hsum : ∀ (a b : List GNote), sumBy GNote.cost (a ++ b) = sumBy GNote.cost a + sumBy GNote.cost b := fun a b => sumBy_append _ a b
  have hd : sumBy GNote.cost (c.fNotes.drop 1) ≤ sumBy GNote.cost c.fNotes := by
    cases c.fNotes with
    | nil => simp
    | cons z t => show sumBy GNote.cost t ≤ sumBy GNote.cost (z :: t); simp [sumBy]
  have h1 : sumBy GNote.cost [x] = x.cost := by simp [sumBy]
  unfold grown
  split
  · show (c.fNotes.drop 1 ++ [x]).length + sumBy GNote.cost (c.fNotes.drop 1 ++ [x]) ≤ c.fNotes.length + sumBy GNote.cost c.fNotes + 1 + x.cost
    rw [hsum, h1, List.length_append, List.length_drop]; simp only [List.length_cons, List.length_nil]; omega
  · show (c.fNotes ++ [x]).length + sumBy GNote.cost (c.fNotes ++ [x]) ≤ c.fNotes.length + sumBy GNote.cost c.fNotes + 1 + x.cost
    rw [hsum, h1, List.length_append]; simp; omega

end Go.Proofs.YtpboimnecoakiaaDoor.Ab

