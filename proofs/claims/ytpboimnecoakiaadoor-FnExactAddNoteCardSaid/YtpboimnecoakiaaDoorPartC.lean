/-
  A part of a proof about the given program; what is proved is said where each theorem stands.
-/
import Derived.Test.YtpboimnecoakiaaDoorFrameA
import Derived.Test.YtpboimnecoakiaaDoorFrameB
import Derived.Test.YtpboimnecoakiaaDoorFrameC
import Derived.Test.YtpboimnecoakiaaDoorFrameD
import Derived.Test.YtpboimnecoakiaaDoorFrameE
import Derived.Test.YtpboimnecoakiaaDoorShelf
import Derived.Test.YtpboimnecoakiaaDoorCodesA
import Derived.Test.YtpboimnecoakiaaDoorPartA
import Derived.Test.YtpboimnecoakiaaDoorPartB
namespace Go.Proofs
end Go.Proofs
set_option linter.unusedSimpArgs false
set_option linter.unusedVariables false
set_option maxRecDepth 100000
set_option maxHeartbeats 2000000
namespace Go.Proofs.YtpboimnecoakiaaDoor.Ab
open Go.Proofs
variable {GG : GV}

def headV (c : GChain) : Int := if chainOk c = true then (match c.fNotes.getLast? with | some x => x.fSum | none => c.fFirst) else -1

theorem last_get {α : Type} {l : List α} {x : α} {n : Nat} (h : l.length = n + 1) (hx : l[n]? = some x) : l.getLast? = some x := by
  rw [List.getLast?_eq_getElem?, h]; exact hx

theorem s_HeadOf_ok (c : GChain) (hc : c.cost ≤ 1048576) : Valid PP GG F_S_HeadOf [.agg c.c] (.d (.int .i64 (headV c))) [none] := by
  refine v_S_HeadOf [.d (.int .i64 (headV c))] rfl rfl ?_
  have cc := s_ChainOk_ok (GG := GG) c (by omega)
  have hr : headV c = if chainOk c = true then (match c.fNotes.getLast? with | some x => x.fSum | none => c.fFirst) else -1 := rfl
  obtain ⟨f, k, l⟩ := c
  have hco : (GChain.mk f k l).cost = l.length + sumBy GNote.cost l := rfl
  generalize chainOk (GChain.mk f k l) = b at cc hr
  simp only at hr
  refine W_seq (?_)
  apply W_regS
  · intro K hK
    simp
    repeat' (first | with_reducible exact hK | (with_reducible refine goL_split (fun _ => ?_) (fun _ => ?_) <;> simp) | with_reducible refine And.intro ?_ ?_ | with_reducible exact okay_rfl rfl | with_reducible assumption | omega)
  refine W_seq (W_seq (?_))
  apply W_regS
  · intro K hK
    simp
    repeat' (first | with_reducible exact hK | (with_reducible refine callQ (cc) ?_; simp) | (with_reducible refine goL_split (fun _ => ?_) (fun _ => ?_) <;> simp) | with_reducible refine And.intro ?_ ?_ | with_reducible exact okay_rfl rfl | with_reducible assumption | omega)
  refine W_cond rfl (fun h => W_seq ?_) (fun h => W_skip ?_)
  · simp at h
    subst h
    apply W_regS
    · intro K hK
      simp
      repeat' (first | with_reducible exact hK | (with_reducible refine goL_split (fun _ => ?_) (fun _ => ?_) <;> simp) | with_reducible refine And.intro ?_ ?_ | with_reducible exact okay_rfl rfl | with_reducible assumption | omega)
    rw [if_neg (by simp)] at hr
    refine W_ret ?_
    simp [Fin, hr]
    all_goals omega
  simp at h
  subst h
  rw [if_pos rfl] at hr
  cases hl : l with
  | nil =>
    subst hl
    refine W_seq (W_seq (?_))
    apply W_regS
    · intro K hK
      simp [rNote]
      repeat' (first | with_reducible exact hK | (with_reducible refine goL_split (fun _ => ?_) (fun _ => ?_) <;> simp [rNote]) | with_reducible refine And.intro ?_ ?_ | with_reducible exact okay_rfl rfl | with_reducible assumption | omega)
    refine W_cond rfl (fun h => W_seq ?_) (fun h => ?_)
    rotate_left
    · simp at h
    apply W_regS
    · intro K hK
      simp
      repeat' (first | with_reducible exact hK | (with_reducible refine goL_split (fun _ => ?_) (fun _ => ?_) <;> simp) | with_reducible refine And.intro ?_ ?_ | with_reducible exact okay_rfl rfl | with_reducible assumption | omega)
    refine W_ret ?_
    simp [Fin, hr]
    all_goals omega
  | cons z r =>
    have ha := List.getElem?_eq_getElem (show r.length < (z :: r).length by simp)
    generalize (z :: r)[r.length]'_ = x at ha
    have hlast : l.getLast? = some x := last_get (n := r.length) (by rw [hl]; simp) (by rw [hl]; exact ha)
    have hlen : l.length = r.length + 1 := by rw [hl]; simp
    rw [← hl] at ha ⊢
    rw [hlast] at hr
    simp only at hr
    clear hl
    have hw : IntKind.i64.wrap ((l.length : Int) - 1) = (r.length : Int) := by rw [wrap_id (by omega) (by omega)]; omega
    refine W_seq (W_seq (?_))
    apply W_regS
    · intro K hK
      simp
      repeat' (first | with_reducible exact hK | (with_reducible refine goL_split (fun _ => ?_) (fun _ => ?_) <;> simp) | with_reducible refine And.intro ?_ ?_ | with_reducible exact okay_rfl rfl | with_reducible assumption | omega)
    refine W_cond rfl (fun h => W_seq ?_) (fun h => W_skip ?_)
    · simp at h; subst h; simp at hlen
    refine W_seq (?_)
    apply W_regS
    · intro K hK
      simp [hw, ha]
      repeat' (first | with_reducible exact hK | (with_reducible refine goL_split (fun _ => ?_) (fun _ => ?_) <;> simp [hw, ha]) | with_reducible refine And.intro ?_ ?_ | with_reducible exact okay_rfl rfl | with_reducible assumption | omega)
    refine W_ret ?_
    simp [Fin, hr]
    all_goals omega

theorem headOf_ok (c : GChain) (hc : c.cost ≤ 1048576) : Valid PP GG F_I_headOf [.agg c.c] (.d (.int .i64 (match c.fNotes.getLast? with | some x => x.fSum | none => c.fFirst))) [none] := by
  refine v_I_headOf [.d (.int .i64 (match c.fNotes.getLast? with | some x => x.fSum | none => c.fFirst))] rfl rfl ?_
  obtain ⟨f, k, l⟩ := c
  have hco : (GChain.mk f k l).cost = l.length + sumBy GNote.cost l := rfl
  simp only
  obtain ⟨v, hr⟩ : ∃ v, (match l.getLast? with | some x => x.fSum | none => f) = v := ⟨_, rfl⟩
  rw [hr]
  refine W_seq (?_)
  apply W_regS
  · intro K hK
    simp
    repeat' (first | with_reducible exact hK | (with_reducible refine goL_split (fun _ => ?_) (fun _ => ?_) <;> simp) | with_reducible refine And.intro ?_ ?_ | with_reducible exact okay_rfl rfl | with_reducible assumption | omega)
  cases hl : l with
  | nil =>
    subst hl
    refine W_seq (W_seq (?_))
    apply W_regS
    · intro K hK
      simp [rNote]
      repeat' (first | with_reducible exact hK | (with_reducible refine goL_split (fun _ => ?_) (fun _ => ?_) <;> simp [rNote]) | with_reducible refine And.intro ?_ ?_ | with_reducible exact okay_rfl rfl | with_reducible assumption | omega)
    refine W_cond rfl (fun h => W_seq ?_) (fun h => ?_)
    rotate_left
    · simp at h
    apply W_regS
    · intro K hK
      simp
      repeat' (first | with_reducible exact hK | (with_reducible refine goL_split (fun _ => ?_) (fun _ => ?_) <;> simp) | with_reducible refine And.intro ?_ ?_ | with_reducible exact okay_rfl rfl | with_reducible assumption | omega)
    refine W_ret ?_
    simp [Fin, ← hr]
    all_goals omega
  | cons z r =>
    have ha := List.getElem?_eq_getElem (show r.length < (z :: r).length by simp)
    generalize (z :: r)[r.length]'_ = x at ha
    have hlast : l.getLast? = some x := last_get (n := r.length) (by rw [hl]; simp) (by rw [hl]; exact ha)
    have hlen : l.length = r.length + 1 := by rw [hl]; simp
    rw [← hl] at ha ⊢
    rw [hlast] at hr
    simp only at hr
    clear hl
    have hw : IntKind.i64.wrap ((l.length : Int) - 1) = (r.length : Int) := by rw [wrap_id (by omega) (by omega)]; omega
    refine W_seq (W_seq (?_))
    apply W_regS
    · intro K hK
      simp
      repeat' (first | with_reducible exact hK | (with_reducible refine goL_split (fun _ => ?_) (fun _ => ?_) <;> simp) | with_reducible refine And.intro ?_ ?_ | with_reducible exact okay_rfl rfl | with_reducible assumption | omega)
    refine W_cond rfl (fun h => W_seq ?_) (fun h => W_skip ?_)
    · simp at h; subst h; simp at hlen
    refine W_seq (?_)
    apply W_regS
    · intro K hK
      simp [hw, ha]
      repeat' (first | with_reducible exact hK | (with_reducible refine goL_split (fun _ => ?_) (fun _ => ?_) <;> simp [hw, ha]) | with_reducible refine And.intro ?_ ?_ | with_reducible exact okay_rfl rfl | with_reducible assumption | omega)
    refine W_ret ?_
    simp [Fin, hr]
    all_goals omega

theorem chain_note {c : GChain} {i : Nat} {x : GNote} (h : chainOk c = true) (hx : c.fNotes[i]? = some x) : noteOk x = true := by
  simp only [chainOk, Bool.and_eq_true, List.all_eq_true, List.mem_range] at h
  exact link_note (h.2 i ((List.getElem?_eq_some_iff.1 hx).1)) hx

def headL (c : GChain) : Int := match c.fNotes.getLast? with | some x => x.fSum | none => c.fFirst

def putSeq (n : GNote) (s : Int) : GNote := { n with fSeq := s }

def putSum (n : GNote) (s : Int) : GNote := { n with fSum := s }

/-- The note as it comes into the chain. -/
def newNote (c : GChain) (n : GNote) : GNote :=
  let m := putSeq n (match c.fNotes.getLast? with | some x => x.fSeq + 1 | none => 1)
  putSum m (sumV (headL c) m)

def addB (c : GChain) (n : GNote) : Bool := chainOk c && chainOk (grown c (newNote c n))

def addC (c : GChain) (n : GNote) : GChain := if addB c n = true then grown c (newNote c n) else c

theorem chain_len {c : GChain} (h : chainOk c = true) : c.fNotes.length ≤ 120 := by
  unfold chainOk at h; simp only [Bool.and_eq_true, decide_eq_true_eq] at h; omega

theorem s_AddNote_ok (c : GChain) (n : GNote) (hok : c.ok) (hon : n.ok) (hc : c.cost + n.cost ≤ 1048576) : Valid PP GG F_S_AddNote [.agg c.c, .agg n.c] (.tup [.agg (addC c n).o, .d (.bool (addB c n))]) [none, none] := by
  have cp := l15Copy_ok (GG := GG) c (by omega)
  have ch := s_HeadOf_ok (GG := GG) c (by omega)
  have cc := s_ChainOk_ok (GG := GG) c (by omega)
  have hhv : headV c = if chainOk c = true then headL c else -1 := rfl
  have hind := ind_rNote c.fNotes
  have hB : addB c n = (chainOk c && chainOk (grown c (newNote c n))) := rfl
  have hC : addC c n = if addB c n = true then grown c (newNote c n) else c := rfl
  have hna : chainOk c = true → ∀ (i : Nat) x, c.fNotes[i]? = some x → noteOk x = true := fun h i x hx => chain_note h hx
  have hlc : chainOk c = true → c.fNotes.length ≤ 120 := chain_len
  obtain ⟨f, k, l⟩ := c
  obtain ⟨q, a, w, t, p, cd, m⟩ := n
  have hco : (GChain.mk f k l).cost = l.length + sumBy GNote.cost l := rfl
  have hcn : (GNote.mk q a w t p cd m).cost = t.length + p.length := rfl
  obtain ⟨o1, o2, o3, o4⟩ := hok
  simp only at o1 o4 hna hind hlc
  have hhl : headL ⟨f, k, l⟩ = match l.getLast? with | some x => x.fSum | none => f := rfl
  have hsl : newNote ⟨f, k, l⟩ ⟨q, a, w, t, p, cd, m⟩ = ⟨(match l.getLast? with | some x => x.fSeq + 1 | none => 1), a, w, t, p, cd, sumV (headL ⟨f, k, l⟩) ⟨(match l.getLast? with | some x => x.fSeq + 1 | none => 1), a, w, t, p, cd, m⟩⟩ := rfl
  generalize addC ⟨f, k, l⟩ ⟨q, a, w, t, p, cd, m⟩ = rC at hC ⊢
  generalize addB ⟨f, k, l⟩ ⟨q, a, w, t, p, cd, m⟩ = rB at hB hC ⊢
  have hd64 : int64 (headL ⟨f, k, l⟩) := by
    rw [hhl]
    cases hl : l.getLast? with
    | none => exact o1
    | some x => exact (o4 x (List.mem_of_getLast? hl)).2.2.2.2.2.2
  generalize headL ⟨f, k, l⟩ = hd at hhv hsl hd64 hhl
  clear hhl
  refine v_S_AddNote [.agg rC.o, .d (.bool rB)] rfl rfl ?_
  cases hk : chainOk ⟨f, k, l⟩ with
  | false =>
    rw [hk] at cc hB
    rw [Bool.false_and] at hB
    subst hB
    rw [if_neg (by simp)] at hC
    subst hC
    repeat' (first | refine W_seq ?_ | refine W_skip ?_ | (refine W_regP fun K hK => ?_; simp) | (refine W_regPD fun K hK => ?_; simp) | (with_reducible refine hK _ ?_; clear hK K) | (with_reducible refine callQ (cp) ?_; simp) | (with_reducible refine callQ (cc) ?_; simp) | (with_reducible refine goL_split (fun h => ?_) (fun h => ?_) <;> first | (exfalso; simp at h; done) | (exfalso; simp at h; omega) | ((try simp at h); simp)) | with_reducible refine And.intro ?_ ?_ | with_reducible exact okay_rfl rfl | with_reducible assumption | (refine W_cond rfl (fun h => ?_) (fun h => ?_) <;> first | (exfalso; simp at h; done) | (exfalso; simp at h; omega) | (try simp at h)) | (refine W_ret ?_; simp [Fin]) | omega)
  | true =>
  rw [hk] at cc hB hhv
  rw [if_pos rfl] at hhv
  rw [hhv] at ch
  rw [Bool.true_and] at hB
  have hl120 := hlc hk
  obtain ⟨s, hs⟩ : ∃ s : Int, (match l.getLast? with | some x => x.fSeq + 1 | none => 1) = s := ⟨_, rfl⟩
  rw [hs] at hsl
  have hs64 : int64 s := by
    rw [← hs]
    cases hl : l.getLast? with
    | none => show int64 1; exact ⟨by omega, by omega⟩
    | some x =>
      show int64 (x.fSeq + 1)
      obtain ⟨j, hj⟩ := List.getElem?_of_mem (List.mem_of_getLast? hl)
      have hn := note_range (hna hk j x hj)
      exact ⟨by omega, by omega⟩
  have cs := s_SumOf_g (GG := GG) hd ⟨s, a, w, t, p, cd, m⟩ hd64 ⟨hs64, hon.2⟩ (by show t.length ≤ _; omega) (by show p.length ≤ _; omega)
  obtain ⟨v, hv⟩ : ∃ v, sumV hd ⟨s, a, w, t, p, cd, m⟩ = v := ⟨_, rfl⟩
  rw [hv] at cs hsl
  rw [hsl] at hB hC
  clear hv hsl
  have hgc := grown_cost ⟨f, k, l⟩ ⟨s, a, w, t, p, cd, v⟩
  have hcx : (GNote.mk s a w t p cd v).cost = t.length + p.length := rfl
  have cg0 := s_ChainOk_ok (GG := GG) (grown ⟨f, k, l⟩ ⟨s, a, w, t, p, cd, v⟩) (by omega)
  cases hl : l.getLast? with
  | none =>
    have hlen : l.length = 0 := by rw [List.getLast?_eq_none_iff.1 hl]; rfl
    have hnil : l = [] := List.getLast?_eq_none_iff.1 hl
    rw [hl] at hs
    simp only at hs
    subst hs
    have hg : grown ⟨f, k, l⟩ ⟨1, a, w, t, p, cd, v⟩ = ⟨f, k, l ++ [⟨1, a, w, t, p, cd, v⟩]⟩ := by unfold grown; rw [if_neg (show ¬ l.length = 120 by omega)]
    rw [hg] at hB hC cg0
    clear hgc hg
    generalize chainOk ⟨f, k, l ++ [⟨1, a, w, t, p, cd, v⟩]⟩ = b at hB cg0
    have hsn := rNote_snoc l ⟨1, a, w, t, p, cd, v⟩
    have cg : Valid PP GG F_S_ChainOk [.agg [.d (.int .i64 f), .d (.int .i64 k), .d (.slc 7 (rNote l ++ [(GNote.mk 1 a w t p cd v).row]))]] (.d (.bool b)) [none] := by rw [← hsn]; exact cg0
    simp only [GNote.row] at cg hsn
    repeat' (first | refine W_seq ?_ | refine W_skip ?_ | (refine W_regP fun K hK => ?_; simp [limit]) | (refine W_regPD fun K hK => ?_; simp [limit]) | (with_reducible refine hK _ ?_; clear hK K) | (with_reducible refine callQ (cp) ?_; simp [limit]) | (with_reducible refine callQ (cc) ?_; simp [limit]) | (with_reducible refine callQ (ch) ?_; simp [limit]) | (with_reducible refine callQ (cs) ?_; simp [limit]) | (with_reducible refine callQ (cg) ?_; simp [limit]) | (with_reducible refine goL_split (fun h => ?_) (fun h => ?_) <;> first | (exfalso; simp at h; done) | (exfalso; simp at h; omega) | ((try simp at h); simp [limit])) | with_reducible refine And.intro ?_ ?_ | with_reducible exact okay_rfl rfl | with_reducible assumption | (refine W_cond rfl (fun h => ?_) (fun h => ?_) <;> first | (exfalso; simp at h; done) | (exfalso; simp at h; omega) | (try simp at h)) | (refine W_ret ?_; simp [Fin, limit]) | omega)
    all_goals simp_all
  | some x =>
    obtain ⟨j, hlen, hx⟩ : ∃ j, l.length = j + 1 ∧ l[j]? = some x := by
      rw [List.getLast?_eq_getElem?] at hl
      have := (List.getElem?_eq_some_iff.1 hl).1
      exact ⟨l.length - 1, by omega, hl⟩
    have hn := note_range (hna hk j x hx)
    rw [hl] at hs
    simp only at hs
    have hw : IntKind.i64.wrap ((l.length : Int) - 1) = (j : Int) := by rw [wrap_id (by omega) (by omega)]; omega
    have hw' : IntKind.i64.wrap ((j : Int) + 1 - 1) = (j : Int) := by rw [wrap_id (by omega) (by omega)]; omega
    have hw2 : IntKind.i64.wrap (x.fSeq + 1) = s := by rw [wrap_id (by omega) (by omega)]; exact hs
    clear hs
    by_cases h120 : l.length = 120
    · have hw3 : IntKind.i64.wrap 119 = (j : Int) := by rw [wrap_id (by omega) (by omega)]; omega
      obtain ⟨z, hz⟩ : ∃ z, l[0]? = some z := ⟨_, List.getElem?_eq_getElem (by omega)⟩
      have htk2 : ∀ r : List D, List.take 121 (rNote l ++ [r]) = rNote l ++ [r] := fun r => List.take_of_length_le (by simp; omega)
      have htk3 : ∀ r : List D, (rNote l ++ [r]).tail = (rNote l).tail ++ [r] := fun r => by
        cases l with
        | nil => simp at h120
        | cons y u => simp [rNote]
      have hr2 : ∀ h : 0 < (rNote l).length, (rNote l)[0]'h = z.row := fun h => by simp only [rNote, List.getElem_map]; rw [List.getElem?_eq_getElem (by omega)] at hz; rw [Option.some.inj hz]
      have hz2 : ∀ h : 0 < l.length, l[0]'h = z := fun h => by rw [List.getElem?_eq_getElem h] at hz; exact Option.some.inj hz
      have hg : grown ⟨f, k, l⟩ ⟨s, a, w, t, p, cd, v⟩ = ⟨z.fSum, k, l.drop 1 ++ [⟨s, a, w, t, p, cd, v⟩]⟩ := by
        unfold grown; rw [if_pos h120]; cases l with | nil => simp at h120 | cons y u => simp at hz; subst hz; rfl
      rw [hg] at hB hC cg0
      clear hg hgc
      generalize chainOk ⟨z.fSum, k, l.drop 1 ++ [⟨s, a, w, t, p, cd, v⟩]⟩ = b at hB cg0
      have hsn : rNote (l.drop 1 ++ [⟨s, a, w, t, p, cd, v⟩]) = (rNote l).drop 1 ++ [(GNote.mk s a w t p cd v).row] := by rw [rNote_snoc]; simp [rNote]
      have htk : List.take 120 (rNote l) = rNote l := List.take_of_length_le (by rw [rNote_len]; omega)
      have cg : Valid PP GG F_S_ChainOk [.agg [.d (.int .i64 z.fSum), .d (.int .i64 k), .d (.slc 7 ((rNote l).drop 1 ++ [(GNote.mk s a w t p cd v).row]))]] (.d (.bool b)) [none] := by rw [← hsn]; exact cg0
      simp only [GNote.row] at cg hsn
      simp at cg
      repeat' (first | refine W_seq ?_ | refine W_skip ?_ | (refine W_regP fun K hK => ?_; simp [limit, hw3, hw2, hx, hz, hz2, hr2, h120, htk, htk2, htk3]) | (refine W_regPD fun K hK => ?_; simp [limit, hw3, hw2, hx, hz, hz2, hr2, h120, htk, htk2, htk3]) | (with_reducible refine hK _ ?_; clear hK K) | (with_reducible refine callQ (cp) ?_; simp [limit, hw3, hw2, hx, hz, hz2, hr2, h120, htk, htk2, htk3]) | (with_reducible refine callQ (cc) ?_; simp [limit, hw3, hw2, hx, hz, hz2, hr2, h120, htk, htk2, htk3]) | (with_reducible refine callQ (ch) ?_; simp [limit, hw3, hw2, hx, hz, hz2, hr2, h120, htk, htk2, htk3]) | (with_reducible refine callQ (cs) ?_; simp [limit, hw3, hw2, hx, hz, hz2, hr2, h120, htk, htk2, htk3]) | (with_reducible refine callQ (cg) ?_; simp [limit, hw3, hw2, hx, hz, hz2, hr2, h120, htk, htk2, htk3]) | (with_reducible refine goL_split (fun h => ?_) (fun h => ?_) <;> first | (exfalso; simp at h; done) | (exfalso; simp at h; omega) | ((try simp at h); simp [limit, hw3, hw2, hx, hz, hz2, hr2, h120, htk, htk2, htk3])) | with_reducible refine And.intro ?_ ?_ | with_reducible exact okay_rfl rfl | with_reducible assumption | (refine W_cond rfl (fun h => ?_) (fun h => ?_) <;> first | (exfalso; simp at h; done) | (exfalso; simp at h; omega) | (try simp at h)) | (refine W_ret ?_; simp [Fin, limit, hw3, hw2, hx, hz, hz2, hr2, h120, htk, htk2, htk3]) | omega)
      all_goals simp_all
    · have hg : grown ⟨f, k, l⟩ ⟨s, a, w, t, p, cd, v⟩ = ⟨f, k, l ++ [⟨s, a, w, t, p, cd, v⟩]⟩ := by unfold grown; rw [if_neg h120]
      rw [hg] at hB hC cg0
      clear hg hgc
      generalize chainOk ⟨f, k, l ++ [⟨s, a, w, t, p, cd, v⟩]⟩ = b at hB cg0
      have hsn := rNote_snoc l ⟨s, a, w, t, p, cd, v⟩
      have cg : Valid PP GG F_S_ChainOk [.agg [.d (.int .i64 f), .d (.int .i64 k), .d (.slc 7 (rNote l ++ [(GNote.mk s a w t p cd v).row]))]] (.d (.bool b)) [none] := by rw [← hsn]; exact cg0
      simp only [GNote.row] at cg hsn
      repeat' (first | refine W_seq ?_ | refine W_skip ?_ | (refine W_regP fun K hK => ?_; simp [limit, hw, hw', hw2, hx, h120]) | (refine W_regPD fun K hK => ?_; simp [limit, hw, hw', hw2, hx, h120]) | (with_reducible refine hK _ ?_; clear hK K) | (with_reducible refine callQ (cp) ?_; simp [limit, hw, hw', hw2, hx, h120]) | (with_reducible refine callQ (cc) ?_; simp [limit, hw, hw', hw2, hx, h120]) | (with_reducible refine callQ (ch) ?_; simp [limit, hw, hw', hw2, hx, h120]) | (with_reducible refine callQ (cs) ?_; simp [limit, hw, hw', hw2, hx, h120]) | (with_reducible refine callQ (cg) ?_; simp [limit, hw, hw', hw2, hx, h120]) | (with_reducible refine goL_split (fun h => ?_) (fun h => ?_) <;> first | (exfalso; simp at h; done) | (exfalso; simp at h; omega) | ((try simp at h); simp [limit, hw, hw', hw2, hx, h120])) | with_reducible refine And.intro ?_ ?_ | with_reducible exact okay_rfl rfl | with_reducible assumption | (refine W_cond rfl (fun h => ?_) (fun h => ?_) <;> first | (exfalso; simp at h; done) | (exfalso; simp at h; omega) | (try simp at h)) | (refine W_ret ?_; simp [Fin, limit, hw, hw', hw2, hx, h120]) | omega)
      all_goals simp_all

theorem addNote_ok [P10 GG] [MaxL GG] (c : GChain) (n : GNote) (hok : c.ok) (hon : n.ok) (hc : c.cost + n.cost ≤ 1048576) (hkc : chainOk c = true) : Valid PP GG F_I_addNote [.agg c.c, .agg n.c] (.tup [.agg (addC c n).o, .d (.bool (addB c n))]) [none, none] := by
  have cp := cloneChain_ok (GG := GG) c (by omega)
  have ch := headOf_ok (GG := GG) c (by omega)
  have hind := ind_rNote c.fNotes
  have hB : addB c n = (chainOk c && chainOk (grown c (newNote c n))) := rfl
  have hC : addC c n = if addB c n = true then grown c (newNote c n) else c := rfl
  have hna : chainOk c = true → ∀ (i : Nat) x, c.fNotes[i]? = some x → noteOk x = true := fun h i x hx => chain_note h hx
  have hlc : chainOk c = true → c.fNotes.length ≤ 120 := chain_len
  obtain ⟨f, k, l⟩ := c
  obtain ⟨q, a, w, t, p, cd, m⟩ := n
  have hco : (GChain.mk f k l).cost = l.length + sumBy GNote.cost l := rfl
  have hcn : (GNote.mk q a w t p cd m).cost = t.length + p.length := rfl
  obtain ⟨o1, o2, o3, o4⟩ := hok
  simp only at o1 o4 hna hind hlc
  have hhl : headL ⟨f, k, l⟩ = match l.getLast? with | some x => x.fSum | none => f := rfl
  have hsl : newNote ⟨f, k, l⟩ ⟨q, a, w, t, p, cd, m⟩ = ⟨(match l.getLast? with | some x => x.fSeq + 1 | none => 1), a, w, t, p, cd, sumV (headL ⟨f, k, l⟩) ⟨(match l.getLast? with | some x => x.fSeq + 1 | none => 1), a, w, t, p, cd, m⟩⟩ := rfl
  generalize addC ⟨f, k, l⟩ ⟨q, a, w, t, p, cd, m⟩ = rC at hC ⊢
  generalize addB ⟨f, k, l⟩ ⟨q, a, w, t, p, cd, m⟩ = rB at hB hC ⊢
  have hd64 : int64 (headL ⟨f, k, l⟩) := by
    rw [hhl]
    cases hl : l.getLast? with
    | none => exact o1
    | some x => exact (o4 x (List.mem_of_getLast? hl)).2.2.2.2.2.2
  change Valid PP GG F_I_headOf [.agg (GChain.mk f k l).c] (.d (.int .i64 (headL ⟨f, k, l⟩))) [none] at ch
  generalize headL ⟨f, k, l⟩ = hd at ch hsl hd64 hhl
  clear hhl
  refine v_I_addNote [.agg rC.o, .d (.bool rB)] rfl rfl ?_
  rw [hkc] at hB
  have hk := hkc
  rw [Bool.true_and] at hB
  have hl120 := hlc hk
  obtain ⟨s, hs⟩ : ∃ s : Int, (match l.getLast? with | some x => x.fSeq + 1 | none => 1) = s := ⟨_, rfl⟩
  rw [hs] at hsl
  have hs64 : int64 s := by
    rw [← hs]
    cases hl : l.getLast? with
    | none => show int64 1; exact ⟨by omega, by omega⟩
    | some x =>
      show int64 (x.fSeq + 1)
      obtain ⟨j, hj⟩ := List.getElem?_of_mem (List.mem_of_getLast? hl)
      have hn := note_range (hna hk j x hj)
      exact ⟨by omega, by omega⟩
  have cs := sumOf_g (GG := GG) hd ⟨s, a, w, t, p, cd, m⟩ hd64 ⟨hs64, hon.2⟩ (by show t.length ≤ _; omega) (by show p.length ≤ _; omega)
  obtain ⟨v, hv⟩ : ∃ v, sumV hd ⟨s, a, w, t, p, cd, m⟩ = v := ⟨_, rfl⟩
  rw [hv] at cs hsl
  rw [hsl] at hB hC
  clear hv hsl
  have hgc := grown_cost ⟨f, k, l⟩ ⟨s, a, w, t, p, cd, v⟩
  have hcx : (GNote.mk s a w t p cd v).cost = t.length + p.length := rfl
  have cg0 := isChain_ok (GG := GG) (grown ⟨f, k, l⟩ ⟨s, a, w, t, p, cd, v⟩) (by omega)
  cases hl : l.getLast? with
  | none =>
    have hlen : l.length = 0 := by rw [List.getLast?_eq_none_iff.1 hl]; rfl
    have hnil : l = [] := List.getLast?_eq_none_iff.1 hl
    rw [hl] at hs
    simp only at hs
    subst hs
    have hg : grown ⟨f, k, l⟩ ⟨1, a, w, t, p, cd, v⟩ = ⟨f, k, l ++ [⟨1, a, w, t, p, cd, v⟩]⟩ := by unfold grown; rw [if_neg (show ¬ l.length = 120 by omega)]
    rw [hg] at hB hC cg0
    clear hgc hg
    generalize chainOk ⟨f, k, l ++ [⟨1, a, w, t, p, cd, v⟩]⟩ = b at hB cg0
    have hsn := rNote_snoc l ⟨1, a, w, t, p, cd, v⟩
    have cg : Valid PP GG F_I_isChain [.agg [.d (.int .i64 f), .d (.int .i64 k), .d (.slc 7 (rNote l ++ [(GNote.mk 1 a w t p cd v).row]))]] (.d (.bool b)) [none] := by rw [← hsn]; exact cg0
    simp only [GNote.row] at cg hsn
    repeat' (first | refine W_seq ?_ | refine W_skip ?_ | (refine W_regP fun K hK => ?_; simp [limit]) | (refine W_regPD fun K hK => ?_; simp [limit]) | (with_reducible refine hK _ ?_; clear hK K) | (with_reducible refine callQ (cp) ?_; simp [limit]) | (with_reducible refine callQ (ch) ?_; simp [limit]) | (with_reducible refine callQ (cs) ?_; simp [limit]) | (with_reducible refine callQ (cg) ?_; simp [limit]) | (with_reducible refine goL_split (fun h => ?_) (fun h => ?_) <;> first | (exfalso; simp at h; done) | (exfalso; simp at h; omega) | ((try simp at h); simp [limit])) | with_reducible refine And.intro ?_ ?_ | with_reducible exact okay_rfl rfl | with_reducible assumption | (refine W_cond rfl (fun h => ?_) (fun h => ?_) <;> first | (exfalso; simp at h; done) | (exfalso; simp at h; omega) | (try simp at h)) | (refine W_ret ?_; simp [Fin, limit]) | omega)
    all_goals simp_all
  | some x =>
    obtain ⟨j, hlen, hx⟩ : ∃ j, l.length = j + 1 ∧ l[j]? = some x := by
      rw [List.getLast?_eq_getElem?] at hl
      have := (List.getElem?_eq_some_iff.1 hl).1
      exact ⟨l.length - 1, by omega, hl⟩
    have hn := note_range (hna hk j x hx)
    rw [hl] at hs
    simp only at hs
    have hw : IntKind.i64.wrap ((l.length : Int) - 1) = (j : Int) := by rw [wrap_id (by omega) (by omega)]; omega
    have hw' : IntKind.i64.wrap ((j : Int) + 1 - 1) = (j : Int) := by rw [wrap_id (by omega) (by omega)]; omega
    have hw2 : IntKind.i64.wrap (x.fSeq + 1) = s := by rw [wrap_id (by omega) (by omega)]; exact hs
    clear hs
    by_cases h120 : l.length = 120
    · have hw3 : IntKind.i64.wrap 119 = (j : Int) := by rw [wrap_id (by omega) (by omega)]; omega
      obtain ⟨z, hz⟩ : ∃ z, l[0]? = some z := ⟨_, List.getElem?_eq_getElem (by omega)⟩
      have htk2 : ∀ r : List D, List.take 121 (rNote l ++ [r]) = rNote l ++ [r] := fun r => List.take_of_length_le (by simp; omega)
      have htk3 : ∀ r : List D, (rNote l ++ [r]).tail = (rNote l).tail ++ [r] := fun r => by
        cases l with
        | nil => simp at h120
        | cons y u => simp [rNote]
      have hr2 : ∀ h : 0 < (rNote l).length, (rNote l)[0]'h = z.row := fun h => by simp only [rNote, List.getElem_map]; rw [List.getElem?_eq_getElem (by omega)] at hz; rw [Option.some.inj hz]
      have hz2 : ∀ h : 0 < l.length, l[0]'h = z := fun h => by rw [List.getElem?_eq_getElem h] at hz; exact Option.some.inj hz
      have hg : grown ⟨f, k, l⟩ ⟨s, a, w, t, p, cd, v⟩ = ⟨z.fSum, k, l.drop 1 ++ [⟨s, a, w, t, p, cd, v⟩]⟩ := by
        unfold grown; rw [if_pos h120]; cases l with | nil => simp at h120 | cons y u => simp at hz; subst hz; rfl
      rw [hg] at hB hC cg0
      clear hg hgc
      generalize chainOk ⟨z.fSum, k, l.drop 1 ++ [⟨s, a, w, t, p, cd, v⟩]⟩ = b at hB cg0
      have hsn : rNote (l.drop 1 ++ [⟨s, a, w, t, p, cd, v⟩]) = (rNote l).drop 1 ++ [(GNote.mk s a w t p cd v).row] := by rw [rNote_snoc]; simp [rNote]
      have htk : List.take 120 (rNote l) = rNote l := List.take_of_length_le (by rw [rNote_len]; omega)
      have cg : Valid PP GG F_I_isChain [.agg [.d (.int .i64 z.fSum), .d (.int .i64 k), .d (.slc 7 ((rNote l).drop 1 ++ [(GNote.mk s a w t p cd v).row]))]] (.d (.bool b)) [none] := by rw [← hsn]; exact cg0
      simp only [GNote.row] at cg hsn
      simp at cg
      repeat' (first | refine W_seq ?_ | refine W_skip ?_ | (refine W_regP fun K hK => ?_; simp [limit, hw3, hw2, hx, hz, hz2, hr2, h120, htk, htk2, htk3]) | (refine W_regPD fun K hK => ?_; simp [limit, hw3, hw2, hx, hz, hz2, hr2, h120, htk, htk2, htk3]) | (with_reducible refine hK _ ?_; clear hK K) | (with_reducible refine callQ (cp) ?_; simp [limit, hw3, hw2, hx, hz, hz2, hr2, h120, htk, htk2, htk3]) | (with_reducible refine callQ (ch) ?_; simp [limit, hw3, hw2, hx, hz, hz2, hr2, h120, htk, htk2, htk3]) | (with_reducible refine callQ (cs) ?_; simp [limit, hw3, hw2, hx, hz, hz2, hr2, h120, htk, htk2, htk3]) | (with_reducible refine callQ (cg) ?_; simp [limit, hw3, hw2, hx, hz, hz2, hr2, h120, htk, htk2, htk3]) | (with_reducible refine goL_split (fun h => ?_) (fun h => ?_) <;> first | (exfalso; simp at h; done) | (exfalso; simp at h; omega) | ((try simp at h); simp [limit, hw3, hw2, hx, hz, hz2, hr2, h120, htk, htk2, htk3])) | with_reducible refine And.intro ?_ ?_ | with_reducible exact okay_rfl rfl | with_reducible assumption | (refine W_cond rfl (fun h => ?_) (fun h => ?_) <;> first | (exfalso; simp at h; done) | (exfalso; simp at h; omega) | (try simp at h)) | (refine W_ret ?_; simp [Fin, limit, hw3, hw2, hx, hz, hz2, hr2, h120, htk, htk2, htk3]) | omega)
      all_goals simp_all
    · have hg : grown ⟨f, k, l⟩ ⟨s, a, w, t, p, cd, v⟩ = ⟨f, k, l ++ [⟨s, a, w, t, p, cd, v⟩]⟩ := by unfold grown; rw [if_neg h120]
      rw [hg] at hB hC cg0
      clear hg hgc
      generalize chainOk ⟨f, k, l ++ [⟨s, a, w, t, p, cd, v⟩]⟩ = b at hB cg0
      have hsn := rNote_snoc l ⟨s, a, w, t, p, cd, v⟩
      have cg : Valid PP GG F_I_isChain [.agg [.d (.int .i64 f), .d (.int .i64 k), .d (.slc 7 (rNote l ++ [(GNote.mk s a w t p cd v).row]))]] (.d (.bool b)) [none] := by rw [← hsn]; exact cg0
      simp only [GNote.row] at cg hsn
      repeat' (first | refine W_seq ?_ | refine W_skip ?_ | (refine W_regP fun K hK => ?_; simp [limit, hw, hw', hw2, hx, h120]) | (refine W_regPD fun K hK => ?_; simp [limit, hw, hw', hw2, hx, h120]) | (with_reducible refine hK _ ?_; clear hK K) | (with_reducible refine callQ (cp) ?_; simp [limit, hw, hw', hw2, hx, h120]) | (with_reducible refine callQ (ch) ?_; simp [limit, hw, hw', hw2, hx, h120]) | (with_reducible refine callQ (cs) ?_; simp [limit, hw, hw', hw2, hx, h120]) | (with_reducible refine callQ (cg) ?_; simp [limit, hw, hw', hw2, hx, h120]) | (with_reducible refine goL_split (fun h => ?_) (fun h => ?_) <;> first | (exfalso; simp at h; done) | (exfalso; simp at h; omega) | ((try simp at h); simp [limit, hw, hw', hw2, hx, h120])) | with_reducible refine And.intro ?_ ?_ | with_reducible exact okay_rfl rfl | with_reducible assumption | (refine W_cond rfl (fun h => ?_) (fun h => ?_) <;> first | (exfalso; simp at h; done) | (exfalso; simp at h; omega) | (try simp at h)) | (refine W_ret ?_; simp [Fin, limit, hw, hw', hw2, hx, h120]) | omega)
      all_goals simp_all

end Go.Proofs.YtpboimnecoakiaaDoor.Ab


namespace Go.Proofs
end Go.Proofs
set_option linter.unusedSimpArgs false
set_option linter.unusedVariables false
set_option maxRecDepth 100000
set_option maxHeartbeats 2000000
namespace Go.Proofs.YtpboimnecoakiaaDoor.Ab
open Go.Proofs
variable {GG : GV}

theorem take_succ_eq {α : Type} {a b : List α} {i : Nat} {x : α} (h : a.take i = b.take i) (ha : a[i]? = some x) (hb : b[i]? = some x) : a.take (i + 1) = b.take (i + 1) := by
  rw [List.take_add_one, List.take_add_one, h, ha, hb]

theorem take_set_succ {R : List (List D)} {i : Nat} {r : List D} (hi : i < R.length) : (R.set i r).take (i + 1) = R.take i ++ [r] := by
  rw [List.take_add_one, List.take_set_of_le (Nat.le_refl _)]
  simp [hi]

theorem digs_len (n : Nat) : (digs n).length ≤ n := by
  induction n using Nat.strongRecOn with
  | _ n ih =>
    rw [digs]
    split
    · simp
    · have := ih (n / 10) (by omega)
      simp; omega

theorem markText_ok (k : Int) (hk : k ≤ 4611686018427387904) : Valid PP GG F_L_markText [.d (.int .i64 k)] (.d (.str (markT k))) [none] := by
  refine v_L_markText [.d (.str (markT k))] rfl rfl ?_
  refine W_seq (?_)
  apply W_regS
  · intro K hK
    simp
    repeat' (first | with_reducible exact hK | (with_reducible refine goL_split (fun _ => ?_) (fun _ => ?_) <;> simp) | with_reducible refine And.intro ?_ ?_ | with_reducible exact okay_rfl rfl | with_reducible assumption | omega)
  refine W_seq (W_seq (?_))
  apply W_regS
  · intro K hK
    simp
    repeat' (first | with_reducible exact hK | (with_reducible refine goL_split (fun _ => ?_) (fun _ => ?_) <;> simp) | with_reducible refine And.intro ?_ ?_ | with_reducible exact okay_rfl rfl | with_reducible assumption | omega)
  refine W_cond rfl (fun h => W_seq ?_) (fun h => W_skip ?_)
  · simp at h
    apply W_regS
    · intro K hK
      simp
      repeat' (first | with_reducible exact hK | (with_reducible refine goL_split (fun _ => ?_) (fun _ => ?_) <;> simp) | with_reducible refine And.intro ?_ ?_ | with_reducible exact okay_rfl rfl | with_reducible assumption | omega)
    have : markT k = [109, 48] := by unfold markT; rw [if_pos h]
    refine W_ret ?_
    simp [Fin, this]
    all_goals omega
  simp at h
  refine W_seq (?_)
  apply W_regS
  · intro K hK
    simp
    repeat' (first | with_reducible exact hK | (with_reducible refine goL_split (fun _ => ?_) (fun _ => ?_) <;> simp) | with_reducible refine And.intro ?_ ?_ | with_reducible exact okay_rfl rfl | with_reducible assumption | omega)
  refine W_seq (?_)
  refine W_block (W_loop (fun n st => ∃ (m : Nat) (out : List UInt8), n = m ∧ digs m ++ out = digs k.toNat ∧ (m : Int) ≤ k ∧
    st = ⟨[], [(0, .d (.int .i64 m)), (3, .d (.str out))], [], 0⟩) _ ⟨k.toNat, [], rfl, by simp, by omega, by simp [gc, closeN, liveA, gcV, gcO, renA, namesAs, namesA]; omega⟩ ?_)
  rintro m st ⟨m', out, rfl, he, hm, rfl⟩
  refine W_seq (W_seq (?_))
  apply W_regS
  · intro K hK
    simp
    repeat' (first | with_reducible exact hK | (with_reducible refine goL_split (fun _ => ?_) (fun _ => ?_) <;> simp) | with_reducible refine And.intro ?_ ?_ | with_reducible exact okay_rfl rfl | with_reducible assumption | omega)
  refine W_cond rfl (fun h2 => W_skip ?_) (fun h2 => W_exit ?_)
  · simp at h2
    have hd := u8_digit m
    have hl : out.length ≤ 4611686018427387904 := by
      have h1 := digs_len k.toNat
      rw [← he] at h1
      simp at h1
      omega
    have ht : ((m : Int).tmod 10) = ((m % 10 : Nat) : Int) := rfl
    have hq : IntKind.i64.wrap ((m : Int).tdiv 10) = ((m / 10 : Nat) : Int) := by
      have : (m : Int).tdiv 10 = ((m / 10 : Nat) : Int) := rfl
      rw [this]; exact wrap_id (by omega) (by omega)
    obtain ⟨r, hr⟩ : ∃ r : Nat, r = m % 10 := ⟨_, rfl⟩
    obtain ⟨q, hqq⟩ : ∃ q : Nat, q = m / 10 := ⟨_, rfl⟩
    rw [← hr] at hd ht
    rw [← hqq] at hq
    obtain ⟨v, hv⟩ : ∃ v, v = UInt8.ofNat (48 + r) := ⟨_, rfl⟩
    rw [← hv] at hd
    simp at hq
    refine W_block (W_seq ?_)
    apply W_regS
    · intro K hK
      simp [ht, hd, litA, bytes_one, strOf_bytesD, maxStr]
      repeat' (first | with_reducible exact hK | (with_reducible refine goL_split (fun _ => ?_) (fun _ => ?_) <;> simp [ht, hd, litA, bytes_one, strOf_bytesD, maxStr]) | with_reducible refine And.intro ?_ ?_ | with_reducible exact okay_rfl rfl | with_reducible assumption | omega)
    apply W_regS
    · intro K hK
      simp [hq]
      repeat' (first | with_reducible exact hK | (with_reducible refine goL_split (fun _ => ?_) (fun _ => ?_) <;> simp [hq]) | with_reducible refine And.intro ?_ ?_ | with_reducible exact okay_rfl rfl | with_reducible assumption | omega)
    refine ⟨q, by omega, q, v :: out, rfl, ?_, by omega, by simp [gc, closeN, liveA, gcV, gcO, renA, namesAs, namesA]⟩
    rw [← he, digs.eq_1 m, dif_neg (by omega), ← hqq, ← hr, ← hv]
    simp
  · simp at h2
    rw [if_pos rfl]
    have : m = 0 := by omega
    subst this
    have hz : digs 0 = [] := by rw [digs]; simp
    rw [hz, List.nil_append] at he
    have hl : out.length ≤ 4611686018427387904 := by
      have h1 := digs_len k.toNat
      rw [← he] at h1
      omega
    refine W_seq (?_)
    apply W_regS
    · intro K hK
      simp [maxStr]
      repeat' (first | with_reducible exact hK | (with_reducible refine goL_split (fun _ => ?_) (fun _ => ?_) <;> simp [maxStr]) | with_reducible refine And.intro ?_ ?_ | with_reducible exact okay_rfl rfl | with_reducible assumption | omega)
    have : markT k = 109 :: out := by unfold markT; rw [if_neg (by omega), he]
    refine W_ret ?_
    simp [Fin, this]
    all_goals omega

theorem szNote_g (x : GNote) (l : Int) (hx : x.ok) (h0 : 0 ≤ l ∧ l ≤ 1048576) : Valid PP GG F_L_szNote [.agg x.c, .d (.int .i64 l)] (.d (.int .i64 (leftR x.cost l))) [none, none] := by
  refine v_L_szNote [.d (.int .i64 (leftR x.cost l))] rfl rfl ?_
  have hco : x.cost = x.fWhat.length + x.fPath.length := rfl
  unfold GNote.ok maxLen at hx
  obtain ⟨okSeq0, okAt0, okWho0, okWhat0, okPath0, okCode0, okSum0⟩ := hx
  generalize x.cost = co at hco
  refine W_seq (?_)
  apply W_regS
  · intro K hK
    simp
    repeat' (first | with_reducible exact hK | (with_reducible refine goL_split (fun _ => ?_) (fun _ => ?_) <;> simp) | with_reducible refine And.intro ?_ ?_ | with_reducible exact okay_rfl rfl | with_reducible assumption | omega)
  obtain ⟨l1, el1⟩ : ∃ z : Int, l - x.fWhat.length = z := ⟨_, rfl⟩
  have wl1 : IntKind.i64.wrap (l - x.fWhat.length) = l1 := by rw [wrap_id (by omega) (by omega)]; exact el1
  refine W_seq (?_)
  apply W_regS
  · intro K hK
    simp [wl1]
    repeat' (first | with_reducible exact hK | (with_reducible refine goL_split (fun _ => ?_) (fun _ => ?_) <;> simp [wl1]) | with_reducible refine And.intro ?_ ?_ | with_reducible exact okay_rfl rfl | with_reducible assumption | omega)
  refine W_seq (W_seq (?_))
  apply W_regS
  · intro K hK
    simp
    repeat' (first | with_reducible exact hK | (with_reducible refine goL_split (fun _ => ?_) (fun _ => ?_) <;> simp) | with_reducible refine And.intro ?_ ?_ | with_reducible exact okay_rfl rfl | with_reducible assumption | omega)
  refine W_cond rfl (fun hh0 => W_seq ?_) (fun hh0 => W_skip ?_)
  · apply W_regS
    · intro K hK
      simp
      repeat' (first | with_reducible exact hK | (with_reducible refine goL_split (fun _ => ?_) (fun _ => ?_) <;> simp) | with_reducible refine And.intro ?_ ?_ | with_reducible exact okay_rfl rfl | with_reducible assumption | omega)
    simp at hh0
    have : leftR co l = -1 := leftR_no (by omega)
    refine W_ret ?_
    simp [Fin, this]
    all_goals omega
  simp at hh0
  obtain ⟨l2, el2⟩ : ∃ z : Int, l1 - x.fPath.length = z := ⟨_, rfl⟩
  have wl2 : IntKind.i64.wrap (l1 - x.fPath.length) = l2 := by rw [wrap_id (by omega) (by omega)]; exact el2
  refine W_seq (?_)
  apply W_regS
  · intro K hK
    simp [wl2]
    repeat' (first | with_reducible exact hK | (with_reducible refine goL_split (fun _ => ?_) (fun _ => ?_) <;> simp [wl2]) | with_reducible refine And.intro ?_ ?_ | with_reducible exact okay_rfl rfl | with_reducible assumption | omega)
  refine W_seq (W_seq (?_))
  apply W_regS
  · intro K hK
    simp
    repeat' (first | with_reducible exact hK | (with_reducible refine goL_split (fun _ => ?_) (fun _ => ?_) <;> simp) | with_reducible refine And.intro ?_ ?_ | with_reducible exact okay_rfl rfl | with_reducible assumption | omega)
  refine W_cond rfl (fun hh1 => W_seq ?_) (fun hh1 => W_skip ?_)
  · apply W_regS
    · intro K hK
      simp
      repeat' (first | with_reducible exact hK | (with_reducible refine goL_split (fun _ => ?_) (fun _ => ?_) <;> simp) | with_reducible refine And.intro ?_ ?_ | with_reducible exact okay_rfl rfl | with_reducible assumption | omega)
    simp at hh1
    have : leftR co l = -1 := leftR_no (by omega)
    refine W_ret ?_
    simp [Fin, this]
    all_goals omega
  simp at hh1
  refine W_seq (?_)
  apply W_regS
  · intro K hK
    simp
    repeat' (first | with_reducible exact hK | (with_reducible refine goL_split (fun _ => ?_) (fun _ => ?_) <;> simp) | with_reducible refine And.intro ?_ ?_ | with_reducible exact okay_rfl rfl | with_reducible assumption | omega)
  have : leftR co l = l2 := by rw [leftR_yes (by omega)]; omega
  refine W_ret ?_
  simp [Fin, this]
  all_goals omega

theorem szNoteS_g (a : List GNote) (l : Int) (hlen : a.length ≤ maxLen) (hx : ∀ x, x ∈ a → x.ok) (h0 : 0 ≤ l ∧ l ≤ 1048576) :
    Valid PP GG F_L_szNoteS [.d (.slc 7 (rNote a)), .d (.int .i64 l)] (.d (.int .i64 (leftR (a.length + sumBy GNote.cost a) l))) [none, none] := by
  refine v_L_szNoteS [.d (.int .i64 (leftR (a.length + sumBy GNote.cost a) l))] rfl rfl ?_
  unfold maxLen at hlen
  obtain ⟨m, hm⟩ : ∃ z : Int, l - a.length = z := ⟨_, rfl⟩
  have hw : IntKind.i64.wrap (l - a.length) = m := by rw [wrap_id (by omega) (by omega)]; exact hm
  refine W_seq (?_)
  apply W_regS
  · intro K hK
    simp
    repeat' (first | with_reducible exact hK | (with_reducible refine goL_split (fun _ => ?_) (fun _ => ?_) <;> simp) | with_reducible refine And.intro ?_ ?_ | with_reducible exact okay_rfl rfl | with_reducible assumption | omega)
  refine W_seq (?_)
  apply W_regS
  · intro K hK
    simp [hw]
    repeat' (first | with_reducible exact hK | (with_reducible refine goL_split (fun _ => ?_) (fun _ => ?_) <;> simp [hw]) | with_reducible refine And.intro ?_ ?_ | with_reducible exact okay_rfl rfl | with_reducible assumption | omega)
  refine W_seq (W_seq (?_))
  apply W_regS
  · intro K hK
    simp
    repeat' (first | with_reducible exact hK | (with_reducible refine goL_split (fun _ => ?_) (fun _ => ?_) <;> simp) | with_reducible refine And.intro ?_ ?_ | with_reducible exact okay_rfl rfl | with_reducible assumption | omega)
  refine W_cond rfl (fun h => W_seq ?_) (fun h => W_skip ?_)
  · apply W_regS
    · intro K hK
      simp
      repeat' (first | with_reducible exact hK | (with_reducible refine goL_split (fun _ => ?_) (fun _ => ?_) <;> simp) | with_reducible refine And.intro ?_ ?_ | with_reducible exact okay_rfl rfl | with_reducible assumption | omega)
    simp at h
    have : leftR (a.length + sumBy GNote.cost a) l = -1 := leftR_no (by omega)
    refine W_ret ?_
    simp [Fin, this]
    all_goals omega
  simp at h
  refine W_seq (W_seq (?_))
  apply W_regS
  · intro K hK
    simp
    repeat' (first | with_reducible exact hK | (with_reducible refine goL_split (fun _ => ?_) (fun _ => ?_) <;> simp) | with_reducible refine And.intro ?_ ?_ | with_reducible exact okay_rfl rfl | with_reducible assumption | omega)
  refine W_block (W_loop (fun n st => ∃ (i : Nat) (v : Int), n = a.length - i ∧ i ≤ a.length ∧ 0 ≤ v ∧ v = m - (sumBy GNote.cost (a.take i) : Nat) ∧
    st = ⟨[], [(0, .d (.slc 7 (rNote a))), (1, .d (.int .i64 v)), (5, .d (.int .i64 i))], [], 0⟩) _ ⟨0, m, rfl, by omega, h, by simp [sumBy], rfl⟩ ?_)
  rintro n st ⟨i, v, rfl, hi, hv, he, rfl⟩
  refine W_seq (W_seq (?_))
  apply W_regS
  · intro K hK
    simp
    repeat' (first | with_reducible exact hK | (with_reducible refine goL_split (fun _ => ?_) (fun _ => ?_) <;> simp) | with_reducible refine And.intro ?_ ?_ | with_reducible exact okay_rfl rfl | with_reducible assumption | omega)
  refine W_cond rfl (fun h2 => W_skip ?_) (fun h2 => W_exit ?_)
  · simp at h2
    have ha := List.getElem?_eq_getElem h2
    generalize a[i] = x at ha
    have hs := sumBy_succ (f := GNote.cost) ha
    have ht := sumBy_take GNote.cost a (i + 1)
    have ct := szNote_g (GG := GG) x v (hx x (List.mem_of_getElem? ha)) ⟨hv, by omega⟩
    obtain ⟨v2, hv2⟩ : ∃ z : Int, leftR x.cost v = z := ⟨_, rfl⟩
    rw [hv2] at ct
    refine W_seq (W_block (W_seq ?_))
    apply W_regS
    · intro K hK
      simp [ha]
      repeat' (first | with_reducible exact hK | (with_reducible refine callQ (ct) ?_; simp [ha]) | (with_reducible refine goL_split (fun _ => ?_) (fun _ => ?_) <;> simp [ha]) | with_reducible refine And.intro ?_ ?_ | with_reducible exact okay_rfl rfl | with_reducible assumption | omega)
    refine W_seq (?_)
    apply W_regS
    · intro K hK
      simp
      repeat' (first | with_reducible exact hK | (with_reducible refine goL_split (fun _ => ?_) (fun _ => ?_) <;> simp) | with_reducible refine And.intro ?_ ?_ | with_reducible exact okay_rfl rfl | with_reducible assumption | omega)
    refine W_cond rfl (fun h3 => W_seq ?_) (fun h3 => W_skip ?_)
    · apply W_regS
      · intro K hK
        simp
        repeat' (first | with_reducible exact hK | (with_reducible refine goL_split (fun _ => ?_) (fun _ => ?_) <;> simp) | with_reducible refine And.intro ?_ ?_ | with_reducible exact okay_rfl rfl | with_reducible assumption | omega)
      simp at h3
      rw [← hv2] at h3
      have hn := leftR_neg (by omega) h3
      have : leftR (a.length + sumBy GNote.cost a) l = -1 := leftR_no (by omega)
      refine W_ret ?_
      simp [Fin, this]
      all_goals omega
    simp at h3
    rw [← hv2] at h3
    obtain ⟨g1, g2⟩ := leftR_pos (Int.not_lt.2 h3)
    rw [hv2] at g2
    apply W_regS
    · intro K hK
      simp
      repeat' (first | with_reducible exact hK | (with_reducible refine goL_split (fun _ => ?_) (fun _ => ?_) <;> simp) | with_reducible refine And.intro ?_ ?_ | with_reducible exact okay_rfl rfl | with_reducible assumption | omega)
    exact ⟨a.length - (i + 1), by omega, i + 1, v2, rfl, h2, by omega, by omega, by simp [gc, closeN, liveA, gcV, gcO, renA, namesAs, namesA]; rw [wrap_id (by omega) (by omega)]⟩
  · simp at h2
    rw [if_pos rfl]
    rw [List.take_of_length_le h2] at he
    refine W_seq (?_)
    apply W_regS
    · intro K hK
      simp
      repeat' (first | with_reducible exact hK | (with_reducible refine goL_split (fun _ => ?_) (fun _ => ?_) <;> simp) | with_reducible refine And.intro ?_ ?_ | with_reducible exact okay_rfl rfl | with_reducible assumption | omega)
    have : leftR (a.length + sumBy GNote.cost a) l = v := by rw [leftR_yes (by omega)]; omega
    refine W_ret ?_
    simp [Fin, this]
    all_goals omega

theorem toNote_g (x : GNote) (hx : x.cost ≤ 1099511627776) : Valid PP GG F_L_toNote [.agg x.c] (.agg x.o) [none] := by
  refine v_L_toNote [.agg x.o] rfl rfl ?_
  have hco : x.cost = x.fWhat.length + x.fPath.length := rfl
  refine W_seq (?_)
  apply W_regS
  · intro K hK
    simp
    repeat' (first | with_reducible exact hK | (with_reducible refine goL_split (fun _ => ?_) (fun _ => ?_) <;> simp) | with_reducible refine And.intro ?_ ?_ | with_reducible exact okay_rfl rfl | with_reducible assumption | omega)
  refine W_seq (?_)
  apply W_regS
  · intro K hK
    simp
    repeat' (first | with_reducible exact hK | (with_reducible refine goL_split (fun _ => ?_) (fun _ => ?_) <;> simp) | with_reducible refine And.intro ?_ ?_ | with_reducible exact okay_rfl rfl | with_reducible assumption | omega)
  refine W_seq (?_)
  apply W_regS
  · intro K hK
    simp
    repeat' (first | with_reducible exact hK | (with_reducible refine goL_split (fun _ => ?_) (fun _ => ?_) <;> simp) | with_reducible refine And.intro ?_ ?_ | with_reducible exact okay_rfl rfl | with_reducible assumption | omega)
  refine W_seq (?_)
  apply W_regS
  · intro K hK
    simp
    repeat' (first | with_reducible exact hK | (with_reducible refine goL_split (fun _ => ?_) (fun _ => ?_) <;> simp) | with_reducible refine And.intro ?_ ?_ | with_reducible exact okay_rfl rfl | with_reducible assumption | omega)
  refine W_seq (?_)
  apply W_regS
  · intro K hK
    simp
    repeat' (first | with_reducible exact hK | (with_reducible refine goL_split (fun _ => ?_) (fun _ => ?_) <;> simp) | with_reducible refine And.intro ?_ ?_ | with_reducible exact okay_rfl rfl | with_reducible assumption | omega)
  refine W_seq (?_)
  apply W_regS
  · intro K hK
    simp
    repeat' (first | with_reducible exact hK | (with_reducible refine goL_split (fun _ => ?_) (fun _ => ?_) <;> simp) | with_reducible refine And.intro ?_ ?_ | with_reducible exact okay_rfl rfl | with_reducible assumption | omega)
  refine W_seq (?_)
  apply W_regS
  · intro K hK
    simp
    repeat' (first | with_reducible exact hK | (with_reducible refine goL_split (fun _ => ?_) (fun _ => ?_) <;> simp) | with_reducible refine And.intro ?_ ?_ | with_reducible exact okay_rfl rfl | with_reducible assumption | omega)
  refine W_seq (?_)
  apply W_regS
  · intro K hK
    simp
    repeat' (first | with_reducible exact hK | (with_reducible refine goL_split (fun _ => ?_) (fun _ => ?_) <;> simp) | with_reducible refine And.intro ?_ ?_ | with_reducible exact okay_rfl rfl | with_reducible assumption | omega)
  refine W_seq (?_)
  apply W_regS
  · intro K hK
    simp
    repeat' (first | with_reducible exact hK | (with_reducible refine goL_split (fun _ => ?_) (fun _ => ?_) <;> simp) | with_reducible refine And.intro ?_ ?_ | with_reducible exact okay_rfl rfl | with_reducible assumption | omega)
  refine W_seq (?_)
  apply W_regS
  · intro K hK
    simp
    repeat' (first | with_reducible exact hK | (with_reducible refine goL_split (fun _ => ?_) (fun _ => ?_) <;> simp) | with_reducible refine And.intro ?_ ?_ | with_reducible exact okay_rfl rfl | with_reducible assumption | omega)
  refine W_ret ?_
  simp [Fin]
  all_goals omega

theorem rows7 {R : List (List D)} {i : Nat} (h : ∀ r, r ∈ R → r.length = 7) (hi : i < R.length) : ∃ y0 y1 y2 y3 y4 y5 y6, R[i]? = some [y0, y1, y2, y3, y4, y5, y6] := by
  have h1 := h _ (List.getElem_mem hi)
  have h2 := List.getElem?_eq_getElem hi
  generalize R[i] = r at h1 h2
  match r, h1 with
  | [y0, y1, y2, y3, y4, y5, y6], _ => exact ⟨y0, y1, y2, y3, y4, y5, y6, h2⟩

theorem set7 {R : List (List D)} {i : Nat} {row : List D} (h : ∀ r, r ∈ R → r.length = 7) (hr : row.length = 7) : ∀ r, r ∈ R.set i row → r.length = 7 := by
  intro r hm
  rcases List.mem_or_eq_of_mem_set hm with hm | rfl
  · exact h r hm
  · exact hr

theorem toNoteS_g (a : List GNote) (hx : a.length + sumBy GNote.cost a ≤ 1099511627776) : Valid PP GG F_L_toNoteS [.d (.slc 7 (rNote a))] (.own 0 7 (rNote a)) [none] := by
  refine v_L_toNoteS [.own 0 7 (rNote a)] rfl rfl ?_
  refine W_seq (?_)
  apply W_regS
  · intro K hK
    simp
    repeat' (first | with_reducible exact hK | (with_reducible refine goL_split (fun _ => ?_) (fun _ => ?_) <;> simp) | with_reducible refine And.intro ?_ ?_ | with_reducible exact okay_rfl rfl | with_reducible assumption | omega)
  refine W_seq (?_)
  apply W_regS
  · intro K hK
    simp [mkA, limit]
    repeat' (first | with_reducible exact hK | (with_reducible refine goL_split (fun _ => ?_) (fun _ => ?_) <;> simp [mkA, limit]) | with_reducible refine And.intro ?_ ?_ | with_reducible exact okay_rfl rfl | with_reducible assumption | omega)
  refine W_seq (W_seq (?_))
  apply W_regS
  · intro K hK
    simp
    repeat' (first | with_reducible exact hK | (with_reducible refine goL_split (fun _ => ?_) (fun _ => ?_) <;> simp) | with_reducible refine And.intro ?_ ?_ | with_reducible exact okay_rfl rfl | with_reducible assumption | omega)
  refine W_block (W_loop (fun n st => ∃ (i : Nat) (R : List (List D)), n = a.length - i ∧ i ≤ a.length ∧ R.length = a.length ∧ (∀ r, r ∈ R → r.length = 7) ∧ R.take i = rNote (a.take i) ∧
    st = ⟨[], [(0, .d (.slc 7 (rNote a))), (3, .sl 0), (4, .d (.int .i64 i))], [(0, .arr 0 0 7 R)], 1⟩) _ ⟨0, List.replicate a.length [.int .i64 0, .int .i64 0, .int .i64 0, .str [], .str [], .int .i64 0, .int .i64 0], rfl, by omega, by simp, by intro r hr; rw [List.eq_of_mem_replicate hr]; rfl, rfl, rfl⟩ ?_)
  rintro n st ⟨i, R, rfl, hi, hl, h1, hR, rfl⟩
  refine W_seq (W_seq (?_))
  apply W_regS
  · intro K hK
    simp
    repeat' (first | with_reducible exact hK | (with_reducible refine goL_split (fun _ => ?_) (fun _ => ?_) <;> simp) | with_reducible refine And.intro ?_ ?_ | with_reducible exact okay_rfl rfl | with_reducible assumption | omega)
  refine W_cond rfl (fun h => W_skip ?_) (fun h => W_exit ?_)
  · simp at h
    have ha := List.getElem?_eq_getElem h
    generalize a[i] = x at ha
    have hg := sumBy_get (f := GNote.cost) ha
    obtain ⟨y0, y1, y2, y3, y4, y5, y6, hd⟩ := rows7 h1 (show i < R.length by omega)
    refine W_seq (W_block ?_)
    apply W_regS
    · intro K hK
      simp [ha, hd, hl]
      repeat' (first | with_reducible exact hK | (with_reducible refine callQ (toNote_g x (by omega)) ?_; simp [ha, hd, hl]) | (with_reducible refine goL_split (fun _ => ?_) (fun _ => ?_) <;> simp [ha, hd, hl]) | with_reducible refine And.intro ?_ ?_ | with_reducible exact okay_rfl rfl | with_reducible assumption | omega)
    apply W_regS
    · intro K hK
      simp
      repeat' (first | with_reducible exact hK | (with_reducible refine goL_split (fun _ => ?_) (fun _ => ?_) <;> simp) | with_reducible refine And.intro ?_ ?_ | with_reducible exact okay_rfl rfl | with_reducible assumption | omega)
    exact ⟨a.length - (i + 1), by omega, i + 1, R.set i x.row, rfl, h, by simpa using hl, set7 h1 rfl, by rw [take_set_succ (by omega), hR, List.take_add_one, ha, rNote_app]; rfl,
      by simp [gc, closeN, liveA, gcV, gcO, renA, renO, namesAs, namesA, namesO, posn]; rw [wrap_id (by omega) (by omega)]⟩
  · simp at h
    have e : R = rNote a := by rwa [List.take_of_length_le (by omega), List.take_of_length_le (by omega)] at hR
    subst e
    rw [if_pos rfl]
    refine W_seq (?_)
    apply W_regS
    · intro K hK
      simp
      repeat' (first | with_reducible exact hK | (with_reducible refine goL_split (fun _ => ?_) (fun _ => ?_) <;> simp) | with_reducible refine And.intro ?_ ?_ | with_reducible exact okay_rfl rfl | with_reducible assumption | omega)
    refine W_ret ?_
    simp [Fin]
    all_goals omega

theorem eqNote_g (x y : GNote) (hx : x.cost ≤ 1099511627776) (hy : y.cost ≤ 1099511627776) : Valid PP GG F_L_eqNote [.agg x.c, .agg y.c] (.d (.bool (decide (x = y)))) [none, none] := by
  refine v_L_eqNote [.d (.bool (decide (x = y)))] rfl rfl ?_
  have hcx : x.cost = x.fWhat.length + x.fPath.length := rfl
  have hcy : y.cost = y.fWhat.length + y.fPath.length := rfl
  refine W_seq (?_)
  apply W_regS
  · intro K hK
    simp
    repeat' (first | with_reducible exact hK | (with_reducible refine goL_split (fun _ => ?_) (fun _ => ?_) <;> simp) | with_reducible refine And.intro ?_ ?_ | with_reducible exact okay_rfl rfl | with_reducible assumption | omega)
  refine W_seq (W_seq (?_))
  apply W_regS
  · intro K hK
    simp
    repeat' (first | with_reducible exact hK | (with_reducible refine goL_split (fun _ => ?_) (fun _ => ?_) <;> simp) | with_reducible refine And.intro ?_ ?_ | with_reducible exact okay_rfl rfl | with_reducible assumption | omega)
  refine W_cond rfl (fun h => W_seq ?_) (fun h0 => W_skip ?_)
  · apply W_regS
    · intro K hK
      simp
      repeat' (first | with_reducible exact hK | (with_reducible refine goL_split (fun _ => ?_) (fun _ => ?_) <;> simp) | with_reducible refine And.intro ?_ ?_ | with_reducible exact okay_rfl rfl | with_reducible assumption | omega)
    have : decide (x = y) = false := by rw [decide_eq_false_iff_not]; intro e; rw [e] at h; simp at h
    refine W_ret ?_
    simp [Fin, this]
    all_goals omega
  refine W_seq (W_seq (?_))
  apply W_regS
  · intro K hK
    simp
    repeat' (first | with_reducible exact hK | (with_reducible refine goL_split (fun _ => ?_) (fun _ => ?_) <;> simp) | with_reducible refine And.intro ?_ ?_ | with_reducible exact okay_rfl rfl | with_reducible assumption | omega)
  refine W_cond rfl (fun h => W_seq ?_) (fun h1 => W_skip ?_)
  · apply W_regS
    · intro K hK
      simp
      repeat' (first | with_reducible exact hK | (with_reducible refine goL_split (fun _ => ?_) (fun _ => ?_) <;> simp) | with_reducible refine And.intro ?_ ?_ | with_reducible exact okay_rfl rfl | with_reducible assumption | omega)
    have : decide (x = y) = false := by rw [decide_eq_false_iff_not]; intro e; rw [e] at h; simp at h
    refine W_ret ?_
    simp [Fin, this]
    all_goals omega
  refine W_seq (W_seq (?_))
  apply W_regS
  · intro K hK
    simp
    repeat' (first | with_reducible exact hK | (with_reducible refine goL_split (fun _ => ?_) (fun _ => ?_) <;> simp) | with_reducible refine And.intro ?_ ?_ | with_reducible exact okay_rfl rfl | with_reducible assumption | omega)
  refine W_cond rfl (fun h => W_seq ?_) (fun h2 => W_skip ?_)
  · apply W_regS
    · intro K hK
      simp
      repeat' (first | with_reducible exact hK | (with_reducible refine goL_split (fun _ => ?_) (fun _ => ?_) <;> simp) | with_reducible refine And.intro ?_ ?_ | with_reducible exact okay_rfl rfl | with_reducible assumption | omega)
    have : decide (x = y) = false := by rw [decide_eq_false_iff_not]; intro e; rw [e] at h; simp at h
    refine W_ret ?_
    simp [Fin, this]
    all_goals omega
  refine W_seq (W_seq (?_))
  apply W_regS
  · intro K hK
    simp
    repeat' (first | with_reducible exact hK | (with_reducible refine goL_split (fun _ => ?_) (fun _ => ?_) <;> simp) | with_reducible refine And.intro ?_ ?_ | with_reducible exact okay_rfl rfl | with_reducible assumption | omega)
  refine W_cond rfl (fun h => W_seq ?_) (fun h3 => W_skip ?_)
  · apply W_regS
    · intro K hK
      simp
      repeat' (first | with_reducible exact hK | (with_reducible refine goL_split (fun _ => ?_) (fun _ => ?_) <;> simp) | with_reducible refine And.intro ?_ ?_ | with_reducible exact okay_rfl rfl | with_reducible assumption | omega)
    have : decide (x = y) = false := by rw [decide_eq_false_iff_not]; intro e; rw [e] at h; simp at h
    refine W_ret ?_
    simp [Fin, this]
    all_goals omega
  refine W_seq (W_seq (?_))
  apply W_regS
  · intro K hK
    simp
    repeat' (first | with_reducible exact hK | (with_reducible refine goL_split (fun _ => ?_) (fun _ => ?_) <;> simp) | with_reducible refine And.intro ?_ ?_ | with_reducible exact okay_rfl rfl | with_reducible assumption | omega)
  refine W_cond rfl (fun h => W_seq ?_) (fun h4 => W_skip ?_)
  · apply W_regS
    · intro K hK
      simp
      repeat' (first | with_reducible exact hK | (with_reducible refine goL_split (fun _ => ?_) (fun _ => ?_) <;> simp) | with_reducible refine And.intro ?_ ?_ | with_reducible exact okay_rfl rfl | with_reducible assumption | omega)
    have : decide (x = y) = false := by rw [decide_eq_false_iff_not]; intro e; rw [e] at h; simp at h
    refine W_ret ?_
    simp [Fin, this]
    all_goals omega
  refine W_seq (W_seq (?_))
  apply W_regS
  · intro K hK
    simp
    repeat' (first | with_reducible exact hK | (with_reducible refine goL_split (fun _ => ?_) (fun _ => ?_) <;> simp) | with_reducible refine And.intro ?_ ?_ | with_reducible exact okay_rfl rfl | with_reducible assumption | omega)
  refine W_cond rfl (fun h => W_seq ?_) (fun h5 => W_skip ?_)
  · apply W_regS
    · intro K hK
      simp
      repeat' (first | with_reducible exact hK | (with_reducible refine goL_split (fun _ => ?_) (fun _ => ?_) <;> simp) | with_reducible refine And.intro ?_ ?_ | with_reducible exact okay_rfl rfl | with_reducible assumption | omega)
    have : decide (x = y) = false := by rw [decide_eq_false_iff_not]; intro e; rw [e] at h; simp at h
    refine W_ret ?_
    simp [Fin, this]
    all_goals omega
  refine W_seq (W_seq (?_))
  apply W_regS
  · intro K hK
    simp
    repeat' (first | with_reducible exact hK | (with_reducible refine goL_split (fun _ => ?_) (fun _ => ?_) <;> simp) | with_reducible refine And.intro ?_ ?_ | with_reducible exact okay_rfl rfl | with_reducible assumption | omega)
  refine W_cond rfl (fun h => W_seq ?_) (fun h6 => W_skip ?_)
  · apply W_regS
    · intro K hK
      simp
      repeat' (first | with_reducible exact hK | (with_reducible refine goL_split (fun _ => ?_) (fun _ => ?_) <;> simp) | with_reducible refine And.intro ?_ ?_ | with_reducible exact okay_rfl rfl | with_reducible assumption | omega)
    have : decide (x = y) = false := by rw [decide_eq_false_iff_not]; intro e; rw [e] at h; simp at h
    refine W_ret ?_
    simp [Fin, this]
    all_goals omega
  refine W_seq (?_)
  apply W_regS
  · intro K hK
    simp
    repeat' (first | with_reducible exact hK | (with_reducible refine goL_split (fun _ => ?_) (fun _ => ?_) <;> simp) | with_reducible refine And.intro ?_ ?_ | with_reducible exact okay_rfl rfl | with_reducible assumption | omega)
  have : decide (x = y) = true := by
    rw [decide_eq_true_iff]
    cases x; cases y
    simp at h0 h1 h2 h3 h4 h5 h6
    simp_all
  refine W_ret ?_
  simp [Fin, this]
  all_goals omega

theorem eqNoteS_g (a b : List GNote) (hx : a.length + sumBy GNote.cost a ≤ 1099511627776) (hy : b.length + sumBy GNote.cost b ≤ 1099511627776) : Valid PP GG F_L_eqNoteS [.d (.slc 7 (rNote a)), .d (.slc 7 (rNote b))] (.d (.bool (decide (a = b)))) [none, none] := by
  refine v_L_eqNoteS [.d (.bool (decide (a = b)))] rfl rfl ?_
  refine W_seq (?_)
  apply W_regS
  · intro K hK
    simp
    repeat' (first | with_reducible exact hK | (with_reducible refine goL_split (fun _ => ?_) (fun _ => ?_) <;> simp) | with_reducible refine And.intro ?_ ?_ | with_reducible exact okay_rfl rfl | with_reducible assumption | omega)
  refine W_seq (W_seq (?_))
  apply W_regS
  · intro K hK
    simp
    repeat' (first | with_reducible exact hK | (with_reducible refine goL_split (fun _ => ?_) (fun _ => ?_) <;> simp) | with_reducible refine And.intro ?_ ?_ | with_reducible exact okay_rfl rfl | with_reducible assumption | omega)
  refine W_cond rfl (fun h => W_seq ?_) (fun hlen => W_skip ?_)
  · apply W_regS
    · intro K hK
      simp
      repeat' (first | with_reducible exact hK | (with_reducible refine goL_split (fun _ => ?_) (fun _ => ?_) <;> simp) | with_reducible refine And.intro ?_ ?_ | with_reducible exact okay_rfl rfl | with_reducible assumption | omega)
    have : decide (a = b) = false := by rw [decide_eq_false_iff_not]; intro e; subst e; simp at h
    refine W_ret ?_
    simp [Fin, this]
    all_goals omega
  refine W_seq (W_seq (?_))
  simp at hlen
  apply W_regS
  · intro K hK
    simp
    repeat' (first | with_reducible exact hK | (with_reducible refine goL_split (fun _ => ?_) (fun _ => ?_) <;> simp) | with_reducible refine And.intro ?_ ?_ | with_reducible exact okay_rfl rfl | with_reducible assumption | omega)
  refine W_block (W_loop (fun n st => ∃ i : Nat, n = a.length - i ∧ i ≤ a.length ∧ a.take i = b.take i ∧ st = ⟨[], [(0, .d (.slc 7 (rNote a))), (1, .d (.slc 7 (rNote b))), (5, .d (.int .i64 i))], [], 0⟩) _ ⟨0, rfl, by omega, rfl, rfl⟩ ?_)
  rintro n st ⟨i, rfl, hi, he, rfl⟩
  refine W_seq (W_seq (?_))
  apply W_regS
  · intro K hK
    simp
    repeat' (first | with_reducible exact hK | (with_reducible refine goL_split (fun _ => ?_) (fun _ => ?_) <;> simp) | with_reducible refine And.intro ?_ ?_ | with_reducible exact okay_rfl rfl | with_reducible assumption | omega)
  refine W_cond rfl (fun h => W_skip ?_) (fun h => W_exit ?_)
  · simp at h
    have ha := List.getElem?_eq_getElem h
    have hb := List.getElem?_eq_getElem (show i < b.length by omega)
    generalize a[i] = x at ha
    generalize b[i]'_ = y at hb
    have ga := sumBy_get (f := GNote.cost) ha
    have gb := sumBy_get (f := GNote.cost) hb
    refine W_seq (W_block (W_seq ?_))
    apply W_regD
    · intro K hK
      simp [ha, hb]
      repeat' (first | with_reducible exact hK | (with_reducible refine callQ (eqNote_g x y (by omega) (by omega)) ?_; simp [ha, hb]) | (with_reducible refine goL_split (fun _ => ?_) (fun _ => ?_) <;> simp [ha, hb]) | with_reducible refine And.intro ?_ ?_ | with_reducible exact okay_rfl rfl | with_reducible assumption | omega)
    refine W_cond rfl (fun h2 => W_seq ?_) (fun h2 => W_skip ?_)
    · apply W_regS
      · intro K hK
        simp
        repeat' (first | with_reducible exact hK | (with_reducible refine goL_split (fun _ => ?_) (fun _ => ?_) <;> simp) | with_reducible refine And.intro ?_ ?_ | with_reducible exact okay_rfl rfl | with_reducible assumption | omega)
      have : decide (a = b) = false := by rw [decide_eq_false_iff_not]; intro e; subst e; rw [ha] at hb; cases hb; simp at h2
      refine W_ret ?_
      simp [Fin, this]
      all_goals omega
    apply W_regS
    · intro K hK
      simp
      repeat' (first | with_reducible exact hK | (with_reducible refine goL_split (fun _ => ?_) (fun _ => ?_) <;> simp) | with_reducible refine And.intro ?_ ?_ | with_reducible exact okay_rfl rfl | with_reducible assumption | omega)
    have hxy : x = y := by simpa using h2
    subst hxy
    exact ⟨a.length - (i + 1), by omega, i + 1, rfl, h, take_succ_eq he ha hb, by simp [gc, closeN, liveA, gcV, gcO, renA, namesAs, namesA]; rw [wrap_id (by omega) (by omega)]⟩
  · simp at h
    rw [if_pos rfl]
    refine W_seq (?_)
    apply W_regS
    · intro K hK
      simp
      repeat' (first | with_reducible exact hK | (with_reducible refine goL_split (fun _ => ?_) (fun _ => ?_) <;> simp) | with_reducible refine And.intro ?_ ?_ | with_reducible exact okay_rfl rfl | with_reducible assumption | omega)
    have : decide (a = b) = true := by
      rw [decide_eq_true_iff]
      rwa [List.take_of_length_le h, List.take_of_length_le (by omega)] at he
    refine W_ret ?_
    simp [Fin, this]
    all_goals omega

theorem markNoteS_g (a : List GNote) (k : Int) (hx : a.length + sumBy GNote.cost a ≤ 1099511627776) (hk : 0 ≤ k ∧ k + (sumBy GNote.marks a : Nat) ≤ 140737488355328) :
    Valid PP GG F_L_markNoteS [.own 0 7 (rNote a), .d (.int .i64 k)] (.d (.int .i64 (k + (sumBy GNote.marks a : Nat)))) [some (.own 0 7 (rNote (markL GNote.mark GNote.marks a k))), none] := by
  refine v_L_markNoteS [.d (.int .i64 (k + (sumBy GNote.marks a : Nat)))] rfl rfl ?_
  have hml := sumBy_le GNote.marks_le a
  refine W_seq (?_)
  apply W_regS
  · intro K hK
    simp
    repeat' (first | with_reducible exact hK | (with_reducible refine goL_split (fun _ => ?_) (fun _ => ?_) <;> simp) | with_reducible refine And.intro ?_ ?_ | with_reducible exact okay_rfl rfl | with_reducible assumption | omega)
  refine W_seq (W_seq (?_))
  apply W_regS
  · intro K hK
    simp
    repeat' (first | with_reducible exact hK | (with_reducible refine goL_split (fun _ => ?_) (fun _ => ?_) <;> simp) | with_reducible refine And.intro ?_ ?_ | with_reducible exact okay_rfl rfl | with_reducible assumption | omega)
  refine W_block (W_loop (fun n st => ∃ (i : Nat) (R : List (List D)) (q : Int), n = a.length - i ∧ i ≤ a.length ∧ R = rNote (markL GNote.mark GNote.marks (a.take i) k ++ a.drop i) ∧ q = k + (sumBy GNote.marks (a.take i) : Nat) ∧
    st = ⟨[], [(0, .sl 0), (1, .d (.int .i64 q)), (5, .d (.int .i64 i))], [(0, .arr 0 0 7 R)], 1⟩) _ ⟨0, rNote a, k, rfl, by omega, rfl, by simp [sumBy], by simp [gc, closeN, liveA, gcV, gcO, renA, renO, namesAs, namesA, namesO, posn]⟩ ?_)
  rintro n st ⟨i, R, q, rfl, hi, hR, hq, rfl⟩
  have hl : R.length = a.length := by rw [hR]; simp [markL_len]; omega
  refine W_seq (W_seq (?_))
  apply W_regS
  · intro K hK
    simp
    repeat' (first | with_reducible exact hK | (with_reducible refine goL_split (fun _ => ?_) (fun _ => ?_) <;> simp) | with_reducible refine And.intro ?_ ?_ | with_reducible exact okay_rfl rfl | with_reducible assumption | omega)
  refine W_cond rfl (fun h => W_skip ?_) (fun h => W_exit ?_)
  · simp [hl] at h
    have ha := List.getElem?_eq_getElem h
    generalize a[i] = x at ha
    have hg := sumBy_get (f := GNote.cost) ha
    have hs := sumBy_succ (f := GNote.marks) ha
    have ht := sumBy_take GNote.marks a (i + 1)
    have hsucc : R.set i (x.mark q).row = rNote (markL GNote.mark GNote.marks (a.take (i + 1)) k ++ a.drop (i + 1)) := by
      rw [hR, drop_get ha, rNote_app]
      show (rNote (markL GNote.mark GNote.marks (a.take i) k) ++ x.row :: rNote (a.drop (i + 1))).set i (x.mark q).row = _
      rw [set_mid (by simp [markL_len]; omega), markL_succ k ha, rNote_app, rNote_app, hq]; rfl
    have hd : R[i]? = some x.row := by
      rw [hR, drop_get ha, rNote_app]
      exact mid_get (by simp [markL_len]; omega)
    have hset := fun y => set_get hd y
    have hme : x.mark q = { fSeq := q, fAt := q + 1, fWho := q + 1 + 1, fWhat := markT (q + 1 + 1 + 1), fPath := markT (q + 1 + 1 + 1 + 1), fCode := q + 1 + 1 + 1 + 1 + 1, fSum := q + 1 + 1 + 1 + 1 + 1 + 1 } := rfl
    have hms : x.marks = 1 + 1 + 1 + 1 + 1 + 1 + 1 := rfl
    have hco : x.cost = x.fWhat.length + x.fPath.length := rfl
    clear hR
    refine W_seq (W_block (W_seq ?_))
    simp only [GNote.row] at hd
    apply W_regS
    · intro K hK
      simp [hd, hset, hl]
      repeat' (first | with_reducible exact hK | (with_reducible refine goL_split (fun _ => ?_) (fun _ => ?_) <;> simp [hd, hset, hl]) | with_reducible refine And.intro ?_ ?_ | with_reducible exact okay_rfl rfl | with_reducible assumption | omega)
    obtain ⟨q1, hq1⟩ : ∃ z : Int, q + 1 = z := ⟨_, rfl⟩
    have wq1 : IntKind.i64.wrap (q + 1) = q1 := by rw [wrap_id (by omega) (by omega)]; exact hq1
    refine W_seq (?_)
    apply W_regS
    · intro K hK
      simp [wq1]
      repeat' (first | with_reducible exact hK | (with_reducible refine goL_split (fun _ => ?_) (fun _ => ?_) <;> simp [wq1]) | with_reducible refine And.intro ?_ ?_ | with_reducible exact okay_rfl rfl | with_reducible assumption | omega)
    refine W_seq (?_)
    apply W_regS
    · intro K hK
      simp [hd, hset, hl]
      repeat' (first | with_reducible exact hK | (with_reducible refine goL_split (fun _ => ?_) (fun _ => ?_) <;> simp [hd, hset, hl]) | with_reducible refine And.intro ?_ ?_ | with_reducible exact okay_rfl rfl | with_reducible assumption | omega)
    obtain ⟨q2, hq2⟩ : ∃ z : Int, q1 + 1 = z := ⟨_, rfl⟩
    have wq2 : IntKind.i64.wrap (q1 + 1) = q2 := by rw [wrap_id (by omega) (by omega)]; exact hq2
    refine W_seq (?_)
    apply W_regS
    · intro K hK
      simp [wq2]
      repeat' (first | with_reducible exact hK | (with_reducible refine goL_split (fun _ => ?_) (fun _ => ?_) <;> simp [wq2]) | with_reducible refine And.intro ?_ ?_ | with_reducible exact okay_rfl rfl | with_reducible assumption | omega)
    refine W_seq (?_)
    apply W_regS
    · intro K hK
      simp [hd, hset, hl]
      repeat' (first | with_reducible exact hK | (with_reducible refine goL_split (fun _ => ?_) (fun _ => ?_) <;> simp [hd, hset, hl]) | with_reducible refine And.intro ?_ ?_ | with_reducible exact okay_rfl rfl | with_reducible assumption | omega)
    obtain ⟨q3, hq3⟩ : ∃ z : Int, q2 + 1 = z := ⟨_, rfl⟩
    have wq3 : IntKind.i64.wrap (q2 + 1) = q3 := by rw [wrap_id (by omega) (by omega)]; exact hq3
    refine W_seq (?_)
    apply W_regS
    · intro K hK
      simp [wq3]
      repeat' (first | with_reducible exact hK | (with_reducible refine goL_split (fun _ => ?_) (fun _ => ?_) <;> simp [wq3]) | with_reducible refine And.intro ?_ ?_ | with_reducible exact okay_rfl rfl | with_reducible assumption | omega)
    refine W_seq (?_)
    apply W_regS
    · intro K hK
      simp [hd, hset, hl]
      repeat' (first | with_reducible exact hK | (with_reducible refine callQ (markText_ok q3 (by omega)) ?_; simp [hd, hset, hl]) | (with_reducible refine goL_split (fun _ => ?_) (fun _ => ?_) <;> simp [hd, hset, hl]) | with_reducible refine And.intro ?_ ?_ | with_reducible exact okay_rfl rfl | with_reducible assumption | omega)
    obtain ⟨q4, hq4⟩ : ∃ z : Int, q3 + 1 = z := ⟨_, rfl⟩
    have wq4 : IntKind.i64.wrap (q3 + 1) = q4 := by rw [wrap_id (by omega) (by omega)]; exact hq4
    refine W_seq (?_)
    apply W_regS
    · intro K hK
      simp [wq4]
      repeat' (first | with_reducible exact hK | (with_reducible refine goL_split (fun _ => ?_) (fun _ => ?_) <;> simp [wq4]) | with_reducible refine And.intro ?_ ?_ | with_reducible exact okay_rfl rfl | with_reducible assumption | omega)
    refine W_seq (?_)
    apply W_regS
    · intro K hK
      simp [hd, hset, hl]
      repeat' (first | with_reducible exact hK | (with_reducible refine callQ (markText_ok q4 (by omega)) ?_; simp [hd, hset, hl]) | (with_reducible refine goL_split (fun _ => ?_) (fun _ => ?_) <;> simp [hd, hset, hl]) | with_reducible refine And.intro ?_ ?_ | with_reducible exact okay_rfl rfl | with_reducible assumption | omega)
    obtain ⟨q5, hq5⟩ : ∃ z : Int, q4 + 1 = z := ⟨_, rfl⟩
    have wq5 : IntKind.i64.wrap (q4 + 1) = q5 := by rw [wrap_id (by omega) (by omega)]; exact hq5
    refine W_seq (?_)
    apply W_regS
    · intro K hK
      simp [wq5]
      repeat' (first | with_reducible exact hK | (with_reducible refine goL_split (fun _ => ?_) (fun _ => ?_) <;> simp [wq5]) | with_reducible refine And.intro ?_ ?_ | with_reducible exact okay_rfl rfl | with_reducible assumption | omega)
    refine W_seq (?_)
    apply W_regS
    · intro K hK
      simp [hd, hset, hl]
      repeat' (first | with_reducible exact hK | (with_reducible refine goL_split (fun _ => ?_) (fun _ => ?_) <;> simp [hd, hset, hl]) | with_reducible refine And.intro ?_ ?_ | with_reducible exact okay_rfl rfl | with_reducible assumption | omega)
    obtain ⟨q6, hq6⟩ : ∃ z : Int, q5 + 1 = z := ⟨_, rfl⟩
    have wq6 : IntKind.i64.wrap (q5 + 1) = q6 := by rw [wrap_id (by omega) (by omega)]; exact hq6
    refine W_seq (?_)
    apply W_regS
    · intro K hK
      simp [wq6]
      repeat' (first | with_reducible exact hK | (with_reducible refine goL_split (fun _ => ?_) (fun _ => ?_) <;> simp [wq6]) | with_reducible refine And.intro ?_ ?_ | with_reducible exact okay_rfl rfl | with_reducible assumption | omega)
    refine W_seq (?_)
    apply W_regS
    · intro K hK
      simp [hd, hset, hl]
      repeat' (first | with_reducible exact hK | (with_reducible refine goL_split (fun _ => ?_) (fun _ => ?_) <;> simp [hd, hset, hl]) | with_reducible refine And.intro ?_ ?_ | with_reducible exact okay_rfl rfl | with_reducible assumption | omega)
    obtain ⟨q7, hq7⟩ : ∃ z : Int, q6 + 1 = z := ⟨_, rfl⟩
    have wq7 : IntKind.i64.wrap (q6 + 1) = q7 := by rw [wrap_id (by omega) (by omega)]; exact hq7
    apply W_regS
    · intro K hK
      simp [wq7]
      repeat' (first | with_reducible exact hK | (with_reducible refine goL_split (fun _ => ?_) (fun _ => ?_) <;> simp [wq7]) | with_reducible refine And.intro ?_ ?_ | with_reducible exact okay_rfl rfl | with_reducible assumption | omega)
    apply W_regS
    · intro K hK
      simp
      repeat' (first | with_reducible exact hK | (with_reducible refine goL_split (fun _ => ?_) (fun _ => ?_) <;> simp) | with_reducible refine And.intro ?_ ?_ | with_reducible exact okay_rfl rfl | with_reducible assumption | omega)
    refine ⟨a.length - (i + 1), by omega, i + 1, R.set i (x.mark q).row, q7, rfl, h, hsucc, by omega, ?_⟩
    simp [gc, closeN, liveA, gcV, gcO, renA, renO, namesAs, namesA, namesO, posn]
    refine ⟨wrap_id (by omega) (by omega), ?_⟩
    simp only [hme, hq1, hq2, hq3, hq4, hq5, hq6, hq7]
  · simp [hl] at h
    have e : R = rNote (markL GNote.mark GNote.marks a k) := by
      rw [List.take_of_length_le h, List.drop_eq_nil_of_le h] at hR; simpa using hR
    rw [List.take_of_length_le h] at hq
    subst e
    rw [if_pos rfl]
    refine W_seq (?_)
    apply W_regS
    · intro K hK
      simp
      repeat' (first | with_reducible exact hK | (with_reducible refine goL_split (fun _ => ?_) (fun _ => ?_) <;> simp) | with_reducible refine And.intro ?_ ?_ | with_reducible exact okay_rfl rfl | with_reducible assumption | omega)
    subst hq
    refine W_ret ?_
    simp [Fin]
    all_goals omega

theorem heldNoteS_g (a : List GNote) (k : Int) (hx : a.length + sumBy GNote.cost a ≤ 1099511627776) (hk : 0 ≤ k ∧ k + (sumBy GNote.marks a : Nat) ≤ 140737488355328) :
    Valid PP GG F_L_heldNoteS [.d (.slc 7 (rNote (markL GNote.mark GNote.marks a k))), .d (.int .i64 k)] (.d (.int .i64 (k + (sumBy GNote.marks a : Nat)))) [none, none] := by
  refine v_L_heldNoteS [.d (.int .i64 (k + (sumBy GNote.marks a : Nat)))] rfl rfl ?_
  have hl : (rNote (markL GNote.mark GNote.marks a k)).length = a.length := by simp [markL_len]
  have hget : ∀ (i : Nat) x, a[i]? = some x → (rNote (markL GNote.mark GNote.marks a k))[i]? = some (x.mark (k + (sumBy GNote.marks (a.take i) : Nat))).row := fun i x h => by rw [rNote_get, markL_get k h]; rfl
  generalize rNote (markL GNote.mark GNote.marks a k) = B at hl hget ⊢
  refine W_seq (?_)
  apply W_regS
  · intro K hK
    simp
    repeat' (first | with_reducible exact hK | (with_reducible refine goL_split (fun _ => ?_) (fun _ => ?_) <;> simp) | with_reducible refine And.intro ?_ ?_ | with_reducible exact okay_rfl rfl | with_reducible assumption | omega)
  refine W_seq (W_seq (?_))
  apply W_regS
  · intro K hK
    simp
    repeat' (first | with_reducible exact hK | (with_reducible refine goL_split (fun _ => ?_) (fun _ => ?_) <;> simp) | with_reducible refine And.intro ?_ ?_ | with_reducible exact okay_rfl rfl | with_reducible assumption | omega)
  refine W_block (W_loop (fun n st => ∃ (i : Nat) (q : Int), n = a.length - i ∧ i ≤ a.length ∧ q = k + (sumBy GNote.marks (a.take i) : Nat) ∧
    st = ⟨[], [(0, .d (.slc 7 B)), (1, .d (.int .i64 q)), (5, .d (.int .i64 i))], [], 0⟩) _ ⟨0, k, rfl, by omega, by simp [sumBy], by simp [gc, closeN, liveA, gcV, gcO, renA, renO, namesAs, namesA, namesO, posn]⟩ ?_)
  rintro n st ⟨i, q, rfl, hi, hq, rfl⟩
  refine W_seq (W_seq (?_))
  apply W_regS
  · intro K hK
    simp
    repeat' (first | with_reducible exact hK | (with_reducible refine goL_split (fun _ => ?_) (fun _ => ?_) <;> simp) | with_reducible refine And.intro ?_ ?_ | with_reducible exact okay_rfl rfl | with_reducible assumption | omega)
  refine W_cond rfl (fun h => W_skip ?_) (fun h => W_exit ?_)
  · simp [hl] at h
    have ha := List.getElem?_eq_getElem h
    generalize a[i] = x at ha
    have hg := sumBy_get (f := GNote.cost) ha
    have hs := sumBy_succ (f := GNote.marks) ha
    have ht := sumBy_take GNote.marks a (i + 1)
    have hd := hget i x ha
    rw [← hq] at hd
    have hco : x.cost = x.fWhat.length + x.fPath.length := rfl
    have hms : x.marks = 1 + 1 + 1 + 1 + 1 + 1 + 1 := rfl
    simp only [GNote.row, GNote.mark] at hd
    refine W_seq (W_block ?_)
    refine W_seq (W_seq (?_))
    apply W_regS
    · intro K hK
      simp [hd, hl]
      repeat' (first | with_reducible exact hK | (with_reducible refine goL_split (fun _ => ?_) (fun _ => ?_) <;> simp [hd, hl]) | with_reducible refine And.intro ?_ ?_ | with_reducible exact okay_rfl rfl | with_reducible assumption | omega)
    refine W_cond rfl (fun h4 => ?_) (fun h4 => W_skip ?_)
    · simp at h4
    obtain ⟨q1, hq1⟩ : ∃ z : Int, q + 1 = z := ⟨_, rfl⟩
    have wq1 : IntKind.i64.wrap (q + 1) = q1 := by rw [wrap_id (by omega) (by omega)]; exact hq1
    refine W_seq (?_)
    apply W_regS
    · intro K hK
      simp [wq1]
      repeat' (first | with_reducible exact hK | (with_reducible refine goL_split (fun _ => ?_) (fun _ => ?_) <;> simp [wq1]) | with_reducible refine And.intro ?_ ?_ | with_reducible exact okay_rfl rfl | with_reducible assumption | omega)
    simp only [hq1] at hd
    refine W_seq (W_seq (?_))
    apply W_regS
    · intro K hK
      simp [hd, hl]
      repeat' (first | with_reducible exact hK | (with_reducible refine goL_split (fun _ => ?_) (fun _ => ?_) <;> simp [hd, hl]) | with_reducible refine And.intro ?_ ?_ | with_reducible exact okay_rfl rfl | with_reducible assumption | omega)
    refine W_cond rfl (fun h4 => ?_) (fun h4 => W_skip ?_)
    · simp at h4
    obtain ⟨q2, hq2⟩ : ∃ z : Int, q1 + 1 = z := ⟨_, rfl⟩
    have wq2 : IntKind.i64.wrap (q1 + 1) = q2 := by rw [wrap_id (by omega) (by omega)]; exact hq2
    refine W_seq (?_)
    apply W_regS
    · intro K hK
      simp [wq2]
      repeat' (first | with_reducible exact hK | (with_reducible refine goL_split (fun _ => ?_) (fun _ => ?_) <;> simp [wq2]) | with_reducible refine And.intro ?_ ?_ | with_reducible exact okay_rfl rfl | with_reducible assumption | omega)
    simp only [hq2] at hd
    refine W_seq (W_seq (?_))
    apply W_regS
    · intro K hK
      simp [hd, hl]
      repeat' (first | with_reducible exact hK | (with_reducible refine goL_split (fun _ => ?_) (fun _ => ?_) <;> simp [hd, hl]) | with_reducible refine And.intro ?_ ?_ | with_reducible exact okay_rfl rfl | with_reducible assumption | omega)
    refine W_cond rfl (fun h4 => ?_) (fun h4 => W_skip ?_)
    · simp at h4
    obtain ⟨q3, hq3⟩ : ∃ z : Int, q2 + 1 = z := ⟨_, rfl⟩
    have wq3 : IntKind.i64.wrap (q2 + 1) = q3 := by rw [wrap_id (by omega) (by omega)]; exact hq3
    refine W_seq (?_)
    apply W_regS
    · intro K hK
      simp [wq3]
      repeat' (first | with_reducible exact hK | (with_reducible refine goL_split (fun _ => ?_) (fun _ => ?_) <;> simp [wq3]) | with_reducible refine And.intro ?_ ?_ | with_reducible exact okay_rfl rfl | with_reducible assumption | omega)
    simp only [hq3] at hd
    refine W_seq (W_seq (?_))
    apply W_regD
    · intro K hK
      simp [hd, hl]
      repeat' (first | with_reducible exact hK | (with_reducible refine callQ (markText_ok q3 (by omega)) ?_; simp [hd, hl]) | (with_reducible refine goL_split (fun _ => ?_) (fun _ => ?_) <;> simp [hd, hl]) | with_reducible refine And.intro ?_ ?_ | with_reducible exact okay_rfl rfl | with_reducible assumption | omega)
    refine W_cond rfl (fun h4 => ?_) (fun h4 => W_skip ?_)
    · simp at h4
    obtain ⟨q4, hq4⟩ : ∃ z : Int, q3 + 1 = z := ⟨_, rfl⟩
    have wq4 : IntKind.i64.wrap (q3 + 1) = q4 := by rw [wrap_id (by omega) (by omega)]; exact hq4
    refine W_seq (?_)
    apply W_regS
    · intro K hK
      simp [wq4]
      repeat' (first | with_reducible exact hK | (with_reducible refine goL_split (fun _ => ?_) (fun _ => ?_) <;> simp [wq4]) | with_reducible refine And.intro ?_ ?_ | with_reducible exact okay_rfl rfl | with_reducible assumption | omega)
    simp only [hq4] at hd
    refine W_seq (W_seq (?_))
    apply W_regD
    · intro K hK
      simp [hd, hl]
      repeat' (first | with_reducible exact hK | (with_reducible refine callQ (markText_ok q4 (by omega)) ?_; simp [hd, hl]) | (with_reducible refine goL_split (fun _ => ?_) (fun _ => ?_) <;> simp [hd, hl]) | with_reducible refine And.intro ?_ ?_ | with_reducible exact okay_rfl rfl | with_reducible assumption | omega)
    refine W_cond rfl (fun h4 => ?_) (fun h4 => W_skip ?_)
    · simp at h4
    obtain ⟨q5, hq5⟩ : ∃ z : Int, q4 + 1 = z := ⟨_, rfl⟩
    have wq5 : IntKind.i64.wrap (q4 + 1) = q5 := by rw [wrap_id (by omega) (by omega)]; exact hq5
    refine W_seq (?_)
    apply W_regS
    · intro K hK
      simp [wq5]
      repeat' (first | with_reducible exact hK | (with_reducible refine goL_split (fun _ => ?_) (fun _ => ?_) <;> simp [wq5]) | with_reducible refine And.intro ?_ ?_ | with_reducible exact okay_rfl rfl | with_reducible assumption | omega)
    simp only [hq5] at hd
    refine W_seq (W_seq (?_))
    apply W_regS
    · intro K hK
      simp [hd, hl]
      repeat' (first | with_reducible exact hK | (with_reducible refine goL_split (fun _ => ?_) (fun _ => ?_) <;> simp [hd, hl]) | with_reducible refine And.intro ?_ ?_ | with_reducible exact okay_rfl rfl | with_reducible assumption | omega)
    refine W_cond rfl (fun h4 => ?_) (fun h4 => W_skip ?_)
    · simp at h4
    obtain ⟨q6, hq6⟩ : ∃ z : Int, q5 + 1 = z := ⟨_, rfl⟩
    have wq6 : IntKind.i64.wrap (q5 + 1) = q6 := by rw [wrap_id (by omega) (by omega)]; exact hq6
    refine W_seq (?_)
    apply W_regS
    · intro K hK
      simp [wq6]
      repeat' (first | with_reducible exact hK | (with_reducible refine goL_split (fun _ => ?_) (fun _ => ?_) <;> simp [wq6]) | with_reducible refine And.intro ?_ ?_ | with_reducible exact okay_rfl rfl | with_reducible assumption | omega)
    simp only [hq6] at hd
    refine W_seq (W_seq (?_))
    apply W_regS
    · intro K hK
      simp [hd, hl]
      repeat' (first | with_reducible exact hK | (with_reducible refine goL_split (fun _ => ?_) (fun _ => ?_) <;> simp [hd, hl]) | with_reducible refine And.intro ?_ ?_ | with_reducible exact okay_rfl rfl | with_reducible assumption | omega)
    refine W_cond rfl (fun h4 => ?_) (fun h4 => W_skip ?_)
    · simp at h4
    obtain ⟨q7, hq7⟩ : ∃ z : Int, q6 + 1 = z := ⟨_, rfl⟩
    have wq7 : IntKind.i64.wrap (q6 + 1) = q7 := by rw [wrap_id (by omega) (by omega)]; exact hq7
    apply W_regS
    · intro K hK
      simp [wq7]
      repeat' (first | with_reducible exact hK | (with_reducible refine goL_split (fun _ => ?_) (fun _ => ?_) <;> simp [wq7]) | with_reducible refine And.intro ?_ ?_ | with_reducible exact okay_rfl rfl | with_reducible assumption | omega)
    apply W_regS
    · intro K hK
      simp
      repeat' (first | with_reducible exact hK | (with_reducible refine goL_split (fun _ => ?_) (fun _ => ?_) <;> simp) | with_reducible refine And.intro ?_ ?_ | with_reducible exact okay_rfl rfl | with_reducible assumption | omega)
    refine ⟨a.length - (i + 1), by omega, i + 1, q7, rfl, h, by omega, ?_⟩
    simp [gc, closeN, liveA, gcV, gcO, renA, renO, namesAs, namesA, namesO, posn]
    rw [wrap_id (by omega) (by omega)]
  · simp [hl] at h
    rw [List.take_of_length_le h] at hq
    rw [if_pos rfl]
    refine W_seq (?_)
    apply W_regS
    · intro K hK
      simp
      repeat' (first | with_reducible exact hK | (with_reducible refine goL_split (fun _ => ?_) (fun _ => ?_) <;> simp) | with_reducible refine And.intro ?_ ?_ | with_reducible exact okay_rfl rfl | with_reducible assumption | omega)
    subst hq
    refine W_ret ?_
    simp [Fin]
    all_goals omega

theorem szChain_g (x : GChain) (l : Int) (hx : x.ok) (h0 : 0 ≤ l ∧ l ≤ 1048576) : Valid PP GG F_L_szChain [.agg x.c, .d (.int .i64 l)] (.d (.int .i64 (leftR x.cost l))) [none, none] := by
  refine v_L_szChain [.d (.int .i64 (leftR x.cost l))] rfl rfl ?_
  have hco : x.cost = (x.fNotes.length + sumBy GNote.cost x.fNotes) := rfl
  unfold GChain.ok maxLen at hx
  obtain ⟨okFirst0, okSalt0, okNotes0, okNotes1⟩ := hx
  generalize x.cost = co at hco
  refine W_seq (?_)
  apply W_regS
  · intro K hK
    simp
    repeat' (first | with_reducible exact hK | (with_reducible refine goL_split (fun _ => ?_) (fun _ => ?_) <;> simp) | with_reducible refine And.intro ?_ ?_ | with_reducible exact okay_rfl rfl | with_reducible assumption | omega)
  have ct := szNoteS_g (GG := GG) x.fNotes l (by unfold maxLen; omega) okNotes1 ⟨by omega, by omega⟩
  obtain ⟨l1, el1⟩ : ∃ z : Int, leftR (x.fNotes.length + sumBy GNote.cost x.fNotes) l = z := ⟨_, rfl⟩
  rw [el1] at ct
  refine W_seq (?_)
  apply W_regS
  · intro K hK
    simp
    repeat' (first | with_reducible exact hK | (with_reducible refine callQ (ct) ?_; simp) | (with_reducible refine goL_split (fun _ => ?_) (fun _ => ?_) <;> simp) | with_reducible refine And.intro ?_ ?_ | with_reducible exact okay_rfl rfl | with_reducible assumption | omega)
  clear ct
  refine W_seq (W_seq (?_))
  apply W_regS
  · intro K hK
    simp
    repeat' (first | with_reducible exact hK | (with_reducible refine goL_split (fun _ => ?_) (fun _ => ?_) <;> simp) | with_reducible refine And.intro ?_ ?_ | with_reducible exact okay_rfl rfl | with_reducible assumption | omega)
  refine W_cond rfl (fun hh0 => W_seq ?_) (fun hh0 => W_skip ?_)
  · apply W_regS
    · intro K hK
      simp
      repeat' (first | with_reducible exact hK | (with_reducible refine goL_split (fun _ => ?_) (fun _ => ?_) <;> simp) | with_reducible refine And.intro ?_ ?_ | with_reducible exact okay_rfl rfl | with_reducible assumption | omega)
    simp at hh0
    rw [← el1] at hh0
    have hn := leftR_neg (by omega) hh0
    have : leftR co l = -1 := leftR_no (by omega)
    refine W_ret ?_
    simp [Fin, this]
    all_goals omega
  simp at hh0
  rw [← el1] at hh0
  obtain ⟨gl1, jl1⟩ := leftR_pos (Int.not_lt.2 hh0)
  rw [el1] at jl1 hh0
  refine W_seq (?_)
  apply W_regS
  · intro K hK
    simp
    repeat' (first | with_reducible exact hK | (with_reducible refine goL_split (fun _ => ?_) (fun _ => ?_) <;> simp) | with_reducible refine And.intro ?_ ?_ | with_reducible exact okay_rfl rfl | with_reducible assumption | omega)
  have : leftR co l = l1 := by rw [leftR_yes (by omega)]; omega
  refine W_ret ?_
  simp [Fin, this]
  all_goals omega

theorem toChain_g (x : GChain) (hx : x.cost ≤ 1099511627776) : Valid PP GG F_L_toChain [.agg x.c] (.agg x.o) [none] := by
  refine v_L_toChain [.agg x.o] rfl rfl ?_
  have hco : x.cost = (x.fNotes.length + sumBy GNote.cost x.fNotes) := rfl
  refine W_seq (?_)
  apply W_regS
  · intro K hK
    simp
    repeat' (first | with_reducible exact hK | (with_reducible refine goL_split (fun _ => ?_) (fun _ => ?_) <;> simp) | with_reducible refine And.intro ?_ ?_ | with_reducible exact okay_rfl rfl | with_reducible assumption | omega)
  refine W_seq (?_)
  apply W_regS
  · intro K hK
    simp
    repeat' (first | with_reducible exact hK | (with_reducible refine goL_split (fun _ => ?_) (fun _ => ?_) <;> simp) | with_reducible refine And.intro ?_ ?_ | with_reducible exact okay_rfl rfl | with_reducible assumption | omega)
  refine W_seq (?_)
  apply W_regS
  · intro K hK
    simp
    repeat' (first | with_reducible exact hK | (with_reducible refine goL_split (fun _ => ?_) (fun _ => ?_) <;> simp) | with_reducible refine And.intro ?_ ?_ | with_reducible exact okay_rfl rfl | with_reducible assumption | omega)
  refine W_seq (?_)
  apply W_regS
  · intro K hK
    simp
    repeat' (first | with_reducible exact hK | (with_reducible refine goL_split (fun _ => ?_) (fun _ => ?_) <;> simp) | with_reducible refine And.intro ?_ ?_ | with_reducible exact okay_rfl rfl | with_reducible assumption | omega)
  refine W_seq (?_)
  apply W_regS
  · intro K hK
    simp
    repeat' (first | with_reducible exact hK | (with_reducible refine callQ (toNoteS_g x.fNotes (by omega)) ?_; simp) | (with_reducible refine goL_split (fun _ => ?_) (fun _ => ?_) <;> simp) | with_reducible refine And.intro ?_ ?_ | with_reducible exact okay_rfl rfl | with_reducible assumption | omega)
  refine W_seq (?_)
  apply W_regS
  · intro K hK
    simp
    repeat' (first | with_reducible exact hK | (with_reducible refine goL_split (fun _ => ?_) (fun _ => ?_) <;> simp) | with_reducible refine And.intro ?_ ?_ | with_reducible exact okay_rfl rfl | with_reducible assumption | omega)
  refine W_ret ?_
  simp [Fin]
  all_goals omega

theorem eqChain_g (x y : GChain) (hx : x.cost ≤ 1099511627776) (hy : y.cost ≤ 1099511627776) : Valid PP GG F_L_eqChain [.agg x.c, .agg y.c] (.d (.bool (decide (x = y)))) [none, none] := by
  refine v_L_eqChain [.d (.bool (decide (x = y)))] rfl rfl ?_
  have hcx : x.cost = (x.fNotes.length + sumBy GNote.cost x.fNotes) := rfl
  have hcy : y.cost = (y.fNotes.length + sumBy GNote.cost y.fNotes) := rfl
  refine W_seq (?_)
  apply W_regS
  · intro K hK
    simp
    repeat' (first | with_reducible exact hK | (with_reducible refine goL_split (fun _ => ?_) (fun _ => ?_) <;> simp) | with_reducible refine And.intro ?_ ?_ | with_reducible exact okay_rfl rfl | with_reducible assumption | omega)
  refine W_seq (W_seq (?_))
  apply W_regS
  · intro K hK
    simp
    repeat' (first | with_reducible exact hK | (with_reducible refine goL_split (fun _ => ?_) (fun _ => ?_) <;> simp) | with_reducible refine And.intro ?_ ?_ | with_reducible exact okay_rfl rfl | with_reducible assumption | omega)
  refine W_cond rfl (fun h => W_seq ?_) (fun h0 => W_skip ?_)
  · apply W_regS
    · intro K hK
      simp
      repeat' (first | with_reducible exact hK | (with_reducible refine goL_split (fun _ => ?_) (fun _ => ?_) <;> simp) | with_reducible refine And.intro ?_ ?_ | with_reducible exact okay_rfl rfl | with_reducible assumption | omega)
    have : decide (x = y) = false := by rw [decide_eq_false_iff_not]; intro e; rw [e] at h; simp at h
    refine W_ret ?_
    simp [Fin, this]
    all_goals omega
  refine W_seq (W_seq (?_))
  apply W_regS
  · intro K hK
    simp
    repeat' (first | with_reducible exact hK | (with_reducible refine goL_split (fun _ => ?_) (fun _ => ?_) <;> simp) | with_reducible refine And.intro ?_ ?_ | with_reducible exact okay_rfl rfl | with_reducible assumption | omega)
  refine W_cond rfl (fun h => W_seq ?_) (fun h1 => W_skip ?_)
  · apply W_regS
    · intro K hK
      simp
      repeat' (first | with_reducible exact hK | (with_reducible refine goL_split (fun _ => ?_) (fun _ => ?_) <;> simp) | with_reducible refine And.intro ?_ ?_ | with_reducible exact okay_rfl rfl | with_reducible assumption | omega)
    have : decide (x = y) = false := by rw [decide_eq_false_iff_not]; intro e; rw [e] at h; simp at h
    refine W_ret ?_
    simp [Fin, this]
    all_goals omega
  refine W_seq (W_seq (?_))
  apply W_regS
  · intro K hK
    simp
    repeat' (first | with_reducible exact hK | (with_reducible refine callQ (eqNoteS_g x.fNotes y.fNotes (by omega) (by omega)) ?_; simp) | (with_reducible refine goL_split (fun _ => ?_) (fun _ => ?_) <;> simp) | with_reducible refine And.intro ?_ ?_ | with_reducible exact okay_rfl rfl | with_reducible assumption | omega)
  refine W_cond rfl (fun h => W_seq ?_) (fun h2 => W_skip ?_)
  · apply W_regS
    · intro K hK
      simp
      repeat' (first | with_reducible exact hK | (with_reducible refine goL_split (fun _ => ?_) (fun _ => ?_) <;> simp) | with_reducible refine And.intro ?_ ?_ | with_reducible exact okay_rfl rfl | with_reducible assumption | omega)
    have : decide (x = y) = false := by rw [decide_eq_false_iff_not]; intro e; rw [e] at h; simp at h
    refine W_ret ?_
    simp [Fin, this]
    all_goals omega
  refine W_seq (?_)
  apply W_regS
  · intro K hK
    simp
    repeat' (first | with_reducible exact hK | (with_reducible refine goL_split (fun _ => ?_) (fun _ => ?_) <;> simp) | with_reducible refine And.intro ?_ ?_ | with_reducible exact okay_rfl rfl | with_reducible assumption | omega)
  have : decide (x = y) = true := by
    rw [decide_eq_true_iff]
    cases x; cases y
    simp at h0 h1 h2
    simp_all
  refine W_ret ?_
  simp [Fin, this]
  all_goals omega

theorem markChain_g (x : GChain) (k : Int) (hx : x.cost ≤ 1099511627776) (hk : 0 ≤ k ∧ k + (x.marksIn : Nat) ≤ 140737488355328) :
    Valid PP GG F_L_markChain [.agg x.o, .d (.int .i64 k)] (.d (.int .i64 (k + (x.marksIn : Nat)))) [some (.agg (x.markIn k).o), none] := by
  refine v_L_markChain [.d (.int .i64 (k + (x.marksIn : Nat)))] rfl rfl ?_
  have hco : x.cost = (x.fNotes.length + sumBy GNote.cost x.fNotes) := rfl
  have hms : x.marksIn = sumBy GNote.marks x.fNotes := rfl
  refine W_seq (?_)
  apply W_regS
  · intro K hK
    simp
    repeat' (first | with_reducible exact hK | (with_reducible refine goL_split (fun _ => ?_) (fun _ => ?_) <;> simp) | with_reducible refine And.intro ?_ ?_ | with_reducible exact okay_rfl rfl | with_reducible assumption | omega)
  have ct := markNoteS_g (GG := GG) x.fNotes k (by omega) (by omega)
  refine W_seq (?_)
  apply W_regS
  · intro K hK
    simp
    repeat' (first | with_reducible exact hK | (with_reducible refine callQ (ct) ?_; simp) | (with_reducible refine goL_split (fun _ => ?_) (fun _ => ?_) <;> simp) | with_reducible refine And.intro ?_ ?_ | with_reducible exact okay_rfl rfl | with_reducible assumption | omega)
  refine W_seq (?_)
  apply W_regS
  · intro K hK
    simp
    repeat' (first | with_reducible exact hK | (with_reducible refine goL_split (fun _ => ?_) (fun _ => ?_) <;> simp) | with_reducible refine And.intro ?_ ?_ | with_reducible exact okay_rfl rfl | with_reducible assumption | omega)
  have hfin : (k + ((sumBy GNote.marks x.fNotes : Nat) : Int)) = k + (x.marksIn : Nat) := by omega
  simp only [GChain.markIn]
  refine W_ret ?_
  simp [Fin, hfin]
  all_goals omega

theorem heldChain_g (x : GChain) (k : Int) (hx : x.cost ≤ 1099511627776) (hk : 0 ≤ k ∧ k + (x.marksIn : Nat) ≤ 140737488355328) :
    Valid PP GG F_L_heldChain [.agg (x.markIn k).c, .d (.int .i64 k)] (.d (.int .i64 (k + (x.marksIn : Nat)))) [none, none] := by
  refine v_L_heldChain [.d (.int .i64 (k + (x.marksIn : Nat)))] rfl rfl ?_
  have hco : x.cost = (x.fNotes.length + sumBy GNote.cost x.fNotes) := rfl
  have hms : x.marksIn = sumBy GNote.marks x.fNotes := rfl
  simp only [GChain.markIn]
  refine W_seq (?_)
  apply W_regS
  · intro K hK
    simp
    repeat' (first | with_reducible exact hK | (with_reducible refine goL_split (fun _ => ?_) (fun _ => ?_) <;> simp) | with_reducible refine And.intro ?_ ?_ | with_reducible exact okay_rfl rfl | with_reducible assumption | omega)
  have ct := heldNoteS_g (GG := GG) x.fNotes k (by omega) (by omega)
  refine W_seq (?_)
  apply W_regS
  · intro K hK
    simp
    repeat' (first | with_reducible exact hK | (with_reducible refine callQ (ct) ?_; simp) | (with_reducible refine goL_split (fun _ => ?_) (fun _ => ?_) <;> simp) | with_reducible refine And.intro ?_ ?_ | with_reducible exact okay_rfl rfl | with_reducible assumption | omega)
  refine W_seq (W_seq (?_))
  apply W_regS
  · intro K hK
    simp
    repeat' (first | with_reducible exact hK | (with_reducible refine goL_split (fun _ => ?_) (fun _ => ?_) <;> simp) | with_reducible refine And.intro ?_ ?_ | with_reducible exact okay_rfl rfl | with_reducible assumption | omega)
  refine W_cond rfl (fun h => ?_) (fun h => W_skip ?_)
  · simp at h; omega
  refine W_seq (?_)
  apply W_regS
  · intro K hK
    simp
    repeat' (first | with_reducible exact hK | (with_reducible refine goL_split (fun _ => ?_) (fun _ => ?_) <;> simp) | with_reducible refine And.intro ?_ ?_ | with_reducible exact okay_rfl rfl | with_reducible assumption | omega)
  have hfin : (k + ((sumBy GNote.marks x.fNotes : Nat) : Int)) = k + (x.marksIn : Nat) := by omega

  refine W_ret ?_
  simp [Fin, hfin]
  all_goals omega

theorem i_AddNote_ok [P10 GG] [MaxL GG] (c : GChain) (n : GNote) (hok : c.ok) (hon : n.ok) (hc : c.cost + n.cost ≤ 1048576) : Valid PP GG F_I_AddNote [.agg c.c, .agg n.c] (.tup [.agg (addC c n).o, .d (.bool (addB c n))]) [none, none] := by
  refine v_I_AddNote [.agg (addC c n).o, .d (.bool (addB c n))] rfl rfl ?_
  have cc := isChain_ok (GG := GG) c (by omega)
  have cp := cloneChain_ok (GG := GG) c (by omega)
  have hind := ind_rNote (addC c n).fNotes
  cases hk : chainOk c with
  | false =>
    rw [hk] at cc
    have hB : addB c n = false := by unfold addB; rw [hk]; rfl
    have hC : addC c n = c := by unfold addC; rw [hB]; rfl
    rw [hB, hC]
    repeat' (first | refine W_seq ?_ | refine W_skip ?_ | (refine W_regP fun K hK => ?_; simp) | (refine W_regPD fun K hK => ?_; simp) | (with_reducible refine hK _ ?_; clear hK K) | (with_reducible refine callQ (cc) ?_; simp) | (with_reducible refine callQ (cp) ?_; simp) | (with_reducible refine goL_split (fun h => ?_) (fun h => ?_) <;> first | (exfalso; simp at h; done) | (exfalso; simp at h; omega) | ((try simp at h); simp)) | with_reducible refine And.intro ?_ ?_ | with_reducible exact okay_rfl rfl | with_reducible assumption | (refine W_cond rfl (fun h => ?_) (fun h => ?_) <;> first | (exfalso; simp at h; done) | (exfalso; simp at h; omega) | (try simp at h)) | (refine W_ret ?_; simp [Fin]) | omega)
  | true =>
    rw [hk] at cc
    have ca := addNote_ok (GG := GG) c n hok hon hc hk
    generalize addC c n = g at ca hind ⊢
    generalize addB c n = b at ca ⊢
    repeat' (first | refine W_seq ?_ | refine W_skip ?_ | (refine W_regP fun K hK => ?_; simp) | (refine W_regPD fun K hK => ?_; simp) | (with_reducible refine hK _ ?_; clear hK K) | (with_reducible refine callQ (cc) ?_; simp) | (with_reducible refine callQ (ca) ?_; simp) | (with_reducible refine goL_split (fun h => ?_) (fun h => ?_) <;> first | (exfalso; simp at h; done) | (exfalso; simp at h; omega) | ((try simp at h); simp)) | with_reducible refine And.intro ?_ ?_ | with_reducible exact okay_rfl rfl | with_reducible assumption | (refine W_cond rfl (fun h => ?_) (fun h => ?_) <;> first | (exfalso; simp at h; done) | (exfalso; simp at h; omega) | (try simp at h)) | (refine W_ret ?_; simp [Fin]) | omega)

theorem addC_cost (c : GChain) (n : GNote) : (addC c n).cost ≤ c.cost + 1 + n.cost := by
  unfold addC
  split
  · exact grown_cost c _
  · omega

theorem chain_marks {r : GChain} (h : r.cost ≤ 4194304) : r.marksIn ≤ 400000000 := by
  have hco : r.cost = r.fNotes.length + sumBy GNote.cost r.fNotes := rfl
  have := sumBy_le GNote.marks_le r.fNotes
  show sumBy GNote.marks r.fNotes ≤ _
  omega

theorem law_AddNote [P10 GG] [MaxL GG] (c : GChain) (n : GNote) (hok : c.ok) (hon : n.ok) : Valid PP GG F_L_FnExactAddNote [.agg c.c, .agg n.c] (.d (.bool true)) [none, none] := by
  refine v_L_FnExactAddNote [.d (.bool true)] rfl rfl ?_
  have csz := szChain_g (GG := GG) c 1048576 hok ⟨by omega, by omega⟩
  by_cases hcost : c.cost ≤ 1048576
  · rw [leftR_yes (by omega)] at csz
    have csz2 := szNote_g (GG := GG) n (1048576 - c.cost) hon ⟨by omega, by omega⟩
    by_cases hcost2 : c.cost + n.cost ≤ 1048576
    · rw [leftR_yes (by omega)] at csz2
      have ct := toChain_g (GG := GG) c (by omega)
      have cn := toNote_g (GG := GG) n (by omega)
      have cex := eqChain_g (GG := GG) c c (by omega) (by omega)
      rw [decide_eq_true rfl] at cex
      have hmr := chain_marks (r := c) (by omega)
      have ck := markChain_g (GG := GG) c 1 (by omega) ⟨by omega, by omega⟩
      have cs := s_AddNote_ok (GG := GG) c n hok hon hcost2
      have ci := i_AddNote_ok (GG := GG) c n hok hon hcost2
      have hgc := addC_cost c n
      generalize addC c n = g at cs ci hgc
      generalize addB c n = b at cs ci
      have ce := eqChain_g (GG := GG) g g (by omega) (by omega)
      rw [decide_eq_true rfl] at ce
      have hind := ind_rNote g.fNotes
      have hmg := chain_marks (r := g) (by omega)
      have cm := markChain_g (GG := GG) g 1 (by omega) ⟨by omega, by omega⟩
      have ch := heldChain_g (GG := GG) g 1 (by omega) ⟨by omega, by omega⟩
      simp only [GChain.markIn] at ck cm ch
      repeat' (first | refine W_seq ?_ | refine W_skip ?_ | (refine W_regP fun K hK => ?_; simp) | (refine W_regPD fun K hK => ?_; simp) | (with_reducible refine hK _ ?_; clear hK K) | (with_reducible refine callQ (csz) ?_; simp) | (with_reducible refine callQ (csz2) ?_; simp) | (with_reducible refine callQ (ct) ?_; simp) | (with_reducible refine callQ (cn) ?_; simp) | (with_reducible refine callQ (cs) ?_; simp) | (with_reducible refine callQ (ci) ?_; simp) | (with_reducible refine callQ (ce) ?_; simp) | (with_reducible refine callQ (cex) ?_; simp) | (with_reducible refine callQ (ck) ?_; simp) | (with_reducible refine callQ (cm) ?_; simp) | (with_reducible refine callQ (ch) ?_; simp) | (with_reducible refine goL_split (fun h => ?_) (fun h => ?_) <;> first | (exfalso; simp at h; done) | (exfalso; simp at h; omega) | ((try simp at h); simp)) | with_reducible refine And.intro ?_ ?_ | with_reducible exact okay_rfl rfl | with_reducible assumption | (refine W_cond rfl (fun h => ?_) (fun h => ?_) <;> first | (exfalso; simp at h; done) | (exfalso; simp at h; omega) | (try simp at h)) | (refine W_ret ?_; simp [Fin]) | omega)
    · rw [leftR_no (by omega)] at csz2
      repeat' (first | refine W_seq ?_ | refine W_skip ?_ | (refine W_regP fun K hK => ?_; simp) | (refine W_regPD fun K hK => ?_; simp) | (with_reducible refine hK _ ?_; clear hK K) | (with_reducible refine callQ (csz) ?_; simp) | (with_reducible refine callQ (csz2) ?_; simp) | (with_reducible refine goL_split (fun h => ?_) (fun h => ?_) <;> first | (exfalso; simp at h; done) | (exfalso; simp at h; omega) | ((try simp at h); simp)) | with_reducible refine And.intro ?_ ?_ | with_reducible exact okay_rfl rfl | with_reducible assumption | (refine W_cond rfl (fun h => ?_) (fun h => ?_) <;> first | (exfalso; simp at h; done) | (exfalso; simp at h; omega) | (try simp at h)) | (refine W_ret ?_; simp [Fin]) | omega)
  · rw [leftR_no (by omega)] at csz
    repeat' (first | refine W_seq ?_ | refine W_skip ?_ | (refine W_regP fun K hK => ?_; simp) | (refine W_regPD fun K hK => ?_; simp) | (with_reducible refine hK _ ?_; clear hK K) | (with_reducible refine callQ (csz) ?_; simp) | (with_reducible refine goL_split (fun h => ?_) (fun h => ?_) <;> first | (exfalso; simp at h; done) | (exfalso; simp at h; omega) | ((try simp at h); simp)) | with_reducible refine And.intro ?_ ?_ | with_reducible exact okay_rfl rfl | with_reducible assumption | (refine W_cond rfl (fun h => ?_) (fun h => ?_) <;> first | (exfalso; simp at h; done) | (exfalso; simp at h; omega) | (try simp at h)) | (refine W_ret ?_; simp [Fin]) | omega)

theorem typ_GNote {k : Nat} {ds : List D} (h : Typ Tryd.prog (k + 2) 35 ds) : ∃ x : GNote, ds = x.row ∧ x.ok := by
  obtain ⟨hl, hf⟩ := typ_struct Tryd.underlying35 h
  rw [show Tryd.prog.cellsOf 35 = 7 by kernel_rfl] at hl
  match ds, hl, hf with
  | [a0, a1, a2, a3, a4, a5, a6], _, hf =>
    obtain ⟨x0, e0, i0⟩ := typ_int (ds := [a0]) Tryd.underlying3 (typ_field hf 0 rfl (n := 1) (by kernel_rfl))
    obtain ⟨x1, e1, i1⟩ := typ_int (ds := [a1]) Tryd.underlying3 (typ_field hf 1 rfl (n := 1) (by kernel_rfl))
    obtain ⟨x2, e2, i2⟩ := typ_int (ds := [a2]) Tryd.underlying3 (typ_field hf 2 rfl (n := 1) (by kernel_rfl))
    obtain ⟨x3, e3, i3⟩ := typ_str (ds := [a3]) Tryd.underlying9 (typ_field hf 3 rfl (n := 1) (by kernel_rfl))
    obtain ⟨x4, e4, i4⟩ := typ_str (ds := [a4]) Tryd.underlying9 (typ_field hf 4 rfl (n := 1) (by kernel_rfl))
    obtain ⟨x5, e5, i5⟩ := typ_int (ds := [a5]) Tryd.underlying3 (typ_field hf 5 rfl (n := 1) (by kernel_rfl))
    obtain ⟨x6, e6, i6⟩ := typ_int (ds := [a6]) Tryd.underlying3 (typ_field hf 6 rfl (n := 1) (by kernel_rfl))
    cases e0; cases e1; cases e2; cases e3; cases e4; cases e5; cases e6
    exact ⟨{ fSeq := x0, fAt := x1, fWho := x2, fWhat := x3, fPath := x4, fCode := x5, fSum := x6 }, rfl, ⟨i0, i1, i2, i3, i4, i5, i6⟩⟩

theorem typ_GChain {k : Nat} {ds : List D} (h : Typ Tryd.prog (k + 4) 24 ds) : ∃ x : GChain, ds = x.row ∧ x.ok := by
  obtain ⟨hl, hf⟩ := typ_struct Tryd.underlying24 h
  rw [show Tryd.prog.cellsOf 24 = 3 by kernel_rfl] at hl
  match ds, hl, hf with
  | [a0, a1, a2], _, hf =>
    obtain ⟨x0, e0, i0⟩ := typ_int (ds := [a0]) Tryd.underlying3 (typ_field hf 0 rfl (n := 1) (by kernel_rfl))
    obtain ⟨x1, e1, i1⟩ := typ_int (ds := [a1]) Tryd.underlying3 (typ_field hf 1 rfl (n := 1) (by kernel_rfl))
    obtain ⟨r2, e2, i2a, w2⟩ := typ_slc (ds := [a2]) Tryd.underlying22 (typ_field hf 2 rfl (n := 1) (by kernel_rfl))
    rw [show Tryd.prog.cellsOf 35 = 7 by kernel_rfl] at e2
    obtain ⟨x2, rfl, i2b⟩ := rows_of (p := GNote.ok) (f := GNote.row) r2 fun r hr => typ_GNote (w2 r hr)
    rw [List.length_map] at i2a
    cases e0; cases e1; cases e2
    exact ⟨{ fFirst := x0, fSalt := x1, fNotes := x2 }, rfl, ⟨i0, i1, i2a, i2b⟩⟩

end Go.Proofs.YtpboimnecoakiaaDoor.Ab

