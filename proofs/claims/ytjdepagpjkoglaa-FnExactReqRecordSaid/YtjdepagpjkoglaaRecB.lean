/-
  A part of a proof about the given program; what is proved is said where each theorem stands.
-/
import Derived.Test.YtjdepagpjkoglaaFrameA
import Derived.Test.YtjdepagpjkoglaaFrameB
import Derived.Test.YtjdepagpjkoglaaFrameC
import Derived.Test.YtjdepagpjkoglaaFrameD
import Derived.Test.YtjdepagpjkoglaaFrameE
import Derived.Test.YtjdepagpjkoglaaCodesRec
import Derived.Test.YtjdepagpjkoglaaRecA
set_option linter.unusedSimpArgs false
set_option maxRecDepth 100000
namespace Go.Proofs.Ytjdepagpjkoglaa.Ab

theorem s_RecordOk_ok (k : Int) (ns : List Int) (ts : List (List UInt8)) (h1 : ns.length ≤ 281474976710656) (h2 : ts.length ≤ 281474976710656) :
    Valid PP F_S_RecordOk [.agg [.d (.int .i64 k), .d (.slc 1 (intsD ns)), .d (.slc 1 (strsD ts))]] (.d (.bool (recOk k ns ts))) [none] := by
  refine v_S_RecordOk [.d (.bool (recOk k ns ts))] rfl rfl ?_
  refine W_seq (?_)
  apply W_regS
  · intro K hK
    simp
    repeat' (first | with_reducible exact hK | (with_reducible refine goL_split (fun _ => ?_) (fun _ => ?_) <;> simp) | with_reducible refine And.intro ?_ ?_ | with_reducible exact okay_rfl rfl | omega)
  refine W_seq (W_seq (?_))
  refine W_regB 20 (!(decide (0 ≤ k) && decide (k ≤ 99)) || (decide (40 < (ns.length : Int)) || decide (40 < (ts.length : Int)))) (fun K hK => ?_) ?_
  · simp
    repeat' (first | exact hK _ _ (by clear hK; first | omega | (simp [*]; done) | (simp [*]; omega) | (simp_all; done) | (simp_all; omega)) | (with_reducible refine callQ (l01In_ok _ _ _) ?_; simp) | (with_reducible refine goL_split (fun _ => ?_) (fun _ => ?_) <;> simp) | with_reducible refine And.intro ?_ ?_ | with_reducible exact okay_rfl rfl | omega)
  refine W_cond rfl (fun h => W_seq ?_) (fun hc => W_skip ?_)
  · apply W_regS
    · intro K hK
      simp
      repeat' (first | with_reducible exact hK | (with_reducible refine goL_split (fun _ => ?_) (fun _ => ?_) <;> simp) | with_reducible refine And.intro ?_ ?_ | with_reducible exact okay_rfl rfl | omega)
    have : recOk k ns ts = false := by
      unfold recOk
      simp at h ⊢
      intro a1 a2 a3 a4
      exfalso
      omega
    refine W_ret ?_
    simp [Fin, this]
    all_goals omega
  simp at hc
  obtain ⟨⟨hk1, hk2⟩, hn, ht⟩ := hc
  refine W_seq (W_seq (?_))
  apply W_regS
  · intro K hK
    simp
    repeat' (first | with_reducible exact hK | (with_reducible refine goL_split (fun _ => ?_) (fun _ => ?_) <;> simp) | with_reducible refine And.intro ?_ ?_ | with_reducible exact okay_rfl rfl | omega)
  refine W_block (W_loop (fun n st => ∃ i : Nat, n = ns.length - i ∧ i ≤ ns.length ∧ (∀ x, x ∈ ns.take i → numOk x = true) ∧
    st = ⟨[], [(1, .ptr 0 0), (3, .d (.int .i64 i))], [(0, .box [.d (.int .i64 k), .d (.slc 1 (intsD ns)), .d (.slc 1 (strsD ts))])], 1⟩) _ ⟨0, rfl, by omega, fun x hx => by simp at hx, rfl⟩ ?_)
  rintro n st ⟨i, rfl, hi, hall, rfl⟩
  refine W_seq (W_seq (?_))
  apply W_regS
  · intro K hK
    simp
    repeat' (first | with_reducible exact hK | (with_reducible refine goL_split (fun _ => ?_) (fun _ => ?_) <;> simp) | with_reducible refine And.intro ?_ ?_ | with_reducible exact okay_rfl rfl | omega)
  refine W_cond rfl (fun h => W_skip ?_) (fun h => W_exit ?_)
  · simp at h
    have ha := List.getElem?_eq_getElem h
    have hm := List.getElem_mem h
    generalize ns[i] = x at ha hm
    refine W_seq (W_block (W_seq ?_))
    apply W_regS
    · intro K hK
      simp [ha]
      repeat' (first | with_reducible exact hK | (with_reducible refine callQ (l01In_ok _ _ _) ?_; simp [ha]) | (with_reducible refine goL_split (fun _ => ?_) (fun _ => ?_) <;> simp [ha]) | with_reducible refine And.intro ?_ ?_ | with_reducible exact okay_rfl rfl | omega)
    refine W_cond rfl (fun h3 => W_seq ?_) (fun h3 => W_skip ?_)
    · apply W_regS
      · intro K hK
        simp
        repeat' (first | with_reducible exact hK | (with_reducible refine goL_split (fun _ => ?_) (fun _ => ?_) <;> simp) | with_reducible refine And.intro ?_ ?_ | with_reducible exact okay_rfl rfl | omega)
      have : recOk k ns ts = false := by
        have : ns.all numOk = false := by
          rw [List.all_eq_false]
          refine ⟨x, hm, ?_⟩
          unfold numOk
          simp at h3 ⊢
          omega
        simp only [recOk, this, Bool.false_and, Bool.and_false]
      refine W_ret ?_
      simp [Fin, this]
      all_goals omega
    apply W_regS
    · intro K hK
      simp
      repeat' (first | with_reducible exact hK | (with_reducible refine goL_split (fun _ => ?_) (fun _ => ?_) <;> simp) | with_reducible refine And.intro ?_ ?_ | with_reducible exact okay_rfl rfl | omega)
    have h3' : numOk x = true := by unfold numOk; simpa using h3
    refine ⟨ns.length - (i + 1), by omega, i + 1, rfl, h, fun y hy => ?_, by simp [gc, closeN, liveA, gcV, gcO, renA, renAs, renO, namesAs, namesA, namesO, posn]; rw [wrap_id (by omega) (by omega)]⟩
    rw [List.take_add_one, ha] at hy
    rcases List.mem_append.1 hy with hy | hy
    · exact hall y hy
    · simp at hy; subst hy; exact h3'
  simp at h
  rw [if_pos rfl]
  have hA : ns.all numOk = true := by
    rw [List.all_eq_true]
    intro x hx
    exact hall x (by rwa [List.take_of_length_le h])
  refine W_seq (W_seq (?_))
  apply W_regS
  · intro K hK
    simp
    repeat' (first | with_reducible exact hK | (with_reducible refine goL_split (fun _ => ?_) (fun _ => ?_) <;> simp) | with_reducible refine And.intro ?_ ?_ | with_reducible exact okay_rfl rfl | omega)
  refine W_block (W_loop (fun n st => ∃ i : Nat, n = ts.length - i ∧ i ≤ ts.length ∧ (∀ x, x ∈ ts.take i → textOk x = true) ∧
    st = ⟨[], [(1, .ptr 0 0), (4, .d (.int .i64 i))], [(0, .box [.d (.int .i64 k), .d (.slc 1 (intsD ns)), .d (.slc 1 (strsD ts))])], 1⟩) _ ⟨0, rfl, by omega, fun x hx => by simp at hx, rfl⟩ ?_)
  rintro n st ⟨j, rfl, hj, hallt, rfl⟩
  refine W_seq (W_seq (?_))
  apply W_regS
  · intro K hK
    simp
    repeat' (first | with_reducible exact hK | (with_reducible refine goL_split (fun _ => ?_) (fun _ => ?_) <;> simp) | with_reducible refine And.intro ?_ ?_ | with_reducible exact okay_rfl rfl | omega)
  refine W_cond rfl (fun h => W_skip ?_) (fun h => W_exit ?_)
  · simp at h
    have ha := List.getElem?_eq_getElem h
    have hm := List.getElem_mem h
    generalize ts[j] = x at ha hm
    refine W_seq (W_block (W_seq ?_))
    apply W_regS
    · intro K hK
      simp [ha]
      repeat' (first | with_reducible exact hK | (with_reducible refine goL_split (fun _ => ?_) (fun _ => ?_) <;> simp [ha]) | with_reducible refine And.intro ?_ ?_ | with_reducible exact okay_rfl rfl | omega)
    refine W_cond rfl (fun h3 => W_seq ?_) (fun h3 => W_skip ?_)
    · apply W_regS
      · intro K hK
        simp
        repeat' (first | with_reducible exact hK | (with_reducible refine goL_split (fun _ => ?_) (fun _ => ?_) <;> simp) | with_reducible refine And.intro ?_ ?_ | with_reducible exact okay_rfl rfl | omega)
      have : recOk k ns ts = false := by
        have : ts.all textOk = false := by
          rw [List.all_eq_false]
          refine ⟨x, hm, ?_⟩
          unfold textOk
          simp at h3 ⊢
          omega
        simp only [recOk, this, Bool.and_false]
      refine W_ret ?_
      simp [Fin, this]
      all_goals omega
    apply W_regS
    · intro K hK
      simp
      repeat' (first | with_reducible exact hK | (with_reducible refine goL_split (fun _ => ?_) (fun _ => ?_) <;> simp) | with_reducible refine And.intro ?_ ?_ | with_reducible exact okay_rfl rfl | omega)
    have h3' : textOk x = true := by unfold textOk; simp at h3 ⊢; omega
    refine ⟨ts.length - (j + 1), by omega, j + 1, rfl, h, fun y hy => ?_, by simp [gc, closeN, liveA, gcV, gcO, renA, renAs, renO, namesAs, namesA, namesO, posn]; rw [wrap_id (by omega) (by omega)]⟩
    rw [List.take_add_one, ha] at hy
    rcases List.mem_append.1 hy with hy | hy
    · exact hallt y hy
    · simp at hy; subst hy; exact h3'
  simp at h
  rw [if_pos rfl]
  have hT : ts.all textOk = true := by
    rw [List.all_eq_true]
    intro x hx
    exact hallt x (by rwa [List.take_of_length_le h])
  refine W_seq (?_)
  apply W_regS
  · intro K hK
    simp
    repeat' (first | with_reducible exact hK | (with_reducible refine goL_split (fun _ => ?_) (fun _ => ?_) <;> simp) | with_reducible refine And.intro ?_ ?_ | with_reducible exact okay_rfl rfl | omega)
  have : recOk k ns ts = true := by
    simp only [recOk, hA, hT, Bool.and_true, Bool.and_eq_true, decide_eq_true_eq]
    exact ⟨⟨hk1, hk2⟩, hn, ht⟩
  refine W_ret ?_
  simp [Fin, this]
  all_goals omega

end Go.Proofs.Ytjdepagpjkoglaa.Ab


set_option linter.unusedSimpArgs false
set_option maxRecDepth 100000
namespace Go.Proofs.Ytjdepagpjkoglaa.Ab

/-- What is left of an allowance. -/
def szN (n : Nat) (l : Int) : Int := if l - n < 0 then -1 else l - n
def szTs : List (List UInt8) → Int → Int
  | [], l => l
  | s :: r, l => if l - s.length < 0 then -1 else szTs r (l - s.length)
def szT (a : List (List UInt8)) (l : Int) : Int := if l - a.length < 0 then -1 else szTs a (l - a.length)

theorem szIntS_ok (a : List Int) (l : Int) (h1 : a.length ≤ maxLen) (h2 : 0 ≤ l ∧ l ≤ 1048576) : Valid PP F_L_szIntS [.d (.slc 1 (intsD a)), .d (.int .i64 l)] (.d (.int .i64 (szN a.length l))) [none, none] := by
  refine v_L_szIntS [.d (.int .i64 (szN a.length l))] rfl rfl ?_
  unfold maxLen at h1
  have hw : IntKind.i64.wrap (l - a.length) = l - a.length := wrap_id (by omega) (by omega)
  refine W_seq (?_)
  apply W_regS
  · intro K hK
    simp
    repeat' (first | with_reducible exact hK | (with_reducible refine goL_split (fun _ => ?_) (fun _ => ?_) <;> simp) | with_reducible refine And.intro ?_ ?_ | with_reducible exact okay_rfl rfl | omega)
  refine W_seq (?_)
  apply W_regS
  · intro K hK
    simp [hw]
    repeat' (first | with_reducible exact hK | (with_reducible refine goL_split (fun _ => ?_) (fun _ => ?_) <;> simp [hw]) | with_reducible refine And.intro ?_ ?_ | with_reducible exact okay_rfl rfl | omega)
  refine W_seq (W_seq (?_))
  apply W_regS
  · intro K hK
    simp
    repeat' (first | with_reducible exact hK | (with_reducible refine goL_split (fun _ => ?_) (fun _ => ?_) <;> simp) | with_reducible refine And.intro ?_ ?_ | with_reducible exact okay_rfl rfl | omega)
  refine W_cond rfl (fun h => W_seq ?_) (fun h => W_skip ?_)
  · apply W_regS
    · intro K hK
      simp
      repeat' (first | with_reducible exact hK | (with_reducible refine goL_split (fun _ => ?_) (fun _ => ?_) <;> simp) | with_reducible refine And.intro ?_ ?_ | with_reducible exact okay_rfl rfl | omega)
    simp at h
    have : szN a.length l = -1 := by unfold szN; rw [if_pos h]
    refine W_ret ?_
    simp [Fin, this]
    all_goals omega
  simp at h
  refine W_seq (?_)
  apply W_regS
  · intro K hK
    simp
    repeat' (first | with_reducible exact hK | (with_reducible refine goL_split (fun _ => ?_) (fun _ => ?_) <;> simp) | with_reducible refine And.intro ?_ ?_ | with_reducible exact okay_rfl rfl | omega)
  have : szN a.length l = l - a.length := by unfold szN; rw [if_neg (by omega)]
  refine W_ret ?_
  simp [Fin, this]
  all_goals omega

theorem szStringS_ok (a : List (List UInt8)) (l : Int) (h1 : a.length ≤ maxLen) (h2 : 0 ≤ l ∧ l ≤ 1048576) (h3 : ∀ s, s ∈ a → s.length ≤ maxLen) : Valid PP F_L_szStringS [.d (.slc 1 (strsD a)), .d (.int .i64 l)] (.d (.int .i64 (szT a l))) [none, none] := by
  refine v_L_szStringS [.d (.int .i64 (szT a l))] rfl rfl ?_
  unfold maxLen at h1 h3
  have hw : IntKind.i64.wrap (l - a.length) = l - a.length := wrap_id (by omega) (by omega)
  refine W_seq (?_)
  apply W_regS
  · intro K hK
    simp
    repeat' (first | with_reducible exact hK | (with_reducible refine goL_split (fun _ => ?_) (fun _ => ?_) <;> simp) | with_reducible refine And.intro ?_ ?_ | with_reducible exact okay_rfl rfl | omega)
  refine W_seq (?_)
  apply W_regS
  · intro K hK
    simp [hw]
    repeat' (first | with_reducible exact hK | (with_reducible refine goL_split (fun _ => ?_) (fun _ => ?_) <;> simp [hw]) | with_reducible refine And.intro ?_ ?_ | with_reducible exact okay_rfl rfl | omega)
  refine W_seq (W_seq (?_))
  apply W_regS
  · intro K hK
    simp
    repeat' (first | with_reducible exact hK | (with_reducible refine goL_split (fun _ => ?_) (fun _ => ?_) <;> simp) | with_reducible refine And.intro ?_ ?_ | with_reducible exact okay_rfl rfl | omega)
  refine W_cond rfl (fun h => W_seq ?_) (fun h => W_skip ?_)
  · apply W_regS
    · intro K hK
      simp
      repeat' (first | with_reducible exact hK | (with_reducible refine goL_split (fun _ => ?_) (fun _ => ?_) <;> simp) | with_reducible refine And.intro ?_ ?_ | with_reducible exact okay_rfl rfl | omega)
    simp at h
    have : szT a l = -1 := by unfold szT; rw [if_pos h]
    refine W_ret ?_
    simp [Fin, this]
    all_goals omega
  simp at h
  have e0 : szT a l = szTs a (l - a.length) := by unfold szT; rw [if_neg (by omega)]
  rw [e0]
  refine W_seq (W_seq (?_))
  apply W_regS
  · intro K hK
    simp
    repeat' (first | with_reducible exact hK | (with_reducible refine goL_split (fun _ => ?_) (fun _ => ?_) <;> simp) | with_reducible refine And.intro ?_ ?_ | with_reducible exact okay_rfl rfl | omega)
  refine W_block (W_loop (fun n st => ∃ (i : Nat) (m : Int), n = a.length - i ∧ i ≤ a.length ∧ 0 ≤ m ∧ m ≤ 1048576 ∧ szTs (a.drop i) m = szTs a (l - a.length) ∧
    st = ⟨[], [(0, .d (.slc 1 (strsD a))), (1, .d (.int .i64 m)), (5, .d (.int .i64 i))], [], 0⟩) _ ⟨0, _, rfl, by omega, by omega, by omega, by simp, rfl⟩ ?_)
  rintro n st ⟨i, m, rfl, hi, hm1, hm2, he, rfl⟩
  refine W_seq (W_seq (?_))
  apply W_regS
  · intro K hK
    simp
    repeat' (first | with_reducible exact hK | (with_reducible refine goL_split (fun _ => ?_) (fun _ => ?_) <;> simp) | with_reducible refine And.intro ?_ ?_ | with_reducible exact okay_rfl rfl | omega)
  refine W_cond rfl (fun h => W_skip ?_) (fun h => W_exit ?_)
  · simp at h
    have ha := List.getElem?_eq_getElem h
    have hm := List.getElem_mem h
    have hd := List.drop_eq_getElem_cons h
    generalize a[i] = x at ha hm hd
    have hx := h3 x hm
    have hw2 : IntKind.i64.wrap (m - x.length) = m - x.length := wrap_id (by omega) (by omega)
    rw [hd] at he
    simp only [szTs] at he
    refine W_seq (W_block (W_seq ?_))
    apply W_regS
    · intro K hK
      simp [ha, hw2]
      repeat' (first | with_reducible exact hK | (with_reducible refine goL_split (fun _ => ?_) (fun _ => ?_) <;> simp [ha, hw2]) | with_reducible refine And.intro ?_ ?_ | with_reducible exact okay_rfl rfl | omega)
    refine W_seq (?_)
    apply W_regS
    · intro K hK
      simp
      repeat' (first | with_reducible exact hK | (with_reducible refine goL_split (fun _ => ?_) (fun _ => ?_) <;> simp) | with_reducible refine And.intro ?_ ?_ | with_reducible exact okay_rfl rfl | omega)
    refine W_cond rfl (fun h4 => W_seq ?_) (fun h4 => W_skip ?_)
    · apply W_regS
      · intro K hK
        simp
        repeat' (first | with_reducible exact hK | (with_reducible refine goL_split (fun _ => ?_) (fun _ => ?_) <;> simp) | with_reducible refine And.intro ?_ ?_ | with_reducible exact okay_rfl rfl | omega)
      simp at h4
      rw [if_pos h4] at he
      refine W_ret ?_
      simp [Fin, he]
      all_goals omega
    simp at h4
    rw [if_neg (by omega)] at he
    apply W_regS
    · intro K hK
      simp
      repeat' (first | with_reducible exact hK | (with_reducible refine goL_split (fun _ => ?_) (fun _ => ?_) <;> simp) | with_reducible refine And.intro ?_ ?_ | with_reducible exact okay_rfl rfl | omega)
    exact ⟨a.length - (i + 1), by omega, i + 1, m - x.length, rfl, h, by omega, by omega, he, by simp [gc, closeN, liveA, gcV, gcO, renA, namesAs, namesA]; rw [wrap_id (by omega) (by omega)]⟩
  simp at h
  rw [if_pos rfl]
  rw [List.drop_of_length_le h] at he
  simp only [szTs] at he
  refine W_seq (?_)
  apply W_regS
  · intro K hK
    simp
    repeat' (first | with_reducible exact hK | (with_reducible refine goL_split (fun _ => ?_) (fun _ => ?_) <;> simp) | with_reducible refine And.intro ?_ ?_ | with_reducible exact okay_rfl rfl | omega)
  refine W_ret ?_
  simp [Fin, he]
  all_goals omega

end Go.Proofs.Ytjdepagpjkoglaa.Ab


set_option linter.unusedSimpArgs false
set_option maxRecDepth 100000
namespace Go.Proofs.Ytjdepagpjkoglaa.Ab

theorem szTs_le : ∀ (a : List (List UInt8)) (l : Int), 0 ≤ szTs a l → ∀ s, s ∈ a → (s.length : Int) ≤ l := by
  intro a
  induction a with
  | nil => intro l _ s hs; simp at hs
  | cons x a ih =>
    intro l h s hs
    simp only [szTs] at h
    split at h
    · omega
    · rcases List.mem_cons.1 hs with rfl | hs
      · omega
      · have := ih _ h s hs; omega

theorem szT_le {a : List (List UInt8)} {l : Int} (h : 0 ≤ szT a l) : (a.length : Int) ≤ l ∧ ∀ s, s ∈ a → (s.length : Int) ≤ l := by
  unfold szT at h
  split at h
  · omega
  · exact ⟨by omega, fun s hs => by have := szTs_le _ _ h s hs; omega⟩

def szRec (ns : List Int) (ts : List (List UInt8)) (l : Int) : Int := if szN ns.length l < 0 then -1 else if szT ts (szN ns.length l) < 0 then -1 else szT ts (szN ns.length l)

theorem szRecord_ok (k : Int) (ns : List Int) (ts : List (List UInt8)) (l : Int) (h1 : ns.length ≤ maxLen) (h2 : 0 ≤ l ∧ l ≤ 1048576) (h3 : ts.length ≤ maxLen) (h4 : ∀ s, s ∈ ts → s.length ≤ maxLen) :
    Valid PP F_L_szRecord [.agg [.d (.int .i64 k), .d (.slc 1 (intsD ns)), .d (.slc 1 (strsD ts))], .d (.int .i64 l)] (.d (.int .i64 (szRec ns ts l))) [none, none] := by
  refine v_L_szRecord [.d (.int .i64 (szRec ns ts l))] rfl rfl ?_
  have hm : szN ns.length l ≤ l := by unfold szN; split <;> omega
  refine W_seq (?_)
  apply W_regS
  · intro K hK
    simp
    repeat' (first | with_reducible exact hK | (with_reducible refine goL_split (fun _ => ?_) (fun _ => ?_) <;> simp) | with_reducible refine And.intro ?_ ?_ | with_reducible exact okay_rfl rfl | omega)
  refine W_seq (?_)
  apply W_regS
  · intro K hK
    simp
    repeat' (first | with_reducible exact hK | (with_reducible refine callQ (szIntS_ok ns l h1 h2) ?_; simp) | (with_reducible refine goL_split (fun _ => ?_) (fun _ => ?_) <;> simp) | with_reducible refine And.intro ?_ ?_ | with_reducible exact okay_rfl rfl | omega)
  refine W_seq (W_seq (?_))
  apply W_regS
  · intro K hK
    simp
    repeat' (first | with_reducible exact hK | (with_reducible refine goL_split (fun _ => ?_) (fun _ => ?_) <;> simp) | with_reducible refine And.intro ?_ ?_ | with_reducible exact okay_rfl rfl | omega)
  refine W_cond rfl (fun h => W_seq ?_) (fun h => W_skip ?_)
  · apply W_regS
    · intro K hK
      simp
      repeat' (first | with_reducible exact hK | (with_reducible refine goL_split (fun _ => ?_) (fun _ => ?_) <;> simp) | with_reducible refine And.intro ?_ ?_ | with_reducible exact okay_rfl rfl | omega)
    simp at h
    have : szRec ns ts l = -1 := by unfold szRec; rw [if_pos h]
    refine W_ret ?_
    simp [Fin, this]
    all_goals omega
  simp at h
  refine W_seq (?_)
  apply W_regS
  · intro K hK
    simp
    repeat' (first | with_reducible exact hK | (with_reducible refine callQ (szStringS_ok ts _ h3 ⟨h, by omega⟩ h4) ?_; simp) | (with_reducible refine goL_split (fun _ => ?_) (fun _ => ?_) <;> simp) | with_reducible refine And.intro ?_ ?_ | with_reducible exact okay_rfl rfl | omega)
  refine W_seq (W_seq (?_))
  apply W_regS
  · intro K hK
    simp
    repeat' (first | with_reducible exact hK | (with_reducible refine goL_split (fun _ => ?_) (fun _ => ?_) <;> simp) | with_reducible refine And.intro ?_ ?_ | with_reducible exact okay_rfl rfl | omega)
  refine W_cond rfl (fun h5 => W_seq ?_) (fun h5 => W_skip ?_)
  · apply W_regS
    · intro K hK
      simp
      repeat' (first | with_reducible exact hK | (with_reducible refine goL_split (fun _ => ?_) (fun _ => ?_) <;> simp) | with_reducible refine And.intro ?_ ?_ | with_reducible exact okay_rfl rfl | omega)
    simp at h5
    have : szRec ns ts l = -1 := by unfold szRec; rw [if_neg (by omega), if_pos h5]
    refine W_ret ?_
    simp [Fin, this]
    all_goals omega
  simp at h5
  refine W_seq (?_)
  apply W_regS
  · intro K hK
    simp
    repeat' (first | with_reducible exact hK | (with_reducible refine goL_split (fun _ => ?_) (fun _ => ?_) <;> simp) | with_reducible refine And.intro ?_ ?_ | with_reducible exact okay_rfl rfl | omega)
  have : szRec ns ts l = szT ts (szN ns.length l) := by unfold szRec; rw [if_neg (by omega), if_neg (by omega)]
  refine W_ret ?_
  simp [Fin, this]
  all_goals omega

theorem toRecord_ok (k : Int) (ns : List Int) (ts : List (List UInt8)) (h1 : ns.length * 8 ≤ 140737488355328) (h2 : ts.length * 16 ≤ 140737488355328) :
    Valid PP F_L_toRecord [.agg [.d (.int .i64 k), .d (.slc 1 (intsD ns)), .d (.slc 1 (strsD ts))]] (.agg [.d (.int .i64 k), .own 0 1 (intsD ns), .own 0 1 (strsD ts)]) [none] := by
  refine v_L_toRecord [.agg [.d (.int .i64 k), .own 0 1 (intsD ns), .own 0 1 (strsD ts)]] rfl rfl ?_
  refine W_seq (?_)
  apply W_regS
  · intro K hK
    simp
    repeat' (first | with_reducible exact hK | (with_reducible refine goL_split (fun _ => ?_) (fun _ => ?_) <;> simp) | with_reducible refine And.intro ?_ ?_ | with_reducible exact okay_rfl rfl | omega)
  refine W_seq (?_)
  apply W_regS
  · intro K hK
    simp
    repeat' (first | with_reducible exact hK | (with_reducible refine goL_split (fun _ => ?_) (fun _ => ?_) <;> simp) | with_reducible refine And.intro ?_ ?_ | with_reducible exact okay_rfl rfl | omega)
  refine W_seq (?_)
  apply W_regS
  · intro K hK
    simp
    repeat' (first | with_reducible exact hK | (with_reducible refine goL_split (fun _ => ?_) (fun _ => ?_) <;> simp) | with_reducible refine And.intro ?_ ?_ | with_reducible exact okay_rfl rfl | omega)
  refine W_seq (?_)
  apply W_regS
  · intro K hK
    simp
    repeat' (first | with_reducible exact hK | (with_reducible refine callQ (toIntS_ok ns h1) ?_; simp) | (with_reducible refine goL_split (fun _ => ?_) (fun _ => ?_) <;> simp) | with_reducible refine And.intro ?_ ?_ | with_reducible exact okay_rfl rfl | omega)
  refine W_seq (?_)
  apply W_regS
  · intro K hK
    simp
    repeat' (first | with_reducible exact hK | (with_reducible refine callQ (toStringS_ok ts h2) ?_; simp) | (with_reducible refine goL_split (fun _ => ?_) (fun _ => ?_) <;> simp) | with_reducible refine And.intro ?_ ?_ | with_reducible exact okay_rfl rfl | omega)
  refine W_seq (?_)
  apply W_regS
  · intro K hK
    simp
    repeat' (first | with_reducible exact hK | (with_reducible refine goL_split (fun _ => ?_) (fun _ => ?_) <;> simp) | with_reducible refine And.intro ?_ ?_ | with_reducible exact okay_rfl rfl | omega)
  refine W_ret ?_
  simp [Fin]
  all_goals omega

theorem eqRecord_ok (k k' : Int) (ns ns' : List Int) (ts ts' : List (List UInt8)) (h1 : ns.length ≤ 281474976710656) (h2 : ts.length ≤ 281474976710656) :
    Valid PP F_L_eqRecord [.agg [.d (.int .i64 k), .d (.slc 1 (intsD ns)), .d (.slc 1 (strsD ts))], .agg [.d (.int .i64 k'), .d (.slc 1 (intsD ns')), .d (.slc 1 (strsD ts'))]]
      (.d (.bool (decide (k = k' ∧ ns = ns' ∧ ts = ts')))) [none, none] := by
  refine v_L_eqRecord [.d (.bool (decide (k = k' ∧ ns = ns' ∧ ts = ts')))] rfl rfl ?_
  refine W_seq (?_)
  apply W_regS
  · intro K hK
    simp
    repeat' (first | with_reducible exact hK | (with_reducible refine goL_split (fun _ => ?_) (fun _ => ?_) <;> simp) | with_reducible refine And.intro ?_ ?_ | with_reducible exact okay_rfl rfl | omega)
  refine W_seq (W_seq (?_))
  apply W_regS
  · intro K hK
    simp
    repeat' (first | with_reducible exact hK | (with_reducible refine goL_split (fun _ => ?_) (fun _ => ?_) <;> simp) | with_reducible refine And.intro ?_ ?_ | with_reducible exact okay_rfl rfl | omega)
  refine W_cond rfl (fun h => W_seq ?_) (fun h => W_skip ?_)
  · apply W_regS
    · intro K hK
      simp
      repeat' (first | with_reducible exact hK | (with_reducible refine goL_split (fun _ => ?_) (fun _ => ?_) <;> simp) | with_reducible refine And.intro ?_ ?_ | with_reducible exact okay_rfl rfl | omega)
    have : decide (k = k' ∧ ns = ns' ∧ ts = ts') = false := by simp at h ⊢; intro e; exact absurd e h
    refine W_ret ?_
    simp [Fin, this]
    all_goals omega
  refine W_seq (W_seq (?_))
  apply W_regS
  · intro K hK
    simp
    repeat' (first | with_reducible exact hK | (with_reducible refine callQ (eqIntS_ok ns ns' h1) ?_; simp) | (with_reducible refine goL_split (fun _ => ?_) (fun _ => ?_) <;> simp) | with_reducible refine And.intro ?_ ?_ | with_reducible exact okay_rfl rfl | omega)
  refine W_cond rfl (fun h2 => W_seq ?_) (fun h2 => W_skip ?_)
  · apply W_regS
    · intro K hK
      simp
      repeat' (first | with_reducible exact hK | (with_reducible refine goL_split (fun _ => ?_) (fun _ => ?_) <;> simp) | with_reducible refine And.intro ?_ ?_ | with_reducible exact okay_rfl rfl | omega)
    have : decide (k = k' ∧ ns = ns' ∧ ts = ts') = false := by simp at h2 ⊢; intro _ e; exact absurd e h2
    refine W_ret ?_
    simp [Fin, this]
    all_goals omega
  refine W_seq (W_seq (?_))
  apply W_regS
  · intro K hK
    simp
    repeat' (first | with_reducible exact hK | (with_reducible refine callQ (eqStringS_ok ts ts' (by assumption)) ?_; simp) | (with_reducible refine goL_split (fun _ => ?_) (fun _ => ?_) <;> simp) | with_reducible refine And.intro ?_ ?_ | with_reducible exact okay_rfl rfl | omega)
  refine W_cond rfl (fun h3 => W_seq ?_) (fun h3 => W_skip ?_)
  · apply W_regS
    · intro K hK
      simp
      repeat' (first | with_reducible exact hK | (with_reducible refine goL_split (fun _ => ?_) (fun _ => ?_) <;> simp) | with_reducible refine And.intro ?_ ?_ | with_reducible exact okay_rfl rfl | omega)
    have : decide (k = k' ∧ ns = ns' ∧ ts = ts') = false := by simp at h3 ⊢; intro _ _ e; exact absurd e h3
    refine W_ret ?_
    simp [Fin, this]
    all_goals omega
  refine W_seq (?_)
  apply W_regS
  · intro K hK
    simp
    repeat' (first | with_reducible exact hK | (with_reducible refine goL_split (fun _ => ?_) (fun _ => ?_) <;> simp) | with_reducible refine And.intro ?_ ?_ | with_reducible exact okay_rfl rfl | omega)
  have : decide (k = k' ∧ ns = ns' ∧ ts = ts') = true := by simp at h h2 h3 ⊢; exact ⟨h, h2, h3⟩
  refine W_ret ?_
  simp [Fin, this]
  all_goals omega

end Go.Proofs.Ytjdepagpjkoglaa.Ab


set_option linter.unusedSimpArgs false
set_option maxRecDepth 100000
namespace Go.Proofs.Ytjdepagpjkoglaa.Ab

/-- A request's cells. -/
abbrev reqC (k t : Int) (n p d : List UInt8) (m : Int) : List C := [.d (.int .i64 k), .d (.int .i64 t), .d (.str n), .d (.str p), .d (.str d), .d (.int .i64 m)]
abbrev recC (k : Int) (ns : List Int) (ts : List (List UInt8)) : List C := [.d (.int .i64 k), .d (.slc 1 (intsD ns)), .d (.slc 1 (strsD ts))]
abbrev recO (k : Int) (ns : List Int) (ts : List (List UInt8)) : List C := [.d (.int .i64 k), .own 0 1 (intsD ns), .own 0 1 (strsD ts)]

theorem eqReq_ok (k t m k' t' m' : Int) (n p d n' p' d' : List UInt8) :
    Valid PP F_L_eqReq [.agg (reqC k t n p d m), .agg (reqC k' t' n' p' d' m')] (.d (.bool (decide (k = k' ∧ t = t' ∧ n = n' ∧ p = p' ∧ d = d' ∧ m = m')))) [none, none] := by
  refine v_L_eqReq [.d (.bool (decide (k = k' ∧ t = t' ∧ n = n' ∧ p = p' ∧ d = d' ∧ m = m')))] rfl rfl ?_
  refine W_seq (?_)
  apply W_regS
  · intro K hK
    simp
    repeat' (first | with_reducible exact hK | (with_reducible refine goL_split (fun _ => ?_) (fun _ => ?_) <;> simp) | with_reducible refine And.intro ?_ ?_ | with_reducible exact okay_rfl rfl | omega)
  refine W_seq (W_seq (?_))
  apply W_regS
  · intro K hK
    simp
    repeat' (first | with_reducible exact hK | (with_reducible refine goL_split (fun _ => ?_) (fun _ => ?_) <;> simp) | with_reducible refine And.intro ?_ ?_ | with_reducible exact okay_rfl rfl | omega)
  refine W_cond rfl (fun h => W_seq ?_) (fun h1 => W_skip ?_)
  · apply W_regS
    · intro K hK
      simp
      repeat' (first | with_reducible exact hK | (with_reducible refine goL_split (fun _ => ?_) (fun _ => ?_) <;> simp) | with_reducible refine And.intro ?_ ?_ | with_reducible exact okay_rfl rfl | omega)
    have : decide (k = k' ∧ t = t' ∧ n = n' ∧ p = p' ∧ d = d' ∧ m = m') = false := by simp at h ⊢; intros; simp_all
    refine W_ret ?_
    simp [Fin, this]
    all_goals omega
  refine W_seq (W_seq (?_))
  apply W_regS
  · intro K hK
    simp
    repeat' (first | with_reducible exact hK | (with_reducible refine goL_split (fun _ => ?_) (fun _ => ?_) <;> simp) | with_reducible refine And.intro ?_ ?_ | with_reducible exact okay_rfl rfl | omega)
  refine W_cond rfl (fun h => W_seq ?_) (fun h2 => W_skip ?_)
  · apply W_regS
    · intro K hK
      simp
      repeat' (first | with_reducible exact hK | (with_reducible refine goL_split (fun _ => ?_) (fun _ => ?_) <;> simp) | with_reducible refine And.intro ?_ ?_ | with_reducible exact okay_rfl rfl | omega)
    have : decide (k = k' ∧ t = t' ∧ n = n' ∧ p = p' ∧ d = d' ∧ m = m') = false := by simp at h ⊢; intros; simp_all
    refine W_ret ?_
    simp [Fin, this]
    all_goals omega
  refine W_seq (W_seq (?_))
  apply W_regS
  · intro K hK
    simp
    repeat' (first | with_reducible exact hK | (with_reducible refine goL_split (fun _ => ?_) (fun _ => ?_) <;> simp) | with_reducible refine And.intro ?_ ?_ | with_reducible exact okay_rfl rfl | omega)
  refine W_cond rfl (fun h => W_seq ?_) (fun h3 => W_skip ?_)
  · apply W_regS
    · intro K hK
      simp
      repeat' (first | with_reducible exact hK | (with_reducible refine goL_split (fun _ => ?_) (fun _ => ?_) <;> simp) | with_reducible refine And.intro ?_ ?_ | with_reducible exact okay_rfl rfl | omega)
    have : decide (k = k' ∧ t = t' ∧ n = n' ∧ p = p' ∧ d = d' ∧ m = m') = false := by simp at h ⊢; intros; simp_all
    refine W_ret ?_
    simp [Fin, this]
    all_goals omega
  refine W_seq (W_seq (?_))
  apply W_regS
  · intro K hK
    simp
    repeat' (first | with_reducible exact hK | (with_reducible refine goL_split (fun _ => ?_) (fun _ => ?_) <;> simp) | with_reducible refine And.intro ?_ ?_ | with_reducible exact okay_rfl rfl | omega)
  refine W_cond rfl (fun h => W_seq ?_) (fun h4 => W_skip ?_)
  · apply W_regS
    · intro K hK
      simp
      repeat' (first | with_reducible exact hK | (with_reducible refine goL_split (fun _ => ?_) (fun _ => ?_) <;> simp) | with_reducible refine And.intro ?_ ?_ | with_reducible exact okay_rfl rfl | omega)
    have : decide (k = k' ∧ t = t' ∧ n = n' ∧ p = p' ∧ d = d' ∧ m = m') = false := by simp at h ⊢; intros; simp_all
    refine W_ret ?_
    simp [Fin, this]
    all_goals omega
  refine W_seq (W_seq (?_))
  apply W_regS
  · intro K hK
    simp
    repeat' (first | with_reducible exact hK | (with_reducible refine goL_split (fun _ => ?_) (fun _ => ?_) <;> simp) | with_reducible refine And.intro ?_ ?_ | with_reducible exact okay_rfl rfl | omega)
  refine W_cond rfl (fun h => W_seq ?_) (fun h5 => W_skip ?_)
  · apply W_regS
    · intro K hK
      simp
      repeat' (first | with_reducible exact hK | (with_reducible refine goL_split (fun _ => ?_) (fun _ => ?_) <;> simp) | with_reducible refine And.intro ?_ ?_ | with_reducible exact okay_rfl rfl | omega)
    have : decide (k = k' ∧ t = t' ∧ n = n' ∧ p = p' ∧ d = d' ∧ m = m') = false := by simp at h ⊢; intros; simp_all
    refine W_ret ?_
    simp [Fin, this]
    all_goals omega
  refine W_seq (W_seq (?_))
  apply W_regS
  · intro K hK
    simp
    repeat' (first | with_reducible exact hK | (with_reducible refine goL_split (fun _ => ?_) (fun _ => ?_) <;> simp) | with_reducible refine And.intro ?_ ?_ | with_reducible exact okay_rfl rfl | omega)
  refine W_cond rfl (fun h => W_seq ?_) (fun h6 => W_skip ?_)
  · apply W_regS
    · intro K hK
      simp
      repeat' (first | with_reducible exact hK | (with_reducible refine goL_split (fun _ => ?_) (fun _ => ?_) <;> simp) | with_reducible refine And.intro ?_ ?_ | with_reducible exact okay_rfl rfl | omega)
    have : decide (k = k' ∧ t = t' ∧ n = n' ∧ p = p' ∧ d = d' ∧ m = m') = false := by simp at h ⊢; intros; simp_all
    refine W_ret ?_
    simp [Fin, this]
    all_goals omega
  refine W_seq (?_)
  apply W_regS
  · intro K hK
    simp
    repeat' (first | with_reducible exact hK | (with_reducible refine goL_split (fun _ => ?_) (fun _ => ?_) <;> simp) | with_reducible refine And.intro ?_ ?_ | with_reducible exact okay_rfl rfl | omega)
  have : decide (k = k' ∧ t = t' ∧ n = n' ∧ p = p' ∧ d = d' ∧ m = m') = true := by simp at h1 h2 h3 h4 h5 h6 ⊢; exact ⟨h1, h2, h3, h4, h5, h6⟩
  refine W_ret ?_
  simp [Fin, this]
  all_goals omega

theorem isReqRecord_ok (k : Int) (ns : List Int) (ts : List (List UInt8)) :
    Valid PP F_I_isReqRecord [.agg (recC k ns ts)] (.d (.bool (decide (0 ≤ k ∧ k ≤ 13 ∧ ns.length = 2 ∧ ts.length = 3)))) [none] := by
  refine v_I_isReqRecord [.d (.bool (decide (0 ≤ k ∧ k ≤ 13 ∧ ns.length = 2 ∧ ts.length = 3)))] rfl rfl ?_
  refine W_seq (?_)
  apply W_regS
  · intro K hK
    simp
    repeat' (first | with_reducible exact hK | (with_reducible refine goL_split (fun _ => ?_) (fun _ => ?_) <;> simp) | with_reducible refine And.intro ?_ ?_ | with_reducible exact okay_rfl rfl | omega)
  refine W_seq (?_)
  refine W_regB 2 (decide (0 ≤ k ∧ k ≤ 13 ∧ ns.length = 2 ∧ ts.length = 3)) (fun K hK => ?_) ?_
  · simp
    repeat' (first | exact hK _ _ (by clear hK; first | omega | (simp [*]; done) | (simp [*]; omega) | (simp_all; done) | (simp_all; omega) | (rw [Bool.eq_iff_iff]; simp at *; omega)) | (with_reducible refine callQ (within_ok _ _ _) ?_; simp) | (with_reducible refine goL_split (fun _ => ?_) (fun _ => ?_) <;> simp) | with_reducible refine And.intro ?_ ?_ | with_reducible exact okay_rfl rfl | omega)
  refine W_ret ?_
  simp [Fin]
  all_goals omega

theorem reqOf_ok (k t m : Int) (n p d : List UInt8) : Valid PP F_I_reqOf [.agg (recC k [t, m] [n, p, d])] (.agg (reqC k t n p d m)) [none] := by
  refine v_I_reqOf [.agg (reqC k t n p d m)] rfl rfl ?_
  refine W_seq (?_)
  apply W_regS
  · intro K hK
    simp
    repeat' (first | with_reducible exact hK | (with_reducible refine goL_split (fun _ => ?_) (fun _ => ?_) <;> simp) | with_reducible refine And.intro ?_ ?_ | with_reducible exact okay_rfl rfl | omega)
  refine W_seq (?_)
  apply W_regD
  · intro K hK
    simp [intsD, strsD]
    repeat' (first | with_reducible exact hK | (with_reducible refine goL_split (fun _ => ?_) (fun _ => ?_) <;> simp [intsD, strsD]) | with_reducible refine And.intro ?_ ?_ | with_reducible exact okay_rfl rfl | omega)
  refine W_ret ?_
  simp [Fin]
  all_goals omega

end Go.Proofs.Ytjdepagpjkoglaa.Ab


set_option linter.unusedSimpArgs false
set_option maxRecDepth 100000
namespace Go.Proofs.Ytjdepagpjkoglaa.Ab

def reqOk (k : Int) (ns : List Int) (ts : List (List UInt8)) : Bool := recOk k ns ts && decide (0 ≤ k ∧ k ≤ 13 ∧ ns.length = 2 ∧ ts.length = 3)

theorem reqOk_shape {k : Int} {ns : List Int} {ts : List (List UInt8)} (h : reqOk k ns ts = true) : ∃ t m n p d, ns = [t, m] ∧ ts = [n, p, d] := by
  simp only [reqOk, Bool.and_eq_true, decide_eq_true_eq] at h
  obtain ⟨_, _, _, h1, h2⟩ := h
  match ns, h1 with
  | [t, m], _ =>
    match ts, h2 with
    | [n, p, d], _ => exact ⟨t, m, n, p, d, rfl, rfl⟩

theorem i_RecordReq_ok (k : Int) (ns : List Int) (ts : List (List UInt8)) (h1 : ns.length ≤ 281474976710656) (h2 : ts.length ≤ 281474976710656) :
    (reqOk k ns ts = false → Valid PP F_I_RecordReq [.agg (recC k ns ts)] (.tup [.agg (reqC 0 0 [] [] [] 0), .d (.bool false)]) [none]) ∧
    ∀ t m n p d, ns = [t, m] → ts = [n, p, d] → reqOk k ns ts = true → Valid PP F_I_RecordReq [.agg (recC k ns ts)] (.tup [.agg (reqC k t n p d m), .d (.bool true)]) [none] := by
  have c1 := isRecord_ok k ns ts h1 h2
  have c2 := isReqRecord_ok k ns ts
  have hr := reqOk.eq_1 k ns ts
  generalize recOk k ns ts = b1 at c1 hr
  generalize decide (0 ≤ k ∧ k ≤ 13 ∧ ns.length = 2 ∧ ts.length = 3) = b2 at c2 hr
  generalize hb : reqOk k ns ts = b at hr
  refine ⟨fun h => ?_, fun t m n p d e1 e2 h => ?_⟩
  · refine v_I_RecordReq [.agg (reqC 0 0 [] [] [] 0), .d (.bool false)] rfl rfl ?_
    refine W_seq (?_)
    apply W_regS
    · intro K hK
      simp
      repeat' (first | with_reducible exact hK | (with_reducible refine goL_split (fun _ => ?_) (fun _ => ?_) <;> simp) | with_reducible refine And.intro ?_ ?_ | with_reducible exact okay_rfl rfl | omega)
    refine W_seq (W_seq (?_))
    refine W_regB 11 (!b) (fun K hK => ?_) ?_
    · simp
      repeat' (first | exact hK _ _ (by clear hK; first | omega | (simp [*]; done) | (simp [*]; omega) | (simp_all; done) | (simp_all; omega) | (rw [Bool.eq_iff_iff]; simp at *; omega)) | (with_reducible refine callQ (c1) ?_; simp) | (with_reducible refine callQ (c2) ?_; simp) | (with_reducible refine goL_split (fun _ => ?_) (fun _ => ?_) <;> simp) | with_reducible refine And.intro ?_ ?_ | with_reducible exact okay_rfl rfl | omega)
    refine W_cond rfl (fun h => W_seq ?_) (fun h => W_skip ?_)
    · apply W_regS
      · intro K hK
        simp
        repeat' (first | with_reducible exact hK | (with_reducible refine goL_split (fun _ => ?_) (fun _ => ?_) <;> simp) | with_reducible refine And.intro ?_ ?_ | with_reducible exact okay_rfl rfl | omega)
      refine W_ret ?_
      simp [Fin]
      all_goals omega
    · simp_all
  · refine v_I_RecordReq [.agg (reqC k t n p d m), .d (.bool true)] rfl rfl ?_
    refine W_seq (?_)
    apply W_regS
    · intro K hK
      simp
      repeat' (first | with_reducible exact hK | (with_reducible refine goL_split (fun _ => ?_) (fun _ => ?_) <;> simp) | with_reducible refine And.intro ?_ ?_ | with_reducible exact okay_rfl rfl | omega)
    refine W_seq (W_seq (?_))
    refine W_regB 11 (!b) (fun K hK => ?_) ?_
    · simp
      repeat' (first | exact hK _ _ (by clear hK; first | omega | (simp [*]; done) | (simp [*]; omega) | (simp_all; done) | (simp_all; omega) | (rw [Bool.eq_iff_iff]; simp at *; omega)) | (with_reducible refine callQ (c1) ?_; simp) | (with_reducible refine callQ (c2) ?_; simp) | (with_reducible refine goL_split (fun _ => ?_) (fun _ => ?_) <;> simp) | with_reducible refine And.intro ?_ ?_ | with_reducible exact okay_rfl rfl | omega)
    refine W_cond rfl (fun h => W_seq ?_) (fun h => W_skip ?_)
    · simp_all
    have c3 := reqOf_ok k t m n p d
    subst e1 e2
    refine W_seq (?_)
    apply W_regS
    · intro K hK
      simp
      repeat' (first | with_reducible exact hK | (with_reducible refine callQ (c3) ?_; simp) | (with_reducible refine goL_split (fun _ => ?_) (fun _ => ?_) <;> simp) | with_reducible refine And.intro ?_ ?_ | with_reducible exact okay_rfl rfl | omega)
    refine W_ret ?_
    simp [Fin]
    all_goals omega

theorem s_RecordReq_ok (k : Int) (ns : List Int) (ts : List (List UInt8)) (h1 : ns.length ≤ 281474976710656) (h2 : ts.length ≤ 281474976710656) :
    (reqOk k ns ts = false → Valid PP F_S_RecordReq [.agg (recC k ns ts)] (.tup [.agg (reqC 0 0 [] [] [] 0), .d (.bool false)]) [none]) ∧
    ∀ t m n p d, ns = [t, m] → ts = [n, p, d] → reqOk k ns ts = true → Valid PP F_S_RecordReq [.agg (recC k ns ts)] (.tup [.agg (reqC k t n p d m), .d (.bool true)]) [none] := by
  have c1 := s_RecordOk_ok k ns ts h1 h2
  have hr := reqOk.eq_1 k ns ts
  generalize recOk k ns ts = b1 at c1 hr
  generalize hb : reqOk k ns ts = b at hr
  refine ⟨fun h => ?_, fun t m n p d e1 e2 h => ?_⟩
  · refine v_S_RecordReq [.agg (reqC 0 0 [] [] [] 0), .d (.bool false)] rfl rfl ?_
    refine W_seq (?_)
    apply W_regS
    · intro K hK
      simp
      repeat' (first | with_reducible exact hK | (with_reducible refine goL_split (fun _ => ?_) (fun _ => ?_) <;> simp) | with_reducible refine And.intro ?_ ?_ | with_reducible exact okay_rfl rfl | omega)
    refine W_seq (W_seq (?_))
    refine W_regB 24 (!b) (fun K hK => ?_) ?_
    · simp
      repeat' (first | exact hK _ _ (by clear hK; first | omega | (simp [*]; done) | (simp [*]; omega) | (simp_all; done) | (simp_all; omega) | (rw [Bool.eq_iff_iff]; simp at *; omega)) | (with_reducible refine callQ (l01In_ok _ _ _) ?_; simp) | (with_reducible refine callQ (c1) ?_; simp) | (with_reducible refine goL_split (fun _ => ?_) (fun _ => ?_) <;> simp) | with_reducible refine And.intro ?_ ?_ | with_reducible exact okay_rfl rfl | omega)
      exact hK _ _ (by clear hK; cases b1 <;> simp_all <;> omega)
    refine W_cond rfl (fun h => W_seq ?_) (fun h => W_skip ?_)
    · apply W_regS
      · intro K hK
        simp
        repeat' (first | with_reducible exact hK | (with_reducible refine goL_split (fun _ => ?_) (fun _ => ?_) <;> simp) | with_reducible refine And.intro ?_ ?_ | with_reducible exact okay_rfl rfl | omega)
      refine W_ret ?_
      simp [Fin]
      all_goals omega
    · simp_all
  · refine v_S_RecordReq [.agg (reqC k t n p d m), .d (.bool true)] rfl rfl ?_
    refine W_seq (?_)
    apply W_regS
    · intro K hK
      simp
      repeat' (first | with_reducible exact hK | (with_reducible refine goL_split (fun _ => ?_) (fun _ => ?_) <;> simp) | with_reducible refine And.intro ?_ ?_ | with_reducible exact okay_rfl rfl | omega)
    refine W_seq (W_seq (?_))
    refine W_regB 24 (!b) (fun K hK => ?_) ?_
    · simp
      repeat' (first | exact hK _ _ (by clear hK; first | omega | (simp [*]; done) | (simp [*]; omega) | (simp_all; done) | (simp_all; omega) | (rw [Bool.eq_iff_iff]; simp at *; omega)) | (with_reducible refine callQ (l01In_ok _ _ _) ?_; simp) | (with_reducible refine callQ (c1) ?_; simp) | (with_reducible refine goL_split (fun _ => ?_) (fun _ => ?_) <;> simp) | with_reducible refine And.intro ?_ ?_ | with_reducible exact okay_rfl rfl | omega)
    refine W_cond rfl (fun h => W_seq ?_) (fun h => W_skip ?_)
    · simp_all
    subst e1 e2
    refine W_seq (?_)
    apply W_regD
    · intro K hK
      simp [intsD, strsD]
      repeat' (first | with_reducible exact hK | (with_reducible refine goL_split (fun _ => ?_) (fun _ => ?_) <;> simp [intsD, strsD]) | with_reducible refine And.intro ?_ ?_ | with_reducible exact okay_rfl rfl | omega)
    refine W_ret ?_
    simp [Fin]
    all_goals omega

end Go.Proofs.Ytjdepagpjkoglaa.Ab

