/-
  A part of a proof about the given program; what is proved is said where each theorem stands.
-/
import Derived.Test.YtmihpclfdicfkaaDoorFrameA
import Derived.Test.YtmihpclfdicfkaaDoorFrameB
import Derived.Test.YtmihpclfdicfkaaDoorFrameC
import Derived.Test.YtmihpclfdicfkaaDoorFrameD
import Derived.Test.YtmihpclfdicfkaaDoorFrameE
import Derived.Test.YtmihpclfdicfkaaDoorShelf
import Derived.Test.YtmihpclfdicfkaaDoorCodesA
import Derived.Test.YtmihpclfdicfkaaDoorCodesB
import Derived.Test.YtmihpclfdicfkaaDoorCodesC
import Derived.Test.YtmihpclfdicfkaaDoorPartA
import Derived.Test.YtmihpclfdicfkaaDoorPartB
namespace Go.Proofs
end Go.Proofs
set_option linter.unusedSimpArgs false
set_option linter.unusedVariables false
set_option maxRecDepth 100000
set_option maxHeartbeats 2000000
namespace Go.Proofs.YtmihpclfdicfkaaDoor.Ab
open Go.Proofs
variable {GG : GV}
theorem rekeyW_none {k key : Int} {l : List GWrap} {i : Nat} {x : GWrap} (h : l[i]? = some x) (ho : openR k x.fBox = none) : rekeyW k key (l.take (i + 1)) = rekeyW k key (l.take i) := by
  rw [List.take_add_one, h]
  show rekeyW k key (l.take i ++ [x]) = _
  rw [rekeyW_app]; simp [rekeyW, ho]
theorem rekeyW_cost (k key : Int) (l : List GWrap) : (rekeyW k key l).length ≤ l.length ∧ sumBy GWrap.cost (rekeyW k key l) ≤ sumBy GWrap.cost l := by
  induction l with
  | nil => simp [rekeyW, sumBy]
  | cons x l ih =>
    simp only [rekeyW]
    cases ho : openR k x.fBox with
    | none => simp [sumBy]; omega
    | some o =>
      have hl := (openR_len ho).1
      have h1 : (GWrap.mk x.fId x.fEnds x.fKind (sealV key x.fBox.fNonce o)).cost = x.fKind.length + (mask key x.fBox.fNonce o).length := rfl
      have h2 : x.cost = x.fKind.length + x.fBox.fData.length := rfl
      rw [mask_len] at h1
      simp only [List.singleton_append, List.length_cons, sumBy]
      omega
theorem rekeyR_cost (r : GRack) (key : Int) : (rekeyR r key).cost ≤ r.cost := by
  unfold rekeyR
  split
  · have := rekeyW_cost r.fKey key r.fWraps
    have h1 : (GRack.mk key r.fNext (rekeyW r.fKey key r.fWraps)).cost = (rekeyW r.fKey key r.fWraps).length + sumBy GWrap.cost (rekeyW r.fKey key r.fWraps) := rfl
    have h2 : r.cost = r.fWraps.length + sumBy GWrap.cost r.fWraps := rfl
    omega
  · exact Nat.le_refl _
theorem ind_rWrap (l : List GWrap) : ∀ row, row ∈ rWrap l → ∀ d, d ∈ row → IndD 1 d := by
  intro row hr d hd
  simp only [rWrap, List.mem_map] at hr
  obtain ⟨x, _, rfl⟩ := hr
  simp only [GWrap.row, List.mem_cons, List.not_mem_nil, or_false] at hd
  rcases hd with rfl | rfl | rfl | rfl | rfl | rfl
  · trivial
  · trivial
  · trivial
  · trivial
  · exact ind_bytes x.fBox.fData
  · trivial
theorem rack_key {r : GRack} (h : rackOk r = true) : keyB r.fKey = true ∧ inB r.fNext 1 1000000000 = true := by
  simp only [rackOk, Bool.and_eq_true] at h; exact ⟨h.1.1.1, h.1.1.2⟩
theorem i_RekeyRack_ok [MaxL GG] (r : GRack) (key : Int) (hc : r.cost ≤ 1048576) : Valid PP GG F_I_RekeyRack [.agg r.c, .d (.int .i64 key)] (.tup [.agg (rekeyR r key).o, .d (.bool (rekeyB r key))]) [none, none] := by
  refine v_I_RekeyRack [.agg (rekeyR r key).o, .d (.bool (rekeyB r key))] rfl rfl ?_
  have cr := isRack_ok (GG := GG) r hc
  have ck := isKey_ok (GG := GG) key
  have cc := cloneRack_ok (GG := GG) r hc
  have hkey := rack_key (r := r)
  have hind := ind_rWrap r.fWraps
  by_cases hg : rackOk r = true ∧ keyB key = true
  rotate_left
  · have h1 : rekeyR r key = r := if_neg hg
    have h2 : rekeyB r key = false := decide_eq_false hg
    rw [h1, h2]
    generalize rackOk r = b at cr hg
    generalize keyB key = q at ck hg
    refine W_seq (?_)
    apply W_regS
    · intro K hK
      simp
      repeat' (first | with_reducible exact hK | (with_reducible refine goL_split (fun _ => ?_) (fun _ => ?_) <;> simp) | with_reducible refine And.intro ?_ ?_ | with_reducible exact okay_rfl rfl | with_reducible assumption | omega)
    refine W_seq (W_seq (?_))
    refine W_regB 18 (!(b && q)) (fun K hK => ?_) ?_
    · simp
      repeat' (first | exact hK _ _ (by clear hK; first | omega | (exact decide_eq_false (by omega)) | (exact decide_eq_true (by omega)) | (exact (decide_eq_true (by omega)).symm) | (exact (decide_eq_false (by omega)).symm) | (exact decide_eq_decide.2 (by omega)) | (simp only [← decide_not]; exact decide_eq_decide.2 (by omega)) | (simp [*]; done) | (simp [*]; omega) | (simp_all; done) | (simp_all; omega) | (rw [Bool.eq_iff_iff]; simp at *; omega)) | (with_reducible refine callQ (cr) ?_; simp) | (with_reducible refine callQ (ck) ?_; simp) | (with_reducible refine goL_split (fun _ => ?_) (fun _ => ?_) <;> simp) | with_reducible refine And.intro ?_ ?_ | with_reducible exact okay_rfl rfl | with_reducible assumption | omega)
    refine W_cond rfl (fun h => W_seq ?_) (fun h => ?_)
    rotate_left
    · exfalso; apply hg; revert h; cases b <;> cases q <;> simp
    apply W_regS
    · intro K hK
      simp
      repeat' (first | with_reducible exact hK | (with_reducible refine callQ (cc) ?_; simp) | (with_reducible refine goL_split (fun _ => ?_) (fun _ => ?_) <;> simp) | with_reducible refine And.intro ?_ ?_ | with_reducible exact okay_rfl rfl | with_reducible assumption | omega)
    refine W_ret ?_
    simp [Fin]
    all_goals omega
  have h1 : rekeyR r key = { fKey := key, fNext := r.fNext, fWraps := rekeyW r.fKey key r.fWraps } := if_pos hg
  have h2 : rekeyB r key = true := decide_eq_true hg
  rw [h1, h2]
  rw [hg.1] at cr
  rw [hg.2] at ck
  have hk1 := (hkey hg.1).1
  have hk2 := hg.2
  obtain ⟨f, k, l⟩ := r
  have hco : (GRack.mk f k l).cost = l.length + sumBy GWrap.cost l := rfl
  clear h1 h2 hg hkey cc hind
  simp only at hk1 ⊢
  refine W_seq (?_)
  apply W_regS
  · intro K hK
    simp
    repeat' (first | with_reducible exact hK | (with_reducible refine goL_split (fun _ => ?_) (fun _ => ?_) <;> simp) | with_reducible refine And.intro ?_ ?_ | with_reducible exact okay_rfl rfl | with_reducible assumption | omega)
  refine W_seq (W_seq (?_))
  refine W_regB 18 (false) (fun K hK => ?_) ?_
  · simp
    repeat' (first | exact hK _ _ (by clear hK; first | omega | (exact decide_eq_false (by omega)) | (exact decide_eq_true (by omega)) | (exact (decide_eq_true (by omega)).symm) | (exact (decide_eq_false (by omega)).symm) | (exact decide_eq_decide.2 (by omega)) | (simp only [← decide_not]; exact decide_eq_decide.2 (by omega)) | (simp [*]; done) | (simp [*]; omega) | (simp_all; done) | (simp_all; omega) | (rw [Bool.eq_iff_iff]; simp at *; omega)) | (with_reducible refine callQ (cr) ?_; simp) | (with_reducible refine callQ (ck) ?_; simp) | (with_reducible refine goL_split (fun _ => ?_) (fun _ => ?_) <;> simp) | with_reducible refine And.intro ?_ ?_ | with_reducible exact okay_rfl rfl | with_reducible assumption | omega)
  refine W_cond rfl (fun h => ?_) (fun h => W_skip ?_)
  · cases h
  refine W_seq (?_)
  apply W_regS
  · intro K hK
    simp
    repeat' (first | with_reducible exact hK | (with_reducible refine goL_split (fun _ => ?_) (fun _ => ?_) <;> simp) | with_reducible refine And.intro ?_ ?_ | with_reducible exact okay_rfl rfl | with_reducible assumption | omega)
  refine W_seq (W_seq (?_))
  apply W_regS
  · intro K hK
    simp
    repeat' (first | with_reducible exact hK | (with_reducible refine goL_split (fun _ => ?_) (fun _ => ?_) <;> simp) | with_reducible refine And.intro ?_ ?_ | with_reducible exact okay_rfl rfl | with_reducible assumption | omega)
  refine W_block (W_loop (fun n st => ∃ (i : Nat) (w : List GWrap), n = l.length - i ∧ i ≤ l.length ∧ w = rekeyW f key (l.take i) ∧
    ((w = [] ∧ st = ⟨[], [(1, .d (.int .i64 key)), (2, .ptr 0 0), (4, .ptr 1 0), (6, .ptr 2 0), (26, .d (.slc 6 (rWrap l))), (27, .d (.int .i64 l.length)), (28, .d (.int .i64 i))], [(0, .box [.d (.int .i64 f), .d (.int .i64 k), .d (.slc 6 (rWrap l))]), (1, .box [.d (.int .i64 0), .d (.int .i64 0), .nil 1 6]), (2, .box [.d (.int .i64 key), .d (.int .i64 k), .nil 1 6])], 3⟩) ∨ st = ⟨[], [(1, .d (.int .i64 key)), (2, .ptr 0 0), (4, .ptr 1 0), (6, .ptr 2 0), (26, .d (.slc 6 (rWrap l))), (27, .d (.int .i64 l.length)), (28, .d (.int .i64 i))], [(0, .box [.d (.int .i64 f), .d (.int .i64 k), .d (.slc 6 (rWrap l))]), (1, .box [.d (.int .i64 0), .d (.int .i64 0), .nil 1 6]), (2, .box [.d (.int .i64 key), .d (.int .i64 k), .sl 3]), (3, .arr 0 1 6 (rWrap w))], 4⟩)) _ ⟨0, [], rfl, by omega, rfl, .inl ⟨rfl, rfl⟩⟩ ?_)
  rintro n st ⟨i, w, rfl, hi, hw, ⟨hwn, rfl⟩ | rfl⟩
  · refine W_seq (?_)
    apply W_regS
    · intro K hK
      simp
      repeat' (first | with_reducible exact hK | (with_reducible refine goL_split (fun _ => ?_) (fun _ => ?_) <;> simp) | with_reducible refine And.intro ?_ ?_ | with_reducible exact okay_rfl rfl | with_reducible assumption | omega)
    refine W_seq (?_)
    refine W_cond rfl (fun h => W_skip ?_) (fun h => W_exit ?_)
    · simp at h
      have ha := List.getElem?_eq_getElem h
      generalize l[i] = x at ha
      have hg := sumBy_get (f := GWrap.cost) ha
      have h1 : x.cost = x.fKind.length + x.fBox.cost := rfl
      refine W_seq (W_block (W_seq ?_))
      apply W_regS
      · intro K hK
        simp [ha]
        repeat' (first | with_reducible exact hK | (with_reducible refine goL_split (fun _ => ?_) (fun _ => ?_) <;> simp [ha]) | with_reducible refine And.intro ?_ ?_ | with_reducible exact okay_rfl rfl | with_reducible assumption | omega)
      cases ho : openR f x.fBox with
      | none =>
        have cb := openBox_ok (GG := GG) f x.fBox none ho (by omega) hk1
        have hs := rekeyW_none (key := key) ha ho
        refine W_seq (?_)
        apply W_regS
        · intro K hK
          simp
          repeat' (first | with_reducible exact hK | (with_reducible refine callQ (cb) ?_; simp) | (with_reducible refine goL_split (fun _ => ?_) (fun _ => ?_) <;> simp) | with_reducible refine And.intro ?_ ?_ | with_reducible exact okay_rfl rfl | with_reducible assumption | omega)
        refine W_seq (?_)
        apply W_regS
        · intro K hK
          simp
          repeat' (first | with_reducible exact hK | (with_reducible refine goL_split (fun _ => ?_) (fun _ => ?_) <;> simp) | with_reducible refine And.intro ?_ ?_ | with_reducible exact okay_rfl rfl | with_reducible assumption | omega)
        refine W_cond rfl (fun h2 => ?_) (fun h2 => W_skip ?_)
        · cases h2
        apply W_regS
        · intro K hK
          simp
          repeat' (first | with_reducible exact hK | (with_reducible refine goL_split (fun _ => ?_) (fun _ => ?_) <;> simp) | with_reducible refine And.intro ?_ ?_ | with_reducible exact okay_rfl rfl | with_reducible assumption | omega)
        refine ⟨l.length - (i + 1), by omega, i + 1, w, rfl, h, by rw [hs]; exact hw, .inl ⟨hwn, by simp [gc, closeN, liveA, gcV, gcO, renA, renAs, renO, namesAs, namesA, namesO, posn]; exact wrap_id (by omega) (by omega)⟩⟩
      | some o =>
        obtain ⟨q1, q2, q3⟩ := openR_len ho
        have cb := openBox_ok (GG := GG) f x.fBox (some o) ho (by omega) hk1
        have hs := rekeyW_some (key := key) ha ho
        have csl := sealBox_ok (GG := GG) key x.fBox.fNonce o hk2 q2 (by omega)
        have hlen := rekeyW_cost f key (l.take i)
        rw [List.length_take, ← hw] at hlen
        rw [← hw] at hs
        generalize sealV key x.fBox.fNonce o = sb at csl hs
        have hi2 := ind_bytes sb.fData
        refine W_seq (?_)
        apply W_regS
        · intro K hK
          simp
          repeat' (first | with_reducible exact hK | (with_reducible refine callQ (cb) ?_; simp) | (with_reducible refine goL_split (fun _ => ?_) (fun _ => ?_) <;> simp) | with_reducible refine And.intro ?_ ?_ | with_reducible exact okay_rfl rfl | with_reducible assumption | omega)
        refine W_seq (?_)
        apply W_regS
        · intro K hK
          simp
          repeat' (first | with_reducible exact hK | (with_reducible refine goL_split (fun _ => ?_) (fun _ => ?_) <;> simp) | with_reducible refine And.intro ?_ ?_ | with_reducible exact okay_rfl rfl | with_reducible assumption | omega)
        refine W_cond rfl (fun h2 => W_seq ?_) (fun h2 => ?_)
        rotate_left
        · cases h2
        apply W_regS
        · intro K hK
          simp
          repeat' (first | with_reducible exact hK | (with_reducible refine callQ (csl) ?_; simp) | (with_reducible refine goL_split (fun _ => ?_) (fun _ => ?_) <;> simp) | with_reducible refine And.intro ?_ ?_ | with_reducible exact okay_rfl rfl | with_reducible assumption | omega)
        apply W_regS
        · intro K hK
          simp [limit]
          repeat' (first | with_reducible exact hK | (with_reducible refine goL_split (fun _ => ?_) (fun _ => ?_) <;> simp [limit]) | with_reducible refine And.intro ?_ ?_ | with_reducible exact okay_rfl rfl | with_reducible assumption | omega)
        apply W_regS
        · intro K hK
          simp
          repeat' (first | with_reducible exact hK | (with_reducible refine goL_split (fun _ => ?_) (fun _ => ?_) <;> simp) | with_reducible refine And.intro ?_ ?_ | with_reducible exact okay_rfl rfl | with_reducible assumption | omega)
        refine ⟨l.length - (i + 1), by omega, i + 1, w ++ [⟨x.fId, x.fEnds, x.fKind, sb⟩], rfl, h, hs.symm, .inr ?_⟩
        rw [hwn]
        simp [gc, closeN, liveA, gcV, gcO, renA, renAs, renO, namesAs, namesA, namesO, posn, rWrap]
        exact wrap_id (by omega) (by omega)
    · simp at h
      rw [List.take_of_length_le (by omega)] at hw
      rw [if_pos rfl, ← hw]
      refine W_seq (?_)
      apply W_regS
      · intro K hK
        simp
        repeat' (first | with_reducible exact hK | (with_reducible refine goL_split (fun _ => ?_) (fun _ => ?_) <;> simp) | with_reducible refine And.intro ?_ ?_ | with_reducible exact okay_rfl rfl | with_reducible assumption | omega)
      refine W_ret ?_
      simp [Fin, hwn, rWrap]
      all_goals omega
  · refine W_seq (?_)
    apply W_regS
    · intro K hK
      simp
      repeat' (first | with_reducible exact hK | (with_reducible refine goL_split (fun _ => ?_) (fun _ => ?_) <;> simp) | with_reducible refine And.intro ?_ ?_ | with_reducible exact okay_rfl rfl | with_reducible assumption | omega)
    refine W_seq (?_)
    refine W_cond rfl (fun h => W_skip ?_) (fun h => W_exit ?_)
    · simp at h
      have ha := List.getElem?_eq_getElem h
      generalize l[i] = x at ha
      have hg := sumBy_get (f := GWrap.cost) ha
      have h1 : x.cost = x.fKind.length + x.fBox.cost := rfl
      refine W_seq (W_block (W_seq ?_))
      apply W_regS
      · intro K hK
        simp [ha]
        repeat' (first | with_reducible exact hK | (with_reducible refine goL_split (fun _ => ?_) (fun _ => ?_) <;> simp [ha]) | with_reducible refine And.intro ?_ ?_ | with_reducible exact okay_rfl rfl | with_reducible assumption | omega)
      cases ho : openR f x.fBox with
      | none =>
        have cb := openBox_ok (GG := GG) f x.fBox none ho (by omega) hk1
        have hs := rekeyW_none (key := key) ha ho
        refine W_seq (?_)
        apply W_regS
        · intro K hK
          simp
          repeat' (first | with_reducible exact hK | (with_reducible refine callQ (cb) ?_; simp) | (with_reducible refine goL_split (fun _ => ?_) (fun _ => ?_) <;> simp) | with_reducible refine And.intro ?_ ?_ | with_reducible exact okay_rfl rfl | with_reducible assumption | omega)
        refine W_seq (?_)
        apply W_regS
        · intro K hK
          simp
          repeat' (first | with_reducible exact hK | (with_reducible refine goL_split (fun _ => ?_) (fun _ => ?_) <;> simp) | with_reducible refine And.intro ?_ ?_ | with_reducible exact okay_rfl rfl | with_reducible assumption | omega)
        refine W_cond rfl (fun h2 => ?_) (fun h2 => W_skip ?_)
        · cases h2
        apply W_regS
        · intro K hK
          simp
          repeat' (first | with_reducible exact hK | (with_reducible refine goL_split (fun _ => ?_) (fun _ => ?_) <;> simp) | with_reducible refine And.intro ?_ ?_ | with_reducible exact okay_rfl rfl | with_reducible assumption | omega)
        refine ⟨l.length - (i + 1), by omega, i + 1, w, rfl, h, by rw [hs]; exact hw, .inr (by simp [gc, closeN, liveA, gcV, gcO, renA, renAs, renO, namesAs, namesA, namesO, posn]; exact wrap_id (by omega) (by omega))⟩
      | some o =>
        obtain ⟨q1, q2, q3⟩ := openR_len ho
        have cb := openBox_ok (GG := GG) f x.fBox (some o) ho (by omega) hk1
        have hs := rekeyW_some (key := key) ha ho
        have csl := sealBox_ok (GG := GG) key x.fBox.fNonce o hk2 q2 (by omega)
        have hlen := rekeyW_cost f key (l.take i)
        rw [List.length_take, ← hw] at hlen
        rw [← hw] at hs
        generalize sealV key x.fBox.fNonce o = sb at csl hs
        have hi2 := ind_bytes sb.fData
        refine W_seq (?_)
        apply W_regS
        · intro K hK
          simp
          repeat' (first | with_reducible exact hK | (with_reducible refine callQ (cb) ?_; simp) | (with_reducible refine goL_split (fun _ => ?_) (fun _ => ?_) <;> simp) | with_reducible refine And.intro ?_ ?_ | with_reducible exact okay_rfl rfl | with_reducible assumption | omega)
        refine W_seq (?_)
        apply W_regS
        · intro K hK
          simp
          repeat' (first | with_reducible exact hK | (with_reducible refine goL_split (fun _ => ?_) (fun _ => ?_) <;> simp) | with_reducible refine And.intro ?_ ?_ | with_reducible exact okay_rfl rfl | with_reducible assumption | omega)
        refine W_cond rfl (fun h2 => W_seq ?_) (fun h2 => ?_)
        rotate_left
        · cases h2
        apply W_regS
        · intro K hK
          simp
          repeat' (first | with_reducible exact hK | (with_reducible refine callQ (csl) ?_; simp) | (with_reducible refine goL_split (fun _ => ?_) (fun _ => ?_) <;> simp) | with_reducible refine And.intro ?_ ?_ | with_reducible exact okay_rfl rfl | with_reducible assumption | omega)
        apply W_regS
        · intro K hK
          simp [limit]
          repeat' (first | with_reducible exact hK | (with_reducible refine goL_split (fun _ => ?_) (fun _ => ?_) <;> simp [limit]) | with_reducible refine And.intro ?_ ?_ | with_reducible exact okay_rfl rfl | with_reducible assumption | omega)
        apply W_regS
        · intro K hK
          simp
          repeat' (first | with_reducible exact hK | (with_reducible refine goL_split (fun _ => ?_) (fun _ => ?_) <;> simp) | with_reducible refine And.intro ?_ ?_ | with_reducible exact okay_rfl rfl | with_reducible assumption | omega)
        refine ⟨l.length - (i + 1), by omega, i + 1, w ++ [⟨x.fId, x.fEnds, x.fKind, sb⟩], rfl, h, hs.symm, .inr ?_⟩
        rw [rWrap_snoc]
        simp [gc, closeN, liveA, gcV, gcO, renA, renAs, renO, namesAs, namesA, namesO, posn]
        exact wrap_id (by omega) (by omega)
    · simp at h
      rw [List.take_of_length_le (by omega)] at hw
      rw [if_pos rfl, ← hw]
      refine W_seq (?_)
      apply W_regS
      · intro K hK
        simp
        repeat' (first | with_reducible exact hK | (with_reducible refine goL_split (fun _ => ?_) (fun _ => ?_) <;> simp) | with_reducible refine And.intro ?_ ?_ | with_reducible exact okay_rfl rfl | with_reducible assumption | omega)
      refine W_ret ?_
      simp [Fin]
      all_goals omega
def putOk (r : GRack) (kind plain : List UInt8) (now ttl : Int) : Bool := rackOk r && pathOk kind && decide (plain.length ≤ 2000) && inB now 0 1000000000 && inB ttl 1 1000000000 && decide (now + ttl ≤ 1000000000) && !(r.fNext == 1000000000)
def putDone (r : GRack) (kind plain : List UInt8) (now ttl : Int) : GRack := { fKey := r.fKey, fNext := r.fNext + 1, fWraps := r.fWraps ++ [{ fId := r.fNext, fEnds := now + ttl, fKind := kind, fBox := sealV r.fKey r.fNext plain }] }
def putR (r : GRack) (kind plain : List UInt8) (now ttl : Int) : GRack := if putOk r kind plain now ttl = true ∧ r.fWraps.length ≠ 60 then putDone r kind plain now ttl else r
def putI (r : GRack) (kind plain : List UInt8) (now ttl : Int) : Int := if putOk r kind plain now ttl = true ∧ r.fWraps.length ≠ 60 then r.fNext else 0
def putC (r : GRack) (kind plain : List UInt8) (now ttl : Int) : Int := if putOk r kind plain now ttl = true then (if r.fWraps.length = 60 then 5 else 0) else 1
theorem put_cases (r : GRack) (kind plain : List UInt8) (now ttl : Int) :
    (putOk r kind plain now ttl = false → putR r kind plain now ttl = r ∧ putI r kind plain now ttl = 0 ∧ putC r kind plain now ttl = 1) ∧
    (putOk r kind plain now ttl = true → r.fWraps.length = 60 → putR r kind plain now ttl = r ∧ putI r kind plain now ttl = 0 ∧ putC r kind plain now ttl = 5) ∧
    (putOk r kind plain now ttl = true → r.fWraps.length ≠ 60 → putR r kind plain now ttl = putDone r kind plain now ttl ∧ putI r kind plain now ttl = r.fNext ∧ putC r kind plain now ttl = 0) := by
  unfold putR putI putC
  refine ⟨fun h => ?_, fun h h2 => ?_, fun h h2 => ?_⟩
  · simp [h]
  · simp [h, h2]
  · simp [h, h2]
theorem put_ok {r : GRack} {kind plain : List UInt8} {now ttl s : Int} {p1 p2 p3 p4 p5 p6 p7 : Bool} (h1 : rackOk r = p1) (h2 : pathOk kind = p2) (h3 : decide (plain.length ≤ 2000) = p3) (h4 : inB now 0 1000000000 = p4) (h5 : inB ttl 1 1000000000 = p5)
    (hs : IntKind.i64.wrap (now + ttl) = s) (h6 : decide (s ≤ 1000000000) = p6) (h7 : (r.fNext == 1000000000) = !p7) : putOk r kind plain now ttl = (p1 && p2 && p3 && p4 && p5 && p6 && p7) ∧ (p4 = true → p5 = true → s = now + ttl) := by
  have hsv : p4 = true → p5 = true → s = now + ttl := by
    intro e4 e5
    have a := inB_true (h4.trans e4)
    have b := inB_true (h5.trans e5)
    rw [← hs, wrap_id (by omega) (by omega)]
  refine ⟨?_, hsv⟩
  unfold putOk
  rw [h1, h2, h3, h4, h5, h7]
  cases p4 with
  | false => simp
  | true =>
    cases p5 with
    | false => simp
    | true => rw [← h6, hsv rfl rfl]; simp
theorem put_cost (r : GRack) (kind plain : List UInt8) (now ttl : Int) : (putR r kind plain now ttl).cost ≤ r.cost + 1 + kind.length + plain.length := by
  unfold putR
  split
  · have h1 : (putDone r kind plain now ttl).cost = (r.fWraps ++ [({ fId := r.fNext, fEnds := now + ttl, fKind := kind, fBox := sealV r.fKey r.fNext plain } : GWrap)]).length + sumBy GWrap.cost (r.fWraps ++ [({ fId := r.fNext, fEnds := now + ttl, fKind := kind, fBox := sealV r.fKey r.fNext plain } : GWrap)]) := rfl
    have h2 : r.cost = r.fWraps.length + sumBy GWrap.cost r.fWraps := rfl
    have h3 : (GWrap.mk r.fNext (now + ttl) kind (sealV r.fKey r.fNext plain)).cost = kind.length + (mask r.fKey r.fNext plain).length := rfl
    rw [mask_len] at h3
    rw [h1, sumBy_append, List.length_append]
    simp only [sumBy, List.length_cons, List.length_nil]
    omega
  · omega
theorem next_key {x : Int} (h : inB x 1 1000000000 = true) : keyB x = true := by
  have := inB_true h
  unfold keyB inB
  simp
  omega
theorem s_PutWrap_ok (r : GRack) (kind plain : List UInt8) (now ttl : Int) (hc : r.cost ≤ 1048576) (hkl : kind.length ≤ 1048576) (hpl : plain.length ≤ 1048576) : Valid PP GG F_S_PutWrap [.agg r.c, .d (.str kind), .d (.slc 1 (bytesD plain)), .d (.int .i64 now), .d (.int .i64 ttl)] (.tup [.agg (putR r kind plain now ttl).o, .d (.int .i64 (putI r kind plain now ttl)), .d (.int .i64 (putC r kind plain now ttl))]) [none, none, none, none, none] := by
  refine v_S_PutWrap [.agg (putR r kind plain now ttl).o, .d (.int .i64 (putI r kind plain now ttl)), .d (.int .i64 (putC r kind plain now ttl))] rfl rfl ?_
  have cr := s_RackOk_ok (GG := GG) r hc
  have hpc := put_cases r kind plain now ttl
  have cp := s_PathOk_ok (GG := GG) kind (by omega)
  have c4 : Valid PP GG F_S_l01In [.d (.int .i64 now), .d (.int .i64 0), .d (.int .i64 1000000000)] (.d (.bool (inB now 0 1000000000))) [none, none, none] := l01In_ok _ _ _
  have c5 : Valid PP GG F_S_l01In [.d (.int .i64 ttl), .d (.int .i64 1), .d (.int .i64 1000000000)] (.d (.bool (inB ttl 1 1000000000))) [none, none, none] := l01In_ok _ _ _
  have cc := l14Copy_ok (GG := GG) r hc
  have hrk := rack_key (r := r)
  obtain ⟨s, hs⟩ : ∃ s, IntKind.i64.wrap (now + ttl) = s := ⟨_, rfl⟩
  obtain ⟨p1, e1⟩ : ∃ p, rackOk r = p := ⟨_, rfl⟩
  obtain ⟨p2, e2⟩ : ∃ p, pathOk kind = p := ⟨_, rfl⟩
  obtain ⟨p3, e3⟩ : ∃ p, decide (plain.length ≤ 2000) = p := ⟨_, rfl⟩
  obtain ⟨p4, e4⟩ : ∃ p, inB now 0 1000000000 = p := ⟨_, rfl⟩
  obtain ⟨p5, e5⟩ : ∃ p, inB ttl 1 1000000000 = p := ⟨_, rfl⟩
  obtain ⟨p6, e6⟩ : ∃ p, decide (s ≤ 1000000000) = p := ⟨_, rfl⟩
  obtain ⟨p7, e7⟩ : ∃ p, (r.fNext == 1000000000) = !p := ⟨!(r.fNext == 1000000000), by simp⟩
  have e3' : decide (2000 < (plain.length : Int)) = !p3 := by rw [← e3, ← decide_not]; exact decide_eq_decide.2 (by omega)
  have e6' : decide (1000000000 < s) = !p6 := by rw [← e6, ← decide_not]; exact decide_eq_decide.2 (by omega)
  obtain ⟨hok, hsv⟩ := put_ok (r := r) (kind := kind) (plain := plain) e1 e2 e3 e4 e5 hs e6 e7
  have hco : r.cost = r.fWraps.length + sumBy GWrap.cost r.fWraps := rfl
  rw [e2] at cp
  rw [e4] at c4
  rw [e5] at c5
  generalize putR r kind plain now ttl = g at hpc ⊢
  generalize putI r kind plain now ttl = vi at hpc ⊢
  generalize putC r kind plain now ttl = vc at hpc ⊢
  rw [e1] at cr
  refine W_seq (?_)
  apply W_regS
  · intro K hK
    simp
    repeat' (first | with_reducible exact hK | (with_reducible refine goL_split (fun _ => ?_) (fun _ => ?_) <;> simp) | with_reducible refine And.intro ?_ ?_ | with_reducible exact okay_rfl rfl | with_reducible assumption | omega)
  refine W_seq (W_seq (?_))
  refine W_regB 49 (!(p1 && p2 && p3 && p4 && p5 && p6 && p7)) (fun K hK => ?_) ?_
  · simp [e3', hs, e6', e7]
    repeat' (first | exact hK _ _ (by clear hK; first | omega | (exact decide_eq_false (by omega)) | (exact decide_eq_true (by omega)) | (exact (decide_eq_true (by omega)).symm) | (exact (decide_eq_false (by omega)).symm) | (exact decide_eq_decide.2 (by omega)) | (simp only [← decide_not]; exact decide_eq_decide.2 (by omega)) | (simp [*]; done) | (simp [*]; omega) | (simp_all; done) | (simp_all; omega) | (rw [Bool.eq_iff_iff]; simp at *; omega)) | (with_reducible refine callQ (cr) ?_; simp [e3', hs, e6', e7]) | (with_reducible refine callQ (cp) ?_; simp [e3', hs, e6', e7]) | (with_reducible refine callQ (c4) ?_; simp [e3', hs, e6', e7]) | (with_reducible refine callQ (c5) ?_; simp [e3', hs, e6', e7]) | (with_reducible refine goL_split (fun _ => ?_) (fun _ => ?_) <;> simp [e3', hs, e6', e7]) | with_reducible refine And.intro ?_ ?_ | with_reducible exact okay_rfl rfl | with_reducible assumption | omega)
  refine W_cond rfl (fun h => W_seq ?_) (fun h => W_skip ?_)
  · obtain ⟨rfl, rfl, rfl⟩ := hpc.1 (by rw [hok]; revert h; generalize (p1 && p2 && p3 && p4 && p5 && p6 && p7) = q; cases q <;> simp)
    apply W_regS
    · intro K hK
      simp
      repeat' (first | with_reducible exact hK | (with_reducible refine callQ (cc) ?_; simp) | (with_reducible refine goL_split (fun _ => ?_) (fun _ => ?_) <;> simp) | with_reducible refine And.intro ?_ ?_ | with_reducible exact okay_rfl rfl | with_reducible assumption | omega)
    refine W_ret ?_
    simp [Fin]
    all_goals omega
  rw [h]
  have hall : (p1 && p2 && p3 && p4 && p5 && p6 && p7) = true := by revert h; generalize (p1 && p2 && p3 && p4 && p5 && p6 && p7) = q; cases q <;> simp
  have hparts : p1 = true ∧ p3 = true ∧ p4 = true ∧ p5 = true := by revert hall; cases p1 <;> cases p3 <;> cases p4 <;> cases p5 <;> simp
  have hse := hsv hparts.2.2.1 hparts.2.2.2
  subst hse
  obtain ⟨kk, kn⟩ := hrk (by rw [e1]; exact hparts.1)
  have hpl2 : plain.length ≤ 2000 := of_decide_eq_true (e3.trans hparts.2.1)
  have hnr := inB_true kn
  have csl := s_SealBox_ok (GG := GG) r.fKey r.fNext plain kk (next_key kn) hpl2
  have hwn : IntKind.i64.wrap (r.fNext + 1) = r.fNext + 1 := wrap_id (by omega) (by omega)
  have hindp := ind_bytes (sealV r.fKey r.fNext plain).fData
  refine W_seq (W_seq (?_))
  obtain ⟨z, hz⟩ : ∃ z, ((r.fWraps.length : Int) == 60) = z := ⟨_, rfl⟩
  refine W_regB 55 (z) (fun K hK => ?_) ?_
  · simp [hz]
    repeat' (first | exact hK _ _ (by clear hK; first | omega | (exact decide_eq_false (by omega)) | (exact decide_eq_true (by omega)) | (exact (decide_eq_true (by omega)).symm) | (exact (decide_eq_false (by omega)).symm) | (exact decide_eq_decide.2 (by omega)) | (simp only [← decide_not]; exact decide_eq_decide.2 (by omega)) | (simp [*]; done) | (simp [*]; omega) | (simp_all; done) | (simp_all; omega) | (rw [Bool.eq_iff_iff]; simp at *; omega)) | (with_reducible refine goL_split (fun _ => ?_) (fun _ => ?_) <;> simp [hz]) | with_reducible refine And.intro ?_ ?_ | with_reducible exact okay_rfl rfl | with_reducible assumption | omega)
  refine W_cond rfl (fun h3 => W_seq ?_) (fun h3 => W_skip ?_)
  · obtain ⟨rfl, rfl, rfl⟩ := hpc.2.1 (by rw [hok]; exact hall) (by rw [h3] at hz; simp at hz; omega)
    apply W_regS
    · intro K hK
      simp
      repeat' (first | with_reducible exact hK | (with_reducible refine callQ (cc) ?_; simp) | (with_reducible refine goL_split (fun _ => ?_) (fun _ => ?_) <;> simp) | with_reducible refine And.intro ?_ ?_ | with_reducible exact okay_rfl rfl | with_reducible assumption | omega)
    refine W_ret ?_
    simp [Fin]
    all_goals omega
  obtain ⟨rfl, rfl, rfl⟩ := hpc.2.2 (by rw [hok]; exact hall) (by rw [h3] at hz; simp at hz; omega)
  simp only [putDone]
  generalize sealV r.fKey r.fNext plain = sb at csl hindp ⊢
  refine W_seq (?_)
  apply W_regS
  · intro K hK
    simp
    repeat' (first | with_reducible exact hK | (with_reducible refine callQ (cc) ?_; simp) | (with_reducible refine goL_split (fun _ => ?_) (fun _ => ?_) <;> simp) | with_reducible refine And.intro ?_ ?_ | with_reducible exact okay_rfl rfl | with_reducible assumption | omega)
  refine W_seq (?_)
  apply W_regS
  · intro K hK
    simp
    repeat' (first | with_reducible exact hK | (with_reducible refine callQ (csl) ?_; simp) | (with_reducible refine goL_split (fun _ => ?_) (fun _ => ?_) <;> simp) | with_reducible refine And.intro ?_ ?_ | with_reducible exact okay_rfl rfl | with_reducible assumption | omega)
  refine W_seq (?_)
  apply W_regS
  · intro K hK
    simp [hs, limit]
    repeat' (first | with_reducible exact hK | (with_reducible refine goL_split (fun _ => ?_) (fun _ => ?_) <;> simp [hs, limit]) | with_reducible refine And.intro ?_ ?_ | with_reducible exact okay_rfl rfl | with_reducible assumption | omega)
  refine W_seq (?_)
  apply W_regS
  · intro K hK
    simp [hwn]
    repeat' (first | with_reducible exact hK | (with_reducible refine goL_split (fun _ => ?_) (fun _ => ?_) <;> simp [hwn]) | with_reducible refine And.intro ?_ ?_ | with_reducible exact okay_rfl rfl | with_reducible assumption | omega)
  refine W_seq (?_)
  apply W_regD
  · intro K hK
    simp
    repeat' (first | with_reducible exact hK | (with_reducible refine goL_split (fun _ => ?_) (fun _ => ?_) <;> simp) | with_reducible refine And.intro ?_ ?_ | with_reducible exact okay_rfl rfl | with_reducible assumption | omega)
  refine W_ret ?_
  simp [Fin, rWrap_snoc]
  all_goals omega
theorem putWrap_ok [MaxL GG] (r : GRack) (kind plain : List UInt8) (now ttl : Int) (hc : r.cost ≤ 1048576) (hkl : kind.length ≤ 1048576) (hpl : plain.length ≤ 1048576) (hrok : rackOk r = true) : Valid PP GG F_I_putWrap [.agg r.c, .d (.str kind), .d (.slc 1 (bytesD plain)), .d (.int .i64 now), .d (.int .i64 ttl)] (.tup [.agg (putR r kind plain now ttl).o, .d (.int .i64 (putI r kind plain now ttl)), .d (.int .i64 (putC r kind plain now ttl))]) [none, none, none, none, none] := by
  refine v_I_putWrap [.agg (putR r kind plain now ttl).o, .d (.int .i64 (putI r kind plain now ttl)), .d (.int .i64 (putC r kind plain now ttl))] rfl rfl ?_
  have hpc := put_cases r kind plain now ttl
  have cp := isPath_ok (GG := GG) kind (by omega)
  have c4 : Valid PP GG F_I_within [.d (.int .i64 now), .d (.int .i64 0), .d (.int .i64 1000000000)] (.d (.bool (inB now 0 1000000000))) [none, none, none] := within_ok _ _ _
  have c5 : Valid PP GG F_I_within [.d (.int .i64 ttl), .d (.int .i64 1), .d (.int .i64 1000000000)] (.d (.bool (inB ttl 1 1000000000))) [none, none, none] := within_ok _ _ _
  have cc := cloneRack_ok (GG := GG) r hc
  have hrk := rack_key (r := r)
  obtain ⟨s, hs⟩ : ∃ s, IntKind.i64.wrap (now + ttl) = s := ⟨_, rfl⟩
  obtain ⟨p1, e1⟩ : ∃ p, rackOk r = p := ⟨_, rfl⟩
  obtain ⟨p2, e2⟩ : ∃ p, pathOk kind = p := ⟨_, rfl⟩
  obtain ⟨p3, e3⟩ : ∃ p, decide (plain.length ≤ 2000) = p := ⟨_, rfl⟩
  obtain ⟨p4, e4⟩ : ∃ p, inB now 0 1000000000 = p := ⟨_, rfl⟩
  obtain ⟨p5, e5⟩ : ∃ p, inB ttl 1 1000000000 = p := ⟨_, rfl⟩
  obtain ⟨p6, e6⟩ : ∃ p, decide (s ≤ 1000000000) = p := ⟨_, rfl⟩
  obtain ⟨p7, e7⟩ : ∃ p, (r.fNext == 1000000000) = !p := ⟨!(r.fNext == 1000000000), by simp⟩
  have e3' : decide (2000 < (plain.length : Int)) = !p3 := by rw [← e3, ← decide_not]; exact decide_eq_decide.2 (by omega)
  have e6' : decide (1000000000 < s) = !p6 := by rw [← e6, ← decide_not]; exact decide_eq_decide.2 (by omega)
  obtain ⟨hok, hsv⟩ := put_ok (r := r) (kind := kind) (plain := plain) e1 e2 e3 e4 e5 hs e6 e7
  have hco : r.cost = r.fWraps.length + sumBy GWrap.cost r.fWraps := rfl
  rw [e2] at cp
  rw [e4] at c4
  rw [e5] at c5
  generalize putR r kind plain now ttl = g at hpc ⊢
  generalize putI r kind plain now ttl = vi at hpc ⊢
  generalize putC r kind plain now ttl = vc at hpc ⊢
  have hp1 : p1 = true := e1.symm.trans hrok
  refine W_seq (?_)
  apply W_regS
  · intro K hK
    simp
    repeat' (first | with_reducible exact hK | (with_reducible refine goL_split (fun _ => ?_) (fun _ => ?_) <;> simp) | with_reducible refine And.intro ?_ ?_ | with_reducible exact okay_rfl rfl | with_reducible assumption | omega)
  refine W_seq (?_)
  apply W_regS
  · intro K hK
    simp
    repeat' (first | with_reducible exact hK | (with_reducible refine callQ (cc) ?_; simp) | (with_reducible refine goL_split (fun _ => ?_) (fun _ => ?_) <;> simp) | with_reducible refine And.intro ?_ ?_ | with_reducible exact okay_rfl rfl | with_reducible assumption | omega)
  refine W_seq (W_seq (?_))
  refine W_regB 44 (!(p2 && p3 && p4 && p5 && p6 && p7)) (fun K hK => ?_) ?_
  · simp [e3', hs, e6', e7]
    repeat' (first | exact hK _ _ (by clear hK; first | omega | (exact decide_eq_false (by omega)) | (exact decide_eq_true (by omega)) | (exact (decide_eq_true (by omega)).symm) | (exact (decide_eq_false (by omega)).symm) | (exact decide_eq_decide.2 (by omega)) | (simp only [← decide_not]; exact decide_eq_decide.2 (by omega)) | (simp [*]; done) | (simp [*]; omega) | (simp_all; done) | (simp_all; omega) | (rw [Bool.eq_iff_iff]; simp at *; omega)) | (with_reducible refine callQ (cp) ?_; simp [e3', hs, e6', e7]) | (with_reducible refine callQ (c4) ?_; simp [e3', hs, e6', e7]) | (with_reducible refine callQ (c5) ?_; simp [e3', hs, e6', e7]) | (with_reducible refine goL_split (fun _ => ?_) (fun _ => ?_) <;> simp [e3', hs, e6', e7]) | with_reducible refine And.intro ?_ ?_ | with_reducible exact okay_rfl rfl | with_reducible assumption | omega)
  have hq : (p1 && p2 && p3 && p4 && p5 && p6 && p7) = (p2 && p3 && p4 && p5 && p6 && p7) := by rw [hp1]; simp
  rw [← hq]
  refine W_cond rfl (fun h => W_seq ?_) (fun h => W_skip ?_)
  · obtain ⟨rfl, rfl, rfl⟩ := hpc.1 (by rw [hok]; revert h; generalize (p1 && p2 && p3 && p4 && p5 && p6 && p7) = q; cases q <;> simp)
    apply W_regS
    · intro K hK
      simp
      repeat' (first | with_reducible exact hK | (with_reducible refine goL_split (fun _ => ?_) (fun _ => ?_) <;> simp) | with_reducible refine And.intro ?_ ?_ | with_reducible exact okay_rfl rfl | with_reducible assumption | omega)
    refine W_ret ?_
    simp [Fin]
    all_goals omega
  rw [h]
  have hall : (p1 && p2 && p3 && p4 && p5 && p6 && p7) = true := by revert h; generalize (p1 && p2 && p3 && p4 && p5 && p6 && p7) = q; cases q <;> simp
  have hparts : p1 = true ∧ p3 = true ∧ p4 = true ∧ p5 = true := by revert hall; cases p1 <;> cases p3 <;> cases p4 <;> cases p5 <;> simp
  have hse := hsv hparts.2.2.1 hparts.2.2.2
  subst hse
  obtain ⟨kk, kn⟩ := hrk (by rw [e1]; exact hparts.1)
  have hpl2 : plain.length ≤ 2000 := of_decide_eq_true (e3.trans hparts.2.1)
  have hnr := inB_true kn
  have csl := sealBox_ok (GG := GG) r.fKey r.fNext plain kk (next_key kn) (by omega)
  have hwn : IntKind.i64.wrap (r.fNext + 1) = r.fNext + 1 := wrap_id (by omega) (by omega)
  have hindp := ind_bytes (sealV r.fKey r.fNext plain).fData
  refine W_seq (W_seq (?_))
  obtain ⟨z, hz⟩ : ∃ z, ((r.fWraps.length : Int) == 60) = z := ⟨_, rfl⟩
  refine W_regB 49 (z) (fun K hK => ?_) ?_
  · simp [hz]
    repeat' (first | exact hK _ _ (by clear hK; first | omega | (exact decide_eq_false (by omega)) | (exact decide_eq_true (by omega)) | (exact (decide_eq_true (by omega)).symm) | (exact (decide_eq_false (by omega)).symm) | (exact decide_eq_decide.2 (by omega)) | (simp only [← decide_not]; exact decide_eq_decide.2 (by omega)) | (simp [*]; done) | (simp [*]; omega) | (simp_all; done) | (simp_all; omega) | (rw [Bool.eq_iff_iff]; simp at *; omega)) | (with_reducible refine goL_split (fun _ => ?_) (fun _ => ?_) <;> simp [hz]) | with_reducible refine And.intro ?_ ?_ | with_reducible exact okay_rfl rfl | with_reducible assumption | omega)
  refine W_cond rfl (fun h3 => W_seq ?_) (fun h3 => W_skip ?_)
  · obtain ⟨rfl, rfl, rfl⟩ := hpc.2.1 (by rw [hok]; exact hall) (by rw [h3] at hz; simp at hz; omega)
    apply W_regS
    · intro K hK
      simp
      repeat' (first | with_reducible exact hK | (with_reducible refine goL_split (fun _ => ?_) (fun _ => ?_) <;> simp) | with_reducible refine And.intro ?_ ?_ | with_reducible exact okay_rfl rfl | with_reducible assumption | omega)
    refine W_ret ?_
    simp [Fin]
    all_goals omega
  obtain ⟨rfl, rfl, rfl⟩ := hpc.2.2 (by rw [hok]; exact hall) (by rw [h3] at hz; simp at hz; omega)
  simp only [putDone]
  generalize sealV r.fKey r.fNext plain = sb at csl hindp ⊢
  refine W_seq (?_)
  apply W_regD
  · intro K hK
    simp [hs, limit]
    repeat' (first | with_reducible exact hK | (with_reducible refine callQ (csl) ?_; simp [hs, limit]) | (with_reducible refine goL_split (fun _ => ?_) (fun _ => ?_) <;> simp [hs, limit]) | with_reducible refine And.intro ?_ ?_ | with_reducible exact okay_rfl rfl | with_reducible assumption | omega)
  refine W_seq (?_)
  apply W_regS
  · intro K hK
    simp [hwn]
    repeat' (first | with_reducible exact hK | (with_reducible refine goL_split (fun _ => ?_) (fun _ => ?_) <;> simp [hwn]) | with_reducible refine And.intro ?_ ?_ | with_reducible exact okay_rfl rfl | with_reducible assumption | omega)
  refine W_seq (?_)
  apply W_regD
  · intro K hK
    simp
    repeat' (first | with_reducible exact hK | (with_reducible refine goL_split (fun _ => ?_) (fun _ => ?_) <;> simp) | with_reducible refine And.intro ?_ ?_ | with_reducible exact okay_rfl rfl | with_reducible assumption | omega)
  refine W_ret ?_
  simp [Fin, rWrap_snoc]
  all_goals omega
theorem i_PutWrap_ok [MaxL GG] (r : GRack) (kind plain : List UInt8) (now ttl : Int) (hc : r.cost ≤ 1048576) (hkl : kind.length ≤ 1048576) (hpl : plain.length ≤ 1048576) : Valid PP GG F_I_PutWrap [.agg r.c, .d (.str kind), .d (.slc 1 (bytesD plain)), .d (.int .i64 now), .d (.int .i64 ttl)] (.tup [.agg (putR r kind plain now ttl).o, .d (.int .i64 (putI r kind plain now ttl)), .d (.int .i64 (putC r kind plain now ttl))]) [none, none, none, none, none] := by
  refine v_I_PutWrap [.agg (putR r kind plain now ttl).o, .d (.int .i64 (putI r kind plain now ttl)), .d (.int .i64 (putC r kind plain now ttl))] rfl rfl ?_
  have cr := isRack_ok (GG := GG) r hc
  have cc := cloneRack_ok (GG := GG) r hc
  have hpc := put_cases r kind plain now ttl
  have hop : rackOk r = false → putOk r kind plain now ttl = false := fun h => by unfold putOk; rw [h]; rfl
  have cw := putWrap_ok (GG := GG) r kind plain now ttl hc hkl hpl
  have hind := ind_rWrap (putR r kind plain now ttl).fWraps
  generalize rackOk r = b at cr hop cw
  generalize putR r kind plain now ttl = g at hpc cw hind ⊢
  generalize putI r kind plain now ttl = vi at hpc cw ⊢
  generalize putC r kind plain now ttl = vc at hpc cw ⊢
  refine W_seq (?_)
  apply W_regS
  · intro K hK
    simp
    repeat' (first | with_reducible exact hK | (with_reducible refine goL_split (fun _ => ?_) (fun _ => ?_) <;> simp) | with_reducible refine And.intro ?_ ?_ | with_reducible exact okay_rfl rfl | with_reducible assumption | omega)
  refine W_seq (W_seq (?_))
  apply W_regS
  · intro K hK
    simp
    repeat' (first | with_reducible exact hK | (with_reducible refine callQ (cr) ?_; simp) | (with_reducible refine goL_split (fun _ => ?_) (fun _ => ?_) <;> simp) | with_reducible refine And.intro ?_ ?_ | with_reducible exact okay_rfl rfl | with_reducible assumption | omega)
  refine W_cond rfl (fun h => W_seq ?_) (fun h => W_skip ?_)
  · simp at h
    obtain ⟨rfl, rfl, rfl⟩ := hpc.1 (hop h)
    apply W_regS
    · intro K hK
      simp
      repeat' (first | with_reducible exact hK | (with_reducible refine callQ (cc) ?_; simp) | (with_reducible refine goL_split (fun _ => ?_) (fun _ => ?_) <;> simp) | with_reducible refine And.intro ?_ ?_ | with_reducible exact okay_rfl rfl | with_reducible assumption | omega)
    refine W_ret ?_
    simp [Fin]
    all_goals omega
  simp at h
  refine W_seq (?_)
  apply W_regS
  · intro K hK
    simp
    repeat' (first | with_reducible exact hK | (with_reducible refine callQ (cw h) ?_; simp) | (with_reducible refine goL_split (fun _ => ?_) (fun _ => ?_) <;> simp) | with_reducible refine And.intro ?_ ?_ | with_reducible exact okay_rfl rfl | with_reducible assumption | omega)
  refine W_ret ?_
  simp [Fin]
  all_goals omega
def lessW (id : Int) (l : List GWrap) : List GWrap := l.filter fun x => !(x.fId == id)
def lessR (r : GRack) (id : Int) : GRack := { fKey := r.fKey, fNext := r.fNext, fWraps := lessW id r.fWraps }
def openT (r : GRack) (id now : Int) : GRack × List UInt8 × Int :=
  if rackOk r = false ∨ inB now 0 1000000000 = false then (r, [], 1) else
  match r.fWraps.find? (fun x => x.fId == id) with
  | none => (r, [], 2)
  | some x => if x.fEnds ≤ now then (lessR r id, [], 3) else
    match openR r.fKey x.fBox with
    | none => (lessR r id, [], 4)
    | some o => (lessR r id, o, 0)
theorem idxV_find {α : Type} (p : α → Bool) (l : List α) : (idxV p l = -1 ∧ l.find? p = none) ∨ ∃ (i : Nat) (x : α), idxV p l = i ∧ l[i]? = some x ∧ p x = true ∧ l.find? p = some x := by
  unfold idxV
  cases h : l.findIdx? p with
  | none =>
    refine .inl ⟨rfl, ?_⟩
    rw [List.find?_eq_none]
    intro x hx
    have := List.findIdx?_eq_none_iff.1 h x hx
    simp [this]
  | some i =>
    obtain ⟨h1, h2, h3⟩ := List.findIdx?_eq_some_iff_getElem.1 h
    refine .inr ⟨i, l[i], rfl, List.getElem?_eq_getElem h1, h2, ?_⟩
    rw [List.find?_eq_some_iff_getElem]
    exact ⟨h2, i, h1, rfl, fun j hj => by simpa using h3 j hj⟩
theorem lessW_cost (id : Int) (l : List GWrap) : (lessW id l).length ≤ l.length ∧ sumBy GWrap.cost (lessW id l) ≤ sumBy GWrap.cost l := by
  unfold lessW
  induction l with
  | nil => simp
  | cons x l ih =>
    simp only [List.filter_cons]
    split
    · simp only [sumBy, List.length_cons]; omega
    · simp only [sumBy, List.length_cons]; omega
theorem rack_adj {r : GRack} (h : rackOk r = true) : ∀ (i : Nat) x y, r.fWraps[i]? = some y → r.fWraps[i + 1]? = some x → y.fId < x.fId := by
  intro i x y hy hx
  have hlt := (List.getElem?_eq_some_iff.1 hx).1
  unfold rackOk at h
  simp only [Bool.and_eq_true, List.all_eq_true] at h
  have := h.2 (i + 1) (List.mem_range.2 hlt)
  unfold wlinkAt at this
  rw [hx] at this
  simp only [hy, Bool.and_eq_true, decide_eq_true_eq] at this
  exact this.2
theorem less_del {r : GRack} (h : rackOk r = true) {i : Nat} {x : GWrap} {id : Int} (hx : r.fWraps[i]? = some x) (hid : x.fId = id) : rWrap (lessW id r.fWraps) = (rWrap r.fWraps).take i ++ (rWrap r.fWraps).drop (i + 1) := by
  subst hid
  unfold lessW rWrap
  rw [filter_del (key := GWrap.fId) (rack_adj h) hx]
  simp
def delWrap_ren : Go.Shelf.Ren := ⟨fun | 45 => 76 | n => n, fun | 22 => 26 | 23 => 61 | n => n, fun n => n⟩
theorem delWrap : Go.Proofs.SlLaysE0.n45 PP delWrap_ren := {
  mixed := by kernel_rfl
  f45 := ⟨"slices.Delete[[]loop.example/g00705/impl.Wrap,loop.example/g00705/impl.Wrap]", by decide, Tryd.func76.trans (congrArg some (by kernel_rfl))⟩
  t0 := Tryd.underlying0
  a0 := Tryd.isAgg0
  z0 := Tryd.sizeOf0
  v0 := Tryd.zeroValue0
  t3 := Tryd.underlying3
  a3 := Tryd.isAgg3
  z3 := Tryd.sizeOf3
  v3 := Tryd.zeroValue3
  t4 := Tryd.underlying4
  a4 := Tryd.isAgg4
  z4 := Tryd.sizeOf4
  v4 := Tryd.zeroValue4
  t22 := Tryd.underlying26
  a22 := Tryd.isAgg26
  z22 := Tryd.sizeOf26
  v22 := Tryd.zeroValue26
}
theorem DeleteWrap_ok (rows : List (List D)) (i j : Nat) (hij : i ≤ j) (hj : j ≤ rows.length) : Valid PP GG 76 [.own 1 6 rows, .d (.int .i64 i), .d (.int .i64 j)] (.own 1 6 (rows.take i ++ rows.drop j)) [none, none, none] :=
  delete_valid delWrap ⟨Tryd.f76, Tryd.func76, by kernel_rfl, by kernel_rfl⟩ (by kernel_rfl) (by omega) i j hij hj
theorem openWrap_ok [MaxL GG] (r : GRack) (id now : Int) (hc : r.cost ≤ 1048576) (hrok : rackOk r = true) (hnow : inB now 0 1000000000 = true) : Valid PP GG F_I_openWrap [.agg r.c, .d (.int .i64 id), .d (.int .i64 now)] (.tup [.agg (openT r id now).1.o, .own 0 1 (bytesD (openT r id now).2.1), .d (.int .i64 (openT r id now).2.2)]) [none, none, none] := by
  refine v_I_openWrap [.agg (openT r id now).1.o, .own 0 1 (bytesD (openT r id now).2.1), .d (.int .i64 (openT r id now).2.2)] rfl rfl ?_
  have ca := wrapIndex_ok (GG := GG) r id hc
  have cc := cloneRack_ok (GG := GG) r hc
  obtain ⟨t, ht⟩ : ∃ t, openT r id now = t := ⟨_, rfl⟩
  rw [ht]
  unfold openT at ht
  rw [hrok, hnow] at ht
  simp only [Bool.true_eq_false, or_self, if_false] at ht
  have hco : r.cost = r.fWraps.length + sumBy GWrap.cost r.fWraps := rfl
  have hind := ind_rWrap r.fWraps
  rcases idxV_find (fun x : GWrap => x.fId == id) r.fWraps with ⟨e1, e2⟩ | ⟨i, x, e1, e2, e3, e4⟩
  · rw [e1] at ca
    rw [e2] at ht
    simp only at ht
    subst ht
    repeat' (first | refine W_seq ?_ | refine W_skip ?_ | refine W_block ?_ | (refine W_exit ?_; first | refine pick_pos rfl ?_ | (refine pick_neg rfl ?_; first | refine pick_pos rfl ?_ | (refine pick_neg rfl ?_; refine pick_pos rfl ?_))) | (refine W_regP fun K hK => ?_; simp) | (refine W_regPD fun K hK => ?_; simp) | (with_reducible refine hK _ ?_; clear hK K) | (with_reducible refine callQ (ca) ?_; simp) | (with_reducible refine callQ (cc) ?_; simp) | (with_reducible refine goL_split (fun h => ?_) (fun h => ?_) <;> first | (exfalso; simp at h; done) | (exfalso; simp at h; omega) | (exfalso; simp at h; contradiction) | ((try simp at h); simp)) | with_reducible refine And.intro ?_ ?_ | with_reducible exact okay_rfl rfl | with_reducible assumption | (refine W_cond rfl (fun h => ?_) (fun h => ?_) <;> first | (exfalso; simp at h; done) | (exfalso; simp at h; omega) | (exfalso; simp at h; contradiction) | (exfalso; simp_all; done) | (try simp at h)) | (refine W_ret ?_; simp [Fin]) | omega)
    all_goals (first | (simp_all [bytesD]; done) | ((repeat' split) <;> first | omega | (simp_all [bytesD]; done)))
  · rw [e1] at ca
    rw [e4] at ht
    simp only at ht
    subst ht
    have hld := less_del hrok e2 (by simpa using e3)
    have hg := sumBy_get (f := GWrap.cost) e2
    have hcx : x.cost = x.fKind.length + x.fBox.cost := rfl
    have hlt := (List.getElem?_eq_some_iff.1 e2).1
    have co := openBox_ok (GG := GG) r.fKey x.fBox _ rfl (by omega) (rack_key hrok).1
    have hol := @openR_len r.fKey x.fBox
    have cd := DeleteWrap_ok (GG := GG) (rWrap r.fWraps) i (i + 1) (by omega) (by rw [rWrap_len]; omega)
    rw [← hld, show ((i + 1 : Nat) : Int) = (i : Int) + 1 by omega] at cd
    have hwi : IntKind.i64.wrap ((i : Int) + 1) = (i : Int) + 1 := wrap_id (by omega) (by omega)
    generalize openR r.fKey x.fBox = q at co hol ⊢
    cases q <;> (simp only [Option.getD_none, Option.getD_some, Option.isSome_none, Option.isSome_some] at co)
    · repeat' (first | refine W_seq ?_ | refine W_skip ?_ | refine W_block ?_ | (refine W_exit ?_; first | refine pick_pos rfl ?_ | (refine pick_neg rfl ?_; first | refine pick_pos rfl ?_ | (refine pick_neg rfl ?_; refine pick_pos rfl ?_))) | (refine W_regP fun K hK => ?_; simp [e2, hwi]) | (refine W_regPD fun K hK => ?_; simp [e2, hwi]) | (with_reducible refine hK _ ?_; clear hK K) | (with_reducible refine callQ (ca) ?_; simp [e2, hwi]) | (with_reducible refine callQ (cc) ?_; simp [e2, hwi]) | (with_reducible refine callQ (cd) ?_; simp [e2, hwi]) | (with_reducible refine callQ (co) ?_; simp [e2, hwi]) | (with_reducible refine goL_split (fun h => ?_) (fun h => ?_) <;> first | (exfalso; simp at h; done) | (exfalso; simp at h; omega) | (exfalso; simp at h; contradiction) | ((try simp at h); simp [e2, hwi])) | with_reducible refine And.intro ?_ ?_ | with_reducible exact okay_rfl rfl | with_reducible assumption | (refine W_cond rfl (fun h => ?_) (fun h => ?_) <;> first | (exfalso; simp at h; done) | (exfalso; simp at h; omega) | (exfalso; simp at h; contradiction) | (exfalso; simp_all; done) | (try simp at h)) | (refine W_ret ?_; simp [Fin, e2, hwi]) | omega)
      all_goals (first | (simp_all [lessR, bytesD]; done) | ((repeat' split) <;> first | omega | (simp_all [lessR, bytesD]; done)))
    · rename_i o
      have hio := ind_bytes o
      repeat' (first | refine W_seq ?_ | refine W_skip ?_ | refine W_block ?_ | (refine W_exit ?_; first | refine pick_pos rfl ?_ | (refine pick_neg rfl ?_; first | refine pick_pos rfl ?_ | (refine pick_neg rfl ?_; refine pick_pos rfl ?_))) | (refine W_regP fun K hK => ?_; simp [e2, hwi]) | (refine W_regPD fun K hK => ?_; simp [e2, hwi]) | (with_reducible refine hK _ ?_; clear hK K) | (with_reducible refine callQ (ca) ?_; simp [e2, hwi]) | (with_reducible refine callQ (cc) ?_; simp [e2, hwi]) | (with_reducible refine callQ (cd) ?_; simp [e2, hwi]) | (with_reducible refine callQ (co) ?_; simp [e2, hwi]) | (with_reducible refine goL_split (fun h => ?_) (fun h => ?_) <;> first | (exfalso; simp at h; done) | (exfalso; simp at h; omega) | (exfalso; simp at h; contradiction) | ((try simp at h); simp [e2, hwi])) | with_reducible refine And.intro ?_ ?_ | with_reducible exact okay_rfl rfl | with_reducible assumption | (refine W_cond rfl (fun h => ?_) (fun h => ?_) <;> first | (exfalso; simp at h; done) | (exfalso; simp at h; omega) | (exfalso; simp at h; contradiction) | (exfalso; simp_all; done) | (try simp at h)) | (refine W_ret ?_; simp [Fin, e2, hwi]) | omega)
      all_goals (first | (simp_all [lessR, bytesD]; done) | ((repeat' split) <;> first | omega | (simp_all [lessR, bytesD]; done)))
theorem adj_pairwise {α : Type} {key : α → Int} {l : List α} : (∀ (i : Nat) x y, l[i]? = some y → l[i + 1]? = some x → key y < key x) ↔ l.Pairwise (fun y x => key y < key x) := by
  constructor
  · intro h
    rw [List.pairwise_iff_getElem]
    intro i j hi hj hij
    exact adj_lt h (j - i - 1) i _ _ (List.getElem?_eq_getElem hi) (by rw [show i + (j - i - 1) + 1 = j by omega]; exact List.getElem?_eq_getElem hj)
  · intro h i x y hy hx
    rw [List.pairwise_iff_getElem] at h
    obtain ⟨h1, e1⟩ := List.getElem?_eq_some_iff.1 hy
    obtain ⟨h2, e2⟩ := List.getElem?_eq_some_iff.1 hx
    have := h i (i + 1) h1 h2 (by omega)
    rw [e1, e2] at this
    exact this
theorem rackOk_iff (r : GRack) : rackOk r = true ↔ keyB r.fKey = true ∧ inB r.fNext 1 1000000000 = true ∧ r.fWraps.length ≤ 60 ∧ (∀ x, x ∈ r.fWraps → wrapOk r.fNext x = true) ∧ r.fWraps.Pairwise (fun y x => y.fId < x.fId) := by
  constructor
  · intro h
    refine ⟨(rack_key h).1, (rack_key h).2, ?_, ?_, adj_pairwise.1 (rack_adj h)⟩
    · unfold rackOk at h; simp only [Bool.and_eq_true, decide_eq_true_eq] at h; exact h.1.2
    · intro x hx
      obtain ⟨i, hi⟩ := List.getElem?_of_mem hx
      unfold rackOk at h
      simp only [Bool.and_eq_true, List.all_eq_true] at h
      have := h.2 i (List.mem_range.2 (List.getElem?_eq_some_iff.1 hi).1)
      unfold wlinkAt at this
      rw [hi] at this
      simp only [Bool.and_eq_true] at this
      exact this.1
  · rintro ⟨h1, h2, h3, h4, h5⟩
    unfold rackOk
    simp only [Bool.and_eq_true, decide_eq_true_eq, List.all_eq_true]
    refine ⟨⟨⟨h1, h2⟩, h3⟩, fun i hi => ?_⟩
    have hi := List.mem_range.1 hi
    have hx := List.getElem?_eq_getElem hi
    have hw := h4 _ (List.mem_of_getElem? hx)
    unfold wlinkAt
    rw [hx]
    simp only [hw, Bool.true_and]
    cases i with
    | zero => rfl
    | succ j =>
      have hy := List.getElem?_eq_getElem (show j < r.fWraps.length by omega)
      simp only [hy, decide_eq_true_eq]
      exact adj_pairwise.2 h5 j _ _ hy hx
theorem rackOk_less {r : GRack} (h : rackOk r = true) (id : Int) : rackOk (lessR r id) = true := by
  rw [rackOk_iff] at h ⊢
  obtain ⟨h1, h2, h3, h4, h5⟩ := h
  exact ⟨h1, h2, Nat.le_trans (lessW_cost id r.fWraps).1 h3, fun x hx => h4 x ((List.mem_filter.1 hx).1), h5.filter _⟩
theorem less_cost (r : GRack) (id : Int) : (lessR r id).cost ≤ r.cost := by
  have := lessW_cost id r.fWraps
  show (lessW id r.fWraps).length + sumBy GWrap.cost (lessW id r.fWraps) ≤ r.fWraps.length + sumBy GWrap.cost r.fWraps
  omega
theorem openT_done {r : GRack} {id now : Int} (h : (openT r id now).2.2 = 0) : rackOk r = true ∧ inB now 0 1000000000 = true ∧ ∃ (i : Nat) (x : GWrap) (o : List UInt8), idxV (fun x : GWrap => x.fId == id) r.fWraps = i ∧ r.fWraps[i]? = some x ∧
    r.fWraps.find? (fun x : GWrap => x.fId == id) = some x ∧ x.fId = id ∧ now < x.fEnds ∧ openR r.fKey x.fBox = some o ∧ openT r id now = (lessR r id, o, 0) := by
  obtain ⟨t, ht⟩ : ∃ t, openT r id now = t := ⟨_, rfl⟩
  rw [ht] at h ⊢
  unfold openT at ht
  cases h1 : rackOk r with
  | false => simp [h1] at ht; rw [← ht] at h; simp at h
  | true =>
  cases h2 : inB now 0 1000000000 with
  | false => simp [h2] at ht; rw [← ht] at h; simp at h
  | true =>
  rw [h1, h2] at ht
  simp only [Bool.true_eq_false, or_self, if_false] at ht
  refine ⟨rfl, rfl, ?_⟩
  rcases idxV_find (fun x : GWrap => x.fId == id) r.fWraps with ⟨e1, e2⟩ | ⟨i, x, e1, e2, e3, e4⟩
  · rw [e2] at ht; simp only at ht; rw [← ht] at h; simp at h
  · rw [e4] at ht
    simp only at ht
    by_cases h3 : x.fEnds ≤ now
    · rw [if_pos h3] at ht; rw [← ht] at h; simp at h
    · rw [if_neg h3] at ht
      cases h4 : openR r.fKey x.fBox with
      | none => rw [h4] at ht; simp only at ht; rw [← ht] at h; simp at h
      | some o => rw [h4] at ht; exact ⟨i, x, o, e1, e2, e4, by simpa using e3, by omega, h4, ht.symm⟩
def againT (r : GRack) (id now : Int) : GRack × Int × Int :=
  if (openT r id now).2.2 = 0 then
    match r.fWraps.find? (fun x => x.fId == id) with
    | some x => (putR (openT r id now).1 x.fKind (openT r id now).2.1 now (x.fEnds - now), putI (openT r id now).1 x.fKind (openT r id now).2.1 now (x.fEnds - now), putC (openT r id now).1 x.fKind (openT r id now).2.1 now (x.fEnds - now))
    | none => (r, 0, 0)
  else ((openT r id now).1, 0, (openT r id now).2.2)
theorem openT_cost (r : GRack) (id now : Int) : (openT r id now).1.cost ≤ r.cost := by
  have := less_cost r id
  unfold openT
  split
  · exact Nat.le_refl _
  · split
    · exact Nat.le_refl _
    · split
      · exact this
      · split <;> exact this
theorem i_AgainWrap_ok [MaxL GG] (r : GRack) (id now : Int) (hc : r.cost ≤ 1048576) : Valid PP GG F_I_AgainWrap [.agg r.c, .d (.int .i64 id), .d (.int .i64 now)] (.tup [.agg (againT r id now).1.o, .d (.int .i64 (againT r id now).2.1), .d (.int .i64 (againT r id now).2.2)]) [none, none, none] := by
  refine v_I_AgainWrap [.agg (againT r id now).1.o, .d (.int .i64 (againT r id now).2.1), .d (.int .i64 (againT r id now).2.2)] rfl rfl ?_
  have cr := isRack_ok (GG := GG) r hc
  have cn : Valid PP GG F_I_within [.d (.int .i64 now), .d (.int .i64 0), .d (.int .i64 1000000000)] (.d (.bool (inB now 0 1000000000))) [none, none, none] := within_ok _ _ _
  have cc := cloneRack_ok (GG := GG) r hc
  have hoc := openT_cost r id now
  obtain ⟨t, ht⟩ : ∃ t, againT r id now = t := ⟨_, rfl⟩
  rw [ht]
  unfold againT at ht
  have hco : r.cost = r.fWraps.length + sumBy GWrap.cost r.fWraps := rfl
  by_cases hb : rackOk r = false ∨ inB now 0 1000000000 = false
  · have ho : openT r id now = (r, [], 1) := by unfold openT; rw [if_pos hb]
    rw [ho] at ht
    simp only [show ¬ ((1 : Int) = 0) by omega, if_false] at ht
    subst ht
    simp only
    generalize rackOk r = b1 at cr hb
    generalize inB now 0 1000000000 = b2 at cn hb
    repeat' (first | refine W_seq ?_ | refine W_skip ?_ | refine W_block ?_ | (refine W_exit ?_; first | refine pick_pos rfl ?_ | (refine pick_neg rfl ?_; first | refine pick_pos rfl ?_ | (refine pick_neg rfl ?_; refine pick_pos rfl ?_))) | (refine W_regP fun K hK => ?_; simp) | (refine W_regPD fun K hK => ?_; simp) | (with_reducible refine hK _ ?_; clear hK K) | (with_reducible refine callQ (cr) ?_; simp) | (with_reducible refine callQ (cn) ?_; simp) | (with_reducible refine callQ (cc) ?_; simp) | (with_reducible refine goL_split (fun h => ?_) (fun h => ?_) <;> first | (exfalso; simp at h; done) | (exfalso; simp at h; omega) | (exfalso; simp at h; contradiction) | ((try simp at h); simp)) | with_reducible refine And.intro ?_ ?_ | with_reducible exact okay_rfl rfl | with_reducible assumption | (refine W_cond rfl (fun h => ?_) (fun h => ?_) <;> first | (exfalso; simp at h; done) | (exfalso; simp at h; omega) | (exfalso; simp at h; contradiction) | (exfalso; simp_all; done) | (try simp at h)) | (refine W_ret ?_; simp [Fin]) | omega)
    all_goals simp_all
  · have h1 : rackOk r = true := by cases h : rackOk r <;> simp_all
    have h2 : inB now 0 1000000000 = true := by cases h : inB now 0 1000000000 <;> simp_all
    have cop := openWrap_ok (GG := GG) r id now hc h1 h2
    rw [h1] at cr
    rw [h2] at cn
    by_cases h0 : (openT r id now).2.2 = 0
    · obtain ⟨_, _, i, x, o, e1, e2, e3, e4, e5, e6, e7⟩ := openT_done h0
      have hg := sumBy_get (f := GWrap.cost) e2
      have hcx : x.cost = x.fKind.length + x.fBox.cost := rfl
      have hol := openR_len e6
      have hn := inB_true h2
      have hwx := (rackOk_iff r).1 h1
      have hxe : 1 ≤ x.fEnds ∧ x.fEnds ≤ 1000000000 := by
        have := hwx.2.2.2.1 x (List.mem_of_getElem? e2)
        unfold wrapOk at this
        simp only [Bool.and_eq_true] at this
        exact inB_true this.1.2
      have hw : IntKind.i64.wrap (x.fEnds - now) = x.fEnds - now := wrap_id (by omega) (by omega)
      have hlt := (List.getElem?_eq_some_iff.1 e2).1
      have cwi := wrapIndex_ok (GG := GG) r id hc
      rw [e1] at cwi
      rw [if_pos h0, e3] at ht
      simp only [e7] at ht
      rw [e7] at cop hoc
      have cpu := putWrap_ok (GG := GG) (lessR r id) x.fKind o now (x.fEnds - now) (by simp only at hoc; omega) (by omega) (by omega) (rackOk_less h1 id)
      subst ht
      simp only
      generalize putR (lessR r id) x.fKind o now (x.fEnds - now) = g1 at cpu ⊢
      generalize putI (lessR r id) x.fKind o now (x.fEnds - now) = g2 at cpu ⊢
      generalize putC (lessR r id) x.fKind o now (x.fEnds - now) = g3 at cpu ⊢
      have hi1 := ind_rWrap g1.fWraps
      generalize lessR r id = lr at cop cpu hoc
      have hi2 := ind_rWrap lr.fWraps
      have hio := ind_bytes o
      repeat' (first | refine W_seq ?_ | refine W_skip ?_ | refine W_block ?_ | refine W_exit ?_ | refine pick_pos rfl ?_ | refine pick_neg rfl ?_ | ((first | refine W_regP fun K hK => ?_ | refine W_regPD fun K hK => ?_ | refine W_ret ?_ | with_reducible refine callQ (cr) ?_ | with_reducible refine callQ (cn) ?_ | with_reducible refine callQ (cop) ?_ | with_reducible refine callQ (cwi) ?_ | with_reducible refine callQ (cpu) ?_); simp [Fin, hw, e2]) | (with_reducible refine hK _ ?_; clear hK K) | (with_reducible refine goL_split (fun h => ?_) (fun h => ?_) <;> first | (exfalso; simp at h; first | done | omega | contradiction) | ((try simp at h); simp [hw, e2])) | with_reducible refine And.intro ?_ ?_ | with_reducible exact okay_rfl rfl | with_reducible assumption | (refine W_cond rfl (fun h => ?_) (fun h => ?_) <;> first | (exfalso; simp at h; first | done | omega | contradiction) | (exfalso; simp_all; done) | (try simp at h)) | omega)
    · rw [if_neg h0] at ht
      subst ht
      generalize openT r id now = q at cop h0 ⊢
      obtain ⟨g, o, c⟩ := q
      simp only at cop h0 ⊢
      have hi2 := ind_rWrap g.fWraps
      have hio := ind_bytes o
      have hc0 : (c != 0) = true := by simpa using h0
      repeat' (first | refine W_seq ?_ | refine W_skip ?_ | refine W_block ?_ | refine W_exit ?_ | refine pick_pos rfl ?_ | refine pick_neg rfl ?_ | ((first | refine W_regP fun K hK => ?_ | refine W_regPD fun K hK => ?_ | refine W_ret ?_ | with_reducible refine callQ (cr) ?_ | with_reducible refine callQ (cn) ?_ | with_reducible refine callQ (cop) ?_); simp [Fin, hc0]) | (with_reducible refine hK _ ?_; clear hK K) | (with_reducible refine goL_split (fun h => ?_) (fun h => ?_) <;> first | (exfalso; simp at h; first | done | omega | contradiction) | ((try simp at h); simp [hc0])) | with_reducible refine And.intro ?_ ?_ | with_reducible exact okay_rfl rfl | with_reducible assumption | (refine W_cond rfl (fun h => ?_) (fun h => ?_) <;> first | (exfalso; simp at h; first | done | omega | contradiction) | (exfalso; simp_all; done) | (try simp at h)) | omega)
theorem i_OpenWrap_ok [MaxL GG] (r : GRack) (id now : Int) (hc : r.cost ≤ 1048576) : Valid PP GG F_I_OpenWrap [.agg r.c, .d (.int .i64 id), .d (.int .i64 now)] (.tup [.agg (openT r id now).1.o, .own 0 1 (bytesD (openT r id now).2.1), .d (.int .i64 (openT r id now).2.2)]) [none, none, none] := by
  refine v_I_OpenWrap [.agg (openT r id now).1.o, .own 0 1 (bytesD (openT r id now).2.1), .d (.int .i64 (openT r id now).2.2)] rfl rfl ?_
  have cr := isRack_ok (GG := GG) r hc
  have cn : Valid PP GG F_I_within [.d (.int .i64 now), .d (.int .i64 0), .d (.int .i64 1000000000)] (.d (.bool (inB now 0 1000000000))) [none, none, none] := within_ok _ _ _
  have cc := cloneRack_ok (GG := GG) r hc
  have hco : r.cost = r.fWraps.length + sumBy GWrap.cost r.fWraps := rfl
  by_cases hb : rackOk r = false ∨ inB now 0 1000000000 = false
  · have ho : openT r id now = (r, [], 1) := by unfold openT; rw [if_pos hb]
    rw [ho]
    simp only
    generalize rackOk r = b1 at cr hb
    generalize inB now 0 1000000000 = b2 at cn hb
    repeat' (first | refine W_seq ?_ | refine W_skip ?_ | refine W_block ?_ | (refine W_exit ?_; first | refine pick_pos rfl ?_ | (refine pick_neg rfl ?_; first | refine pick_pos rfl ?_ | (refine pick_neg rfl ?_; refine pick_pos rfl ?_))) | (refine W_regP fun K hK => ?_; simp) | (refine W_regPD fun K hK => ?_; simp) | (with_reducible refine hK _ ?_; clear hK K) | (with_reducible refine callQ (cr) ?_; simp) | (with_reducible refine callQ (cn) ?_; simp) | (with_reducible refine callQ (cc) ?_; simp) | (with_reducible refine goL_split (fun h => ?_) (fun h => ?_) <;> first | (exfalso; simp at h; done) | (exfalso; simp at h; omega) | (exfalso; simp at h; contradiction) | ((try simp at h); simp)) | with_reducible refine And.intro ?_ ?_ | with_reducible exact okay_rfl rfl | with_reducible assumption | (refine W_cond rfl (fun h => ?_) (fun h => ?_) <;> first | (exfalso; simp at h; done) | (exfalso; simp at h; omega) | (exfalso; simp at h; contradiction) | (exfalso; simp_all; done) | (try simp at h)) | (refine W_ret ?_; simp [Fin]) | omega)
    all_goals simp_all [bytesD]
  · have h1 : rackOk r = true := by cases h : rackOk r <;> simp_all
    have h2 : inB now 0 1000000000 = true := by cases h : inB now 0 1000000000 <;> simp_all
    have cop := openWrap_ok (GG := GG) r id now hc h1 h2
    rw [h1] at cr
    rw [h2] at cn
    generalize openT r id now = q at cop ⊢
    obtain ⟨g, o, c⟩ := q
    simp only at cop ⊢
    have hi2 := ind_rWrap g.fWraps
    have hio := ind_bytes o
    repeat' (first | refine W_seq ?_ | refine W_skip ?_ | refine W_block ?_ | refine W_exit ?_ | refine pick_pos rfl ?_ | refine pick_neg rfl ?_ | ((first | refine W_regP fun K hK => ?_ | refine W_regPD fun K hK => ?_ | refine W_ret ?_ | with_reducible refine callQ (cr) ?_ | with_reducible refine callQ (cn) ?_ | with_reducible refine callQ (cop) ?_); simp [Fin]) | (with_reducible refine hK _ ?_; clear hK K) | (with_reducible refine goL_split (fun h => ?_) (fun h => ?_) <;> first | (exfalso; simp at h; first | done | omega | contradiction) | ((try simp at h); simp)) | with_reducible refine And.intro ?_ ?_ | with_reducible exact okay_rfl rfl | with_reducible assumption | (refine W_cond rfl (fun h => ?_) (fun h => ?_) <;> first | (exfalso; simp at h; first | done | omega | contradiction) | (exfalso; simp_all; done) | (try simp at h)) | omega)
theorem againT_cost (r : GRack) (id now : Int) : (againT r id now).1.cost ≤ 2 * r.cost + 2001 := by
  have h1 := openT_cost r id now
  unfold againT
  split
  · rename_i h0
    obtain ⟨_, _, i, x, o, e1, e2, e3, e4, e5, e6, e7⟩ := openT_done h0
    rw [e3, e7]
    rw [e7] at h1
    simp only at h1 ⊢
    have := put_cost (lessR r id) x.fKind o now (x.fEnds - now)
    have hol := openR_len e6
    have hg := sumBy_get (f := GWrap.cost) e2
    have hcx : x.cost = x.fKind.length + x.fBox.cost := rfl
    have hco : r.cost = r.fWraps.length + sumBy GWrap.cost r.fWraps := rfl
    omega
  · simp only; omega
def zReq : GReq := ⟨0, 0, [], [], [], 0⟩
def S0 (ws : List (List UInt8)) : St := ⟨[], [(2, .ptr 0 0), (4, .ptr 1 0), (5, .sl 2)], [(0, .box (zReq.row.map A.d)), (1, .box (zReq.row.map A.d)), (2, .arr 0 0 1 (strsD ws))], 3⟩
@[simp] theorem binA_strgeq (s t : List UInt8) : binA .str .geq (.d (.str s)) (.d (.str t)) = out (.d (.bool (!(Go.Op.bytesLess s t)))) := id rfl
@[simp] theorem binA_strlss (s t : List UInt8) : binA .str .lss (.d (.str s)) (.d (.str t)) = out (.d (.bool (Go.Op.bytesLess s t))) := id rfl
@[simp] theorem binA_strleq (s t : List UInt8) : binA .str .leq (.d (.str s)) (.d (.str t)) = out (.d (.bool (Go.Op.bytesLess s t || s == t))) := id rfl
@[simp] theorem binA_strgtr (s t : List UInt8) : binA .str .gtr (.d (.str s)) (.d (.str t)) = out (.d (.bool (!(Go.Op.bytesLess s t || s == t)))) := id rfl
theorem strs_get (l : List (List UInt8)) (i : Nat) : (strsD l)[i]? = (l[i]?).map fun s => [.str s] := by simp [strsD]
theorem ints_get (l : List Int) (i : Nat) : (intsD l)[i]? = (l[i]?).map fun s => [.int .i64 s] := by simp [intsD]
theorem ints_len (l : List Int) : (intsD l).length = l.length := by simp [intsD]
structure Cur where
  b : List UInt8
  i : Int
  h : Int
@[simp] abbrev Cur.o (c : Cur) : List C := [.d (.slc 1 (bytesD c.b)), .d (.int .i64 c.i), .d (.int .i64 c.h)]
def Cur.good (c : Cur) : Prop := 0 ≤ c.i ∧ c.i ≤ c.b.length ∧ c.b.length ≤ 1048577
def and64 (a b : Int) : Int := IntKind.i64.wrap ((BitVec.ofInt 64 a &&& BitVec.ofInt 64 b).toNat)
def xor64 (a b : Int) : Int := IntKind.i64.wrap ((BitVec.ofInt 64 a ^^^ BitVec.ofInt 64 b).toNat)
theorem and64_ev (a b : Int) : intBin .and .i64 a b = some (.int .i64 (and64 a b)) := rfl
theorem xor64_ev (a b : Int) : intBin .xor .i64 a b = some (.int .i64 (xor64 a b)) := rfl
theorem and64_255 (a : Int) : 0 ≤ and64 a 255 ∧ and64 a 255 ≤ 255 := by
  unfold and64
  have h : (BitVec.ofInt 64 a &&& BitVec.ofInt 64 255).toNat ≤ 255 := by
    rw [BitVec.toNat_and]
    exact Nat.and_le_right
  rw [show IntKind.i64.wrap ((BitVec.ofInt 64 a &&& BitVec.ofInt 64 255).toNat : Int) = ((BitVec.ofInt 64 a &&& BitVec.ofInt 64 255).toNat : Int) from wrap_id (by omega) (by omega)]
  omega
def curH (h : Int) : Int := IntKind.i64.wrap (IntKind.i64.wrap (h * 6364136223846793005) + 1442695040888963407)
def byteX (h : Int) : Int := and64 (xor64 (h.fdiv 8589934592) (h.fdiv 35184372088832)) 255
def nthB (l : List UInt8) (i : Int) : Int := ((l.getD i.toNat 0).toNat : Nat)
def lByte (c : Cur) : Int × Cur :=
  if c.i < (c.b.length : Nat) then (and64 (byteX (curH c.h) + nthB c.b c.i) 255, ⟨c.b, c.i + 1, curH c.h⟩) else (byteX (curH c.h), ⟨c.b, c.i, curH c.h⟩)
theorem lByte_rng (c : Cur) : 0 ≤ (lByte c).1 ∧ (lByte c).1 ≤ 255 := by
  unfold lByte
  split
  · exact and64_255 _
  · exact and64_255 _
theorem lByte_good {c : Cur} (h : c.good) : (lByte c).2.good := by
  unfold lByte
  split <;> (unfold Cur.good at *; dsimp only at *; omega)
def lBelow (c : Cur) (n : Int) : Int × Cur :=
  if n ≤ 0 then (0, c) else if n ≤ 256 then ((lByte c).1.tmod n, (lByte c).2) else
    (((lByte c).1 * 65536 + (lByte (lByte c).2).1 * 256 + (lByte (lByte (lByte c).2).2).1).tmod n, (lByte (lByte (lByte c).2).2).2)
theorem lBelow_rng (c : Cur) {n : Int} (h : 0 < n) : 0 ≤ (lBelow c n).1 ∧ (lBelow c n).1 < n := by
  have h1 := lByte_rng c
  have h2 := lByte_rng (lByte c).2
  have h3 := lByte_rng (lByte (lByte c).2).2
  unfold lBelow
  rw [if_neg (by omega)]
  split
  · exact ⟨Int.tmod_nonneg _ h1.1, Int.tmod_lt_of_pos _ h⟩
  · exact ⟨Int.tmod_nonneg _ (by omega), Int.tmod_lt_of_pos _ h⟩
theorem lBelow_rng0 (c : Cur) (n : Int) : 0 ≤ (lBelow c n).1 ∧ (lBelow c n).1 ≤ (if n ≤ 0 then 0 else n - 1) := by
  by_cases h : n ≤ 0
  · unfold lBelow; rw [if_pos h, if_pos h]; exact ⟨Int.le_refl _, Int.le_refl _⟩
  · have := lBelow_rng c (n := n) (by omega); rw [if_neg h]; omega
theorem lBelow_good {c : Cur} (h : c.good) (n : Int) : (lBelow c n).2.good := by
  unfold lBelow
  split
  · exact h
  · split
    · exact lByte_good h
    · exact lByte_good (lByte_good (lByte_good h))
def lOnce (c : Cur) (n : Int) : Bool × Cur := (decide ((lBelow c n).1 = 0), (lBelow c n).2)
theorem lOnce_good {c : Cur} (h : c.good) (n : Int) : (lOnce c n).2.good := lBelow_good h n
def lPick {α : Type} (c : Cur) (z : α) (l : List α) : α × Cur := (l.getD (lBelow c l.length).1.toNat z, (lBelow c l.length).2)
theorem lPick_good {α : Type} {c : Cur} (h : c.good) (z : α) (l : List α) : (lPick c z l).2.good := lBelow_good h _
theorem lPick_get {α : Type} (c : Cur) (z : α) {l : List α} (h : l ≠ []) : ∃ k : Nat, (lBelow c l.length).1 = (k : Int) ∧ l[k]? = some (lPick c z l).1 := by
  have hl : 0 < l.length := List.length_pos_iff.2 h
  obtain ⟨h1, h2⟩ := lBelow_rng c (n := (l.length : Int)) (by omega)
  refine ⟨(lBelow c l.length).1.toNat, by omega, ?_⟩
  unfold lPick
  rw [List.getD_eq_getElem?_getD, List.getElem?_eq_getElem (by omega)]
  rfl
theorem lPick_mem {α : Type} (c : Cur) (z : α) {l : List α} (h : l ≠ []) : (lPick c z l).1 ∈ l := by
  obtain ⟨k, _, hk⟩ := lPick_get c z h
  exact List.mem_of_getElem? hk
def seg1 : List (List UInt8) := [[], [65], [97, 47, 98], [97, 98, 99, 100, 101, 102, 103, 104, 105, 106, 107, 108, 109, 110, 111, 112], [97, 98, 99, 100, 101, 102, 103, 104, 105, 106, 107, 108, 109, 110, 111, 112, 113], [45], [97, 32, 98], [43, 97], [42, 42]]
def seg2 : List (List UInt8) := [[97], [98], [99], [107, 118], [100, 98], [120, 45, 49], [57]]
def lSeg (c : Cur) : List UInt8 × Cur := if (lOnce c 25).1 = true then lPick (lOnce c 25).2 [] seg1 else lPick (lOnce c 25).2 [] seg2
theorem lSeg_good {c : Cur} (h : c.good) : (lSeg c).2.good := by
  unfold lSeg
  split
  · exact lPick_good (lOnce_good h _) _ _
  · exact lPick_good (lOnce_good h _) _ _
theorem lSeg_len (c : Cur) : (lSeg c).1.length ≤ 17 := by
  unfold lSeg
  have ha : ∀ x, x ∈ seg1 → x.length ≤ 17 := by decide
  have hb : ∀ x, x ∈ seg2 → x.length ≤ 17 := by decide
  split
  · exact ha _ (lPick_mem _ _ (by decide))
  · exact hb _ (lPick_mem _ _ (by decide))
def lPathL (s : List UInt8 × Cur) : Nat → List UInt8 × Cur
  | 0 => s
  | n + 1 => ((lPathL s n).1 ++ [47] ++ (lSeg (lPathL s n).2).1, (lSeg (lPathL s n).2).2)
theorem lPathL_good {s : List UInt8 × Cur} (h : s.2.good) (n : Nat) : (lPathL s n).2.good := by
  induction n with
  | zero => exact h
  | succ n ih => exact lSeg_good ih
theorem lPathL_len (s : List UInt8 × Cur) (n : Nat) : (lPathL s n).1.length ≤ s.1.length + 18 * n := by
  induction n with
  | zero => exact Nat.le_refl _
  | succ n ih =>
    have := lSeg_len (lPathL s n).2
    show ((lPathL s n).1 ++ [47] ++ (lSeg (lPathL s n).2).1).length ≤ _
    simp only [List.length_append, List.length_cons, List.length_nil]
    omega
def lPathN (c : Cur) : Int × Cur :=
  if (lOnce (lBelow c 4).2 20).1 = true then (7 + (lBelow (lOnce (lBelow c 4).2 20).2 2).1, (lBelow (lOnce (lBelow c 4).2 20).2 2).2) else ((lBelow c 4).1, (lOnce (lBelow c 4).2 20).2)
def lPath (c : Cur) : List UInt8 × Cur := lPathL ((lSeg c).1, (lPathN (lSeg c).2).2) (lPathN (lSeg c).2).1.toNat
theorem lPathN_rng (c : Cur) : 0 ≤ (lPathN c).1 ∧ (lPathN c).1 ≤ 8 := by
  have h1 := lBelow_rng c (n := 4) (by omega)
  have h2 := lBelow_rng (lOnce (lBelow c 4).2 20).2 (n := 2) (by omega)
  unfold lPathN
  split
  · dsimp only; omega
  · dsimp only; omega
theorem lPathN_good {c : Cur} (h : c.good) : (lPathN c).2.good := by
  unfold lPathN
  split
  · exact lBelow_good (lOnce_good (lBelow_good h _) _) _
  · exact lOnce_good (lBelow_good h _) _
theorem lPath_good {c : Cur} (h : c.good) : (lPath c).2.good := lPathL_good (lPathN_good (lSeg_good h)) _
theorem lPath_len (c : Cur) : (lPath c).1.length ≤ 200 := by
  have h1 := lSeg_len c
  have h2 := lPathN_rng (lSeg c).2
  have h3 := lPathL_len ((lSeg c).1, (lPathN (lSeg c).2).2) (lPathN (lSeg c).2).1.toNat
  unfold lPath
  dsimp only at h3
  omega
def lByteL (c : Cur) : Nat → List UInt8 × Cur
  | 0 => ([], c)
  | n + 1 =>
    let s := lByteL c n
    let x := lBelow s.2 256
    let y := lBelow x.2 256
    let p := lPick y.2 0 [0, 1, 255, 128, x.1, y.1]
    (s.1 ++ [UInt8.ofNat p.1.toNat], p.2)
theorem lByteL_good {c : Cur} (h : c.good) (n : Nat) : (lByteL c n).2.good := by
  induction n with
  | zero => exact h
  | succ n ih => exact lPick_good (α := Int) (lBelow_good (lBelow_good ih 256) 256) 0 _
theorem lByteL_len (c : Cur) (n : Nat) : (lByteL c n).1.length = n := by
  induction n with
  | zero => rfl
  | succ n ih =>
    show ((lByteL c n).1 ++ [_]).length = _
    rw [List.length_append, ih]; rfl
theorem lByte_pick (c : Cur) (x y : Int) (hx : 0 ≤ x ∧ x ≤ 255) (hy : 0 ≤ y ∧ y ≤ 255) : 0 ≤ (lPick c 0 [0, 1, 255, 128, x, y]).1 ∧ (lPick c 0 [0, 1, 255, 128, x, y]).1 ≤ 255 := by
  have h := lPick_mem c 0 (l := [0, 1, 255, 128, x, y]) (by simp)
  generalize (lPick c 0 [0, 1, 255, 128, x, y]).1 = z at *
  simp only [List.mem_cons, List.not_mem_nil, or_false] at h
  omega
def lGood (c : Cur) : Int × Cur := ((lBelow c 16777216).1 * 65536 + (lBelow (lBelow c 16777216).2 65536).1, (lBelow (lBelow c 16777216).2 65536).2)
theorem lGood_good {c : Cur} (h : c.good) : (lGood c).2.good := lBelow_good (lBelow_good h _) _
def lSize (n : Nat) (most : Int) : Int := if most < 2 + ((n / 16 : Nat) : Int) then most else 2 + ((n / 16 : Nat) : Int)
def hStep (h : Int) (b : UInt8) : Int := and64 (IntKind.i64.wrap (IntKind.i64.wrap (IntKind.i64.wrap (h * 149) + (b.toNat : Nat)) + 11)) 1073741823
def hRun (h : Int) (l : List UInt8) : Int := l.foldl hStep h
def lNew (code : List UInt8) : Cur := ⟨code, 0, hRun (705705 + (code.length : Nat)) (code.take 4000)⟩
theorem lNew_good {code : List UInt8} (h : code.length ≤ 1048577) : (lNew code).good := ⟨Int.le_refl _, by show (0 : Int) ≤ _; omega, h⟩
theorem lByte_v (c : Cur) (hc : c.good) : Valid PP GG F_S_l01Byte [.box c.o] (.d (.int .i64 (lByte c).1)) [some (.box (lByte c).2.o)] := by
  refine v_S_l01Byte [.d (.int .i64 (lByte c).1)] rfl rfl ?_
  obtain ⟨b, i, h⟩ := c
  obtain ⟨h1, h2, h3⟩ := hc
  dsimp only at h1 h2 h3
  obtain ⟨k, rfl⟩ := Int.eq_ofNat_of_zero_le h1
  have hx := and64_255 (xor64 ((curH h).fdiv 8589934592) ((curH h).fdiv 35184372088832))
  unfold curH at hx
  by_cases hlt : k < b.length
  · have hr : lByte ⟨b, (k : Int), h⟩ = (and64 (byteX (curH h) + nthB b k) 255, ⟨b, k + 1, curH h⟩) := by unfold lByte; rw [if_pos (by dsimp only; omega)]
    have hg := List.getElem?_eq_getElem hlt
    have hn : nthB b k = ((b[k].toNat : Nat) : Int) := by unfold nthB; rw [List.getD_eq_getElem?_getD, Int.toNat_natCast, hg]; rfl
    rw [hr, hn]
    unfold curH byteX
    generalize b[k] = x at *
    have hxx := x.toNat_lt
    have hw1 : IntKind.i64.wrap ((k : Int) + 1) = (k : Int) + 1 := wrap_id (by omega) (by omega)
    have hw2 : IntKind.i64.wrap (x.toNat : Nat) = (x.toNat : Nat) := wrap_id (by omega) (by omega)
    have hw3 : IntKind.i64.wrap (and64 (xor64 ((IntKind.i64.wrap (IntKind.i64.wrap (h * 6364136223846793005) + 1442695040888963407)).fdiv 8589934592) ((IntKind.i64.wrap (IntKind.i64.wrap (h * 6364136223846793005) + 1442695040888963407)).fdiv 35184372088832)) 255 + (x.toNat : Nat)) = and64 (xor64 ((IntKind.i64.wrap (IntKind.i64.wrap (h * 6364136223846793005) + 1442695040888963407)).fdiv 8589934592) ((IntKind.i64.wrap (IntKind.i64.wrap (h * 6364136223846793005) + 1442695040888963407)).fdiv 35184372088832)) 255 + (x.toNat : Nat) := wrap_id (by omega) (by omega)
    repeat' (first | refine W_seq ?_ | refine W_skip ?_ | refine W_block ?_ | refine W_exit ?_ | refine pick_pos rfl ?_ | refine pick_neg rfl ?_ | ((first | refine W_regP fun K hK => ?_ | refine W_regPD fun K hK => ?_ | refine W_ret ?_); simp [Fin, hg, and64_ev, xor64_ev, hw1, hw2, hw3]) | (with_reducible refine hK _ ?_; clear hK K) | (with_reducible refine goL_split (fun h => ?_) (fun h => ?_) <;> first | (exfalso; simp at h; first | done | omega | contradiction) | ((try simp at h); simp [hg, and64_ev, xor64_ev, hw1, hw2, hw3])) | with_reducible refine And.intro ?_ ?_ | with_reducible exact okay_rfl rfl | with_reducible assumption | (refine W_cond rfl (fun h => ?_) (fun h => ?_) <;> first | (exfalso; simp at h; first | done | omega | contradiction) | (exfalso; simp_all; done) | (try simp at h)) | omega)
  · have hr : lByte ⟨b, (k : Int), h⟩ = (byteX (curH h), ⟨b, k, curH h⟩) := by unfold lByte; rw [if_neg (by dsimp only; omega)]
    rw [hr]
    unfold curH byteX
    repeat' (first | refine W_seq ?_ | refine W_skip ?_ | refine W_block ?_ | refine W_exit ?_ | refine pick_pos rfl ?_ | refine pick_neg rfl ?_ | ((first | refine W_regP fun K hK => ?_ | refine W_regPD fun K hK => ?_ | refine W_ret ?_); simp [Fin, and64_ev, xor64_ev]) | (with_reducible refine hK _ ?_; clear hK K) | (with_reducible refine goL_split (fun h => ?_) (fun h => ?_) <;> first | (exfalso; simp at h; first | done | omega | contradiction) | ((try simp at h); simp [and64_ev, xor64_ev])) | with_reducible refine And.intro ?_ ?_ | with_reducible exact okay_rfl rfl | with_reducible assumption | (refine W_cond rfl (fun h => ?_) (fun h => ?_) <;> first | (exfalso; simp at h; first | done | omega | contradiction) | (exfalso; simp_all; done) | (try simp at h)) | omega)
theorem lBelow_v (c : Cur) (n : Int) (hc : c.good) : Valid PP GG F_S_l01Below [.box c.o, .d (.int .i64 n)] (.d (.int .i64 (lBelow c n).1)) [some (.box (lBelow c n).2.o), none] := by
  refine v_S_l01Below [.d (.int .i64 (lBelow c n).1)] rfl rfl ?_
  have c1 := lByte_v (GG := GG) c hc
  have r1 := lByte_rng c
  have c2 := lByte_v (GG := GG) (lByte c).2 (lByte_good hc)
  have r2 := lByte_rng (lByte c).2
  have c3 := lByte_v (GG := GG) (lByte (lByte c).2).2 (lByte_good (lByte_good hc))
  have r3 := lByte_rng (lByte (lByte c).2).2
  have hr : lBelow c n = if n ≤ 0 then (0, c) else if n ≤ 256 then ((lByte c).1.tmod n, (lByte c).2) else
    (((lByte c).1 * 65536 + (lByte (lByte c).2).1 * 256 + (lByte (lByte (lByte c).2).2).1).tmod n, (lByte (lByte (lByte c).2).2).2) := rfl
  by_cases h0 : n ≤ 0
  · rw [if_pos h0] at hr
    rw [hr]
    clear hr c1 c2 c3
    repeat' (first | refine W_seq ?_ | refine W_skip ?_ | refine W_block ?_ | refine W_exit ?_ | refine pick_pos rfl ?_ | refine pick_neg rfl ?_ | ((first | refine W_regP fun K hK => ?_ | refine W_regPD fun K hK => ?_ | refine W_ret ?_); simp [Fin, h0]) | (with_reducible refine hK _ ?_; clear hK K) | (with_reducible refine goL_split (fun h => ?_) (fun h => ?_) <;> first | (exfalso; simp at h; first | done | omega | contradiction) | ((try simp at h); simp [h0])) | with_reducible refine And.intro ?_ ?_ | with_reducible exact okay_rfl rfl | with_reducible assumption | (refine W_cond rfl (fun h => ?_) (fun h => ?_) <;> first | (exfalso; simp at h; first | done | omega | contradiction) | (exfalso; simp_all; done) | (try simp at h)) | omega)
  rw [if_neg h0] at hr
  have hn0 : ¬ n = 0 := by omega
  by_cases h1 : n ≤ 256
  · rw [if_pos h1] at hr
    rw [hr]
    clear hr c2 c3
    repeat' (first | refine W_seq ?_ | refine W_skip ?_ | refine W_block ?_ | refine W_exit ?_ | refine pick_pos rfl ?_ | refine pick_neg rfl ?_ | ((first | refine W_regP fun K hK => ?_ | refine W_regPD fun K hK => ?_ | refine W_ret ?_ | with_reducible refine callQ (c1) ?_); simp [Fin, h0, h1, hn0]) | (with_reducible refine hK _ ?_; clear hK K) | (with_reducible refine goL_split (fun h => ?_) (fun h => ?_) <;> first | (exfalso; simp at h; first | done | omega | contradiction) | ((try simp at h); simp [h0, h1, hn0])) | with_reducible refine And.intro ?_ ?_ | with_reducible exact okay_rfl rfl | with_reducible assumption | (refine W_cond rfl (fun h => ?_) (fun h => ?_) <;> first | (exfalso; simp at h; first | done | omega | contradiction) | (exfalso; simp_all; done) | (try simp at h)) | omega)
  · rw [if_neg h1] at hr
    rw [hr]
    clear hr
    generalize (lByte (lByte (lByte c).2).2) = p3 at *
    generalize (lByte (lByte c).2) = p2 at *
    generalize lByte c = p1 at *
    have hw1 : IntKind.i64.wrap (p1.1 * 65536) = p1.1 * 65536 := wrap_id (by omega) (by omega)
    have hw2 : IntKind.i64.wrap (p2.1 * 256) = p2.1 * 256 := wrap_id (by omega) (by omega)
    have hw3 : IntKind.i64.wrap (p1.1 * 65536 + p2.1 * 256) = p1.1 * 65536 + p2.1 * 256 := wrap_id (by omega) (by omega)
    have hw4 : IntKind.i64.wrap (p1.1 * 65536 + p2.1 * 256 + p3.1) = p1.1 * 65536 + p2.1 * 256 + p3.1 := wrap_id (by omega) (by omega)
    repeat' (first | refine W_seq ?_ | refine W_skip ?_ | refine W_block ?_ | refine W_exit ?_ | refine pick_pos rfl ?_ | refine pick_neg rfl ?_ | ((first | refine W_regP fun K hK => ?_ | refine W_regPD fun K hK => ?_ | refine W_ret ?_ | with_reducible refine callQ (c1) ?_ | with_reducible refine callQ (c2) ?_ | with_reducible refine callQ (c3) ?_); simp [Fin, h0, h1, hn0, hw1, hw2, hw3, hw4]) | (with_reducible refine hK _ ?_; clear hK K) | (with_reducible refine goL_split (fun h => ?_) (fun h => ?_) <;> first | (exfalso; simp at h; first | done | omega | contradiction) | ((try simp at h); simp [h0, h1, hn0, hw1, hw2, hw3, hw4])) | with_reducible refine And.intro ?_ ?_ | with_reducible exact okay_rfl rfl | with_reducible assumption | (refine W_cond rfl (fun h => ?_) (fun h => ?_) <;> first | (exfalso; simp at h; first | done | omega | contradiction) | (exfalso; simp_all; done) | (try simp at h)) | omega)
theorem lOnce_v (c : Cur) (n : Int) (hc : c.good) : Valid PP GG F_S_l01Once [.box c.o, .d (.int .i64 n)] (.d (.bool (lOnce c n).1)) [some (.box (lOnce c n).2.o), none] := by
  refine v_S_l01Once [.d (.bool (lOnce c n).1)] rfl rfl ?_
  have c1 := lBelow_v (GG := GG) c n hc
  have e : lOnce c n = (decide ((lBelow c n).1 = 0), (lBelow c n).2) := rfl
  rw [e]
  have hq : ((lBelow c n).1 == 0) = decide ((lBelow c n).1 = 0) := rfl
  repeat' (first | refine W_seq ?_ | refine W_skip ?_ | refine W_block ?_ | refine W_exit ?_ | refine pick_pos rfl ?_ | refine pick_neg rfl ?_ | ((first | refine W_regP fun K hK => ?_ | refine W_regPD fun K hK => ?_ | refine W_ret ?_ | with_reducible refine callQ (c1) ?_); simp [Fin, hq]) | (with_reducible refine hK _ ?_; clear hK K) | (with_reducible refine goL_split (fun h => ?_) (fun h => ?_) <;> first | (exfalso; simp at h; first | done | omega | contradiction) | ((try simp at h); simp [hq])) | with_reducible refine And.intro ?_ ?_ | with_reducible exact okay_rfl rfl | with_reducible assumption | (refine W_cond rfl (fun h => ?_) (fun h => ?_) <;> first | (exfalso; simp at h; first | done | omega | contradiction) | (exfalso; simp_all; done) | (try simp at h)) | omega)
theorem lPickI_v (c : Cur) (l : List Int) (hc : c.good) (hl : l ≠ []) (hs : l.length ≤ 100) : Valid PP GG F_S_l01PickInt [.box c.o, .own 0 1 (intsD l)] (.d (.int .i64 (lPick c 0 l).1)) [some (.box (lPick c 0 l).2.o), none] := by
  refine v_S_l01PickInt [.d (.int .i64 (lPick c 0 l).1)] rfl rfl ?_
  have c1 := lBelow_v (GG := GG) c l.length hc
  obtain ⟨k, hk, hg⟩ := lPick_get c (0 : Int) hl
  have e : (lPick c 0 l).2 = (lBelow c l.length).2 := rfl
  rw [e]
  have hkl := (List.getElem?_eq_some_iff.1 hg).1
  generalize (lPick c 0 l).1 = v at *
  generalize (lBelow c l.length).2 = c2 at *
  rw [hk] at c1
  repeat' (first | refine W_seq ?_ | refine W_skip ?_ | refine W_block ?_ | refine W_exit ?_ | refine pick_pos rfl ?_ | refine pick_neg rfl ?_ | ((first | refine W_regP fun K hK => ?_ | refine W_regPD fun K hK => ?_ | refine W_ret ?_ | with_reducible refine callQ (c1) ?_); simp [Fin, ints_len, ints_get, hg]) | (with_reducible refine hK _ ?_; clear hK K) | (with_reducible refine goL_split (fun h => ?_) (fun h => ?_) <;> first | (exfalso; simp at h; first | done | omega | contradiction) | ((try simp at h); simp [ints_len, ints_get, hg])) | with_reducible refine And.intro ?_ ?_ | with_reducible exact okay_rfl rfl | with_reducible assumption | (refine W_cond rfl (fun h => ?_) (fun h => ?_) <;> first | (exfalso; simp at h; first | done | omega | contradiction) | (exfalso; simp_all; done) | (try simp at h)) | omega)
theorem lPickT_v (c : Cur) (l : List (List UInt8)) (hc : c.good) (hl : l ≠ []) (hs : l.length ≤ 100) : Valid PP GG F_S_l01PickText [.box c.o, .own 0 1 (strsD l)] (.d (.str (lPick c [] l).1)) [some (.box (lPick c [] l).2.o), none] := by
  refine v_S_l01PickText [.d (.str (lPick c [] l).1)] rfl rfl ?_
  have c1 := lBelow_v (GG := GG) c l.length hc
  obtain ⟨k, hk, hg⟩ := lPick_get c ([] : List UInt8) hl
  have e : (lPick c [] l).2 = (lBelow c l.length).2 := rfl
  rw [e]
  have hkl := (List.getElem?_eq_some_iff.1 hg).1
  generalize (lPick c [] l).1 = v at *
  generalize (lBelow c l.length).2 = c2 at *
  rw [hk] at c1
  repeat' (first | refine W_seq ?_ | refine W_skip ?_ | refine W_block ?_ | refine W_exit ?_ | refine pick_pos rfl ?_ | refine pick_neg rfl ?_ | ((first | refine W_regP fun K hK => ?_ | refine W_regPD fun K hK => ?_ | refine W_ret ?_ | with_reducible refine callQ (c1) ?_); simp [Fin, strsD_len, strs_get, hg]) | (with_reducible refine hK _ ?_; clear hK K) | (with_reducible refine goL_split (fun h => ?_) (fun h => ?_) <;> first | (exfalso; simp at h; first | done | omega | contradiction) | ((try simp at h); simp [strsD_len, strs_get, hg])) | with_reducible refine And.intro ?_ ?_ | with_reducible exact okay_rfl rfl | with_reducible assumption | (refine W_cond rfl (fun h => ?_) (fun h => ?_) <;> first | (exfalso; simp at h; first | done | omega | contradiction) | (exfalso; simp_all; done) | (try simp at h)) | omega)
theorem lSize_v (code : List UInt8) (most : Int) (hs : code.length ≤ 1048577) : Valid PP GG F_S_l01Size [.d (.slc 1 (bytesD code)), .d (.int .i64 most)] (.d (.int .i64 (lSize code.length most))) [none, none] := by
  refine v_S_l01Size [.d (.int .i64 (lSize code.length most))] rfl rfl ?_
  have hl : (bytesD code).length = code.length := bytesD_len code
  have ht : ((code.length : Nat) : Int).tdiv 16 = ((code.length / 16 : Nat) : Int) := rfl
  have hr : lSize code.length most = if most < 2 + ((code.length / 16 : Nat) : Int) then most else 2 + ((code.length / 16 : Nat) : Int) := rfl
  have hb : code.length / 16 ≤ 65537 := by omega
  generalize code.length / 16 = q at *
  have hw1 : IntKind.i64.wrap (q : Int) = (q : Int) := wrap_id (by omega) (by omega)
  have hw2 : IntKind.i64.wrap (2 + (q : Int)) = 2 + (q : Int) := wrap_id (by omega) (by omega)
  by_cases h : most < 2 + (q : Int)
  · rw [if_pos h] at hr
    rw [hr]
    repeat' (first | refine W_seq ?_ | refine W_skip ?_ | refine W_block ?_ | refine W_exit ?_ | refine pick_pos rfl ?_ | refine pick_neg rfl ?_ | ((first | refine W_regP fun K hK => ?_ | refine W_regPD fun K hK => ?_ | refine W_ret ?_); simp [Fin, hl, ht, hw1, hw2]) | (with_reducible refine hK _ ?_; clear hK K) | (with_reducible refine goL_split (fun h => ?_) (fun h => ?_) <;> first | (exfalso; simp at h; first | done | omega | contradiction) | ((try simp at h); simp [hl, ht, hw1, hw2])) | with_reducible refine And.intro ?_ ?_ | with_reducible exact okay_rfl rfl | with_reducible assumption | (refine W_cond rfl (fun h => ?_) (fun h => ?_) <;> first | (exfalso; simp at h; first | done | omega | contradiction) | (exfalso; simp_all; done) | (try simp at h)) | omega)
  · rw [if_neg h] at hr
    rw [hr]
    repeat' (first | refine W_seq ?_ | refine W_skip ?_ | refine W_block ?_ | refine W_exit ?_ | refine pick_pos rfl ?_ | refine pick_neg rfl ?_ | ((first | refine W_regP fun K hK => ?_ | refine W_regPD fun K hK => ?_ | refine W_ret ?_); simp [Fin, hl, ht, hw1, hw2]) | (with_reducible refine hK _ ?_; clear hK K) | (with_reducible refine goL_split (fun h => ?_) (fun h => ?_) <;> first | (exfalso; simp at h; first | done | omega | contradiction) | ((try simp at h); simp [hl, ht, hw1, hw2])) | with_reducible refine And.intro ?_ ?_ | with_reducible exact okay_rfl rfl | with_reducible assumption | (refine W_cond rfl (fun h => ?_) (fun h => ?_) <;> first | (exfalso; simp at h; first | done | omega | contradiction) | (exfalso; simp_all; done) | (try simp at h)) | omega)
theorem lSeg_v (c : Cur) (hc : c.good) : Valid PP GG F_S_l01DrawSegment [.box c.o] (.d (.str (lSeg c).1)) [some (.box (lSeg c).2.o)] := by
  refine v_S_l01DrawSegment [.d (.str (lSeg c).1)] rfl rfl ?_
  have c1 := lOnce_v (GG := GG) c 25 hc
  have c2 : Valid PP GG F_S_l01PickText [.box (lOnce c 25).2.o, .own 0 1 [[.str []], [.str [65]], [.str [97, 47, 98]], [.str [97, 98, 99, 100, 101, 102, 103, 104, 105, 106, 107, 108, 109, 110, 111, 112]], [.str [97, 98, 99, 100, 101, 102, 103, 104, 105, 106, 107, 108, 109, 110, 111, 112, 113]], [.str [45]], [.str [97, 32, 98]], [.str [43, 97]], [.str [42, 42]]]] (.d (.str (lPick (lOnce c 25).2 [] seg1).1)) [some (.box (lPick (lOnce c 25).2 [] seg1).2.o), none] := lPickT_v (lOnce c 25).2 seg1 (lOnce_good hc _) (by decide) (by decide)
  have c3 : Valid PP GG F_S_l01PickText [.box (lOnce c 25).2.o, .own 0 1 [[.str [97]], [.str [98]], [.str [99]], [.str [107, 118]], [.str [100, 98]], [.str [120, 45, 49]], [.str [57]]]] (.d (.str (lPick (lOnce c 25).2 [] seg2).1)) [some (.box (lPick (lOnce c 25).2 [] seg2).2.o), none] := lPickT_v (lOnce c 25).2 seg2 (lOnce_good hc _) (by decide) (by decide)
  have hr : lSeg c = if (lOnce c 25).1 = true then lPick (lOnce c 25).2 [] seg1 else lPick (lOnce c 25).2 [] seg2 := rfl
  generalize lPick (lOnce c 25).2 [] seg1 = p at *
  generalize lPick (lOnce c 25).2 [] seg2 = q at *
  generalize lOnce c 25 = o at *
  obtain ⟨ob, oc⟩ := o
  cases ob
  · rw [if_neg (by simp)] at hr
    rw [hr]
    clear hr c2
    repeat' (first | refine W_seq ?_ | refine W_skip ?_ | refine W_block ?_ | refine W_exit ?_ | refine pick_pos rfl ?_ | refine pick_neg rfl ?_ | ((first | refine W_regP fun K hK => ?_ | refine W_regPD fun K hK => ?_ | refine W_ret ?_ | with_reducible refine callQ (c1) ?_ | with_reducible refine callQ (c3) ?_); simp [Fin]) | (with_reducible refine hK _ ?_; clear hK K) | (with_reducible refine goL_split (fun h => ?_) (fun h => ?_) <;> first | (exfalso; simp at h; first | done | omega | contradiction) | ((try simp at h); simp)) | with_reducible refine And.intro ?_ ?_ | with_reducible exact okay_rfl rfl | with_reducible assumption | (refine W_cond rfl (fun h => ?_) (fun h => ?_) <;> first | (exfalso; simp at h; first | done | omega | contradiction) | (exfalso; simp_all; done) | (try simp at h)) | omega)
  · rw [if_pos rfl] at hr
    rw [hr]
    clear hr c3
    repeat' (first | refine W_seq ?_ | refine W_skip ?_ | refine W_block ?_ | refine W_exit ?_ | refine pick_pos rfl ?_ | refine pick_neg rfl ?_ | ((first | refine W_regP fun K hK => ?_ | refine W_regPD fun K hK => ?_ | refine W_ret ?_ | with_reducible refine callQ (c1) ?_ | with_reducible refine callQ (c2) ?_); simp [Fin]) | (with_reducible refine hK _ ?_; clear hK K) | (with_reducible refine goL_split (fun h => ?_) (fun h => ?_) <;> first | (exfalso; simp at h; first | done | omega | contradiction) | ((try simp at h); simp)) | with_reducible refine And.intro ?_ ?_ | with_reducible exact okay_rfl rfl | with_reducible assumption | (refine W_cond rfl (fun h => ?_) (fun h => ?_) <;> first | (exfalso; simp at h; first | done | omega | contradiction) | (exfalso; simp_all; done) | (try simp at h)) | omega)
theorem lGood_v (c : Cur) (hc : c.good) : Valid PP GG F_S_l04DrawGood [.box c.o] (.d (.int .i64 (lGood c).1)) [some (.box (lGood c).2.o)] := by
  refine v_S_l04DrawGood [.d (.int .i64 (lGood c).1)] rfl rfl ?_
  have c1 := lBelow_v (GG := GG) c 16777216 hc
  have r1 := lBelow_rng c (n := 16777216) (by omega)
  have c2 := lBelow_v (GG := GG) (lBelow c 16777216).2 65536 (lBelow_good hc _)
  have r2 := lBelow_rng (lBelow c 16777216).2 (n := 65536) (by omega)
  have hr : lGood c = ((lBelow c 16777216).1 * 65536 + (lBelow (lBelow c 16777216).2 65536).1, (lBelow (lBelow c 16777216).2 65536).2) := rfl
  rw [hr]
  clear hr
  generalize (lBelow (lBelow c 16777216).2 65536) = q at *
  generalize (lBelow c 16777216) = p at *
  have hw1 : IntKind.i64.wrap (p.1 * 65536) = p.1 * 65536 := wrap_id (by omega) (by omega)
  have hw2 : IntKind.i64.wrap (p.1 * 65536 + q.1) = p.1 * 65536 + q.1 := wrap_id (by omega) (by omega)
  repeat' (first | refine W_seq ?_ | refine W_skip ?_ | refine W_block ?_ | refine W_exit ?_ | refine pick_pos rfl ?_ | refine pick_neg rfl ?_ | ((first | refine W_regP fun K hK => ?_ | refine W_regPD fun K hK => ?_ | refine W_ret ?_ | with_reducible refine callQ (c1) ?_ | with_reducible refine callQ (c2) ?_); simp [Fin, hw1, hw2]) | (with_reducible refine hK _ ?_; clear hK K) | (with_reducible refine goL_split (fun h => ?_) (fun h => ?_) <;> first | (exfalso; simp at h; first | done | omega | contradiction) | ((try simp at h); simp [hw1, hw2])) | with_reducible refine And.intro ?_ ?_ | with_reducible exact okay_rfl rfl | with_reducible assumption | (refine W_cond rfl (fun h => ?_) (fun h => ?_) <;> first | (exfalso; simp at h; first | done | omega | contradiction) | (exfalso; simp_all; done) | (try simp at h)) | omega)
theorem hRun_succ {l : List UInt8} {i : Nat} {x : UInt8} (h : l[i]? = some x) (a : Int) : hRun a (l.take (i + 1)) = hStep (hRun a (l.take i)) x := by
  rw [List.take_add_one, h]
  unfold hRun
  rw [List.foldl_append]
  rfl
theorem lNew_v (code : List UInt8) (hl : code.length ≤ 1048577) : Valid PP GG F_S_l01New [.d (.slc 1 (bytesD code))] (.box (lNew code).o) [none] := by
  refine v_S_l01New [.box (lNew code).o] rfl rfl ?_
  have hbl : (bytesD code).length = code.length := bytesD_len code
  have hw0 : IntKind.i64.wrap (705705 + (code.length : Nat)) = 705705 + (code.length : Nat) := wrap_id (by omega) (by omega)
  repeat' (first | refine W_seq ?_ | refine W_skip ?_ | refine W_block ?_ | refine W_exit ?_ | refine pick_pos rfl ?_ | refine pick_neg rfl ?_ | ((first | refine W_regP fun K hK => ?_ | refine W_regPD fun K hK => ?_ | refine W_ret ?_); simp [Fin, hbl, hw0]) | (with_reducible refine hK _ ?_; clear hK K) | (with_reducible refine goL_split (fun h => ?_) (fun h => ?_) <;> first | (exfalso; simp at h; first | done | omega | contradiction) | ((try simp at h); simp [hbl, hw0])) | with_reducible refine And.intro ?_ ?_ | with_reducible exact okay_rfl rfl | with_reducible assumption | (refine W_cond rfl (fun h => ?_) (fun h => ?_) <;> first | (exfalso; simp at h; first | done | omega | contradiction) | (exfalso; simp_all; done) | (try simp at h)) | omega)
  refine W_loop (fun n st => ∃ i : Nat, n = code.length - i ∧ i ≤ code.length ∧ i ≤ 4000 ∧
    st = ⟨[], [(0, .d (.slc 1 (bytesD code))), (3, .d (.int .i64 (hRun (705705 + (code.length : Nat)) (code.take i)))), (4, .d (.int .i64 i))], [], 0⟩) _ ⟨0, rfl, by omega, by omega, ?_⟩ ?_
  · simp [gc, closeN, liveA, gcV, gcO, renA, renAs, renO, namesAs, namesA, namesO, posn, hRun]
  rintro n st ⟨i, rfl, hi, hi2, rfl⟩
  by_cases hlt : i < code.length
  · by_cases h4 : i < 4000
    · have ha := List.getElem?_eq_getElem hlt
      generalize code[i] = x at ha
      have hs := hRun_succ ha (705705 + (code.length : Nat))
      unfold hStep at hs
      have hx := x.toNat_lt
      generalize hRun (705705 + (code.length : Nat)) (code.take i) = H at *
      have hw1 : IntKind.i64.wrap (x.toNat : Nat) = (x.toNat : Nat) := wrap_id (by omega) (by omega)
      repeat' (first | refine W_seq ?_ | refine W_skip ?_ | refine W_block ?_ | refine W_exit ?_ | refine pick_pos rfl ?_ | refine pick_neg rfl ?_ | ((first | refine W_regP fun K hK => ?_ | refine W_regPD fun K hK => ?_ | refine W_ret ?_); simp [Fin, ha, hbl, and64_ev, hw1]) | (with_reducible refine hK _ ?_; clear hK K) | (with_reducible refine goL_split (fun h => ?_) (fun h => ?_) <;> first | (exfalso; simp at h; first | done | omega | contradiction) | ((try simp at h); simp [ha, hbl, and64_ev, hw1])) | with_reducible refine And.intro ?_ ?_ | with_reducible exact okay_rfl rfl | with_reducible assumption | (refine W_cond rfl (fun h => ?_) (fun h => ?_) <;> first | (exfalso; simp at h; first | done | omega | contradiction) | (exfalso; simp_all; done) | (try simp at h)) | omega)
      refine ⟨code.length - (i + 1), by omega, i + 1, rfl, by omega, by omega, ?_⟩
      rw [hs]
      simp [gc, closeN, liveA, gcV, gcO, renA, renAs, renO, namesAs, namesA, namesO, posn]
      exact wrap_id (by omega) (by omega)
    · have hie : i = 4000 := by omega
      subst hie
      have e : lNew code = ⟨code, 0, hRun (705705 + (code.length : Nat)) (code.take 4000)⟩ := rfl
      rw [e]
      repeat' (first | refine W_seq ?_ | refine W_skip ?_ | refine W_block ?_ | refine W_exit ?_ | refine pick_pos rfl ?_ | refine pick_neg rfl ?_ | ((first | refine W_regP fun K hK => ?_ | refine W_regPD fun K hK => ?_ | refine W_ret ?_); simp [Fin, hbl]) | (with_reducible refine hK _ ?_; clear hK K) | (with_reducible refine goL_split (fun h => ?_) (fun h => ?_) <;> first | (exfalso; simp at h; first | done | omega | contradiction) | ((try simp at h); simp [hbl])) | with_reducible refine And.intro ?_ ?_ | with_reducible exact okay_rfl rfl | with_reducible assumption | (refine W_cond rfl (fun h => ?_) (fun h => ?_) <;> first | (exfalso; simp at h; first | done | omega | contradiction) | (exfalso; simp_all; done) | (try simp at h)) | omega)
  · have hie : i = code.length := by omega
    subst hie
    have e : lNew code = ⟨code, 0, hRun (705705 + (code.length : Nat)) (code.take code.length)⟩ := by
      unfold lNew
      rw [List.take_of_length_le (Nat.le_refl code.length), List.take_of_length_le hi2]
    rw [e]
    repeat' (first | refine W_seq ?_ | refine W_skip ?_ | refine W_block ?_ | refine W_exit ?_ | refine pick_pos rfl ?_ | refine pick_neg rfl ?_ | ((first | refine W_regP fun K hK => ?_ | refine W_regPD fun K hK => ?_ | refine W_ret ?_); simp [Fin, hbl]) | (with_reducible refine hK _ ?_; clear hK K) | (with_reducible refine goL_split (fun h => ?_) (fun h => ?_) <;> first | (exfalso; simp at h; first | done | omega | contradiction) | ((try simp at h); simp [hbl])) | with_reducible refine And.intro ?_ ?_ | with_reducible exact okay_rfl rfl | with_reducible assumption | (refine W_cond rfl (fun h => ?_) (fun h => ?_) <;> first | (exfalso; simp at h; first | done | omega | contradiction) | (exfalso; simp_all; done) | (try simp at h)) | omega)
theorem lBytes_v (c : Cur) (n : Int) (hc : c.good) (hn : n ≤ 5000) : Valid PP GG F_S_l01DrawBytes [.box c.o, .d (.int .i64 n)] (.own 0 1 (bytesD (lByteL c n.toNat).1)) [some (.box (lByteL c n.toNat).2.o), none] := by
  refine v_S_l01DrawBytes [.own 0 1 (bytesD (lByteL c n.toNat).1)] rfl rfl ?_
  repeat' (first | refine W_seq ?_ | refine W_skip ?_ | refine W_block ?_ | refine W_exit ?_ | refine pick_pos rfl ?_ | refine pick_neg rfl ?_ | ((first | refine W_regP fun K hK => ?_ | refine W_regPD fun K hK => ?_ | refine W_ret ?_); simp [Fin]) | (with_reducible refine hK _ ?_; clear hK K) | (with_reducible refine goL_split (fun h => ?_) (fun h => ?_) <;> first | (exfalso; simp at h; first | done | omega | contradiction) | ((try simp at h); simp)) | with_reducible refine And.intro ?_ ?_ | with_reducible exact okay_rfl rfl | with_reducible assumption | (refine W_cond rfl (fun h => ?_) (fun h => ?_) <;> first | (exfalso; simp at h; first | done | omega | contradiction) | (exfalso; simp_all; done) | (try simp at h)) | omega)
  refine W_loop (fun m st => ∃ i : Nat, m = n.toNat - i ∧ i ≤ n.toNat ∧
    st = ⟨[], [(0, .ptr 0 0), (1, .d (.int .i64 n)), (5, .sl 1), (6, .d (.int .i64 i))], [(0, .box [.d (.slc 1 (bytesD (lByteL c i).2.b)), .d (.int .i64 (lByteL c i).2.i), .d (.int .i64 (lByteL c i).2.h)]), (1, .arr 0 0 1 (bytesD (lByteL c i).1))], 2⟩) _ ⟨0, rfl, by omega, ?_⟩ ?_
  · simp [gc, closeN, liveA, gcV, gcO, renA, renAs, renO, namesAs, namesA, namesO, posn, lByteL, bytesD]
  rintro m st ⟨i, rfl, hi, rfl⟩
  by_cases hlt : (i : Int) < n
  rotate_left
  · have hie : n.toNat = i := by omega
    rw [hie]
    generalize lByteL c i = s at *
    repeat' (first | refine W_seq ?_ | refine W_skip ?_ | refine W_block ?_ | refine W_exit ?_ | refine pick_pos rfl ?_ | refine pick_neg rfl ?_ | ((first | refine W_regP fun K hK => ?_ | refine W_regPD fun K hK => ?_ | refine W_ret ?_); simp [Fin, hlt]) | (with_reducible refine hK _ ?_; clear hK K) | (with_reducible refine goL_split (fun h => ?_) (fun h => ?_) <;> first | (exfalso; simp at h; first | done | omega | contradiction) | ((try simp at h); simp [hlt])) | with_reducible refine And.intro ?_ ?_ | with_reducible exact okay_rfl rfl | with_reducible assumption | (refine W_cond rfl (fun h => ?_) (fun h => ?_) <;> first | (exfalso; simp at h; first | done | omega | contradiction) | (exfalso; simp_all; done) | (try simp at h)) | omega)
  have hs : lByteL c (i + 1) = ((lByteL c i).1 ++ [UInt8.ofNat (lPick (lBelow (lBelow (lByteL c i).2 256).2 256).2 0 [0, 1, 255, 128, (lBelow (lByteL c i).2 256).1, (lBelow (lBelow (lByteL c i).2 256).2 256).1]).1.toNat], (lPick (lBelow (lBelow (lByteL c i).2 256).2 256).2 0 [0, 1, 255, 128, (lBelow (lByteL c i).2 256).1, (lBelow (lBelow (lByteL c i).2 256).2 256).1]).2) := rfl
  have g1 := lByteL_good hc i
  have hlen := lByteL_len c i
  generalize lByteL c i = s at *
  have c1 := lBelow_v (GG := GG) s.2 256 g1
  have g2 := lBelow_good g1 256
  have r2 := lBelow_rng s.2 (n := 256) (by omega)
  generalize lBelow s.2 256 = x at *
  have c2 := lBelow_v (GG := GG) x.2 256 g2
  have g3 := lBelow_good g2 256
  have r3 := lBelow_rng x.2 (n := 256) (by omega)
  generalize lBelow x.2 256 = y at *
  have c3 := lPickI_v (GG := GG) y.2 [0, 1, 255, 128, x.1, y.1] g3 (by simp) (by simp)
  have r4 := lByte_pick y.2 x.1 y.1 (by omega) (by omega)
  generalize lPick y.2 0 [0, 1, 255, 128, x.1, y.1] = p at *
  simp only [intsD, List.map_cons, List.map_nil] at c3
  have hw : IntKind.u8.wrap p.1 = ((UInt8.ofNat p.1.toNat).toNat : Nat) := by
    rw [UInt8.toNat_ofNat', Nat.mod_eq_of_lt (by omega)]
    rw [show ((p.1.toNat : Nat) : Int) = p.1 by omega]
    rw [IntKind.wrap_u8]
    omega
  have hbs : bytesD (s.1 ++ [UInt8.ofNat p.1.toNat]) = bytesD s.1 ++ [[.int .u8 ((UInt8.ofNat p.1.toNat).toNat : Nat)]] := by simp [bytesD]
  generalize UInt8.ofNat p.1.toNat = pb at *
  have hbl := bytesD_len s.1
  repeat' (first | refine W_seq ?_ | refine W_skip ?_ | refine W_block ?_ | refine W_exit ?_ | refine pick_pos rfl ?_ | refine pick_neg rfl ?_ | ((first | refine W_regP fun K hK => ?_ | refine W_regPD fun K hK => ?_ | refine W_ret ?_ | with_reducible refine callQ (c1) ?_ | with_reducible refine callQ (c2) ?_ | with_reducible refine callQ (c3) ?_); simp [Fin, hlt, hw, limit, hbl]) | (with_reducible refine hK _ ?_; clear hK K) | (with_reducible refine goL_split (fun h => ?_) (fun h => ?_) <;> first | (exfalso; simp at h; first | done | omega | contradiction) | ((try simp at h); simp [hlt, hw, limit, hbl])) | with_reducible refine And.intro ?_ ?_ | with_reducible exact okay_rfl rfl | with_reducible assumption | (refine W_cond rfl (fun h => ?_) (fun h => ?_) <;> first | (exfalso; simp at h; first | done | omega | contradiction) | (exfalso; simp_all; done) | (try simp at h)) | omega)
  refine ⟨n.toNat - (i + 1), by omega, i + 1, rfl, by omega, ?_⟩
  rw [hs]
  dsimp only
  rw [hbs]
  simp [gc, closeN, liveA, gcV, gcO, renA, renAs, renO, namesAs, namesA, namesO, posn]
  exact wrap_id (by omega) (by omega)
end Go.Proofs.YtmihpclfdicfkaaDoor.Ab
