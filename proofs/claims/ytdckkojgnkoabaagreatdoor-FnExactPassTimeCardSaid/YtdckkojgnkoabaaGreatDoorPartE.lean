/-
  A part of a proof about the given program; what is proved is said where each theorem stands.
-/
import Derived.Test.YtdckkojgnkoabaaGreatDoorFrameA
import Derived.Test.YtdckkojgnkoabaaGreatDoorFrameB
import Derived.Test.YtdckkojgnkoabaaGreatDoorFrameC
import Derived.Test.YtdckkojgnkoabaaGreatDoorFrameD
import Derived.Test.YtdckkojgnkoabaaGreatDoorFrameE
import Derived.Test.YtdckkojgnkoabaaGreatDoorHead
import Derived.Test.YtdckkojgnkoabaaGreatDoorShelf
import Derived.Test.YtdckkojgnkoabaaGreatDoorPartA
import Derived.Test.YtdckkojgnkoabaaGreatDoorPartB
import Derived.Test.YtdckkojgnkoabaaGreatDoorPartC
import Derived.Test.YtdckkojgnkoabaaGreatDoorPartD
namespace Go.Proofs
end Go.Proofs
set_option linter.unusedSimpArgs false
set_option linter.unusedVariables false
set_option maxRecDepth 100000
set_option maxHeartbeats 2000000
namespace Go.Proofs.YtdckkojgnkoabaaGreatDoor.Ab
open Go.Proofs
variable {GG : GV}
theorem overO_eq {b : GBook} (now : Int) (h : b.fLeases.Pairwise fun x y => x.fId < y.fId) : overO b now = foE now [] b.fLeases := by
  have h1 := foE_spec now b.fLeases [] List.Pairwise.nil h (fun g hg => by simp at hg)
  have hT : (b.fLeases.filter fun l => decide (l.fEnds ≤ now)).Pairwise (TB ltE ordE) := by
    refine (h.filter _).imp fun {x y} hxy => ⟨fun hl => ?_, fun hl => ?_⟩
    · exact Or.inl (of_decide_eq_true hl)
    · have := of_decide_eq_false hl
      unfold ordE; omega
  have h2 := stable_at ordE_tr _ hT
  unfold overO
  refine List.Perm.eq_of_pairwise (le := ordE) (fun x y _ _ hxy hyx => ?_) h2.2 h1.2 (h2.1.trans (by simpa using h1.1.symm))
  unfold ordE at hxy hyx; omega
theorem bookO_inc {b : GBook} (h : bookB b = true) : b.fLeases.Pairwise fun x y => x.fId < y.fId := by
  unfold bookB at h
  rw [Bool.and_eq_true] at h
  have := okP_inc (q := leaseQ) (key := fun l : GLease => l.fId) (fun pre x hq => by unfold leaseQ at hq; rw [Bool.and_eq_true] at hq; exact hq.2) h.2
  exact this
theorem s_DropOver_ok [MaxL GG] (b : GBook) (now : Int) (hf : fitB b) (hb : bookB b = true) :
    Valid PP GG 102 [.agg b.c, .d (.int .i64 now)] (.tup [.agg (keepO b now).o, .own 0 6 (rLease (overO b now))]) [none, none] := by
  refine cv Tryz.func102 [.agg (keepO b now).o, .own 0 6 (rLease (overO b now))] ?_
  have hK : keepO b now = ⟨b.fLeases.filter fun l => !decide (l.fEnds ≤ now)⟩ := rfl
  have cbo := s_BookOk_ok (GG := GG) b hf
  rw [hb] at cbo
  rw [hK, overO_eq now (bookO_inc hb)]
  clear hK
  have hl := hf.1
  obtain ⟨a⟩ := b
  dsimp only at hl
  generalize hT : foE now [] a = T
  refine u_37 (Z1 cbo) ?_
  refine W_nilP 6 0 rfl rfl rfl ?_
  refine u_30 ?_
  refine W_loop (fun n st => ∃ (i : Nat) (G : List GLease), n = a.length - i ∧ i ≤ a.length ∧ G.length ≤ i ∧ foE now G (a.drop i) = T ∧
    st = ⟨[], [(1, .d (.int .i64 now)), (2, .ptr 0 0), (4, .ptr 1 0), (6, .ptr 2 0), (7, .sl 3), (8, .d (.int .i64 i))], [(0, .box [.d (.slc 6 (rLease a))]), (1, .box [.nil 0 6]), (2, .box [.sl 4]), (3, .arr 0 0 6 (rLease G)), (4, .arr 0 0 6 (rLease ((a.take i).filter fun l => !decide (l.fEnds ≤ now))))], 5⟩) _ ⟨0, [], rfl, by omega, by simp, hT, ?_⟩ ?_
  · exact u_51
  rintro n st ⟨i, G, rfl, hi, hG, hs, rfl⟩
  by_cases hlt : i < a.length
  rotate_left
  · have hie : i = a.length := by omega
    subst hie
    rw [List.drop_length] at hs
    rw [foE] at hs
    subst hs
    rw [List.take_length]
    have hi4 := ind_rLease G
    have hi5 := ind_rLease (a.filter fun l => !decide (l.fEnds ≤ now))
    generalize (a.filter fun l => !decide (l.fEnds ≤ now)) = b2 at *
    exact u_29
  have ha := List.getElem?_eq_getElem hlt
  rw [List.drop_eq_getElem_cons hlt, foE] at hs
  generalize a[i] = x at ha hs
  have hsc2 := filter_succ (p := fun l : GLease => !decide (l.fEnds ≤ now)) (f := GLease.row) ha
  have hlen2 := filter_take_len (fun l : GLease => !decide (l.fEnds ≤ now)) GLease.row a i
  rw [show ∀ l : List GLease, (l.filter fun l => !decide (l.fEnds ≤ now)).map GLease.row = rLease (l.filter fun l => !decide (l.fEnds ≤ now)) from fun l => rfl] at hsc2 hlen2
  rw [show ∀ l : List GLease, (l.filter fun l => !decide (l.fEnds ≤ now)).map GLease.row = rLease (l.filter fun l => !decide (l.fEnds ≤ now)) from fun l => rfl] at hsc2
  generalize rLease ((a.take i).filter fun l => !decide (l.fEnds ≤ now)) = L2 at *
  obtain ⟨x1, x2, x3, x4, x5, x6⟩ := x
  dsimp only at hsc2 hs
  have e1 : IntKind.i64.wrap ((i : Int) + 1) = (i : Int) + 1 := wrap_id (by omega) (by omega)
  by_cases hx : x5 ≤ now
  rotate_left
  · rw [decide_eq_false hx] at hsc2
    rw [if_neg hx] at hs
    simp only [Bool.not_false, if_true] at hsc2
    have hx2 : now < x5 := by omega
    refine u_53 (Y2 ha e1) ?_
    refine ⟨a.length - (i + 1), by omega, i + 1, G, rfl, hlt, by omega, hs, ?_⟩
    rw [hsc2]
    exact u_24
  · rw [decide_eq_true hx] at hsc2
    rw [if_pos hx] at hs
    simp only [Bool.not_true, Bool.false_eq_true, if_false, List.append_nil] at hsc2
    generalize hU : insE ⟨x1, x2, x3, x4, x5, x6⟩ G = U at hs
    have hUl : U.length = G.length + 1 := by rw [← hU, insE_len]
    have hgo := goE_false ⟨x1, x2, x3, x4, x5, x6⟩ G []
    rw [hU, List.nil_append] at hgo
    refine u_53 ha ?_
    refine W_loop (fun n st => ∃ (k : Nat) (nx : List GLease) (put : Bool), n = G.length - k ∧ k ≤ G.length ∧ nx.length ≤ k + put.toNat ∧ goE ⟨x1, x2, x3, x4, x5, x6⟩ (G.drop k) nx put = U ∧
      st = ⟨[], [(1, .d (.int .i64 now)), (2, .ptr 0 0), (4, .ptr 1 0), (6, .ptr 2 0), (7, .sl 3), (8, .d (.int .i64 i)), (9, .ptr 4 0), (10, .sl 5), (11, .d (.bool put)), (12, .d (.int .i64 k))],
        [(0, .box [.d (.slc 6 (rLease a))]), (1, .box [.nil 0 6]), (2, .box [.sl 6]), (3, .arr 0 0 6 (rLease G)), (4, .box [.d (.int .i64 x1), .d (.int .i64 x2), .d (.str x3), .d (.int .i64 x4), .d (.int .i64 x5), .d (.int .i64 x6)]), (5, .arr 0 0 6 (rLease nx)), (6, .arr 0 0 6 L2)], 7⟩) _ ⟨0, [], false, rfl, by omega, by simp, hgo, ?_⟩ ?_
    · exact u_51
    rintro n st ⟨k, nx, put, rfl, hk, hnx, hg, rfl⟩
    by_cases hkl : k < G.length
    · have hgk := List.getElem?_eq_getElem hkl
      rw [List.drop_eq_getElem_cons hkl, goE] at hg
      generalize G[k] = y at hgk hg
      obtain ⟨y1, y2, y3, y4, y5, y6⟩ := y
      dsimp only at hg
      have e2 : IntKind.i64.wrap ((k : Int) + 1) = (k : Int) + 1 := wrap_id (by omega) (by omega)
      have hlx := rLease_len nx
      cases put with
      | true =>
        simp only [Bool.toNat_true] at hnx
        simp only [Bool.not_true, Bool.false_and, Bool.false_eq_true, if_false] at hg
        refine u_53 (Y2 hgk e2) ?_
        refine ⟨G.length - (k + 1), by omega, k + 1, _, true, rfl, hkl, ?_, hg, ?_⟩
        · simp; omega
        · exact u_51
      | false =>
        simp only [Bool.toNat_false, Nat.add_zero] at hnx
        simp only [Bool.not_false, Bool.true_and] at hg
        by_cases hxy : x5 < y5
        · rw [if_pos (decide_eq_true hxy)] at hg
          refine u_53 (Y2 hgk e2) ?_
          refine ⟨G.length - (k + 1), by omega, k + 1, _, true, rfl, hkl, ?_, hg, ?_⟩
          · simp; omega
          · exact u_51
        · rw [if_neg (by simpa using hxy)] at hg
          refine u_53 (Y2 hgk e2) ?_
          refine ⟨G.length - (k + 1), by omega, k + 1, _, false, rfl, hkl, ?_, hg, ?_⟩
          · simp; omega
          · exact u_51
    · have hke : k = G.length := by omega
      subst hke
      rw [List.drop_length, goE] at hg
      have hlx := rLease_len nx
      cases put with
      | true =>
        simp only [Bool.toNat_true] at hnx
        simp only [if_true] at hg
        subst hg
        refine u_23 e1 ?_
        refine ⟨a.length - (i + 1), by omega, i + 1, nx, rfl, hlt, by omega, hs, ?_⟩
        rw [hsc2]
        exact u_24
      | false =>
        simp only [Bool.toNat_false, Nat.add_zero] at hnx
        simp only [Bool.false_eq_true, if_false] at hg
        refine u_53 e1 ?_
        refine ⟨a.length - (i + 1), by omega, i + 1, U, rfl, hlt, by omega, hs, ?_⟩
        rw [hsc2, ← hg]
        exact u_51
theorem wo_sub {p : GToken → Bool} {l : List GToken} : ∀ x, x ∈ (wo p l).2 → ∃ t, t ∈ l ∧ t.fId = x := by
  induction l using snoc_ind with
  | h0 => intro x hx; simp [wo] at hx
  | h1 l t ih =>
    intro x hx
    rw [wo_snoc] at hx
    unfold wstep at hx
    split at hx
    · rcases List.mem_append.1 hx with hx | hx
      · obtain ⟨s, hs, e⟩ := ih x hx; exact ⟨s, by simp [hs], e⟩
      · simp at hx; exact ⟨t, by simp, hx.symm⟩
    · obtain ⟨s, hs, e⟩ := ih x hx; exact ⟨s, by simp [hs], e⟩
theorem wo_zero_take {f : GForest} (h : forestB f = true) (p : GToken → Bool) (i : Nat) : (wo p (f.fTokens.take i)).2.contains 0 = false := by
  cases hc : (wo p (f.fTokens.take i)).2.contains 0 with
  | false => rfl
  | true =>
    obtain ⟨t, ht, e⟩ := wo_sub 0 (List.contains_iff_mem.1 hc)
    have := ((forest_par h).2.1 t (List.mem_of_mem_take ht)).2.1
    omega
def sweepF (f : GForest) (now : Int) : List Int := (wo (fun t => overB t.fEnds now) f.fTokens).2
theorem s_SweepTokens_ok [MaxL GG] (f : GForest) (now : Int) (hf : fitF f) (hb : forestB f = true) :
    Valid PP GG 101 [.agg f.c, .d (.int .i64 now)] (.tup [.agg (lessF f (sweepF f now)).o, .own 0 1 (intsD (sweepF f now))]) [none, none] := by
  refine cv Tryz.func101 [.agg (lessF f (sweepF f now)).o, .own 0 1 (intsD (sweepF f now))] ?_
  have cfo := s_ForestOk_ok (GG := GG) f hf
  rw [hb] at cfo
  have hz := fun i => wo_zero_take hb (fun t => overB t.fEnds now) i
  have hwl := fun l => wo_len (fun t : GToken => overB t.fEnds now) l
  have hSw : sweepF f now = (wo (fun t => overB t.fEnds now) f.fTokens).2 := rfl
  have hsl : (sweepF f now).length ≤ f.fTokens.length := by rw [hSw]; have := hwl f.fTokens; omega
  have hf1 := hf.1
  have hig := ind_ints (sweepF f now)
  have cle := s_l08Less_ok (GG := GG) f.fTokens (sweepF f now) hf (by omega)
  obtain ⟨a⟩ := f
  dsimp only at hf1 hz hSw hsl cle
  repeat' (first | refine W_seq ?_ | refine W_skip ?_ | refine W_block ?_ | refine W_exit ?_ | refine pick_pos rfl ?_ | refine pick_neg rfl ?_ | ((first | refine W_regP fun K hK => ?_ | refine W_regPD fun K hK => ?_ | refine W_ret ?_ | with_reducible refine callQ (cfo) ?_); simp [Fin, intsD]) | (with_reducible refine hK _ ?_; clear hK K) | (with_reducible refine goL_split (fun h => ?_) (fun h => ?_) <;> first | (exfalso; simp at h; first | done | omega | contradiction) | ((try simp at h); simp [intsD])) | with_reducible refine And.intro ?_ ?_ | with_reducible exact okay_rfl rfl | with_reducible assumption | (refine W_cond rfl (fun h => ?_) (fun h => ?_) <;> first | (exfalso; simp at h; first | done | omega | contradiction) | (exfalso; simp_all; done) | (try simp at h)) | omega)
  refine W_loop (fun n st => ∃ i : Nat, n = a.length - i ∧ i ≤ a.length ∧
    st = ⟨[], [(1, .d (.int .i64 now)), (2, .ptr 0 0), (4, .ptr 1 0), (6, .sl 2), (7, .d (.int .i64 i))], [(0, .box [.d (.slc 7 (rToken a))]), (1, .box [.nil 1 7]), (2, .arr 0 0 1 (intsD (wo (fun t => overB t.fEnds now) (a.take i)).2))], 3⟩) _ ⟨0, rfl, by omega, ?_⟩ ?_
  · simp [gc, closeN, liveA, gcV, gcO, renA, renAs, renO, namesAs, namesA, namesO, posn, wo, intsD]
  rintro n st ⟨i, rfl, hi, rfl⟩
  by_cases hlt : i < a.length
  rotate_left
  · have hie : i = a.length := by omega
    subst hie
    rw [List.take_length, ← hSw]
    clear hSw hz hwl cfo
    generalize sweepF ⟨a⟩ now = G at *
    generalize lessF ⟨a⟩ G = LF at *
    obtain ⟨lf⟩ := LF
    have hi6 := ind_rToken lf
    have hi7 := ind_rToken a
    exact u_33 (Z1 cle)
  have ha := List.getElem?_eq_getElem hlt
  generalize a[i] = x at ha
  have hws := wo_succ (p := fun t : GToken => overB t.fEnds now) ha
  have hwl1 := hwl (a.take i)
  have hz1 := hz i
  have htl : (a.take i).length ≤ i := by rw [List.length_take]; omega
  generalize wo (fun t => overB t.fEnds now) (a.take i) = S at *
  obtain ⟨r, G⟩ := S
  dsimp only at hwl1 hz1
  unfold wstep at hws
  dsimp only at hws
  have hgl := ints_len G
  have cov := s_l08Over_ok (GG := GG) x now
  have chas := l01Has_ok (GG := GG) G x.fParent (by omega)
  have hin := ind_strs x.fNames
  have e1 : IntKind.i64.wrap ((i : Int) + 1) = (i : Int) + 1 := wrap_id (by omega) (by omega)
  obtain ⟨x1, x2, x3, x4, x5, x6, x7⟩ := x
  dsimp only at hws cov chas hin
  clear cle hSw hz hwl cfo
  cases hov : overB x5 now with
  | true =>
    rw [hov] at cov
    simp only [hov, Bool.true_or, if_true] at hws
    refine u_50 (Y3 ha hgl e1) (Z2 cov chas) ?_
    refine ⟨a.length - (i + 1), by omega, i + 1, rfl, hlt, ?_⟩
    rw [hws]
    exact u_66
  | false =>
    rw [hov] at cov
    simp only [hov, Bool.false_or] at hws
    by_cases hx2 : x2 = 0
    · subst hx2
      simp only [hz1, Bool.false_eq_true, if_false] at hws
      refine u_50 (Y3 ha hgl e1) (Z1 cov) ?_
      refine ⟨a.length - (i + 1), by omega, i + 1, rfl, hlt, ?_⟩
      rw [hws]
      exact u_66
    · have hx3 : (x2 != 0) = true := by simpa using hx2
      cases hcn : G.contains x2 with
      | true =>
        rw [hcn] at chas
        simp only [hcn, if_true] at hws
        refine u_50 (Y4 ha hgl hx3 e1) (Z2 cov chas) ?_
        refine ⟨a.length - (i + 1), by omega, i + 1, rfl, hlt, ?_⟩
        rw [hws]
        exact u_66
      | false =>
        rw [hcn] at chas
        simp only [hcn, Bool.false_eq_true, if_false] at hws
        refine u_50 (Y4 ha hgl hx3 e1) (Z2 cov chas) ?_
        refine ⟨a.length - (i + 1), by omega, i + 1, rfl, hlt, ?_⟩
        rw [hws]
        exact u_66
structure GTold where
  fTokens : List Int
  fLeases : List Int
  fGone : List (List UInt8)
  fGiven : List (List UInt8)
  deriving DecidableEq
@[simp] abbrev GTold.row (x : GTold) : List D := [.slc 1 (intsD x.fTokens), .slc 1 (intsD x.fLeases), .slc 1 (strsD x.fGone), .slc 1 (strsD x.fGiven)]
@[simp] abbrev GTold.c (x : GTold) : List C := [.d (.slc 1 (intsD x.fTokens)), .d (.slc 1 (intsD x.fLeases)), .d (.slc 1 (strsD x.fGone)), .d (.slc 1 (strsD x.fGiven))]
@[simp] abbrev GTold.o (x : GTold) : List C := [.own 0 1 (intsD x.fTokens), .own 0 1 (intsD x.fLeases), .own 0 1 (strsD x.fGone), .own 0 1 (strsD x.fGiven)]
def GTold.cost (x : GTold) : Nat := x.fTokens.length + x.fLeases.length + (x.fGone.length + sumBy List.length x.fGone) + (x.fGiven.length + sumBy List.length x.fGiven)
def GTold.ok (x : GTold) : Prop := x.fTokens.length ≤ maxLen ∧ (∀ y, y ∈ x.fTokens → int64 y) ∧ x.fLeases.length ≤ maxLen ∧ (∀ y, y ∈ x.fLeases → int64 y) ∧ x.fGone.length ≤ maxLen ∧ (∀ y, y ∈ x.fGone → y.length ≤ maxLen) ∧ x.fGiven.length ≤ maxLen ∧ (∀ y, y ∈ x.fGiven → y.length ≤ maxLen)
def GTold.mark (x : GTold) (k : Int) : GTold := { fTokens := marksInt (k) x.fTokens.length, fLeases := marksInt (k + ((x.fTokens.length : Nat) : Int)) x.fLeases.length, fGone := marksString (k + ((x.fTokens.length : Nat) : Int) + ((x.fLeases.length : Nat) : Int)) x.fGone.length, fGiven := marksString (k + ((x.fTokens.length : Nat) : Int) + ((x.fLeases.length : Nat) : Int) + ((x.fGone.length : Nat) : Int)) x.fGiven.length }
def GTold.marks (x : GTold) : Nat := x.fTokens.length + x.fLeases.length + x.fGone.length + x.fGiven.length
def GTold.markIn (x : GTold) (k : Int) : GTold := { fTokens := marksInt (k) x.fTokens.length, fLeases := marksInt (k + ((x.fTokens.length : Nat) : Int)) x.fLeases.length, fGone := marksString (k + ((x.fTokens.length : Nat) : Int) + ((x.fLeases.length : Nat) : Int)) x.fGone.length, fGiven := marksString (k + ((x.fTokens.length : Nat) : Int) + ((x.fLeases.length : Nat) : Int) + ((x.fGone.length : Nat) : Int)) x.fGiven.length }
def GTold.marksIn (x : GTold) : Nat := x.fTokens.length + x.fLeases.length + x.fGone.length + x.fGiven.length
theorem GTold.marks_fix (x : GTold) : x.marks ≤ 0 + 32 * x.cost := by
  unfold GTold.marks GTold.cost
  omega
theorem GTold.marks_le (x : GTold) : x.marks ≤ 32 * (1 + x.cost) := by
  have := x.marks_fix
  omega
theorem eqTold_g (x y : GTold) (hx : x.cost ≤ 1099511627776) (hy : y.cost ≤ 1099511627776) : Valid PP GG 36 [.agg x.c, .agg y.c] (.d (.bool (decide (x = y)))) [none, none] := by
  refine cv Tryz.func36 [.d (.bool (decide (x = y)))] ?_
  have hcx : x.cost = x.fTokens.length + x.fLeases.length + (x.fGone.length + sumBy List.length x.fGone) + (x.fGiven.length + sumBy List.length x.fGiven) := rfl
  have hcy : y.cost = y.fTokens.length + y.fLeases.length + (y.fGone.length + sumBy List.length y.fGone) + (y.fGiven.length + sumBy List.length y.fGiven) := rfl
  refine u_1 ?_
  refine u_15 (Z1 (eqIntS_ok x.fTokens y.fTokens (by omega))) ?_
  refine W_cond rfl (fun h => W_seq ?_) (fun h0 => W_skip ?_)
  · refine u_3 ?_
    have : decide (x = y) = false := by rw [decide_eq_false_iff_not]; intro e; rw [e] at h; simp at h
    exact u_4
  refine u_15 (Z1 (eqIntS_ok x.fLeases y.fLeases (by omega))) ?_
  refine W_cond rfl (fun h => W_seq ?_) (fun h1 => W_skip ?_)
  · refine u_3 ?_
    have : decide (x = y) = false := by rw [decide_eq_false_iff_not]; intro e; rw [e] at h; simp at h
    exact u_4
  refine u_15 (Z1 (eqStringS_ok x.fGone y.fGone (by omega))) ?_
  refine W_cond rfl (fun h => W_seq ?_) (fun h2 => W_skip ?_)
  · refine u_3 ?_
    have : decide (x = y) = false := by rw [decide_eq_false_iff_not]; intro e; rw [e] at h; simp at h
    exact u_4
  refine u_15 (Z1 (eqStringS_ok x.fGiven y.fGiven (by omega))) ?_
  refine W_cond rfl (fun h => W_seq ?_) (fun h3 => W_skip ?_)
  · refine u_3 ?_
    have : decide (x = y) = false := by rw [decide_eq_false_iff_not]; intro e; rw [e] at h; simp at h
    exact u_4
  refine u_1 ?_
  have : decide (x = y) = true := by
    rw [decide_eq_true_iff]
    cases x; cases y
    simp at h0 h1 h2 h3
    simp_all
  exact u_4
theorem markTold_g (x : GTold) (k : Int) (hx : x.cost ≤ 1099511627776) (hk : 0 ≤ k ∧ k + (x.marksIn : Nat) ≤ 140737488355328) :
    Valid PP GG 37 [.agg x.o, .d (.int .i64 k)] (.d (.int .i64 (k + (x.marksIn : Nat)))) [some (.agg (x.markIn k).o), none] := by
  refine cv Tryz.func37 [.d (.int .i64 (k + (x.marksIn : Nat)))] ?_
  have hco : x.cost = x.fTokens.length + x.fLeases.length + (x.fGone.length + sumBy List.length x.fGone) + (x.fGiven.length + sumBy List.length x.fGiven) := rfl
  have hms : x.marksIn = x.fTokens.length + x.fLeases.length + x.fGone.length + x.fGiven.length := rfl
  refine u_1 ?_
  have ct := markIntS_ok (GG := GG) (intsD x.fTokens) k (by simp [intsD]) (by simp; omega) (by omega)
  simp only [intsD_len] at ct
  refine u_14 (Z1 ct) ?_
  have ct := markIntS_ok (GG := GG) (intsD x.fLeases) (k + x.fTokens.length) (by simp [intsD]) (by simp; omega) (by omega)
  simp only [intsD_len] at ct
  refine u_14 (Z1 ct) ?_
  have ct := markStringS_ok (GG := GG) (strsD x.fGone) ((k + x.fTokens.length) + x.fLeases.length) (by simp [strsD]) (by simp; omega) (by omega)
  simp only [strsD_len] at ct
  refine u_14 (Z1 ct) ?_
  have ct := markStringS_ok (GG := GG) (strsD x.fGiven) (((k + x.fTokens.length) + x.fLeases.length) + x.fGone.length) (by simp [strsD]) (by simp; omega) (by omega)
  simp only [strsD_len] at ct
  refine u_14 (Z1 ct) ?_
  refine u_1 ?_
  have hfin : ((((k + x.fTokens.length) + x.fLeases.length) + x.fGone.length) + x.fGiven.length) = k + (x.marksIn : Nat) := by omega
  simp only [GTold.markIn]
  exact u_10 hfin
theorem heldTold_g (x : GTold) (k : Int) (hx : x.cost ≤ 1099511627776) (hk : 0 ≤ k ∧ k + (x.marksIn : Nat) ≤ 140737488355328) :
    Valid PP GG 38 [.agg (x.markIn k).c, .d (.int .i64 k)] (.d (.int .i64 (k + (x.marksIn : Nat)))) [none, none] := by
  refine cv Tryz.func38 [.d (.int .i64 (k + (x.marksIn : Nat)))] ?_
  have hco : x.cost = x.fTokens.length + x.fLeases.length + (x.fGone.length + sumBy List.length x.fGone) + (x.fGiven.length + sumBy List.length x.fGiven) := rfl
  have hms : x.marksIn = x.fTokens.length + x.fLeases.length + x.fGone.length + x.fGiven.length := rfl
  simp only [GTold.markIn]
  refine u_1 ?_
  have ct := heldIntS_ok (GG := GG) x.fTokens.length k (by omega) (by omega)
  refine u_14 (Z1 ct) ?_
  refine u_2 ?_
  refine W_cond rfl (fun h => ?_) (fun h => W_skip ?_)
  · simp at h; omega
  have ct := heldIntS_ok (GG := GG) x.fLeases.length (k + x.fTokens.length) (by omega) (by omega)
  refine u_14 (Z1 ct) ?_
  refine u_2 ?_
  refine W_cond rfl (fun h => ?_) (fun h => W_skip ?_)
  · simp at h; omega
  have ct := heldStringS_ok (GG := GG) x.fGone.length ((k + x.fTokens.length) + x.fLeases.length) (by omega) (by omega)
  refine u_14 (Z1 ct) ?_
  refine u_2 ?_
  refine W_cond rfl (fun h => ?_) (fun h => W_skip ?_)
  · simp at h; omega
  have ct := heldStringS_ok (GG := GG) x.fGiven.length (((k + x.fTokens.length) + x.fLeases.length) + x.fGone.length) (by omega) (by omega)
  refine u_14 (Z1 ct) ?_
  refine u_2 ?_
  refine W_cond rfl (fun h => ?_) (fun h => W_skip ?_)
  · simp at h; omega
  refine u_1 ?_
  have hfin : ((((k + x.fTokens.length) + x.fLeases.length) + x.fGone.length) + x.fGiven.length) = k + (x.marksIn : Nat) := by omega
  exact u_10 hfin
def ptB (w : GWorld) (now : Int) : Bool := worldB w && inB now w.fNow 1000000000
def ptK (w : GWorld) (now : Int) : GBook := keepL w.fBook (sweepF w.fForest now)
def ptL (w : GWorld) (now : Int) : List GLease := goneL w.fBook (sweepF w.fForest now) ++ overO (ptK w now) now
def ptX (w : GWorld) (now : Int) : GWorld := { w with fNow := now, fForest := lessF w.fForest (sweepF w.fForest now), fBook := keepO (ptK w now) now }
def ptW (w : GWorld) (now : Int) : GWorld := if ptB w now then letGo (ptX w now) (ptL w now) else w
def ptR (w : GWorld) (now : Int) : RQ := letRun (letAll (ptX w now) (ptL w now))
def ptT (w : GWorld) (now : Int) : GTold := if ptB w now then ⟨sweepF w.fForest now, (ptL w now).map GLease.fId, (ptR w now).done, (ptR w now).failed⟩ else ⟨[], [], [], []⟩
theorem keepL_book {b : GBook} (g : List Int) (h : bookB b = true) : bookB (keepL b g) = true := by
  have hl : b.fLeases.length ≤ 150 := by unfold bookB at h; rw [Bool.and_eq_true] at h; exact of_decide_eq_true h.1
  have hi := bookO_inc h
  unfold bookB at h ⊢
  rw [Bool.and_eq_true] at h ⊢
  refine ⟨decide_eq_true (Nat.le_trans (List.length_filter_le _ _) hl), okP_of fun i x hx => ?_⟩
  have hm := List.mem_of_getElem? hx
  unfold keepL at hm
  dsimp only at hm
  obtain ⟨j, hj⟩ := List.getElem?_of_mem (List.mem_filter.1 hm).1
  have hq := okP_get h.2 hj
  unfold leaseQ at hq ⊢
  rw [Bool.and_eq_true] at hq ⊢
  refine ⟨hq.1, ?_⟩
  have hi2 : (keepL b g).fLeases.Pairwise fun y x => y.fId < x.fId := hi.filter _
  cases i with
  | zero => simp [adjB]
  | succ i =>
    have hy := List.getElem?_eq_getElem (show i < (keepL b g).fLeases.length by have := (List.getElem?_eq_some_iff.1 hx).1; omega)
    rw [adj_succ _ hy]
    refine decide_eq_true ?_
    rw [List.pairwise_iff_getElem] at hi2
    obtain ⟨h1, rfl⟩ := List.getElem?_eq_some_iff.1 hx
    exact hi2 i (i + 1) (by omega) h1 (by omega)
theorem keepL_fit {b : GBook} (g : List Int) (h : fitB b) : fitB (keepL b g) :=
  ⟨Nat.le_trans (List.length_filter_le _ _) h.1, fun t ht => h.2 t (List.mem_filter.1 ht).1⟩
theorem pt_let {w : GWorld} {now : Int} (hf : fitW w) (h : ptB w now = true) : LetOk (ptX w now) ∧ ownInc (ptX w now) ∧ worldB w = true ∧ bookB w.fBook = true ∧ forestB w.fForest = true := by
  unfold ptB at h
  rw [Bool.and_eq_true] at h
  obtain ⟨hL, hI, hb⟩ := letOk_of2 hf h.1 (lessF w.fForest (sweepF w.fForest now)) (keepO (ptK w now) now)
  obtain ⟨a1, a2, a3, a4, a5, a6, a7, a8⟩ := hL
  have hin := inB_true h.2
  have hn : 0 ≤ w.fNow := a1.1
  exact ⟨⟨⟨by show 0 ≤ now; omega, hin.2⟩, a2, a3, a4, a5, a6, a7, a8⟩, hI, h.1, hb, world_forest h.1⟩
theorem stable_len {α : Type} (lt : α → α → Bool) (l : List α) : (stable lt l).length = l.length := by unfold stable; rw [stGo_len, stIns_len]
theorem ptL_len (w : GWorld) (now : Int) : (ptL w now).length ≤ 2 * w.fBook.fLeases.length := by
  unfold ptL
  have h1 := goneL_len w.fBook (sweepF w.fForest now)
  have h2 : (overO (ptK w now) now).length ≤ w.fBook.fLeases.length := by
    unfold overO
    rw [stable_len]
    exact Nat.le_trans (List.length_filter_le _ _) (List.length_filter_le _ _)
  rw [List.length_append]; omega
theorem sweep_len {w : GWorld} (now : Int) (h : forestB w.fForest = true) : (sweepF w.fForest now).length ≤ 120 := by
  unfold sweepF
  have h1 := wo_len (fun t : GToken => overB t.fEnds now) w.fForest.fTokens
  unfold forestB at h
  simp only [Bool.and_eq_true, decide_eq_true_eq] at h
  omega
theorem s_PassTime_ok [MaxL GG] (w : GWorld) (now : Int) (hf : fitW w) :
    Valid PP GG 34 [.agg w.c, .d (.int .i64 now)] (.tup [.agg (ptW w now).o, .agg (ptT w now).o, .d (.bool (ptB w now))]) [none, none] := by
  refine cv Tryz.func34 [.agg (ptW w now).o, .agg (ptT w now).o, .d (.bool (ptB w now))] ?_
  have cw := s_WorldOk_ok (GG := GG) w hf
  have ccp := s_l16Copy_ok (GG := GG) w hf
  have cin : Valid PP GG 49 [.d (.int .i64 now), .d (.int .i64 w.fNow), .d (.int .i64 1000000000)] (.d (.bool (inB now w.fNow 1000000000))) [none, none, none] := l01In_ok _ _ _
  have hB : ptB w now = (worldB w && inB now w.fNow 1000000000) := rfl
  have hW : ptW w now = if ptB w now then letGo (ptX w now) (ptL w now) else w := rfl
  have hT : ptT w now = if ptB w now then ⟨sweepF w.fForest now, (ptL w now).map GLease.fId, (ptR w now).done, (ptR w now).failed⟩ else ⟨[], [], [], []⟩ := rfl
  have hi1 := ind_rToken w.fForest.fTokens
  have hi2 := ind_rLease w.fBook.fLeases
  have hi3 := ind_rUser w.fFar.fUsers
  have hi4 := ind_rJob w.fQueue.fJobs
  have hi5 := ind_rOwned w.fOwned
  cases hb : ptB w now with
  | false =>
    rw [hb] at hW hT
    simp only [Bool.false_eq_true, if_false] at hW hT
    rw [hW, hT]
    cases hWB : worldB w with
    | false =>
      rw [hWB] at cw
      clear hW hT hB
      exact u_67 (Z2 ccp cw)
    | true =>
      rw [hb, hWB, Bool.true_and] at hB
      rw [hWB] at cw
      rw [← hB] at cin
      clear hW hT hB
      exact u_67 (Z3 ccp cw cin)
  | true =>
    obtain ⟨hL, hI, hWB, hbb, hfb⟩ := pt_let hf hb
    rw [hb] at hW hT
    simp only [if_true] at hW hT
    rw [hb, hWB, Bool.true_and] at hB
    rw [hWB] at cw
    rw [← hB] at cin
    have csw := s_SweepTokens_ok (GG := GG) w.fForest now hf.1 hfb
    have hsl := sweep_len now hfb
    have cdo := s_DropOf_ok (GG := GG) w.fBook (sweepF w.fForest now) hf.2.1 hbb (by omega)
    have cdv := s_DropOver_ok (GG := GG) (ptK w now) now (keepL_fit _ hf.2.1) (keepL_book _ hbb)
    have hll := ptL_len w now
    have hbl := hf.2.1.1
    have cgo := s_l16LetGo_ok (GG := GG) (ptX w now) (ptL w now) hL (by have := hbb; unfold bookB at this; rw [Bool.and_eq_true] at this; have := of_decide_eq_true this.1; omega)
    rw [hW, hT]
    have hX : ptX w now = { w with fNow := now, fForest := lessF w.fForest (sweepF w.fForest now), fBook := keepO (ptK w now) now } := rfl
    have hLs : ptL w now = goneL w.fBook (sweepF w.fForest now) ++ overO (ptK w now) now := rfl
    have hR : ptR w now = letRun (letAll (ptX w now) (ptL w now)) := rfl
    rw [show keepL w.fBook (sweepF w.fForest now) = ptK w now from rfl] at cdo
    rw [← hR] at cgo
    clear hR hW hT hB hL hI
    generalize letGo (ptX w now) (ptL w now) = Z at *
    generalize ptR w now = R at *
    rw [hX] at cgo
    clear hX
    generalize ptL w now = LS at *
    generalize sweepF w.fForest now = G at *
    generalize goneL w.fBook G = GL at *
    generalize lessF w.fForest G = LF at *
    generalize overO (ptK w now) now = OL at *
    generalize keepO (ptK w now) now = KO at *
    generalize ptK w now = KB at *
    obtain ⟨lf⟩ := LF
    obtain ⟨ko⟩ := KO
    obtain ⟨kb⟩ := KB
    have hg1 := ind_ints G
    have hg2 := ind_rToken lf
    have hg3 := ind_rLease ko
    have hg4 := ind_rLease kb
    have hg5 := ind_rLease GL
    have hg6 := ind_rLease OL
    have hll2 : GL.length + OL.length = LS.length := by rw [hLs, List.length_append]
    have hap : rLease GL ++ rLease OL = rLease LS := by rw [hLs, rLease_app]
    clear hLs
    refine u_37 (Z6 ccp cw cin csw cdo cdv) ?_
    refine W_nilP 13 1 rfl rfl rfl ?_
    refine W_loop (fun n st => ∃ i : Nat, n = GL.length - i ∧ i ≤ GL.length ∧ st = ⟨[], [(4, .ptr 0 0), (5, .ptr 1 0), (7, .ptr 2 0), (8, .ptr 3 0), (10, .ptr 4 0), (11, .sl 5), (12, .sl 6), (13, .ptr 7 0), (14, .sl 8), (15, .d (.int .i64 i))],
      [(0, .box [.d (.int .i64 0), .d (.int .i64 0), .d (.int .i64 0), .nil 1 7, .nil 0 6, .nil 0 2, .d (.int .i64 0), .d (.int .i64 0), .nil 0 3, .nil 0 2]), (1, .box [.nil 0 1, .nil 0 1, .nil 0 1, .nil 0 1]), (2, .box [.d (.int .i64 now), .d (.int .i64 w.fNext), .d (.int .i64 w.fLost), .sl 9, .sl 10, .sl 11, .d (.int .i64 w.fFar.fFail), .d (.int .i64 w.fFar.fMade), .sl 12, .sl 13]), (3, .box [.sl 14]), (4, .box [.sl 15]), (5, .arr 0 0 6 (rLease GL)), (6, .arr 0 0 6 (rLease OL)), (7, .box [.sl 16, .sl 17, .nil 0 1, .nil 0 1]), (8, .arr 0 0 6 (rLease (GL.take i))), (9, .arr 0 1 7 (rToken w.fForest.fTokens)), (10, .arr 0 0 6 (rLease w.fBook.fLeases)), (11, .arr 0 0 2 (rUser w.fFar.fUsers)), (12, .arr 0 0 3 (rJob w.fQueue.fJobs)), (13, .arr 0 0 2 (rOwned w.fOwned)), (14, .arr 0 1 7 (rToken lf)), (15, .arr 0 0 6 (rLease ko)), (16, .arr 0 0 1 (intsD G)), (17, .arr 0 0 1 [])], 18⟩) _ ⟨0, rfl, by omega, ?_⟩ ?_
    · exact u_51
    clear ccp cw cin csw cdo cdv
    rintro n st ⟨i, rfl, hi, rfl⟩
    by_cases hlt : i < GL.length
    · have ha := List.getElem?_eq_getElem hlt
      generalize GL[i] = x at ha
      have hsc := rLease_succ ha
      have hlen := rLease_take_len GL i
      have e1 : IntKind.i64.wrap ((i : Int) + 1) = (i : Int) + 1 := wrap_id (by omega) (by omega)
      generalize rLease (GL.take i) = L at *
      obtain ⟨x1, x2, x3, x4, x5, x6⟩ := x
      refine u_53 (Y2 ha e1) ?_
      refine ⟨GL.length - (i + 1), by omega, i + 1, rfl, hlt, ?_⟩
      rw [hsc]
      exact u_24
    · have hie : i = GL.length := by omega
      subst hie
      rw [List.take_length]
      refine u_30 ?_
      refine W_loop (fun n st => ∃ i : Nat, n = OL.length - i ∧ i ≤ OL.length ∧ st = ⟨[], [(4, .ptr 0 0), (5, .ptr 1 0), (7, .ptr 2 0), (8, .ptr 3 0), (10, .ptr 4 0), (12, .sl 5), (13, .ptr 6 0), (14, .sl 7), (16, .d (.int .i64 i))],
      [(0, .box [.d (.int .i64 0), .d (.int .i64 0), .d (.int .i64 0), .nil 1 7, .nil 0 6, .nil 0 2, .d (.int .i64 0), .d (.int .i64 0), .nil 0 3, .nil 0 2]), (1, .box [.nil 0 1, .nil 0 1, .nil 0 1, .nil 0 1]), (2, .box [.d (.int .i64 now), .d (.int .i64 w.fNext), .d (.int .i64 w.fLost), .sl 8, .sl 9, .sl 10, .d (.int .i64 w.fFar.fFail), .d (.int .i64 w.fFar.fMade), .sl 11, .sl 12]), (3, .box [.sl 13]), (4, .box [.sl 14]), (5, .arr 0 0 6 (rLease OL)), (6, .box [.sl 15, .sl 16, .nil 0 1, .nil 0 1]), (7, .arr 0 0 6 (rLease GL ++ rLease (OL.take i))), (8, .arr 0 1 7 (rToken w.fForest.fTokens)), (9, .arr 0 0 6 (rLease w.fBook.fLeases)), (10, .arr 0 0 2 (rUser w.fFar.fUsers)), (11, .arr 0 0 3 (rJob w.fQueue.fJobs)), (12, .arr 0 0 2 (rOwned w.fOwned)), (13, .arr 0 1 7 (rToken lf)), (14, .arr 0 0 6 (rLease ko)), (15, .arr 0 0 1 (intsD G)), (16, .arr 0 0 1 [])], 17⟩) _ ⟨0, rfl, by omega, ?_⟩ ?_
      · exact u_51
      rintro n st ⟨i, rfl, hi, rfl⟩
      by_cases hlt : i < OL.length
      · have ha := List.getElem?_eq_getElem hlt
        generalize OL[i] = x at ha
        have hsc := rLease_succ ha
        have hlen := rLease_take_len OL i
        have e1 : IntKind.i64.wrap ((i : Int) + 1) = (i : Int) + 1 := wrap_id (by omega) (by omega)
        generalize rLease (OL.take i) = L at *
        obtain ⟨x1, x2, x3, x4, x5, x6⟩ := x
        have hgll := rLease_len GL
        refine u_53 (Y3 ha e1 hgll) ?_
        refine ⟨OL.length - (i + 1), by omega, i + 1, rfl, hlt, ?_⟩
        rw [hsc]
        exact u_24
      · have hie : i = OL.length := by omega
        subst hie
        rw [List.take_length, hap]
        refine u_30 ?_
        refine W_loop (fun n st => ∃ i : Nat, n = LS.length - i ∧ i ≤ LS.length ∧ st = ⟨[], [(4, .ptr 0 0), (5, .ptr 1 0), (7, .ptr 2 0), (8, .ptr 3 0), (10, .ptr 4 0), (13, .ptr 5 0), (14, .sl 6), (17, .d (.int .i64 i))],
          [(0, .box [.d (.int .i64 0), .d (.int .i64 0), .d (.int .i64 0), .nil 1 7, .nil 0 6, .nil 0 2, .d (.int .i64 0), .d (.int .i64 0), .nil 0 3, .nil 0 2]), (1, .box [.nil 0 1, .nil 0 1, .nil 0 1, .nil 0 1]), (2, .box [.d (.int .i64 now), .d (.int .i64 w.fNext), .d (.int .i64 w.fLost), .sl 7, .sl 8, .sl 9, .d (.int .i64 w.fFar.fFail), .d (.int .i64 w.fFar.fMade), .sl 10, .sl 11]), (3, .box [.sl 12]), (4, .box [.sl 13]), (5, .box [.sl 14, .sl 15, .nil 0 1, .nil 0 1]), (6, .arr 0 0 6 (rLease LS)), (7, .arr 0 1 7 (rToken w.fForest.fTokens)), (8, .arr 0 0 6 (rLease w.fBook.fLeases)), (9, .arr 0 0 2 (rUser w.fFar.fUsers)), (10, .arr 0 0 3 (rJob w.fQueue.fJobs)), (11, .arr 0 0 2 (rOwned w.fOwned)), (12, .arr 0 1 7 (rToken lf)), (13, .arr 0 0 6 (rLease ko)), (14, .arr 0 0 1 (intsD G)), (15, .arr 0 0 1 (intsD ((LS.take i).map GLease.fId)))], 16⟩) _ ⟨0, rfl, by omega, ?_⟩ ?_
        · exact u_66
        rintro n st ⟨i, rfl, hi, rfl⟩
        by_cases hlt : i < LS.length
        · have ha := List.getElem?_eq_getElem hlt
          generalize LS[i] = x at ha
          have hsc : intsD ((LS.take (i + 1)).map GLease.fId) = intsD ((LS.take i).map GLease.fId) ++ [[.int .i64 x.fId]] := by rw [List.take_add_one, ha]; simp [intsD]
          have hlen : (intsD ((LS.take i).map GLease.fId)).length ≤ i := by rw [ints_len, List.length_map, List.length_take]; omega
          have e1 : IntKind.i64.wrap ((i : Int) + 1) = (i : Int) + 1 := wrap_id (by omega) (by omega)
          generalize intsD ((LS.take i).map GLease.fId) = L at *
          obtain ⟨x1, x2, x3, x4, x5, x6⟩ := x
          dsimp only at hsc
          refine u_53 (Y2 ha e1) ?_
          refine ⟨LS.length - (i + 1), by omega, i + 1, rfl, hlt, ?_⟩
          rw [hsc]
          exact u_24
        · have hie : i = LS.length := by omega
          subst hie
          rw [List.take_length]
          obtain ⟨Zn, Zx, Zl, ⟨Zf⟩, ⟨Zb⟩, ⟨Zu, Zfl, Zfm⟩, ⟨Zq⟩, Zo⟩ := Z
          have hj1 := ind_rToken Zf
          have hj2 := ind_rLease Zb
          have hj3 := ind_rUser Zu
          have hj4 := ind_rJob Zq
          have hj5 := ind_rOwned Zo
          have hj6 := ind_strs R.done
          have hj7 := ind_strs R.failed
          have hj8 := ind_ints (LS.map GLease.fId)
          have hj9 := ind_rLease LS
          exact u_33 (Z1 cgo)
theorem passTime_c1_ok (t : GToken) (now : Int) : Valid PP GG 173 [.agg t.c, .rp [.int .i64 now]] (.d (.bool (overB t.fEnds now))) [none] := by
  refine cv Tryz.func173 [.d (.bool (overB t.fEnds now))] ?_
  have hind := ind_strs t.fNames
  have co := isOver_ok (GG := GG) t.fEnds now
  generalize overB t.fEnds now = r at *
  exact u_33 (Z1 co)
theorem passTime_ok [MaxL GG] (w : GWorld) (now : Int) (hf : fitW w) (hb : ptB w now = true) :
    Valid PP GG 104 [.agg w.c, .d (.int .i64 now)] (.tup [.agg (ptW w now).o, .agg (ptT w now).o]) [none, none] := by
  refine cv Tryz.func104 [.agg (ptW w now).o, .agg (ptT w now).o] ?_
  have ccp := cloneWorld_ok (GG := GG) w hf
  have hW : ptW w now = if ptB w now then letGo (ptX w now) (ptL w now) else w := rfl
  have hT : ptT w now = if ptB w now then ⟨sweepF w.fForest now, (ptL w now).map GLease.fId, (ptR w now).done, (ptR w now).failed⟩ else ⟨[], [], [], []⟩ := rfl
  rw [hb] at hW hT
  simp only [if_true] at hW hT
  obtain ⟨hL, hI, hWB, hbb, hfb⟩ := pt_let hf hb
  have hsl := sweep_len now hfb
  have hS : sweepF w.fForest now = (wo (fun t => overB t.fEnds now) w.fForest.fTokens).2 := rfl
  have hRr := (forest_wo hfb (fun t => overB t.fEnds now)).rest
  rw [← hS] at hRr
  have cwo := without_ok (GG := GG) w.fForest.fTokens 173 [[.int .i64 now]] (fun t => overB t.fEnds now) hf.1 fun t _ => passTime_c1_ok t now
  rw [← hS, hRr] at cwo
  have cdr := dropOfTokens_ok (GG := GG) { w with fNow := now, fForest := lessF w.fForest (sweepF w.fForest now) } (sweepF w.fForest now) hf.2.1.1 (by omega)
  dsimp only at cdr
  have hbl : w.fBook.fLeases.length ≤ 150 := by have := hbb; unfold bookB at this; rw [Bool.and_eq_true] at this; exact of_decide_eq_true this.1
  have hkl : (ptK w now).fLeases.length ≤ 150 := Nat.le_trans (List.length_filter_le _ _) hbl
  have cdo := dropOver_ok (GG := GG) (ptK w now) now (by omega)
  have hll := ptL_len w now
  have cre := release_ok (GG := GG) (ptX w now) (ptL w now) hL hI (by omega)
  rw [show (w.fForest.fTokens.filter fun t => !(sweepF w.fForest now).contains t.fId) = (lessF w.fForest (sweepF w.fForest now)).fTokens from rfl] at cwo
  rw [hW, hT]
  have hX : ptX w now = { w with fNow := now, fForest := lessF w.fForest (sweepF w.fForest now), fBook := keepO (ptK w now) now } := rfl
  have hLs : ptL w now = goneL w.fBook (sweepF w.fForest now) ++ overO (ptK w now) now := rfl
  have hR : ptR w now = letRun (letAll (ptX w now) (ptL w now)) := rfl
  rw [show keepL w.fBook (sweepF w.fForest now) = ptK w now from rfl] at cdr
  rw [← hR] at cre
  clear hR hW hT hL hI hS hRr
  generalize letGo (ptX w now) (ptL w now) = Z at *
  generalize ptR w now = R at *
  rw [hX] at cre
  clear hX
  generalize ptL w now = LS at *
  generalize sweepF w.fForest now = G at *
  generalize goneL w.fBook G = GL at *
  generalize lessF w.fForest G = LF at *
  generalize overO (ptK w now) now = OL at *
  generalize keepO (ptK w now) now = KO at *
  generalize ptK w now = KB at *
  obtain ⟨lf⟩ := LF
  obtain ⟨ko⟩ := KO
  obtain ⟨kb⟩ := KB
  have hg1 := ind_ints G
  have hg2 := ind_rToken lf
  have hg3 := ind_rLease ko
  have hg4 := ind_rLease kb
  have hg5 := ind_rLease GL
  have hg6 := ind_rLease OL
  have hll2 : GL.length + OL.length = LS.length := by rw [hLs, List.length_append]
  have hap : rLease GL ++ rLease OL = rLease LS := by rw [hLs, rLease_app]
  have hgll := rLease_len GL
  have holl := rLease_len OL
  clear hLs
  have hi1 := ind_rToken w.fForest.fTokens
  have hi2 := ind_rLease w.fBook.fLeases
  have hi3 := ind_rUser w.fFar.fUsers
  have hi4 := ind_rJob w.fQueue.fJobs
  have hi5 := ind_rOwned w.fOwned
  dsimp only at hkl
  refine u_50 (Y3 hgll holl hap) (Z4 ccp cwo cdr cdo) ?_
  refine W_nilP 7 1 rfl rfl rfl ?_
  refine W_loop (fun n st => ∃ i : Nat, n = LS.length - i ∧ i ≤ LS.length ∧ st = ⟨[], [(4, .ptr 0 0), (5, .ptr 1 0), (6, .ptr 2 0), (7, .ptr 3 0), (8, .sl 4), (41, .sl 4), (42, .d (.int .i64 LS.length)), (43, .d (.int .i64 i))],
      [(0, .box [.d (.int .i64 0), .d (.int .i64 0), .d (.int .i64 0), .nil 1 7, .nil 0 6, .nil 0 2, .d (.int .i64 0), .d (.int .i64 0), .nil 0 3, .nil 0 2]), (1, .box [.nil 0 1, .nil 0 1, .nil 0 1, .nil 0 1]), (2, .box [.d (.int .i64 now), .d (.int .i64 w.fNext), .d (.int .i64 w.fLost), .sl 5, .sl 6, .sl 7, .d (.int .i64 w.fFar.fFail), .d (.int .i64 w.fFar.fMade), .sl 8, .sl 9]), (3, .box [.sl 10, .sl 11, .nil 0 1, .nil 0 1]), (4, .arr 0 0 6 (rLease LS)), (5, .arr 0 1 7 (rToken lf)), (6, .arr 0 0 6 (rLease ko)), (7, .arr 0 0 2 (rUser w.fFar.fUsers)), (8, .arr 0 0 3 (rJob w.fQueue.fJobs)), (9, .arr 0 0 2 (rOwned w.fOwned)), (10, .arr 0 0 1 (intsD G)), (11, .arr 0 0 1 (intsD ((LS.take i).map GLease.fId)))], 12⟩) _ ⟨0, rfl, by omega, ?_⟩ ?_
  · exact u_66
  clear ccp cwo cdr cdo
  rintro n st ⟨i, rfl, hi, rfl⟩
  by_cases hlt : i < LS.length
  · have ha := List.getElem?_eq_getElem hlt
    generalize LS[i] = x at ha
    have hsc : intsD ((LS.take (i + 1)).map GLease.fId) = intsD ((LS.take i).map GLease.fId) ++ [[.int .i64 x.fId]] := by rw [List.take_add_one, ha]; simp [intsD]
    have hlen : (intsD ((LS.take i).map GLease.fId)).length ≤ i := by rw [ints_len, List.length_map, List.length_take]; omega
    have e1 : IntKind.i64.wrap ((i : Int) + 1) = (i : Int) + 1 := wrap_id (by omega) (by omega)
    generalize intsD ((LS.take i).map GLease.fId) = L at *
    obtain ⟨x1, x2, x3, x4, x5, x6⟩ := x
    dsimp only at hsc
    refine u_53 (Y2 ha e1) ?_
    refine ⟨LS.length - (i + 1), by omega, i + 1, rfl, hlt, ?_⟩
    rw [hsc]
    exact u_24
  · have hie : i = LS.length := by omega
    subst hie
    rw [List.take_length]
    obtain ⟨Zn, Zx, Zl, ⟨Zf⟩, ⟨Zb⟩, ⟨Zu, Zfl, Zfm⟩, ⟨Zq⟩, Zo⟩ := Z
    have hj1 := ind_rToken Zf
    have hj2 := ind_rLease Zb
    have hj3 := ind_rUser Zu
    have hj4 := ind_rJob Zq
    have hj5 := ind_rOwned Zo
    have hj6 := ind_strs R.done
    have hj7 := ind_strs R.failed
    have hj8 := ind_ints (LS.map GLease.fId)
    have hj9 := ind_rLease LS
    exact u_33 (Z1 cre)
theorem i_PassTime_ok [MaxL GG] (w : GWorld) (now : Int) (hf : fitW w) :
    Valid PP GG 35 [.agg w.c, .d (.int .i64 now)] (.tup [.agg (ptW w now).o, .agg (ptT w now).o, .d (.bool (ptB w now))]) [none, none] := by
  refine cv Tryz.func35 [.agg (ptW w now).o, .agg (ptT w now).o, .d (.bool (ptB w now))] ?_
  have cw := isWorld_ok (GG := GG) w hf
  have ccp := cloneWorld_ok (GG := GG) w hf
  have cpt := passTime_ok (GG := GG) w now hf
  have cin : Valid PP GG 103 [.d (.int .i64 now), .d (.int .i64 w.fNow), .d (.int .i64 1000000000)] (.d (.bool (inB now w.fNow 1000000000))) [none, none, none] := within_ok _ _ _
  have hB : ptB w now = (worldB w && inB now w.fNow 1000000000) := rfl
  have hW : ptW w now = if ptB w now then letGo (ptX w now) (ptL w now) else w := rfl
  have hT : ptT w now = if ptB w now then ⟨sweepF w.fForest now, (ptL w now).map GLease.fId, (ptR w now).done, (ptR w now).failed⟩ else ⟨[], [], [], []⟩ := rfl
  have hi1 := ind_rToken w.fForest.fTokens
  have hi2 := ind_rLease w.fBook.fLeases
  have hi3 := ind_rUser w.fFar.fUsers
  have hi4 := ind_rJob w.fQueue.fJobs
  have hi5 := ind_rOwned w.fOwned
  cases hb : ptB w now with
  | false =>
    rw [hb] at hW hT
    simp only [Bool.false_eq_true, if_false] at hW hT
    rw [hW, hT]
    cases hWB : worldB w with
    | false =>
      rw [hWB] at cw
      clear hW hT hB cpt
      exact u_67 (Z2 ccp cw)
    | true =>
      rw [hb, hWB, Bool.true_and] at hB
      rw [hWB] at cw
      rw [← hB] at cin
      clear hW hT hB cpt
      exact u_67 (Z3 ccp cw cin)
  | true =>
    have cpt := cpt hb
    rw [hb] at hB
    have hB := hB.symm
    rw [Bool.and_eq_true] at hB
    rw [hB.1] at cw
    rw [hB.2] at cin
    clear hB hW hT
    generalize ptW w now = Z at *
    generalize ptT w now = R at *
    obtain ⟨Zn, Zx, Zl, ⟨Zf⟩, ⟨Zb⟩, ⟨Zu, Zfl, Zfm⟩, ⟨Zq⟩, Zo⟩ := Z
    obtain ⟨r1, r2, r3, r4⟩ := R
    have hj1 := ind_rToken Zf
    have hj2 := ind_rLease Zb
    have hj3 := ind_rUser Zu
    have hj4 := ind_rJob Zq
    have hj5 := ind_rOwned Zo
    have hj6 := ind_strs r3
    have hj7 := ind_strs r4
    have hj8 := ind_ints r1
    have hj9 := ind_ints r2
    exact u_33 (Z3 cw cin cpt)
theorem rq_out (now : Int) (q : List GJob) (f : GFar) : (rq now q f).done.length + sumBy List.length (rq now q f).done + ((rq now q f).failed.length + sumBy List.length (rq now q f).failed) ≤ q.length + sumBy GJob.cost q := by
  induction q using snoc_ind with
  | h0 => exact Nat.le_refl _
  | h1 l x ih =>
    have e : rq now (l ++ [x]) f = rqStep now (rq now l f) x := by unfold rq; rw [List.foldl_append]; rfl
    have ej : x.cost = x.fName.length := rfl
    rw [e, List.length_append, sumBy_append, sumBy_sing]
    simp only [List.length_cons, List.length_nil]
    unfold rqStep
    repeat' split
    all_goals first
      | exact Nat.le_trans ih (by omega)
      | (simp only [List.length_append, sumBy_append, sumBy_sing, List.length_cons, List.length_nil]; omega)
theorem ptX_cost (w : GWorld) (now : Int) : (ptX w now).cost ≤ w.cost := by
  unfold ptX
  generalize sweepF w.fForest now = G
  have h := sumBy_filter GLease.cost (fun l : GLease => !G.contains l.fToken) w.fBook.fLeases
  have h2 := sumBy_filter GToken.cost (fun t : GToken => !G.contains t.fId) w.fForest.fTokens
  have hk : (ptK w now).fLeases.length + sumBy GLease.cost (ptK w now).fLeases ≤ w.fBook.fLeases.length + sumBy GLease.cost w.fBook.fLeases := sumBy_filter GLease.cost _ _
  have h3 := sumBy_filter GLease.cost (fun l : GLease => !decide (l.fEnds ≤ now)) (ptK w now).fLeases
  have e1 : ∀ l, (GForest.mk l).cost = l.length + sumBy GToken.cost l := fun _ => rfl
  have e2 : ∀ l, (GBook.mk l).cost = l.length + sumBy GLease.cost l := fun _ => rfl
  have e3 : w.fBook.cost = w.fBook.fLeases.length + sumBy GLease.cost w.fBook.fLeases := rfl
  have e4 : w.fForest.cost = w.fForest.fTokens.length + sumBy GToken.cost w.fForest.fTokens := rfl
  rw [world_cost, world_cost w]
  dsimp only
  unfold keepO lessF
  rw [e1, e2]
  omega
theorem ptW_cost (w : GWorld) (now : Int) : (ptW w now).cost ≤ w.cost := by
  unfold ptW
  split
  · exact Nat.le_trans (letGo_cost _ _) (ptX_cost w now)
  · exact Nat.le_refl _
theorem ptT_cost {w : GWorld} (now : Int) (hf : fitW w) : (ptT w now).cost ≤ w.cost + 1000 := by
  unfold ptT
  split
  · rename_i h
    obtain ⟨hL, hI, hWB, hbb, hfb⟩ := pt_let hf h
    have h1 := sweep_len now hfb
    have h2 := ptL_len w now
    have hbl : w.fBook.fLeases.length ≤ 150 := by have := hbb; unfold bookB at this; rw [Bool.and_eq_true] at this; exact of_decide_eq_true this.1
    have h3 := rq_out (letAll (ptX w now) (ptL w now)).fNow (letAll (ptX w now) (ptL w now)).fQueue.fJobs (letAll (ptX w now) (ptL w now)).fFar
    have h4 := letAll_cost (ptX w now) (ptL w now)
    have h5 := ptX_cost w now
    have h6 := world_cost (letAll (ptX w now) (ptL w now))
    have e2 : (letAll (ptX w now) (ptL w now)).fQueue.cost = (letAll (ptX w now) (ptL w now)).fQueue.fJobs.length + sumBy GJob.cost (letAll (ptX w now) (ptL w now)).fQueue.fJobs := rfl
    have hR : ptR w now = rq (letAll (ptX w now) (ptL w now)).fNow (letAll (ptX w now) (ptL w now)).fQueue.fJobs (letAll (ptX w now) (ptL w now)).fFar := rfl
    rw [← hR] at h3
    have e : ∀ a b c d, (GTold.mk a b c d).cost = a.length + b.length + (c.length + sumBy List.length c) + (d.length + sumBy List.length d) := fun _ _ _ _ => rfl
    rw [e, List.length_map]
    omega
  · exact Nat.le_trans (Nat.le_refl 0) (Nat.zero_le _)
theorem law_PassTime [MaxL GG] (w : GWorld) (now : Int) (hok : w.ok) : Valid PP GG 9 [.agg w.c, .d (.int .i64 now)] (.d (.bool true)) [none, none] := by
  refine cv Tryz.func9 [.d (.bool true)] ?_
  have hmx : maxLen = 9223372036854775807 := rfl
  have csz := szWorld_g (GG := GG) w 1048576 hok ⟨by omega, by omega⟩
  by_cases hcost : w.cost ≤ 1048576
  · rw [leftR_yes (by omega)] at csz
    have ct := toWorld_g (GG := GG) w (by omega)
    have cex := eqWorld_g (GG := GG) w w (by omega) (by omega)
    rw [decide_eq_true rfl] at cex
    have hmr := world_marks (w := w) (by omega)
    have ck := markWorld_g (GG := GG) w 1 (by omega) ⟨by omega, by omega⟩
    simp only [GWorld.markIn, GForest.markIn, GBook.markIn, GFar.markIn, GQueue.markIn] at ck
    have cs := s_PassTime_ok (GG := GG) w now (fitW_of hcost)
    have ci := i_PassTime_ok (GG := GG) w now (fitW_of hcost)
    have hgc := ptW_cost w now
    have htc := ptT_cost now (fitW_of hcost)
    generalize ptW w now = g at *
    generalize ptT w now = r at *
    generalize ptB w now = j at *
    have ce := eqWorld_g (GG := GG) g g (by omega) (by omega)
    rw [decide_eq_true rfl] at ce
    have ce2 := eqTold_g (GG := GG) r r (by omega) (by omega)
    rw [decide_eq_true rfl] at ce2
    have hmg := world_marks (w := g) (by omega)
    have hmt : r.marksIn ≤ 100000000 := by have := r.marks_fix; have e : r.marksIn = r.marks := rfl; omega
    have cm := markWorld_g (GG := GG) g 1 (by omega) ⟨by omega, by omega⟩
    have ch := heldWorld_g (GG := GG) g 1 (by omega) ⟨by omega, by omega⟩
    simp only [GWorld.markIn, GForest.markIn, GBook.markIn, GFar.markIn, GQueue.markIn] at cm ch
    have cm2 := markTold_g (GG := GG) r (1 + (g.marksIn : Nat)) (by omega) ⟨by omega, by omega⟩
    have ch2 := heldTold_g (GG := GG) r (1 + (g.marksIn : Nat)) (by omega) ⟨by omega, by omega⟩
    simp only [GTold.markIn] at cm2 ch2
    have hi1 := ind_rToken g.fForest.fTokens
    have hi2 := ind_rLease g.fBook.fLeases
    have hi3 := ind_rUser g.fFar.fUsers
    have hi4 := ind_rJob g.fQueue.fJobs
    have hi5 := ind_rOwned g.fOwned
    have hj6 := ind_strs r.fGone
    have hj7 := ind_strs r.fGiven
    have hj8 := ind_ints r.fTokens
    have hj9 := ind_ints r.fLeases
    repeat' (first | refine W_seq ?_ | refine W_skip ?_ | refine W_block ?_ | (refine W_exit ?_; first | refine pick_pos rfl ?_ | (refine pick_neg rfl ?_; first | refine pick_pos rfl ?_ | (refine pick_neg rfl ?_; refine pick_pos rfl ?_))) | (refine W_regP fun K hK => ?_; simp) | (refine W_regPD fun K hK => ?_; simp) | (with_reducible refine hK _ ?_; clear hK K) | (with_reducible refine callQ (csz) ?_; simp) | (with_reducible refine callQ (ct) ?_; simp) | (with_reducible refine callQ (cs) ?_; simp) | (with_reducible refine callQ (ci) ?_; simp) | (with_reducible refine callQ (cex) ?_; simp) | (with_reducible refine callQ (ce) ?_; simp) | (with_reducible refine callQ (ce2) ?_; simp) | (with_reducible refine callQ (ck) ?_; simp) | (with_reducible refine callQ (cm) ?_; simp) | (with_reducible refine callQ (cm2) ?_; simp) | (with_reducible refine callQ (ch) ?_; simp) | (with_reducible refine callQ (ch2) ?_; simp) | (with_reducible refine goL_split (fun h => ?_) (fun h => ?_) <;> first | (exfalso; simp at h; done) | (exfalso; simp at h; omega) | (exfalso; simp at h; contradiction) | ((try simp at h); simp)) | with_reducible refine And.intro ?_ ?_ | with_reducible exact okay_rfl rfl | with_reducible assumption | (refine W_cond rfl (fun h => ?_) (fun h => ?_) <;> first | (exfalso; simp at h; done) | (exfalso; simp at h; omega) | (exfalso; simp at h; contradiction) | (exfalso; simp_all; done) | (try simp at h)) | (refine W_ret ?_; simp [Fin]) | omega)
  · rw [leftR_no (by omega)] at csz
    exact u_33 (Z1 csz)
end Go.Proofs.YtdckkojgnkoabaaGreatDoor.Ab
