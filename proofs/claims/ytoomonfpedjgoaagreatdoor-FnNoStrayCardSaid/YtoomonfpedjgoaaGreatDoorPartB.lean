/-
  A part of a proof about the given program; what is proved is said where each theorem stands.
-/
import Derived.Test.YtoomonfpedjgoaaGreatDoorFrameA
import Derived.Test.YtoomonfpedjgoaaGreatDoorFrameB
import Derived.Test.YtoomonfpedjgoaaGreatDoorFrameC
import Derived.Test.YtoomonfpedjgoaaGreatDoorFrameD
import Derived.Test.YtoomonfpedjgoaaGreatDoorFrameE
import Derived.Test.YtoomonfpedjgoaaGreatDoorHead
import Derived.Test.YtoomonfpedjgoaaGreatDoorShelf
import Derived.Test.YtoomonfpedjgoaaGreatDoorPartA
namespace Go.Proofs
end Go.Proofs
set_option linter.unusedSimpArgs false
set_option linter.unusedVariables false
set_option maxRecDepth 100000
set_option maxHeartbeats 2000000
namespace Go.Proofs.YtoomonfpedjgoaaGreatDoor.Ab
open Go.Proofs
variable {GG : GV}
theorem s_ForestOk_ok [MaxL GG] (f : GForest) (hf : fitF f) : Valid PP GG 24 [.agg f.c] (.d (.bool (forestB f))) [none] := by
  refine cv Tryz.func24 [.d (.bool (forestB f))] ?_
  obtain ⟨hl, ht⟩ := hf
  have hti : ∀ id, Valid PP GG 37 [.agg [.d (.slc 7 (rToken f.fTokens))], .d (.int .i64 id)] (.d (.int .i64 (idxF (fun t => decide (t.fId = id)) f.fTokens))) [none, none] := fun id => s_l08At_ok (GG := GG) f id hl
  generalize hfa : f.fTokens = a at *
  by_cases h6 : a.length ≤ 120
  rotate_left
  · have hb : forestB f = false := by unfold forestB; rw [hfa, decide_eq_false h6, Bool.false_and]
    rw [hb]
    have hd : 120 < a.length := by omega
    exact u_14 (Y2 hfa hd)
  have hd : ¬ 120 < a.length := by omega
  refine u_15 (Y2 hfa hd) ?_
  refine W_loop (fun n st => ∃ i : Nat, n = a.length - i ∧ i ≤ a.length ∧ okP (tokQ f) [] (a.take i) = true ∧
    st = ⟨[], [(1, .ptr 0 0), (3, .d (.int .i64 i))], [(0, .box [.d (.slc 7 (rToken a))])], 1⟩) _ ⟨0, rfl, by omega, rfl, ?_⟩ ?_
  · exact u_27 hfa
  rintro n st ⟨i, rfl, hi, hok, rfl⟩
  by_cases hlt : i < a.length
  · have ha := List.getElem?_eq_getElem hlt
    generalize a[i] = x at ha
    have ct := s_l08Token_ok (GG := GG) x (ht x (List.mem_of_getElem? ha))
    have cf := hti x.fParent
    have hbad0 := fun h => okP_bad (q := tokQ f) ha h
    have hst := okP_step (q := tokQ f) ha
    rw [hok, Bool.true_and] at hst
    have hbad : tokQ f (a.take i) x = false → forestB f = false := fun h => by unfold forestB; rw [hfa, hbad0 h, Bool.and_false]
    clear hbad0
    have hq : tokQ f (a.take i) x = (tokenB x && adjB (fun p x => decide (p.fId < x.fId)) (a.take i) x && (decide (x.fParent = 0) || hasTok f x.fParent)) := rfl
    rw [hq] at hst hbad
    clear hq
    obtain ⟨xi, xp, xn, xm, xe, xl, xu⟩ := x
    have hno : decide (idxF (fun t => decide (t.fId = xp)) a < 0) = !hasTok f xp := by rw [idxF_none]; unfold hasTok; rw [hfa]
    dsimp only at cf hst hbad
    generalize idxF (fun t => decide (t.fId = xp)) a = k at cf hno
    cases htb : tokenB ⟨xi, xp, xn, xm, xe, xl, xu⟩ with
    | false =>
      rw [htb] at ct hbad
      have hb := hbad (by simp)
      rw [hb]
      exact u_24 (Y2 ha hfa) (Z1 ct)
    | true =>
      rw [htb] at ct hst hbad
      simp only [Bool.true_and] at hst hbad
      by_cases h0 : i = 0
      · have hpi : ¬ 0 < i := by omega
        have hz : adjB (fun p x : GToken => decide (p.fId < x.fId)) (a.take i) ⟨xi, xp, xn, xm, xe, xl, xu⟩ = true := by rw [h0]; exact adj_zero _ _ _
        rw [hz, Bool.true_and] at hst hbad
        by_cases hp0 : xp = 0
        · have hst1 : okP (tokQ f) [] (a.take (i + 1)) = true := by rw [hst]; simp [hp0]
          have hq0 : (xp != 0) = false := by simp [hp0]
          refine u_25 (Y4 ha hfa hq0 hpi) (Z2 ct cf) ?_
          refine ⟨a.length - (i + 1), by omega, i + 1, rfl, hlt, hst1, ?_⟩
          refine u_28 hfa ?_
          exact wrap_id (by omega) (by omega)
        · have hq0 : (xp != 0) = true := by simp [hp0]
          have hd0 : decide (xp = 0) = false := decide_eq_false hp0
          cases hh : hasTok f xp with
          | true =>
            have hk : ¬ k < 0 := by rw [hh] at hno; simpa using hno
            have hst1 : okP (tokQ f) [] (a.take (i + 1)) = true := by rw [hst]; simp [hh]
            refine u_25 (Y5 ha hfa hq0 hpi hk) (Z2 ct cf) ?_
            refine ⟨a.length - (i + 1), by omega, i + 1, rfl, hlt, hst1, ?_⟩
            refine u_28 hfa ?_
            exact wrap_id (by omega) (by omega)
          | false =>
            have hk : k < 0 := by rw [hh] at hno; simpa using hno
            have hb := hbad (by simp [hd0, hh])
            rw [hb]
            exact u_24 (Y5 ha hfa hq0 hpi hk) (Z2 ct cf)
      · have hp := List.getElem?_eq_getElem (show i - 1 < a.length by omega)
        generalize a[i - 1]'_ = p at hp
        rw [adj_pos _ (by omega) hp] at hst hbad
        have hpi : 0 < i := by omega
        have hw1 : IntKind.i64.wrap ((i : Int) - 1) = ((i - 1 : Nat) : Int) := by rw [wrap_id (by omega) (by omega)]; omega
        obtain ⟨yi, yp, yn, ym, ye, yl, yu⟩ := p
        dsimp only at hst hbad
        by_cases hle : xi ≤ yi
        · have hb := hbad (by rw [decide_eq_false (show ¬ yi < xi by omega), Bool.false_and])
          rw [hb]
          exact u_24 (Y6 ha hp hfa hpi hw1 hle) (Z1 ct)
        · rw [decide_eq_true (show yi < xi by omega), Bool.true_and] at hst hbad
          by_cases hp0 : xp = 0
          · have hst1 : okP (tokQ f) [] (a.take (i + 1)) = true := by rw [hst]; simp [hp0]
            have hq0 : (xp != 0) = false := by simp [hp0]
            refine u_25 (Y7 ha hfa hq0 hp hpi hw1 hle) (Z2 ct cf) ?_
            refine ⟨a.length - (i + 1), by omega, i + 1, rfl, hlt, hst1, ?_⟩
            refine u_28 hfa ?_
            exact wrap_id (by omega) (by omega)
          · have hq0 : (xp != 0) = true := by simp [hp0]
            have hd0 : decide (xp = 0) = false := decide_eq_false hp0
            cases hh : hasTok f xp with
            | true =>
              have hk : ¬ k < 0 := by rw [hh] at hno; simpa using hno
              have hst1 : okP (tokQ f) [] (a.take (i + 1)) = true := by rw [hst]; simp [hh]
              refine u_25 (Y8 ha hfa hq0 hp hpi hw1 hle hk) (Z2 ct cf) ?_
              refine ⟨a.length - (i + 1), by omega, i + 1, rfl, hlt, hst1, ?_⟩
              refine u_28 hfa ?_
              exact wrap_id (by omega) (by omega)
            | false =>
              have hk : k < 0 := by rw [hh] at hno; simpa using hno
              have hb := hbad (by simp [hd0, hh])
              rw [hb]
              exact u_24 (Y8 ha hfa hq0 hp hpi hw1 hle hk) (Z2 ct cf)
  · have hie : i = a.length := by omega
    subst hie
    rw [List.take_length] at hok
    have e : forestB f = true := by unfold forestB; rw [hfa, hok, decide_eq_true h6]; rfl
    rw [e]
    exact u_14 hfa
def leaseB (t : GLease) : Bool := inB t.fId 1 1000000000 && inB t.fToken 0 1000000000 && pathOk t.fPath && inB t.fMade 0 1000000000 &&
  inB t.fLimit (IntKind.i64.wrap (t.fMade + 1)) 1000000000 && inB t.fEnds (IntKind.i64.wrap (t.fMade + 1)) t.fLimit
def leaseQ (pre : List GLease) (t : GLease) : Bool := leaseB t && adjB (fun p x => decide (p.fId < x.fId)) pre t
def bookB (b : GBook) : Bool := decide (b.fLeases.length ≤ 150) && okP leaseQ [] b.fLeases
def fitB (b : GBook) : Prop := b.fLeases.length ≤ 1048576 ∧ ∀ t, t ∈ b.fLeases → t.fPath.length ≤ 1048576
theorem isLease_ok [MaxL GG] (x : GLease) (hx : x.fPath.length ≤ 1048576) : Valid PP GG 104 [.agg x.c] (.d (.bool (leaseB x))) [none] := by
  refine cv Tryz.func104 [.d (.bool (leaseB x))] ?_
  obtain ⟨x1, x2, x3, x4, x5, x6⟩ := x
  have hr : leaseB ⟨x1, x2, x3, x4, x5, x6⟩ = (inB x1 1 1000000000 && inB x2 0 1000000000 && pathOk x3 && inB x4 0 1000000000 && inB x6 (IntKind.i64.wrap (x4 + 1)) 1000000000 && inB x5 (IntKind.i64.wrap (x4 + 1)) x6) := rfl
  have c1 : Valid PP GG 34 [.d (.int .i64 x1), .d (.int .i64 1), .d (.int .i64 1000000000)] (.d (.bool (inB x1 1 1000000000))) [none, none, none] := within_ok _ _ _
  have c2 : Valid PP GG 34 [.d (.int .i64 x2), .d (.int .i64 0), .d (.int .i64 1000000000)] (.d (.bool (inB x2 0 1000000000))) [none, none, none] := within_ok _ _ _
  have c3 := isPath_ok (GG := GG) x3 (by dsimp only at hx; omega)
  have c4 : Valid PP GG 34 [.d (.int .i64 x4), .d (.int .i64 0), .d (.int .i64 1000000000)] (.d (.bool (inB x4 0 1000000000))) [none, none, none] := within_ok _ _ _
  have c5 : Valid PP GG 34 [.d (.int .i64 x6), .d (.int .i64 (IntKind.i64.wrap (x4 + 1))), .d (.int .i64 1000000000)] (.d (.bool (inB x6 (IntKind.i64.wrap (x4 + 1)) 1000000000))) [none, none, none] := within_ok _ _ _
  have c6 : Valid PP GG 34 [.d (.int .i64 x5), .d (.int .i64 (IntKind.i64.wrap (x4 + 1))), .d (.int .i64 x6)] (.d (.bool (inB x5 (IntKind.i64.wrap (x4 + 1)) x6))) [none, none, none] := within_ok _ _ _
  generalize inB x1 1 1000000000 = p1 at *
  generalize inB x2 0 1000000000 = p2 at *
  generalize pathOk x3 = p3 at *
  generalize inB x4 0 1000000000 = p4 at *
  generalize inB x6 (IntKind.i64.wrap (x4 + 1)) 1000000000 = p5 at *
  generalize inB x5 (IntKind.i64.wrap (x4 + 1)) x6 = p6 at *
  refine u_1 ?_
  refine u_13 (Z6 c1 c2 c3 c4 c5 c6) 2 (p1 && p2 && p3 && p4 && p5 && p6) ?_
  exact u_10 hr
theorem isBook_ok [MaxL GG] (f : GBook) (hf : fitB f) : Valid PP GG 51 [.agg f.c] (.d (.bool (bookB f))) [none] := by
  refine cv Tryz.func51 [.d (.bool (bookB f))] ?_
  obtain ⟨hl, ht⟩ := hf
  generalize hfa : f.fLeases = a at *
  refine u_15 hfa ?_
  refine W_loop (fun n st => ∃ i : Nat, n = a.length - i ∧ i ≤ a.length ∧ okP leaseQ [] (a.take i) = true ∧
    st = ⟨[], [(1, .ptr 0 0), (6, .d (.slc 6 (rLease a))), (7, .d (.int .i64 a.length)), (8, .d (.int .i64 i))], [(0, .box [.d (.slc 6 (rLease a))])], 1⟩) _ ⟨0, rfl, by omega, rfl, ?_⟩ ?_
  · exact u_27 hfa
  rintro n st ⟨i, rfl, hi, hok, rfl⟩
  by_cases hlt : i < a.length
  · have ha := List.getElem?_eq_getElem hlt
    generalize a[i] = x at ha
    have ct := isLease_ok (GG := GG) x (ht x (List.mem_of_getElem? ha))
    have hbad0 := fun h => okP_bad (q := leaseQ) ha h
    have hst := okP_step (q := leaseQ) ha
    rw [hok, Bool.true_and] at hst
    have hbad : leaseQ (a.take i) x = false → bookB f = false := fun h => by unfold bookB; rw [hfa, hbad0 h, Bool.and_false]
    clear hbad0
    have hq : leaseQ (a.take i) x = (leaseB x && adjB (fun p x => decide (p.fId < x.fId)) (a.take i) x) := rfl
    rw [hq] at hst hbad
    clear hq
    obtain ⟨xi, xp, xn, xm, xe, xl⟩ := x
    cases htb : leaseB ⟨xi, xp, xn, xm, xe, xl⟩ with
    | false =>
      rw [htb] at ct hbad
      have hb := hbad (by simp)
      rw [hb]
      exact u_24 (Y2 ha hfa) (Z1 ct)
    | true =>
      rw [htb] at ct hst hbad
      simp only [Bool.true_and] at hst hbad
      by_cases h0 : i = 0
      · have hpi : ¬ 0 < i := by omega
        have hz : adjB (fun p x : GLease => decide (p.fId < x.fId)) (a.take i) ⟨xi, xp, xn, xm, xe, xl⟩ = true := by rw [h0]; exact adj_zero _ _ _
        rw [hz] at hst
        refine u_25 (Y3 ha hfa hpi) (Z1 ct) ?_
        refine ⟨a.length - (i + 1), by omega, i + 1, rfl, hlt, hst, ?_⟩
        refine u_28 hfa ?_
        exact wrap_id (by omega) (by omega)
      · have hp := List.getElem?_eq_getElem (show i - 1 < a.length by omega)
        generalize a[i - 1]'_ = p at hp
        rw [adj_pos _ (by omega) hp] at hst hbad
        have hpi : 0 < i := by omega
        have hw1 : IntKind.i64.wrap ((i : Int) - 1) = ((i - 1 : Nat) : Int) := by rw [wrap_id (by omega) (by omega)]; omega
        obtain ⟨yi, yp, yn, ym, ye, yl⟩ := p
        dsimp only at hst hbad
        by_cases hle : xi ≤ yi
        · have hb := hbad (decide_eq_false (show ¬ yi < xi by omega))
          rw [hb]
          exact u_24 (Y6 ha hp hfa hpi hw1 hle) (Z1 ct)
        · rw [decide_eq_true (show yi < xi by omega)] at hst
          refine u_25 (Y6 ha hp hfa hpi hw1 hle) (Z1 ct) ?_
          refine ⟨a.length - (i + 1), by omega, i + 1, rfl, hlt, hst, ?_⟩
          refine u_28 hfa ?_
          exact wrap_id (by omega) (by omega)
  · have hie : i = a.length := by omega
    subst hie
    rw [List.take_length] at hok
    have e : bookB f = decide ((a.length : Int) ≤ 150) := by unfold bookB; rw [hfa, hok, Bool.and_true]; exact decide_eq_decide.2 (by omega)
    rw [e]
    exact u_21
theorem s_l09Lease_ok [MaxL GG] (x : GLease) (hx : x.fPath.length ≤ 1048576) : Valid PP GG 66 [.agg x.c] (.d (.bool (leaseB x))) [none] := by
  refine cv Tryz.func66 [.d (.bool (leaseB x))] ?_
  obtain ⟨x1, x2, x3, x4, x5, x6⟩ := x
  have hr : leaseB ⟨x1, x2, x3, x4, x5, x6⟩ = (inB x1 1 1000000000 && inB x2 0 1000000000 && pathOk x3 && inB x4 0 1000000000 && inB x6 (IntKind.i64.wrap (x4 + 1)) 1000000000 && inB x5 (IntKind.i64.wrap (x4 + 1)) x6) := rfl
  have c1 : Valid PP GG 23 [.d (.int .i64 x1), .d (.int .i64 1), .d (.int .i64 1000000000)] (.d (.bool (inB x1 1 1000000000))) [none, none, none] := l01In_ok _ _ _
  have c2 : Valid PP GG 23 [.d (.int .i64 x2), .d (.int .i64 0), .d (.int .i64 1000000000)] (.d (.bool (inB x2 0 1000000000))) [none, none, none] := l01In_ok _ _ _
  have c3 := s_PathOk_ok (GG := GG) x3 (by dsimp only at hx; omega)
  have c4 : Valid PP GG 23 [.d (.int .i64 x4), .d (.int .i64 0), .d (.int .i64 1000000000)] (.d (.bool (inB x4 0 1000000000))) [none, none, none] := l01In_ok _ _ _
  have c5 : Valid PP GG 23 [.d (.int .i64 x6), .d (.int .i64 (IntKind.i64.wrap (x4 + 1))), .d (.int .i64 1000000000)] (.d (.bool (inB x6 (IntKind.i64.wrap (x4 + 1)) 1000000000))) [none, none, none] := l01In_ok _ _ _
  have c6 : Valid PP GG 23 [.d (.int .i64 x5), .d (.int .i64 (IntKind.i64.wrap (x4 + 1))), .d (.int .i64 x6)] (.d (.bool (inB x5 (IntKind.i64.wrap (x4 + 1)) x6))) [none, none, none] := l01In_ok _ _ _
  generalize inB x1 1 1000000000 = p1 at *
  generalize inB x2 0 1000000000 = p2 at *
  generalize pathOk x3 = p3 at *
  generalize inB x4 0 1000000000 = p4 at *
  generalize inB x6 (IntKind.i64.wrap (x4 + 1)) 1000000000 = p5 at *
  generalize inB x5 (IntKind.i64.wrap (x4 + 1)) x6 = p6 at *
  refine u_1 ?_
  refine u_13 (Z6 c1 c2 c3 c4 c5 c6) 2 (p1 && p2 && p3 && p4 && p5 && p6) ?_
  exact u_10 hr
theorem s_BookOk_ok [MaxL GG] (f : GBook) (hf : fitB f) : Valid PP GG 25 [.agg f.c] (.d (.bool (bookB f))) [none] := by
  refine cv Tryz.func25 [.d (.bool (bookB f))] ?_
  obtain ⟨hl, ht⟩ := hf
  generalize hfa : f.fLeases = a at *
  by_cases h6 : a.length ≤ 150
  rotate_left
  · have hb : bookB f = false := by unfold bookB; rw [hfa, decide_eq_false h6, Bool.false_and]
    rw [hb]
    have hd : 150 < a.length := by omega
    exact u_14 (Y2 hfa hd)
  have hd : ¬ 150 < a.length := by omega
  refine u_15 (Y2 hfa hd) ?_
  refine W_loop (fun n st => ∃ i : Nat, n = a.length - i ∧ i ≤ a.length ∧ okP leaseQ [] (a.take i) = true ∧
    st = ⟨[], [(1, .ptr 0 0), (3, .d (.int .i64 i))], [(0, .box [.d (.slc 6 (rLease a))])], 1⟩) _ ⟨0, rfl, by omega, rfl, ?_⟩ ?_
  · exact u_27 hfa
  rintro n st ⟨i, rfl, hi, hok, rfl⟩
  by_cases hlt : i < a.length
  · have ha := List.getElem?_eq_getElem hlt
    generalize a[i] = x at ha
    have ct := s_l09Lease_ok (GG := GG) x (ht x (List.mem_of_getElem? ha))
    have hbad0 := fun h => okP_bad (q := leaseQ) ha h
    have hst := okP_step (q := leaseQ) ha
    rw [hok, Bool.true_and] at hst
    have hbad : leaseQ (a.take i) x = false → bookB f = false := fun h => by unfold bookB; rw [hfa, hbad0 h, Bool.and_false]
    clear hbad0
    have hq : leaseQ (a.take i) x = (leaseB x && adjB (fun p x => decide (p.fId < x.fId)) (a.take i) x) := rfl
    rw [hq] at hst hbad
    clear hq
    obtain ⟨xi, xp, xn, xm, xe, xl⟩ := x
    cases htb : leaseB ⟨xi, xp, xn, xm, xe, xl⟩ with
    | false =>
      rw [htb] at ct hbad
      have hb := hbad (by simp)
      rw [hb]
      exact u_24 (Y2 ha hfa) (Z1 ct)
    | true =>
      rw [htb] at ct hst hbad
      simp only [Bool.true_and] at hst hbad
      by_cases h0 : i = 0
      · have hpi : ¬ 0 < i := by omega
        have hz : adjB (fun p x : GLease => decide (p.fId < x.fId)) (a.take i) ⟨xi, xp, xn, xm, xe, xl⟩ = true := by rw [h0]; exact adj_zero _ _ _
        rw [hz] at hst
        refine u_25 (Y3 ha hfa hpi) (Z1 ct) ?_
        refine ⟨a.length - (i + 1), by omega, i + 1, rfl, hlt, hst, ?_⟩
        refine u_28 hfa ?_
        exact wrap_id (by omega) (by omega)
      · have hp := List.getElem?_eq_getElem (show i - 1 < a.length by omega)
        generalize a[i - 1]'_ = p at hp
        rw [adj_pos _ (by omega) hp] at hst hbad
        have hpi : 0 < i := by omega
        have hw1 : IntKind.i64.wrap ((i : Int) - 1) = ((i - 1 : Nat) : Int) := by rw [wrap_id (by omega) (by omega)]; omega
        obtain ⟨yi, yp, yn, ym, ye, yl⟩ := p
        dsimp only at hst hbad
        by_cases hle : xi ≤ yi
        · have hb := hbad (decide_eq_false (show ¬ yi < xi by omega))
          rw [hb]
          exact u_24 (Y6 ha hp hfa hpi hw1 hle) (Z1 ct)
        · rw [decide_eq_true (show yi < xi by omega)] at hst
          refine u_25 (Y6 ha hp hfa hpi hw1 hle) (Z1 ct) ?_
          refine ⟨a.length - (i + 1), by omega, i + 1, rfl, hlt, hst, ?_⟩
          refine u_28 hfa ?_
          exact wrap_id (by omega) (by omega)
  · have hie : i = a.length := by omega
    subst hie
    rw [List.take_length] at hok
    have e : bookB f = true := by unfold bookB; rw [hfa, hok, decide_eq_true h6]; rfl
    rw [e]
    exact u_14 hfa
def farQ (pre : List GUser) (u : GUser) : Bool := nameOk u.fName && adjB (fun p x => Go.Op.bytesLess p.fName x.fName) pre u
def farB (f : GFar) : Bool := decide (f.fUsers.length ≤ 120) && inB f.fFail 0 1000 && inB f.fMade 0 1000000000 && okP farQ [] f.fUsers
def fitFar (f : GFar) : Prop := f.fUsers.length ≤ 1048576 ∧ ∀ u, u ∈ f.fUsers → u.fName.length ≤ 1048576
theorem isFar_ok [MaxL GG] (f : GFar) (hf : fitFar f) : Valid PP GG 52 [.agg f.c] (.d (.bool (farB f))) [none] := by
  refine cv Tryz.func52 [.d (.bool (farB f))] ?_
  obtain ⟨a, ff, fm⟩ := f
  obtain ⟨hl, ht⟩ := hf
  dsimp only at hl ht
  have c1 : Valid PP GG 34 [.d (.int .i64 ff), .d (.int .i64 0), .d (.int .i64 1000)] (.d (.bool (inB ff 0 1000))) [none, none, none] := within_ok _ _ _
  have c2 : Valid PP GG 34 [.d (.int .i64 fm), .d (.int .i64 0), .d (.int .i64 1000000000)] (.d (.bool (inB fm 0 1000000000))) [none, none, none] := within_ok _ _ _
  have hB : farB ⟨a, ff, fm⟩ = (decide (a.length ≤ 120) && inB ff 0 1000 && inB fm 0 1000000000 && okP farQ [] a) := rfl
  generalize farB ⟨a, ff, fm⟩ = B at *
  generalize inB ff 0 1000 = p2 at *
  generalize inB fm 0 1000000000 = p3 at *
  refine u_23 ?_
  refine W_loop (fun n st => ∃ i : Nat, n = a.length - i ∧ i ≤ a.length ∧ okP farQ [] (a.take i) = true ∧
    st = ⟨[], [(1, .ptr 0 0), (6, .d (.slc 2 (rUser a))), (7, .d (.int .i64 a.length)), (8, .d (.int .i64 i))], [(0, .box [.d (.slc 2 (rUser a)), .d (.int .i64 ff), .d (.int .i64 fm)])], 1⟩) _ ⟨0, rfl, by omega, rfl, ?_⟩ ?_
  · exact u_16
  rintro n st ⟨i, rfl, hi, hok, rfl⟩
  by_cases hlt : i < a.length
  · have ha := List.getElem?_eq_getElem hlt
    generalize a[i] = x at ha
    have ct := isName_ok (GG := GG) x.fName (by have := ht x (List.mem_of_getElem? ha); omega)
    have hbad0 := fun h => okP_bad (q := farQ) ha h
    have hst := okP_step (q := farQ) ha
    rw [hok, Bool.true_and] at hst
    have hbad : farQ (a.take i) x = false → B = false := fun h => by rw [hB, hbad0 h, Bool.and_false]
    clear hbad0
    have hq : farQ (a.take i) x = (nameOk x.fName && adjB (fun p x => Go.Op.bytesLess p.fName x.fName) (a.take i) x) := rfl
    rw [hq] at hst hbad
    clear hq
    obtain ⟨xn, xp⟩ := x
    dsimp only at ct hst hbad
    cases htb : nameOk xn with
    | false =>
      rw [htb] at ct hbad
      have hb := hbad (by simp)
      rw [hb]
      exact u_24 ha (Z1 ct)
    | true =>
      rw [htb] at ct hst hbad
      simp only [Bool.true_and] at hst hbad
      by_cases h0 : i = 0
      · have hpi : ¬ 0 < i := by omega
        have hz : adjB (fun p x : GUser => Go.Op.bytesLess p.fName x.fName) (a.take i) ⟨xn, xp⟩ = true := by rw [h0]; exact adj_zero _ _ _
        rw [hz] at hst
        refine u_25 (Y2 ha hpi) (Z1 ct) ?_
        refine ⟨a.length - (i + 1), by omega, i + 1, rfl, hlt, hst, ?_⟩
        refine u_19 ?_
        exact wrap_id (by omega) (by omega)
      · have hp := List.getElem?_eq_getElem (show i - 1 < a.length by omega)
        generalize a[i - 1]'_ = p at hp
        rw [adj_pos _ (by omega) hp] at hst hbad
        have hpi : 0 < i := by omega
        have hw1 : IntKind.i64.wrap ((i : Int) - 1) = ((i - 1 : Nat) : Int) := by rw [wrap_id (by omega) (by omega)]; omega
        obtain ⟨yn, yp⟩ := p
        dsimp only at hst hbad
        cases hbl : Go.Op.bytesLess yn xn with
        | false =>
          have hb := hbad hbl
          rw [hb]
          exact u_24 (Y5 ha hp hpi hw1 hbl) (Z1 ct)
        | true =>
          rw [hbl] at hst
          refine u_25 (Y5 ha hp hpi hw1 hbl) (Z1 ct) ?_
          refine ⟨a.length - (i + 1), by omega, i + 1, rfl, hlt, hst, ?_⟩
          refine u_19 ?_
          exact wrap_id (by omega) (by omega)
  · have hie : i = a.length := by omega
    subst hie
    rw [List.take_length] at hok
    rw [hok, Bool.and_true] at hB
    by_cases h6 : a.length ≤ 120
    · rw [decide_eq_true h6, Bool.true_and] at hB
      cases p2
      · rw [hB]
        exact u_24 h6 (Z1 c1)
      · rw [hB]
        exact u_24 h6 (Z2 c1 c2)
    · rw [decide_eq_false h6] at hB
      simp only [Bool.false_and] at hB
      rw [hB]
      exact u_14 h6
theorem s_FarOk_ok [MaxL GG] (f : GFar) (hf : fitFar f) : Valid PP GG 26 [.agg f.c] (.d (.bool (farB f))) [none] := by
  refine cv Tryz.func26 [.d (.bool (farB f))] ?_
  obtain ⟨a, ff, fm⟩ := f
  obtain ⟨hl, ht⟩ := hf
  dsimp only at hl ht
  have c1 : Valid PP GG 23 [.d (.int .i64 ff), .d (.int .i64 0), .d (.int .i64 1000)] (.d (.bool (inB ff 0 1000))) [none, none, none] := l01In_ok _ _ _
  have c2 : Valid PP GG 23 [.d (.int .i64 fm), .d (.int .i64 0), .d (.int .i64 1000000000)] (.d (.bool (inB fm 0 1000000000))) [none, none, none] := l01In_ok _ _ _
  have hB : farB ⟨a, ff, fm⟩ = (decide (a.length ≤ 120) && inB ff 0 1000 && inB fm 0 1000000000 && okP farQ [] a) := rfl
  generalize farB ⟨a, ff, fm⟩ = B at *
  generalize inB ff 0 1000 = p2 at *
  generalize inB fm 0 1000000000 = p3 at *
  by_cases h6 : a.length ≤ 120
  rotate_left
  · have hd : 120 < a.length := by omega
    rw [decide_eq_false h6] at hB
    simp only [Bool.false_and] at hB
    rw [hB]
    exact u_14 hd
  have hd : ¬ 120 < a.length := by omega
  rw [decide_eq_true h6, Bool.true_and] at hB
  cases p2
  · rw [hB]
    exact u_24 hd (Z1 c1)
  cases p3
  · rw [hB]
    exact u_24 hd (Z2 c1 c2)
  rw [Bool.true_and, Bool.true_and] at hB
  refine u_25 hd (Z2 c1 c2) ?_
  refine W_loop (fun n st => ∃ i : Nat, n = a.length - i ∧ i ≤ a.length ∧ okP farQ [] (a.take i) = true ∧
    st = ⟨[], [(1, .ptr 0 0), (3, .d (.int .i64 i))], [(0, .box [.d (.slc 2 (rUser a)), .d (.int .i64 ff), .d (.int .i64 fm)])], 1⟩) _ ⟨0, rfl, by omega, rfl, ?_⟩ ?_
  · exact u_16
  rintro n st ⟨i, rfl, hi, hok, rfl⟩
  by_cases hlt : i < a.length
  · have ha := List.getElem?_eq_getElem hlt
    generalize a[i] = x at ha
    have ct := l01Name_ok (GG := GG) x.fName (by have := ht x (List.mem_of_getElem? ha); omega)
    have hbad0 := fun h => okP_bad (q := farQ) ha h
    have hst := okP_step (q := farQ) ha
    rw [hok, Bool.true_and] at hst
    have hbad : farQ (a.take i) x = false → B = false := fun h => by rw [hB, hbad0 h]
    clear hbad0
    have hq : farQ (a.take i) x = (nameOk x.fName && adjB (fun p x => Go.Op.bytesLess p.fName x.fName) (a.take i) x) := rfl
    rw [hq] at hst hbad
    clear hq
    obtain ⟨xn, xp⟩ := x
    dsimp only at ct hst hbad
    cases htb : nameOk xn with
    | false =>
      rw [htb] at ct hbad
      have hb := hbad (by simp)
      rw [hb]
      exact u_24 ha (Z1 ct)
    | true =>
      rw [htb] at ct hst hbad
      simp only [Bool.true_and] at hst hbad
      by_cases h0 : i = 0
      · have hpi : ¬ 0 < i := by omega
        have hz : adjB (fun p x : GUser => Go.Op.bytesLess p.fName x.fName) (a.take i) ⟨xn, xp⟩ = true := by rw [h0]; exact adj_zero _ _ _
        rw [hz] at hst
        refine u_25 (Y2 ha hpi) (Z1 ct) ?_
        refine ⟨a.length - (i + 1), by omega, i + 1, rfl, hlt, hst, ?_⟩
        refine u_19 ?_
        exact wrap_id (by omega) (by omega)
      · have hp := List.getElem?_eq_getElem (show i - 1 < a.length by omega)
        generalize a[i - 1]'_ = p at hp
        rw [adj_pos _ (by omega) hp] at hst hbad
        have hpi : 0 < i := by omega
        have hw1 : IntKind.i64.wrap ((i : Int) - 1) = ((i - 1 : Nat) : Int) := by rw [wrap_id (by omega) (by omega)]; omega
        obtain ⟨yn, yp⟩ := p
        dsimp only at hst hbad
        cases hbl : Go.Op.bytesLess yn xn with
        | false =>
          have hb := hbad hbl
          rw [hb]
          exact u_24 (Y5 ha hp hpi hw1 hbl) (Z1 ct)
        | true =>
          rw [hbl] at hst
          refine u_25 (Y5 ha hp hpi hw1 hbl) (Z1 ct) ?_
          refine ⟨a.length - (i + 1), by omega, i + 1, rfl, hlt, hst, ?_⟩
          refine u_19 ?_
          exact wrap_id (by omega) (by omega)
  · have hie : i = a.length := by omega
    subst hie
    rw [List.take_length] at hok
    rw [hok] at hB
    rw [hB]
    exact u_21
def jobB (j : GJob) : Bool := nameOk j.fName && inB j.fAt 0 2000000000 && inB j.fTries 0 5
def jobQ (pre : List GJob) (j : GJob) : Bool := jobB j && !(pre.any fun t => t.fName == j.fName)
def queueB (q : GQueue) : Bool := decide (q.fJobs.length ≤ 120) && okP jobQ [] q.fJobs
def fitQ (q : GQueue) : Prop := q.fJobs.length ≤ 1048576 ∧ ∀ j, j ∈ q.fJobs → j.fName.length ≤ 1048576
theorem isQueue_ok [MaxL GG] (f : GQueue) (hf : fitQ f) : Valid PP GG 67 [.agg f.c] (.d (.bool (queueB f))) [none] := by
  refine cv Tryz.func67 [.d (.bool (queueB f))] ?_
  obtain ⟨a⟩ := f
  obtain ⟨hl, ht⟩ := hf
  dsimp only at hl ht
  have hB : queueB ⟨a⟩ = (decide (a.length ≤ 120) && okP jobQ [] a) := rfl
  generalize queueB ⟨a⟩ = B at *
  refine u_23 ?_
  refine W_loop (fun n st => ∃ i : Nat, n = a.length - i ∧ i ≤ a.length ∧ okP jobQ [] (a.take i) = true ∧
    st = ⟨[], [(1, .ptr 0 0), (6, .d (.slc 3 (rJob a))), (7, .d (.int .i64 a.length)), (8, .d (.int .i64 i))], [(0, .box [.d (.slc 3 (rJob a))])], 1⟩) _ ⟨0, rfl, by omega, rfl, ?_⟩ ?_
  · exact u_16
  rintro n st ⟨i, rfl, hi, hok, rfl⟩
  by_cases hlt : i < a.length
  · have ha := List.getElem?_eq_getElem hlt
    generalize a[i] = x at ha
    have ct := isName_ok (GG := GG) x.fName (by have := ht x (List.mem_of_getElem? ha); omega)
    have c1 : Valid PP GG 34 [.d (.int .i64 x.fAt), .d (.int .i64 0), .d (.int .i64 2000000000)] (.d (.bool (inB x.fAt 0 2000000000))) [none, none, none] := within_ok _ _ _
    have c2 : Valid PP GG 34 [.d (.int .i64 x.fTries), .d (.int .i64 0), .d (.int .i64 5)] (.d (.bool (inB x.fTries 0 5))) [none, none, none] := within_ok _ _ _
    have ch : Valid PP GG 31 [.agg [.d (.slc 3 (rJob (a.take i)))], .d (.str x.fName)] (.d (.bool ((a.take i).any fun t => t.fName == x.fName))) [none, none] := hasJob_ok (GG := GG) ⟨a.take i⟩ x.fName (by simp; omega)
    have htk : (rJob a).take i = rJob (a.take i) := by simp [rJob, List.map_take]
    have hbad0 := fun h => okP_bad (q := jobQ) ha h
    have hst := okP_step (q := jobQ) ha
    rw [hok, Bool.true_and] at hst
    have hbad : jobQ (a.take i) x = false → B = false := fun h => by rw [hB, hbad0 h, Bool.and_false]
    clear hbad0
    have hq : jobQ (a.take i) x = (nameOk x.fName && inB x.fAt 0 2000000000 && inB x.fTries 0 5 && !((a.take i).any fun t => t.fName == x.fName)) := rfl
    rw [hq] at hst hbad
    clear hq
    obtain ⟨xn, xa, xt⟩ := x
    dsimp only at ct c1 c2 ch hst hbad
    generalize nameOk xn = p1 at *
    generalize inB xa 0 2000000000 = p2 at *
    generalize inB xt 0 5 = p3 at *
    generalize ((a.take i).any fun t => t.fName == xn) = p4 at *
    cases p1
    · rw [hbad (by simp)]
      exact u_24 ha (Z1 ct)
    cases p2
    · rw [hbad (by simp)]
      exact u_24 ha (Z2 ct c1)
    cases p3
    · rw [hbad (by simp)]
      exact u_24 ha (Z3 ct c1 c2)
    cases p4
    · refine u_25 (Y2 ha htk) (Z4 ct c1 c2 ch) ?_
      refine ⟨a.length - (i + 1), by omega, i + 1, rfl, hlt, hst, ?_⟩
      refine u_19 ?_
      exact wrap_id (by omega) (by omega)
    · rw [hbad (by simp)]
      exact u_24 (Y2 ha htk) (Z4 ct c1 c2 ch)
  · have hie : i = a.length := by omega
    subst hie
    rw [List.take_length] at hok
    rw [hok, Bool.and_true] at hB
    have e : decide ((a.length : Int) ≤ 120) = decide (a.length ≤ 120) := decide_eq_decide.2 (by omega)
    rw [hB, ← e]
    exact u_21
theorem s_QueueOk_ok [MaxL GG] (f : GQueue) (hf : fitQ f) : Valid PP GG 27 [.agg f.c] (.d (.bool (queueB f))) [none] := by
  refine cv Tryz.func27 [.d (.bool (queueB f))] ?_
  obtain ⟨a⟩ := f
  obtain ⟨hl, ht⟩ := hf
  dsimp only at hl ht
  have hB : queueB ⟨a⟩ = (decide (a.length ≤ 120) && okP jobQ [] a) := rfl
  generalize queueB ⟨a⟩ = B at *
  by_cases h6 : a.length ≤ 120
  rotate_left
  · have hd : 120 < a.length := by omega
    rw [decide_eq_false h6] at hB
    simp only [Bool.false_and] at hB
    rw [hB]
    exact u_14 hd
  have hd : ¬ 120 < a.length := by omega
  rw [decide_eq_true h6, Bool.true_and] at hB
  refine u_15 hd ?_
  refine W_loop (fun n st => ∃ i : Nat, n = a.length - i ∧ i ≤ a.length ∧ okP jobQ [] (a.take i) = true ∧
    st = ⟨[], [(1, .ptr 0 0), (3, .d (.int .i64 i))], [(0, .box [.d (.slc 3 (rJob a))])], 1⟩) _ ⟨0, rfl, by omega, rfl, ?_⟩ ?_
  · exact u_16
  rintro n st ⟨i, rfl, hi, hok, rfl⟩
  by_cases hlt : i < a.length
  · have ha := List.getElem?_eq_getElem hlt
    generalize a[i] = x at ha
    have ct := l01Name_ok (GG := GG) x.fName (by have := ht x (List.mem_of_getElem? ha); omega)
    have c1 : Valid PP GG 23 [.d (.int .i64 x.fAt), .d (.int .i64 0), .d (.int .i64 2000000000)] (.d (.bool (inB x.fAt 0 2000000000))) [none, none, none] := l01In_ok _ _ _
    have c2 : Valid PP GG 23 [.d (.int .i64 x.fTries), .d (.int .i64 0), .d (.int .i64 5)] (.d (.bool (inB x.fTries 0 5))) [none, none, none] := l01In_ok _ _ _
    have hbad0 := fun h => okP_bad (q := jobQ) ha h
    have hst := okP_step (q := jobQ) ha
    rw [hok, Bool.true_and] at hst
    have hbad : jobQ (a.take i) x = false → B = false := fun h => by rw [hB, hbad0 h]
    clear hbad0
    have hq : jobQ (a.take i) x = (nameOk x.fName && inB x.fAt 0 2000000000 && inB x.fTries 0 5 && !((a.take i).any fun t => t.fName == x.fName)) := rfl
    rw [hq] at hst hbad
    clear hq
    obtain ⟨xn, xa, xt⟩ := x
    dsimp only at ct c1 c2 hst hbad
    generalize nameOk xn = p1 at *
    generalize inB xa 0 2000000000 = p2 at *
    generalize inB xt 0 5 = p3 at *
    cases p1
    · rw [hbad (by simp)]
      exact u_24 ha (Z1 ct)
    cases p2
    · rw [hbad (by simp)]
      exact u_24 ha (Z2 ct c1)
    cases p3
    · rw [hbad (by simp)]
      exact u_24 ha (Z3 ct c1 c2)
    refine u_25 ha (Z3 ct c1 c2) ?_
    refine W_loop (fun n st => ∃ k : Nat, n = i - k ∧ k ≤ i ∧ (∀ y, y ∈ a.take k → (y.fName == xn) = false) ∧
      st = ⟨[], [(1, .ptr 0 0), (3, .d (.int .i64 i)), (4, .ptr 1 0), (5, .d (.int .i64 k))], [(0, .box [.d (.slc 3 (rJob a))]), (1, .box [.d (.str xn), .d (.int .i64 xa), .d (.int .i64 xt)])], 2⟩) _ ⟨0, rfl, by omega, fun y h => by simp at h, ?_⟩ ?_
    · exact u_16
    rintro n st ⟨k, rfl, hk, hn, rfl⟩
    by_cases hkl : k < i
    · have hak := List.getElem?_eq_getElem (show k < a.length by omega)
      generalize a[k]'_ = y at hak
      obtain ⟨yn, ya, yt⟩ := y
      cases hyn : (yn == xn) with
      | true =>
        rw [hbad (by
          have : (a.take i).any (fun t => t.fName == xn) = true := by
            rw [List.any_eq_true]
            exact ⟨_, List.mem_of_getElem? (by rw [List.getElem?_take_of_lt hkl]; exact hak), hyn⟩
          rw [this]; rfl)]
        exact u_14 (Y3 hak hkl hyn)
      | false =>
        have hn2 := take_miss (p := fun y : GJob => y.fName == xn) hak hn hyn
        refine u_15 (Y3 hak hkl hyn) ?_
        refine ⟨i - (k + 1), by omega, k + 1, rfl, hkl, hn2, ?_⟩
        refine u_19 ?_
        exact wrap_id (by omega) (by omega)
    · have hke : k = i := by omega
      subst hke
      have : (a.take k).any (fun t => t.fName == xn) = false := by
        rw [List.any_eq_false]; intro y hy; rw [hn y hy]; simp
      rw [this] at hst
      refine u_15 hkl ?_
      refine ⟨a.length - (k + 1), by omega, k + 1, rfl, hlt, hst, ?_⟩
      refine u_19 ?_
      exact wrap_id (by omega) (by omega)
  · have hie : i = a.length := by omega
    subst hie
    rw [List.take_length] at hok
    rw [hok] at hB
    rw [hB]
    exact u_21
theorem okP_get {α : Type} {q : List α → α → Bool} {l : List α} {i : Nat} {x : α} (h : okP q [] l = true) (hi : l[i]? = some x) : q (l.take i) x = true := by
  cases hq : q (l.take i) x with
  | true => rfl
  | false => rw [okP_bad hi hq] at h; cases h
theorem inc_of_step {α : Type} {key : α → Int} {l : List α} (h : ∀ (i : Nat) x y, l[i]? = some y → l[i + 1]? = some x → key y < key x) : l.Pairwise (fun y x => key y < key x) := by
  rw [List.pairwise_iff_getElem]
  intro i j hi hj hij
  obtain ⟨d, rfl⟩ : ∃ d, j = i + 1 + d := ⟨j - i - 1, by omega⟩
  induction d with
  | zero => exact h i _ _ (List.getElem?_eq_getElem hi) (List.getElem?_eq_getElem hj)
  | succ d ih =>
    have h1 := ih (by omega) (by omega)
    have h2 := h (i + 1 + d) _ _ (List.getElem?_eq_getElem (show i + 1 + d < l.length by omega)) (List.getElem?_eq_getElem hj)
    exact Int.lt_trans h1 h2
theorem okP_inc {α : Type} {q : List α → α → Bool} {key : α → Int} (hq : ∀ pre x, q pre x = true → adjB (fun p x => decide (key p < key x)) pre x = true) {l : List α} (h : okP q [] l = true) : l.Pairwise (fun y x => key y < key x) := by
  refine inc_of_step fun i x y hy hx => ?_
  have h1 := hq _ _ (okP_get h hx)
  rw [adj_succ _ hy] at h1
  exact of_decide_eq_true h1
theorem inc_last {α : Type} {key : α → Int} {l : List α} (h : l.Pairwise (fun y x => key y < key x)) {k : Nat} {t : α} (hk : l.length = k + 1) (ht : l[k]? = some t) (n : Int) : l.all (fun x => decide (key x < n)) = decide (key t < n) := by
  rw [List.pairwise_iff_getElem] at h
  obtain ⟨h1, rfl⟩ := List.getElem?_eq_some_iff.1 ht
  by_cases hn : key l[k] < n
  · rw [decide_eq_true hn, List.all_eq_true]
    intro x hx
    obtain ⟨i, hi, rfl⟩ := List.mem_iff_getElem.1 hx
    by_cases hik : i = k
    · subst hik; exact decide_eq_true hn
    · have := h i k hi h1 (by omega)
      exact decide_eq_true (by omega)
  · rw [decide_eq_false hn, List.all_eq_false]
    exact ⟨_, List.getElem_mem h1, by simpa using hn⟩
def belowT (f : GForest) (n : Int) : Bool := f.fTokens.all fun t => decide (t.fId < n)
def belowL (b : GBook) (n : Int) : Bool := b.fLeases.all fun t => decide (t.fId < n)
def hasLease (b : GBook) (id : Int) : Bool := b.fLeases.any fun l => decide (l.fId = id)
def ownQ (b : GBook) (pre : List GOwned) (o : GOwned) : Bool := adjB (fun p x => decide (p.fLease < x.fLease)) pre o && hasLease b o.fLease && nameOk o.fName && !(pre.any fun p => p.fName == o.fName)
def worldB (w : GWorld) : Bool := inB w.fNow 0 1000000000 && inB w.fNext 1 1000000000 && inB w.fLost 0 1000000000 && forestB w.fForest && bookB w.fBook && farB w.fFar && queueB w.fQueue && belowT w.fForest w.fNext && belowL w.fBook w.fNext && okP (ownQ w.fBook) [] w.fOwned
def fitW (w : GWorld) : Prop := fitF w.fForest ∧ fitB w.fBook ∧ fitFar w.fFar ∧ fitQ w.fQueue ∧ w.fOwned.length ≤ 1048576 ∧ ∀ o, o ∈ w.fOwned → o.fName.length ≤ 1048576
theorem forest_inc {f : GForest} (h : forestB f = true) : f.fTokens.Pairwise (fun y x => y.fId < x.fId) := by
  unfold forestB at h
  rw [Bool.and_eq_true] at h
  refine okP_inc (key := GToken.fId) (fun pre x hq => ?_) h.2
  unfold tokQ at hq
  simp only [Bool.and_eq_true] at hq
  exact hq.1.2
theorem book_inc {f : GBook} (h : bookB f = true) : f.fLeases.Pairwise (fun y x => y.fId < x.fId) := by
  unfold bookB at h
  rw [Bool.and_eq_true] at h
  refine okP_inc (key := GLease.fId) (fun pre x hq => ?_) h.2
  unfold leaseQ at hq
  rw [Bool.and_eq_true] at hq
  exact hq.2
theorem own_inc {b : GBook} {l : List GOwned} (h : okP (ownQ b) [] l = true) : l.Pairwise (fun y x => y.fLease < x.fLease) := by
  refine okP_inc (key := GOwned.fLease) (fun pre x hq => ?_) h
  unfold ownQ at hq
  simp only [Bool.and_eq_true] at hq
  exact hq.1.1.1
theorem lastT {f : GForest} (h : forestB f = true) (n : Int) : (f.fTokens = [] ∧ belowT f n = true) ∨ ∃ k t, f.fTokens.length = k + 1 ∧ f.fTokens[k]? = some t ∧ belowT f n = decide (t.fId < n) := by
  by_cases h0 : f.fTokens = []
  · exact .inl ⟨h0, by unfold belowT; rw [h0]; rfl⟩
  · have hl := List.length_pos_iff.2 h0
    refine .inr ⟨f.fTokens.length - 1, f.fTokens[f.fTokens.length - 1], by omega, List.getElem?_eq_getElem (by omega), ?_⟩
    exact inc_last (key := GToken.fId) (forest_inc h) (by omega) (List.getElem?_eq_getElem (by omega)) n
theorem lastL {f : GBook} (h : bookB f = true) (n : Int) : (f.fLeases = [] ∧ belowL f n = true) ∨ ∃ k t, f.fLeases.length = k + 1 ∧ f.fLeases[k]? = some t ∧ belowL f n = decide (t.fId < n) := by
  by_cases h0 : f.fLeases = []
  · exact .inl ⟨h0, by unfold belowL; rw [h0]; rfl⟩
  · have hl := List.length_pos_iff.2 h0
    refine .inr ⟨f.fLeases.length - 1, f.fLeases[f.fLeases.length - 1], by omega, List.getElem?_eq_getElem (by omega), ?_⟩
    exact inc_last (key := GLease.fId) (book_inc h) (by omega) (List.getElem?_eq_getElem (by omega)) n
theorem inc_len {α β : Type} {ka : α → Int} {kb : β → Int} : ∀ (b : List β) (a : List α), a.Pairwise (fun y x => ka y < ka x) → b.Pairwise (fun y x => kb y < kb x) → (∀ x, x ∈ a → ∃ y, y ∈ b ∧ kb y = ka x) → a.length ≤ b.length := by
  intro b
  induction b with
  | nil =>
    intro a _ _ h
    cases a with
    | nil => simp
    | cons x a => obtain ⟨y, hy, _⟩ := h x (by simp); simp at hy
  | cons y b ih =>
    intro a ha hb h
    cases a with
    | nil => simp
    | cons x a =>
      rw [List.pairwise_cons] at ha hb
      by_cases hxy : kb y = ka x
      · have := ih a ha.2 hb.2 fun z hz => by
          obtain ⟨u, hu, e⟩ := h z (by simp [hz])
          have := ha.1 z hz
          rcases List.mem_cons.1 hu with rfl | hu
          · omega
          · exact ⟨u, hu, e⟩
        simp only [List.length_cons]; omega
      · have hgt : ∃ u, u ∈ b ∧ kb u = ka x := by
          obtain ⟨u, hu, e⟩ := h x (by simp)
          rcases List.mem_cons.1 hu with rfl | hu
          · exact absurd e hxy
          · exact ⟨u, hu, e⟩
        obtain ⟨u, hu, e⟩ := hgt
        have hyx := hb.1 u hu
        have := ih (x :: a) (List.pairwise_cons.2 ha) hb.2 fun z hz => by
          obtain ⟨u', hu', e'⟩ := h z hz
          rcases List.mem_cons.1 hu' with rfl | hu'
          · rcases List.mem_cons.1 hz with rfl | hz
            · exact absurd e' hxy
            · have := ha.1 z hz; omega
          · exact ⟨u', hu', e'⟩
        simp only [List.length_cons] at this ⊢; omega
theorem owned_len {b : GBook} {l : List GOwned} (hb : bookB b = true) (h : okP (ownQ b) [] l = true) : l.length ≤ b.fLeases.length := by
  refine inc_len (ka := GOwned.fLease) (kb := GLease.fId) _ _ (own_inc h) (book_inc hb) fun x hx => ?_
  obtain ⟨i, hi⟩ := List.getElem?_of_mem hx
  have := okP_get h hi
  unfold ownQ hasLease at this
  simp only [Bool.and_eq_true, List.any_eq_true, decide_eq_true_eq] at this
  exact this.1.1.2
theorem isWorld_c1_ok (t : GOwned) (l : Int) (s : List UInt8) : Valid PP GG 69 [.agg t.c, .rp [.int .i64 l, .str s]] (.d (.bool (t.fName == s))) [none] := by
  refine cv Tryz.func69 [.d (.bool (t.fName == s))] ?_
  exact u_21
theorem adj_cases {α : Type} {lt : α → α → Bool} {a : List α} {i : Nat} {x : α} (hi : i ≤ a.length) : (i = 0 ∧ adjB lt (a.take i) x = true) ∨ ∃ j p, i = j + 1 ∧ a[j]? = some p ∧ adjB lt (a.take i) x = lt p x := by
  cases i with
  | zero => exact .inl ⟨rfl, adj_zero _ _ _⟩
  | succ j =>
    have hp := List.getElem?_eq_getElem (show j < a.length by omega)
    exact .inr ⟨j, _, rfl, hp, adj_succ _ hp _⟩
theorem isWorld_ok [MaxL GG] (w : GWorld) (hf : fitW w) : Valid PP GG 30 [.agg w.c] (.d (.bool (worldB w))) [none] := by
  refine cv Tryz.func30 [.d (.bool (worldB w))] ?_
  obtain ⟨now, next, lost, ⟨tk⟩, ⟨ls⟩, ⟨us, ff, fm⟩, ⟨js⟩, ow⟩ := w
  obtain ⟨hf1, hf2, hf3, hf4, hol, hon⟩ := hf
  dsimp only at hf1 hf2 hf3 hf4 hol hon
  have c1 : Valid PP GG 34 [.d (.int .i64 now), .d (.int .i64 0), .d (.int .i64 1000000000)] (.d (.bool (inB now 0 1000000000))) [none, none, none] := within_ok _ _ _
  have c2 : Valid PP GG 34 [.d (.int .i64 next), .d (.int .i64 1), .d (.int .i64 1000000000)] (.d (.bool (inB next 1 1000000000))) [none, none, none] := within_ok _ _ _
  have c3 : Valid PP GG 34 [.d (.int .i64 lost), .d (.int .i64 0), .d (.int .i64 1000000000)] (.d (.bool (inB lost 0 1000000000))) [none, none, none] := within_ok _ _ _
  have c4 := isForest_ok (GG := GG) ⟨tk⟩ hf1
  have c5 := isBook_ok (GG := GG) ⟨ls⟩ hf2
  have c6 := isFar_ok (GG := GG) ⟨us, ff, fm⟩ hf3
  have c7 := isQueue_ok (GG := GG) ⟨js⟩ hf4
  have hT := fun h => lastT (f := ⟨tk⟩) h next
  have hL := fun h => lastL (f := ⟨ls⟩) h next
  have hli : ∀ id, Valid PP GG 50 [.agg [.d (.slc 6 (rLease ls))], .d (.int .i64 id)] (.d (.int .i64 (idxF (fun t => decide (t.fId = id)) ls))) [none, none] := fun id => leaseIndex_ok (GG := GG) ⟨ls⟩ id hf2.1
  have hB : worldB ⟨now, next, lost, ⟨tk⟩, ⟨ls⟩, ⟨us, ff, fm⟩, ⟨js⟩, ow⟩ = (inB now 0 1000000000 && inB next 1 1000000000 && inB lost 0 1000000000 && forestB ⟨tk⟩ && bookB ⟨ls⟩ && farB ⟨us, ff, fm⟩ && queueB ⟨js⟩ && belowT ⟨tk⟩ next && belowL ⟨ls⟩ next && okP (ownQ ⟨ls⟩) [] ow) := rfl
  have htl := hf1.1
  have hll := hf2.1
  generalize worldB ⟨now, next, lost, ⟨tk⟩, ⟨ls⟩, ⟨us, ff, fm⟩, ⟨js⟩, ow⟩ = B at *
  dsimp only at c4 c5 c6 c7 hT hL htl hll
  generalize inB now 0 1000000000 = p1 at *
  generalize inB next 1 1000000000 = p2 at *
  generalize inB lost 0 1000000000 = p3 at *
  generalize forestB ⟨tk⟩ = p4 at *
  generalize bookB ⟨ls⟩ = p5 at *
  generalize farB ⟨us, ff, fm⟩ = p6 at *
  generalize queueB ⟨js⟩ = p7 at *
  generalize belowT ⟨tk⟩ next = BT at *
  generalize belowL ⟨ls⟩ next = BL at *
  refine u_1 ?_
  refine W_seq (W_seq ?_)
  refine u_29 (Z7 c1 c2 c3 c4 c5 c6 c7) 46 (!(p1 && p2 && p3 && p4 && p5 && p6 && p7)) ?_
  refine W_cond rfl (fun h => ?_) (fun h => ?_)
  · rw [Bool.not_eq_true'] at h
    have hb : B = false := by rw [hB, h]; simp
    rw [hb]
    exact u_21
  rw [Bool.not_eq_false'] at h
  rw [h, Bool.true_and] at hB
  simp only [Bool.and_eq_true] at h
  have hT := hT h.1.1.1.2
  have hL := hL h.1.1.2
  clear h
  refine W_skip ?_
  refine W_seq (W_seq ?_)
  refine u_6 ?_
  refine W_seq (?_)
  refine W_regBD 65 (!BT) (fun K hK => ?_) ?_
  · rcases hT with ⟨e, hb⟩ | ⟨k, t, hk, ht, hb⟩
    · subst e
      rw [hb] at hK
      simp
      repeat' (first | exact hK _ _ (by clear hK; first | rfl | omega | (exact decide_eq_false (by omega)) | (exact decide_eq_true (by omega)) | (exact (decide_eq_true (by omega)).symm) | (exact (decide_eq_false (by omega)).symm) | (exact decide_eq_decide.2 (by omega)) | (simp only [← decide_not]; exact decide_eq_decide.2 (by omega)) | (simp [*]; done) | (simp [*]; omega) | (simp_all; done) | (simp_all; omega) | (rw [Bool.eq_iff_iff]; simp at *; omega)) | (with_reducible refine goL_split (fun _ => ?_) (fun _ => ?_) <;> simp) | with_reducible refine And.intro ?_ ?_ | with_reducible exact okay_rfl rfl | with_reducible assumption | omega)
    · have hw1 : IntKind.i64.wrap (k : Int) = k := wrap_id (by omega) (by omega)
      have hkc : (tk.length : Int) = (k : Int) + 1 := by omega
      have hpos : (0 : Int) < (k : Int) + 1 := by omega
      rw [hb, hkc] at hK
      simp [hkc, hpos, ht, hw1]
      repeat' (first | exact hK _ _ (by clear hK; first | rfl | omega | (exact decide_eq_false (by omega)) | (exact decide_eq_true (by omega)) | (exact (decide_eq_true (by omega)).symm) | (exact (decide_eq_false (by omega)).symm) | (exact decide_eq_decide.2 (by omega)) | (simp only [← decide_not]; exact decide_eq_decide.2 (by omega)) | (simp [*]; done) | (simp [*]; omega) | (simp_all; done) | (simp_all; omega) | (rw [Bool.eq_iff_iff]; simp at *; omega)) | (with_reducible refine goL_split (fun _ => ?_) (fun _ => ?_) <;> simp [hkc, hpos, ht, hw1]) | with_reducible refine And.intro ?_ ?_ | with_reducible exact okay_rfl rfl | with_reducible assumption | omega)
  refine W_cond rfl (fun h => ?_) (fun h => ?_)
  · rw [Bool.not_eq_true'] at h
    have hb : B = false := by rw [hB, h]; simp
    rw [hb]
    exact u_21
  rw [Bool.not_eq_false'] at h
  rw [h, Bool.true_and] at hB
  clear h hT
  refine W_skip ?_
  refine W_seq (W_seq ?_)
  refine u_6 ?_
  refine W_seq (?_)
  refine W_regBD 84 (!BL) (fun K hK => ?_) ?_
  · rcases hL with ⟨e, hb⟩ | ⟨k, t, hk, ht, hb⟩
    · subst e
      rw [hb] at hK
      simp
      repeat' (first | exact hK _ _ (by clear hK; first | rfl | omega | (exact decide_eq_false (by omega)) | (exact decide_eq_true (by omega)) | (exact (decide_eq_true (by omega)).symm) | (exact (decide_eq_false (by omega)).symm) | (exact decide_eq_decide.2 (by omega)) | (simp only [← decide_not]; exact decide_eq_decide.2 (by omega)) | (simp [*]; done) | (simp [*]; omega) | (simp_all; done) | (simp_all; omega) | (rw [Bool.eq_iff_iff]; simp at *; omega)) | (with_reducible refine goL_split (fun _ => ?_) (fun _ => ?_) <;> simp) | with_reducible refine And.intro ?_ ?_ | with_reducible exact okay_rfl rfl | with_reducible assumption | omega)
    · have hw1 : IntKind.i64.wrap (k : Int) = k := wrap_id (by omega) (by omega)
      have hkc : (ls.length : Int) = (k : Int) + 1 := by omega
      have hpos : (0 : Int) < (k : Int) + 1 := by omega
      rw [hb, hkc] at hK
      simp [hkc, hpos, ht, hw1]
      repeat' (first | exact hK _ _ (by clear hK; first | rfl | omega | (exact decide_eq_false (by omega)) | (exact decide_eq_true (by omega)) | (exact (decide_eq_true (by omega)).symm) | (exact (decide_eq_false (by omega)).symm) | (exact decide_eq_decide.2 (by omega)) | (simp only [← decide_not]; exact decide_eq_decide.2 (by omega)) | (simp [*]; done) | (simp [*]; omega) | (simp_all; done) | (simp_all; omega) | (rw [Bool.eq_iff_iff]; simp at *; omega)) | (with_reducible refine goL_split (fun _ => ?_) (fun _ => ?_) <;> simp [hkc, hpos, ht, hw1]) | with_reducible refine And.intro ?_ ?_ | with_reducible exact okay_rfl rfl | with_reducible assumption | omega)
  refine W_cond rfl (fun h => ?_) (fun h => ?_)
  · rw [Bool.not_eq_true'] at h
    have hb : B = false := by rw [hB, h]; simp
    rw [hb]
    exact u_21
  rw [Bool.not_eq_false'] at h
  rw [h, Bool.true_and] at hB
  clear h hL
  refine u_23 ?_
  refine W_loop (fun n st => ∃ i : Nat, n = ow.length - i ∧ i ≤ ow.length ∧ okP (ownQ ⟨ls⟩) [] (ow.take i) = true ∧
    st = ⟨[], [(1, .ptr 0 0), (86, .d (.slc 2 (rOwned ow))), (87, .d (.int .i64 ow.length)), (88, .d (.int .i64 i))], [(0, .box [.d (.int .i64 now), .d (.int .i64 next), .d (.int .i64 lost), .d (.slc 7 (rToken tk)), .d (.slc 6 (rLease ls)), .d (.slc 2 (rUser us)), .d (.int .i64 ff), .d (.int .i64 fm), .d (.slc 3 (rJob js)), .d (.slc 2 (rOwned ow))])], 1⟩) _ ⟨0, rfl, by omega, rfl, ?_⟩ ?_
  · exact u_16
  rintro n st ⟨i, rfl, hi, hok, rfl⟩
  by_cases hlt : i < ow.length
  · have ha := List.getElem?_eq_getElem hlt
    generalize ow[i] = x at ha
    have hst := okP_step (q := ownQ ⟨ls⟩) ha
    have hbad : ownQ ⟨ls⟩ (ow.take i) x = false → B = false := fun h => by rw [hB]; exact okP_bad ha h
    rw [hok, Bool.true_and] at hst
    have hq : ownQ ⟨ls⟩ (ow.take i) x = (adjB (fun p x => decide (p.fLease < x.fLease)) (ow.take i) x && hasLease ⟨ls⟩ x.fLease && nameOk x.fName && !((ow.take i).any fun p => p.fName == x.fName)) := rfl
    rw [hq] at hst hbad
    clear hq
    have hA := adj_cases (lt := fun p x : GOwned => decide (p.fLease < x.fLease)) (x := x) hi
    have cn := isName_ok (GG := GG) x.fName (by have := hon x (List.mem_of_getElem? ha); omega)
    have cl := hli x.fLease
    have hno : decide (idxF (fun t => decide (t.fId = x.fLease)) ls < 0) = !hasLease ⟨ls⟩ x.fLease := idxF_none _ _
    have cc := ContainsFuncOwned_ok (GG := GG) (ow.take i) 69 [[.int .i64 x.fLease, .str x.fName]] (fun p => p.fName == x.fName) (by simp; omega) fun t _ => isWorld_c1_ok t _ _
    have htk : (rOwned ow).take i = rOwned (ow.take i) := by simp [rOwned, List.map_take]
    generalize adjB (fun p x : GOwned => decide (p.fLease < x.fLease)) (ow.take i) x = A at *
    obtain ⟨xl, xn⟩ := x
    dsimp only at cn cl hno cc hst hbad hA
    generalize hasLease ⟨ls⟩ xl = L at *
    generalize nameOk xn = N at *
    generalize (ow.take i).any (fun p => p.fName == xn) = C at *
    generalize idxF (fun t => decide (t.fId = xl)) ls = k at *
    refine W_seq (?_)
    refine u_6 ?_
    refine W_seq (W_cond rfl (fun h => W_skip ?_) (fun h => ?_))
    rotate_left
    · exfalso; simp at h; omega
    refine W_seq (W_block (W_seq ?_))
    refine u_5 ha ?_
    refine W_seq (?_)
    refine W_regBD 128 (!(A && L && N && !C)) (fun K hK => ?_) ?_
    · rcases hA with ⟨rfl, hA⟩ | ⟨j, p, rfl, hp, hA⟩
      · subst hA
        simp only [List.take_zero] at cc
        cases L
        · simp only [Bool.not_false] at hno
          simp [hno]
          repeat' (first | exact hK _ _ (by clear hK; first | rfl | omega | (exact decide_eq_false (by omega)) | (exact decide_eq_true (by omega)) | (exact (decide_eq_true (by omega)).symm) | (exact (decide_eq_false (by omega)).symm) | (exact decide_eq_decide.2 (by omega)) | (simp only [← decide_not]; exact decide_eq_decide.2 (by omega)) | (simp [*]; done) | (simp [*]; omega) | (simp_all; done) | (simp_all; omega) | (rw [Bool.eq_iff_iff]; simp at *; omega)) | (with_reducible refine callQ (cl) ?_; simp [hno]) | (with_reducible refine callQ (cn) ?_; simp [hno]) | (with_reducible refine callQ (cc) ?_; simp [hno]) | (with_reducible refine goL_split (fun _ => ?_) (fun _ => ?_) <;> simp [hno]) | with_reducible refine And.intro ?_ ?_ | with_reducible exact okay_rfl rfl | with_reducible assumption | omega)
        · simp only [Bool.not_true] at hno
          simp [hno, htk]
          repeat' (first | exact hK _ _ (by clear hK; first | rfl | omega | (exact decide_eq_false (by omega)) | (exact decide_eq_true (by omega)) | (exact (decide_eq_true (by omega)).symm) | (exact (decide_eq_false (by omega)).symm) | (exact decide_eq_decide.2 (by omega)) | (simp only [← decide_not]; exact decide_eq_decide.2 (by omega)) | (simp [*]; done) | (simp [*]; omega) | (simp_all; done) | (simp_all; omega) | (rw [Bool.eq_iff_iff]; simp at *; omega)) | (with_reducible refine callQ (cl) ?_; simp [hno, htk]) | (with_reducible refine callQ (cn) ?_; simp [hno, htk]) | (with_reducible refine callQ (cc) ?_; simp [hno, htk]) | (with_reducible refine goL_split (fun _ => ?_) (fun _ => ?_) <;> simp [hno, htk]) | with_reducible refine And.intro ?_ ?_ | with_reducible exact okay_rfl rfl | with_reducible assumption | omega)
      · have hw1 : IntKind.i64.wrap (j : Int) = j := wrap_id (by omega) (by omega)
        rw [hA] at hK
        cases L
        · simp only [Bool.not_false] at hno
          simp [hp, hw1, htk, hno]
          repeat' (first | exact hK _ _ (by clear hK; first | rfl | omega | (exact decide_eq_false (by omega)) | (exact decide_eq_true (by omega)) | (exact (decide_eq_true (by omega)).symm) | (exact (decide_eq_false (by omega)).symm) | (exact decide_eq_decide.2 (by omega)) | (simp only [← decide_not]; exact decide_eq_decide.2 (by omega)) | (simp [*]; done) | (simp [*]; omega) | (simp_all; done) | (simp_all; omega) | (rw [Bool.eq_iff_iff]; simp at *; omega)) | (with_reducible refine callQ (cl) ?_; simp [hp, hw1, htk, hno]) | (with_reducible refine callQ (cn) ?_; simp [hp, hw1, htk, hno]) | (with_reducible refine callQ (cc) ?_; simp [hp, hw1, htk, hno]) | (with_reducible refine goL_split (fun _ => ?_) (fun _ => ?_) <;> simp [hp, hw1, htk, hno]) | with_reducible refine And.intro ?_ ?_ | with_reducible exact okay_rfl rfl | with_reducible assumption | omega)
        · simp only [Bool.not_true] at hno
          simp [hp, hw1, htk, hno]
          repeat' (first | exact hK _ _ (by clear hK; first | rfl | omega | (exact decide_eq_false (by omega)) | (exact decide_eq_true (by omega)) | (exact (decide_eq_true (by omega)).symm) | (exact (decide_eq_false (by omega)).symm) | (exact decide_eq_decide.2 (by omega)) | (simp only [← decide_not]; exact decide_eq_decide.2 (by omega)) | (simp [*]; done) | (simp [*]; omega) | (simp_all; done) | (simp_all; omega) | (rw [Bool.eq_iff_iff]; simp at *; omega)) | (with_reducible refine callQ (cl) ?_; simp [hp, hw1, htk, hno]) | (with_reducible refine callQ (cn) ?_; simp [hp, hw1, htk, hno]) | (with_reducible refine callQ (cc) ?_; simp [hp, hw1, htk, hno]) | (with_reducible refine goL_split (fun _ => ?_) (fun _ => ?_) <;> simp [hp, hw1, htk, hno]) | with_reducible refine And.intro ?_ ?_ | with_reducible exact okay_rfl rfl | with_reducible assumption | omega)
    refine W_cond rfl (fun h => ?_) (fun h => ?_)
    · rw [Bool.not_eq_true'] at h
      rw [hbad h]
      exact u_21
    rw [Bool.not_eq_false'] at h
    rw [h] at hst
    refine u_23 ?_
    refine ⟨ow.length - (i + 1), by omega, i + 1, rfl, hlt, hst, ?_⟩
    refine u_19 ?_
    exact wrap_id (by omega) (by omega)
  · have hie : i = ow.length := by omega
    subst hie
    rw [List.take_length] at hok
    rw [hok] at hB
    rw [hB]
    exact u_21
def zLease : GLease := ⟨0, 0, [], 0, 0, 0⟩
def findL (b : GBook) (id : Int) : GLease := if bookB b then (b.fLeases.find? fun l => decide (l.fId = id)).getD zLease else zLease
theorem find_hit {α : Type} {p : α → Bool} {a : List α} {i : Nat} {x : α} (ha : a[i]? = some x) (hn : ∀ x, x ∈ a.take i → p x = false) (hx : p x = true) : a.find? p = some x ∧ a.any p = true := by
  constructor
  · rw [List.find?_eq_some_iff_getElem]
    obtain ⟨h, e⟩ := List.getElem?_eq_some_iff.1 ha
    refine ⟨hx, i, h, e, fun j hj => ?_⟩
    have := hn a[j] (List.mem_take_iff_getElem.2 ⟨j, by omega, rfl⟩); simp [this]
  · rw [List.any_eq_true]; exact ⟨x, List.mem_of_getElem? ha, hx⟩
theorem find_miss {α : Type} {p : α → Bool} {a : List α} (hn : ∀ x, x ∈ a → p x = false) : a.find? p = none ∧ a.any p = false := by
  constructor
  · rw [List.find?_eq_none]; intro x hx; simp [hn x hx]
  · rw [List.any_eq_false]; intro x hx; simp [hn x hx]
theorem s_FindLease_ok [MaxL GG] (b : GBook) (id : Int) (hf : fitB b) : Valid PP GG 28 [.agg b.c, .d (.int .i64 id)] (.tup [.agg (findL b id).o, .d (.bool (bookB b && hasLease b id))]) [none, none] := by
  refine cv Tryz.func28 [.agg (findL b id).o, .d (.bool (bookB b && hasLease b id))] ?_
  obtain ⟨a⟩ := b
  have cb := s_BookOk_ok (GG := GG) ⟨a⟩ hf
  have hl := hf.1
  dsimp only at hl cb
  have hF : findL ⟨a⟩ id = if bookB ⟨a⟩ then (a.find? fun l => decide (l.fId = id)).getD zLease else zLease := rfl
  have hH : hasLease ⟨a⟩ id = a.any fun l => decide (l.fId = id) := rfl
  generalize findL ⟨a⟩ id = F at *
  generalize hasLease ⟨a⟩ id = H at *
  cases hb : bookB ⟨a⟩ with
  | false =>
    rw [hb] at cb hF
    simp only [Bool.false_eq_true, if_false] at hF
    subst hF
    repeat' (first | refine W_seq ?_ | refine W_skip ?_ | refine W_block ?_ | refine W_exit ?_ | refine pick_pos rfl ?_ | refine pick_neg rfl ?_ | ((first | refine W_regP fun K hK => ?_ | refine W_regPD fun K hK => ?_ | refine W_ret ?_ | with_reducible refine callQ (cb) ?_); simp [Fin, zLease]) | (with_reducible refine hK _ ?_; clear hK K) | (with_reducible refine goL_split (fun h => ?_) (fun h => ?_) <;> first | (exfalso; simp at h; first | done | omega | contradiction) | ((try simp at h); simp [zLease])) | with_reducible refine And.intro ?_ ?_ | with_reducible exact okay_rfl rfl | with_reducible assumption | (refine W_cond rfl (fun h => ?_) (fun h => ?_) <;> first | (exfalso; simp at h; first | done | omega | contradiction) | (exfalso; simp_all; done) | (try simp at h)) | omega)
  | true =>
    rw [hb] at cb hF
    simp only [if_true] at hF
    refine u_30 (Z1 cb) ?_
    refine W_loop (fun n st => ∃ i : Nat, n = a.length - i ∧ i ≤ a.length ∧ (∀ x, x ∈ a.take i → (decide (x.fId = id)) = false) ∧
      st = ⟨[], [(1, .d (.int .i64 id)), (2, .ptr 0 0), (4, .ptr 1 0), (6, .d (.int .i64 i))], [(0, .box [.d (.slc 6 (rLease a))]), (1, .box [.d (.int .i64 0), .d (.int .i64 0), .d (.str []), .d (.int .i64 0), .d (.int .i64 0), .d (.int .i64 0)])], 2⟩) _ ⟨0, rfl, by omega, fun x hx => by simp at hx, ?_⟩ ?_
    · exact u_16
    rintro n st ⟨i, rfl, hi, hn, rfl⟩
    by_cases hlt : i < a.length
    · have ha := List.getElem?_eq_getElem hlt
      generalize a[i] = x at ha
      by_cases hx : x.fId = id
      · obtain ⟨e1, e2⟩ := find_hit ha hn (decide_eq_true hx)
        rw [e1] at hF
        rw [e2] at hH
        simp only [Option.getD_some] at hF
        have hxb : (x.fId == id) = true := decide_eq_true hx
        subst hF hH
        exact u_14 (Y2 ha hxb)
      · have hn2 := take_miss (p := fun x : GLease => decide (x.fId = id)) ha hn (decide_eq_false hx)
        have hxb : (x.fId == id) = false := decide_eq_false hx
        refine u_15 (Y2 ha hxb) ?_
        refine ⟨a.length - (i + 1), by omega, i + 1, rfl, hlt, hn2, ?_⟩
        refine u_19 ?_
        exact wrap_id (by omega) (by omega)
    · have hie : i = a.length := by omega
      subst hie
      rw [List.take_length] at hn
      obtain ⟨e1, e2⟩ := find_miss hn
      rw [e1] at hF
      rw [e2] at hH
      simp only [Option.getD_none] at hF
      subst hF hH
      repeat' (first | refine W_seq ?_ | refine W_skip ?_ | refine W_block ?_ | refine W_exit ?_ | refine pick_pos rfl ?_ | refine pick_neg rfl ?_ | ((first | refine W_regP fun K hK => ?_ | refine W_regPD fun K hK => ?_ | refine W_ret ?_); simp [Fin, zLease]) | (with_reducible refine hK _ ?_; clear hK K) | (with_reducible refine goL_split (fun h => ?_) (fun h => ?_) <;> first | (exfalso; simp at h; first | done | omega | contradiction) | ((try simp at h); simp [zLease])) | with_reducible refine And.intro ?_ ?_ | with_reducible exact okay_rfl rfl | with_reducible assumption | (refine W_cond rfl (fun h => ?_) (fun h => ?_) <;> first | (exfalso; simp at h; first | done | omega | contradiction) | (exfalso; simp_all; done) | (try simp at h)) | omega)
theorem s_WorldOk_ok [MaxL GG] (w : GWorld) (hf : fitW w) : Valid PP GG 7 [.agg w.c] (.d (.bool (worldB w))) [none] := by
  refine cv Tryz.func7 [.d (.bool (worldB w))] ?_
  obtain ⟨now, next, lost, ⟨tk⟩, ⟨ls⟩, ⟨us, ff, fm⟩, ⟨js⟩, ow⟩ := w
  obtain ⟨hf1, hf2, hf3, hf4, hol, hon⟩ := hf
  dsimp only at hf1 hf2 hf3 hf4 hol hon
  have c1 : Valid PP GG 23 [.d (.int .i64 now), .d (.int .i64 0), .d (.int .i64 1000000000)] (.d (.bool (inB now 0 1000000000))) [none, none, none] := l01In_ok _ _ _
  have c2 : Valid PP GG 23 [.d (.int .i64 next), .d (.int .i64 1), .d (.int .i64 1000000000)] (.d (.bool (inB next 1 1000000000))) [none, none, none] := l01In_ok _ _ _
  have c3 : Valid PP GG 23 [.d (.int .i64 lost), .d (.int .i64 0), .d (.int .i64 1000000000)] (.d (.bool (inB lost 0 1000000000))) [none, none, none] := l01In_ok _ _ _
  have c4 := s_ForestOk_ok (GG := GG) ⟨tk⟩ hf1
  have c5 := s_BookOk_ok (GG := GG) ⟨ls⟩ hf2
  have c6 := s_FarOk_ok (GG := GG) ⟨us, ff, fm⟩ hf3
  have c7 := s_QueueOk_ok (GG := GG) ⟨js⟩ hf4
  have hfl := fun id => s_FindLease_ok (GG := GG) ⟨ls⟩ id hf2
  have hOL := fun h h' => owned_len (b := ⟨ls⟩) (l := ow) h h'
  have hB : worldB ⟨now, next, lost, ⟨tk⟩, ⟨ls⟩, ⟨us, ff, fm⟩, ⟨js⟩, ow⟩ = (inB now 0 1000000000 && inB next 1 1000000000 && inB lost 0 1000000000 && forestB ⟨tk⟩ && bookB ⟨ls⟩ && farB ⟨us, ff, fm⟩ && queueB ⟨js⟩ && belowT ⟨tk⟩ next && belowL ⟨ls⟩ next && okP (ownQ ⟨ls⟩) [] ow) := rfl
  have hBT : belowT ⟨tk⟩ next = tk.all fun t => decide (t.fId < next) := rfl
  have hBL : belowL ⟨ls⟩ next = ls.all fun t => decide (t.fId < next) := rfl
  have htl := hf1.1
  have hll := hf2.1
  generalize worldB ⟨now, next, lost, ⟨tk⟩, ⟨ls⟩, ⟨us, ff, fm⟩, ⟨js⟩, ow⟩ = B at *
  dsimp only at c4 c5 c6 c7 htl hll hOL
  generalize inB now 0 1000000000 = p1 at *
  generalize inB next 1 1000000000 = p2 at *
  generalize inB lost 0 1000000000 = p3 at *
  generalize forestB ⟨tk⟩ = p4 at *
  generalize bookB ⟨ls⟩ = p5 at *
  generalize farB ⟨us, ff, fm⟩ = p6 at *
  generalize queueB ⟨js⟩ = p7 at *
  generalize belowT ⟨tk⟩ next = BT at *
  generalize belowL ⟨ls⟩ next = BL at *
  refine u_1 ?_
  refine W_seq (W_seq ?_)
  refine u_29 (Z7 c1 c2 c3 c4 c5 c6 c7) 48 (!(p1 && p2 && p3 && p4 && p5 && p6 && p7)) ?_
  refine W_cond rfl (fun h => ?_) (fun h => ?_)
  · rw [Bool.not_eq_true'] at h
    have hb : B = false := by rw [hB, h]; simp
    rw [hb]
    exact u_21
  rw [Bool.not_eq_false'] at h
  rw [h, Bool.true_and] at hB
  simp only [Bool.and_eq_true] at h
  have hp5 := h.1.1.2
  subst hp5
  simp only [Bool.true_and] at hfl
  have hOL := hOL rfl
  clear h
  refine W_skip ?_
  refine u_23 ?_
  refine W_loop (fun n st => ∃ i : Nat, n = tk.length - i ∧ i ≤ tk.length ∧ (∀ x, x ∈ tk.take i → (!decide (x.fId < next)) = false) ∧
    st = ⟨[], [(1, .ptr 0 0), (3, .d (.int .i64 i))], [(0, .box [.d (.int .i64 now), .d (.int .i64 next), .d (.int .i64 lost), .d (.slc 7 (rToken tk)), .d (.slc 6 (rLease ls)), .d (.slc 2 (rUser us)), .d (.int .i64 ff), .d (.int .i64 fm), .d (.slc 3 (rJob js)), .d (.slc 2 (rOwned ow))])], 1⟩) _ ⟨0, rfl, by omega, fun x hx => by simp at hx, ?_⟩ ?_
  · exact u_16
  rintro n st ⟨i, rfl, hi, hn, rfl⟩
  by_cases hlt : i < tk.length
  · have ha := List.getElem?_eq_getElem hlt
    generalize tk[i] = x at ha
    by_cases hx : next ≤ x.fId
    · have hb : BT = false := by
        rw [hBT, List.all_eq_false]
        exact ⟨x, List.mem_of_getElem? ha, by simp; omega⟩
      rw [hB, hb]
      exact u_14 (Y2 ha hx)
    · have hn2 := take_miss (p := fun x : GToken => !decide (x.fId < next)) ha hn (by simp; omega)
      refine u_15 (Y2 ha hx) ?_
      refine ⟨tk.length - (i + 1), by omega, i + 1, rfl, hlt, hn2, ?_⟩
      refine u_19 ?_
      exact wrap_id (by omega) (by omega)
  have hie : i = tk.length := by omega
  subst hie
  rw [List.take_length] at hn
  have hb : BT = true := by
    rw [hBT, List.all_eq_true]; intro x hx; simpa using hn x hx
  subst hb
  clear hn hi hlt
  rw [Bool.true_and] at hB
  refine u_23 ?_
  refine W_loop (fun n st => ∃ i : Nat, n = ls.length - i ∧ i ≤ ls.length ∧ (∀ x, x ∈ ls.take i → (!decide (x.fId < next)) = false) ∧
    st = ⟨[], [(1, .ptr 0 0), (4, .d (.int .i64 i))], [(0, .box [.d (.int .i64 now), .d (.int .i64 next), .d (.int .i64 lost), .d (.slc 7 (rToken tk)), .d (.slc 6 (rLease ls)), .d (.slc 2 (rUser us)), .d (.int .i64 ff), .d (.int .i64 fm), .d (.slc 3 (rJob js)), .d (.slc 2 (rOwned ow))])], 1⟩) _ ⟨0, rfl, by omega, fun x hx => by simp at hx, ?_⟩ ?_
  · exact u_16
  rintro n st ⟨i, rfl, hi, hn, rfl⟩
  by_cases hlt : i < ls.length
  · have ha := List.getElem?_eq_getElem hlt
    generalize ls[i] = x at ha
    by_cases hx : next ≤ x.fId
    · have hb : BL = false := by
        rw [hBL, List.all_eq_false]
        exact ⟨x, List.mem_of_getElem? ha, by simp; omega⟩
      rw [hB, hb]
      exact u_14 (Y2 ha hx)
    · have hn2 := take_miss (p := fun x : GLease => !decide (x.fId < next)) ha hn (by simp; omega)
      refine u_15 (Y2 ha hx) ?_
      refine ⟨ls.length - (i + 1), by omega, i + 1, rfl, hlt, hn2, ?_⟩
      refine u_19 ?_
      exact wrap_id (by omega) (by omega)
  have hie : i = ls.length := by omega
  subst hie
  rw [List.take_length] at hn
  have hb : BL = true := by
    rw [hBL, List.all_eq_true]; intro x hx; simpa using hn x hx
  subst hb
  clear hn hi hlt
  rw [Bool.true_and] at hB
  by_cases hol2 : ls.length < ow.length
  · have hb : B = false := by
      rw [hB]
      cases h : okP (ownQ ⟨ls⟩) [] ow with
      | false => rfl
      | true => have := hOL h; omega
    rw [hb]
    exact u_14 hol2
  clear hOL
  refine u_15 hol2 ?_
  refine W_loop (fun n st => ∃ i : Nat, n = ow.length - i ∧ i ≤ ow.length ∧ okP (ownQ ⟨ls⟩) [] (ow.take i) = true ∧
    st = ⟨[], [(1, .ptr 0 0), (5, .d (.int .i64 i))], [(0, .box [.d (.int .i64 now), .d (.int .i64 next), .d (.int .i64 lost), .d (.slc 7 (rToken tk)), .d (.slc 6 (rLease ls)), .d (.slc 2 (rUser us)), .d (.int .i64 ff), .d (.int .i64 fm), .d (.slc 3 (rJob js)), .d (.slc 2 (rOwned ow))])], 1⟩) _ ⟨0, rfl, by omega, rfl, ?_⟩ ?_
  · exact u_16
  rintro n st ⟨i, rfl, hi, hok, rfl⟩
  by_cases hlt : i < ow.length
  rotate_left
  · have hie : i = ow.length := by omega
    subst hie
    rw [List.take_length] at hok
    rw [hok] at hB
    rw [hB]
    exact u_21
  have ha := List.getElem?_eq_getElem hlt
  generalize ow[i] = x at ha
  have hst := okP_step (q := ownQ ⟨ls⟩) ha
  have hbad : ownQ ⟨ls⟩ (ow.take i) x = false → B = false := fun h => by rw [hB]; exact okP_bad ha h
  rw [hok, Bool.true_and] at hst
  have hq : ownQ ⟨ls⟩ (ow.take i) x = (adjB (fun p x => decide (p.fLease < x.fLease)) (ow.take i) x && hasLease ⟨ls⟩ x.fLease && nameOk x.fName && !((ow.take i).any fun p => p.fName == x.fName)) := rfl
  rw [hq] at hst hbad
  clear hq
  have hA := adj_cases (lt := fun p x : GOwned => decide (p.fLease < x.fLease)) (x := x) hi
  have cn := l01Name_ok (GG := GG) x.fName (by have := hon x (List.mem_of_getElem? ha); omega)
  have cl := hfl x.fLease
  generalize adjB (fun p x : GOwned => decide (p.fLease < x.fLease)) (ow.take i) x = A at *
  obtain ⟨xl, xn⟩ := x
  dsimp only at cn cl hst hbad hA
  generalize hasLease ⟨ls⟩ xl = L at *
  generalize nameOk xn = N at *
  generalize findL ⟨ls⟩ xl = FL at *
  refine W_seq (W_seq ?_)
  refine u_6 ?_
  refine W_cond rfl (fun h => W_skip ?_) (fun h => ?_)
  rotate_left
  · exfalso; simp at h; omega
  refine W_seq (W_block (W_seq ?_))
  apply W_regD
  · intro K hK
    simp [ha]
    repeat' (first | with_reducible exact hK | (with_reducible refine callQ (cl) ?_; simp [ha]) | (with_reducible refine goL_split (fun _ => ?_) (fun _ => ?_) <;> simp [ha]) | with_reducible refine And.intro ?_ ?_ | with_reducible exact okay_rfl rfl | with_reducible assumption | omega)
  refine W_seq (W_seq ?_)
  refine W_regBD 143 (!(A && L && N)) (fun K hK => ?_) ?_
  · rcases hA with ⟨rfl, hA⟩ | ⟨j, p, rfl, hp, hA⟩
    · subst hA
      simp [ha]
      repeat' (first | exact hK _ _ (by clear hK; first | rfl | omega | (exact decide_eq_false (by omega)) | (exact decide_eq_true (by omega)) | (exact (decide_eq_true (by omega)).symm) | (exact (decide_eq_false (by omega)).symm) | (exact decide_eq_decide.2 (by omega)) | (simp only [← decide_not]; exact decide_eq_decide.2 (by omega)) | (simp [*]; done) | (simp [*]; omega) | (simp_all; done) | (simp_all; omega) | (rw [Bool.eq_iff_iff]; simp at *; omega)) | (with_reducible refine callQ (cn) ?_; simp [ha]) | (with_reducible refine goL_split (fun _ => ?_) (fun _ => ?_) <;> simp [ha]) | with_reducible refine And.intro ?_ ?_ | with_reducible exact okay_rfl rfl | with_reducible assumption | omega)
    · have hw1 : IntKind.i64.wrap (j : Int) = j := wrap_id (by omega) (by omega)
      rw [hA] at hK
      cases L
      · simp [hp, ha, hw1]
        repeat' (first | exact hK _ _ (by clear hK; first | rfl | omega | (exact decide_eq_false (by omega)) | (exact decide_eq_true (by omega)) | (exact (decide_eq_true (by omega)).symm) | (exact (decide_eq_false (by omega)).symm) | (exact decide_eq_decide.2 (by omega)) | (simp only [← decide_not]; exact decide_eq_decide.2 (by omega)) | (simp [*]; done) | (simp [*]; omega) | (simp_all; done) | (simp_all; omega) | (rw [Bool.eq_iff_iff]; simp at *; omega)) | (with_reducible refine callQ (cn) ?_; simp [hp, ha, hw1]) | (with_reducible refine goL_split (fun _ => ?_) (fun _ => ?_) <;> simp [hp, ha, hw1]) | with_reducible refine And.intro ?_ ?_ | with_reducible exact okay_rfl rfl | with_reducible assumption | omega)
      · cases N
        · simp [hp, ha, hw1]
          repeat' (first | exact hK _ _ (by clear hK; first | rfl | omega | (exact decide_eq_false (by omega)) | (exact decide_eq_true (by omega)) | (exact (decide_eq_true (by omega)).symm) | (exact (decide_eq_false (by omega)).symm) | (exact decide_eq_decide.2 (by omega)) | (simp only [← decide_not]; exact decide_eq_decide.2 (by omega)) | (simp [*]; done) | (simp [*]; omega) | (simp_all; done) | (simp_all; omega) | (rw [Bool.eq_iff_iff]; simp at *; omega)) | (with_reducible refine callQ (cn) ?_; simp [hp, ha, hw1]) | (with_reducible refine goL_split (fun _ => ?_) (fun _ => ?_) <;> simp [hp, ha, hw1]) | with_reducible refine And.intro ?_ ?_ | with_reducible exact okay_rfl rfl | with_reducible assumption | omega)
        · simp only [Bool.and_true] at hK
          simp [hp, ha, hw1]
          repeat' (first | exact hK _ _ (by clear hK; first | rfl | omega | (exact decide_eq_false (by omega)) | (exact decide_eq_true (by omega)) | (exact (decide_eq_true (by omega)).symm) | (exact (decide_eq_false (by omega)).symm) | (exact decide_eq_decide.2 (by omega)) | (simp only [← decide_not]; exact decide_eq_decide.2 (by omega)) | (simp [*]; done) | (simp [*]; omega) | (simp_all; done) | (simp_all; omega) | (rw [Bool.eq_iff_iff]; simp at *; omega)) | (with_reducible refine callQ (cn) ?_; simp [hp, ha, hw1]) | (with_reducible refine goL_split (fun _ => ?_) (fun _ => ?_) <;> simp [hp, ha, hw1]) | with_reducible refine And.intro ?_ ?_ | with_reducible exact okay_rfl rfl | with_reducible assumption | omega)
  refine W_cond rfl (fun h => ?_) (fun h => ?_)
  · rw [Bool.not_eq_true'] at h
    rw [h] at hbad
    rw [hbad rfl]
    exact u_21
  rw [Bool.not_eq_false'] at h
  rw [h, Bool.true_and] at hst hbad
  clear h hA
  refine W_skip ?_
  refine u_23 ?_
  refine W_loop (fun n st => ∃ k : Nat, n = i - k ∧ k ≤ i ∧ (∀ y, y ∈ ow.take k → (y.fName == xn) = false) ∧
    st = ⟨[], [(1, .ptr 0 0), (5, .d (.int .i64 i)), (8, .d (.int .i64 k))], [(0, .box [.d (.int .i64 now), .d (.int .i64 next), .d (.int .i64 lost), .d (.slc 7 (rToken tk)), .d (.slc 6 (rLease ls)), .d (.slc 2 (rUser us)), .d (.int .i64 ff), .d (.int .i64 fm), .d (.slc 3 (rJob js)), .d (.slc 2 (rOwned ow))])], 1⟩) _ ⟨0, rfl, by omega, fun y h => by simp at h, ?_⟩ ?_
  · exact u_16
  rintro n st ⟨k, rfl, hk, hn, rfl⟩
  by_cases hkl : k < i
  · have hak := List.getElem?_eq_getElem (show k < ow.length by omega)
    generalize ow[k]'_ = y at hak
    obtain ⟨yl, yn⟩ := y
    cases hyn : (yn == xn) with
    | true =>
      rw [hbad (by
        have : (ow.take i).any (fun t => t.fName == xn) = true := by
          rw [List.any_eq_true]
          exact ⟨_, List.mem_of_getElem? (by rw [List.getElem?_take_of_lt hkl]; exact hak), hyn⟩
        rw [this]; rfl)]
      exact u_14 (Y4 hak ha hkl hyn)
    | false =>
      have hn2 := take_miss (p := fun y : GOwned => y.fName == xn) hak hn hyn
      refine u_15 (Y4 hak ha hkl hyn) ?_
      refine ⟨i - (k + 1), by omega, k + 1, rfl, hkl, hn2, ?_⟩
      refine u_19 ?_
      exact wrap_id (by omega) (by omega)
  · have hke : k = i := by omega
    subst hke
    have : (ow.take k).any (fun t => t.fName == xn) = false := by
      rw [List.any_eq_false]; intro y hy; rw [hn y hy]; simp
    rw [this] at hst
    refine u_15 hkl ?_
    refine ⟨ow.length - (k + 1), by omega, k + 1, rfl, hlt, hst, ?_⟩
    refine u_19 ?_
    exact wrap_id (by omega) (by omega)
theorem snoc_ind {α : Type} {P : List α → Prop} (h0 : P []) (h1 : ∀ l x, P l → P (l ++ [x])) : ∀ l, P l := by
  intro l
  rw [← List.reverse_reverse l]
  induction l.reverse with
  | nil => exact h0
  | cons x r ih => rw [List.reverse_cons]; exact h1 _ _ ih
def wstep (p : GToken → Bool) (s : List GToken × List Int) (t : GToken) : List GToken × List Int :=
  if (p t || s.2.contains t.fParent) = true then (s.1, s.2 ++ [t.fId]) else (s.1 ++ [t], s.2)
def wo (p : GToken → Bool) (l : List GToken) : List GToken × List Int := l.foldl (wstep p) ([], [])
theorem wo_snoc (p : GToken → Bool) (l : List GToken) (t : GToken) : wo p (l ++ [t]) = wstep p (wo p l) t := by
  unfold wo; rw [List.foldl_append]; rfl
theorem wo_succ {p : GToken → Bool} {l : List GToken} {i : Nat} {t : GToken} (h : l[i]? = some t) : wo p (l.take (i + 1)) = wstep p (wo p (l.take i)) t := by
  rw [List.take_add_one, h]; exact wo_snoc p _ t
theorem wo_len (p : GToken → Bool) (l : List GToken) : (wo p l).1.length + (wo p l).2.length = l.length := by
  induction l using snoc_ind with
  | h0 => rfl
  | h1 l t ih =>
    rw [wo_snoc]; unfold wstep
    split <;> simp <;> omega
structure WoOk (p : GToken → Bool) (l : List GToken) (r : List GToken) (G : List Int) : Prop where
  sub : ∀ x, x ∈ G → ∃ t, t ∈ l ∧ t.fId = x
  rec_ : ∀ t, t ∈ l → G.contains t.fId = (p t || G.contains t.fParent)
  rest : r = l.filter fun t => !G.contains t.fId
  ids : G = (l.filter fun t => G.contains t.fId).map GToken.fId
theorem contains_app (G : List Int) (y x : Int) : (G ++ [y]).contains x = (G.contains x || decide (x = y)) := by
  rw [Bool.eq_iff_iff]; simp [List.contains_iff_mem]
theorem wo_ok (p : GToken → Bool) (l : List GToken) : l.Pairwise (fun y x => y.fId < x.fId) → (∀ t, t ∈ l → t.fParent < t.fId) → WoOk p l (wo p l).1 (wo p l).2 := by
  induction l using snoc_ind with
  | h0 => intro _ _; exact ⟨fun x h => by simp [wo] at h, fun t h => by simp at h, rfl, rfl⟩
  | h1 l t ih =>
    intro hinc hpar
    rw [List.pairwise_append] at hinc
    obtain ⟨hi1, _, hi2⟩ := hinc
    have hlt : ∀ s, s ∈ l → s.fId < t.fId := fun s hs => hi2 s hs t (by simp)
    obtain ⟨sub, hrec, rest, ids⟩ := ih hi1 fun s hs => hpar s (by simp [hs])
    have htp := hpar t (by simp)
    rw [wo_snoc]
    generalize wo p l = s at sub hrec rest ids ⊢
    obtain ⟨r, G⟩ := s
    dsimp only at sub hrec rest ids ⊢
    have hGt : ∀ y, y ∈ G → y < t.fId := fun y hy => by obtain ⟨s, hs, rfl⟩ := sub y hy; exact hlt s hs
    have hct : G.contains t.fId = false := by
      cases h : G.contains t.fId with
      | false => rfl
      | true => have := hGt _ (List.contains_iff_mem.1 h); omega
    unfold wstep
    by_cases hd : (p t || G.contains t.fParent) = true
    · rw [if_pos hd]
      have hc : ∀ x, x < t.fId → (G ++ [t.fId]).contains x = G.contains x := fun x hx => by
        rw [contains_app, decide_eq_false (by omega), Bool.or_false]
      have hc2 : (G ++ [t.fId]).contains t.fId = true := by rw [contains_app, decide_eq_true rfl, Bool.or_true]
      refine ⟨fun x hx => ?_, fun s hs => ?_, ?_, ?_⟩
      · rcases List.mem_append.1 hx with h | h
        · obtain ⟨s, hs, e⟩ := sub x h; exact ⟨s, by simp [hs], e⟩
        · simp at h; exact ⟨t, by simp, h.symm⟩
      · rcases List.mem_append.1 hs with h | h
        · have h1 := hlt s h
          have h2 := hpar s hs
          rw [hc _ h1, hc _ (by omega)]
          exact hrec s h
        · simp at h; subst h
          rw [hc2, hc _ htp, hd]
      · simp only
        rw [List.filter_append, List.filter_congr (q := fun s => !G.contains s.fId) fun s hs => by rw [hc _ (hlt s hs)], ← rest]
        simp [hc2]
      · simp only
        rw [List.filter_append, List.filter_congr (q := fun s => G.contains s.fId) fun s hs => by rw [hc _ (hlt s hs)], List.map_append, ← ids]
        simp
    · rw [if_neg hd]
      simp only [Bool.not_eq_true] at hd
      refine ⟨fun x hx => ?_, fun s hs => ?_, ?_, ?_⟩
      · obtain ⟨s, hs, e⟩ := sub x hx; exact ⟨s, by simp [hs], e⟩
      · rcases List.mem_append.1 hs with h | h
        · exact hrec s h
        · simp at h; subst h; rw [hct, hd]
      · simp only
        rw [List.filter_append, ← rest]
        simp only [List.filter_cons, List.filter_nil, hct]; simp
      · simp only
        rw [List.filter_append, List.map_append, ← ids]
        simp only [List.filter_cons, List.filter_nil, hct]; simp
theorem wo_none (p : GToken → Bool) (l : List GToken) : (∀ t, t ∈ l → p t = false) → wo p l = (l, []) := by
  induction l using snoc_ind with
  | h0 => intro _; rfl
  | h1 l t ih =>
    intro h
    rw [wo_snoc, ih fun s hs => h s (by simp [hs])]
    unfold wstep
    rw [h t (by simp)]
    simp
theorem forest_par {f : GForest} (h : forestB f = true) : (∀ t, t ∈ f.fTokens → t.fParent < t.fId) ∧ (∀ t, t ∈ f.fTokens → 0 ≤ t.fParent ∧ 1 ≤ t.fId ∧ t.fId ≤ 1000000000) ∧ (∀ t, t ∈ f.fTokens → t.fParent = 0 ∨ hasTok f t.fParent = true) := by
  unfold forestB at h
  rw [Bool.and_eq_true] at h
  have key : ∀ t, t ∈ f.fTokens → t.fParent < t.fId ∧ 0 ≤ t.fParent ∧ 1 ≤ t.fId ∧ t.fId ≤ 1000000000 ∧ (t.fParent = 0 ∨ hasTok f t.fParent = true) := by
    intro t ht
    obtain ⟨i, hi⟩ := List.getElem?_of_mem ht
    have hq := okP_get h.2 hi
    unfold tokQ tokenB at hq
    simp only [Bool.and_eq_true, Bool.or_eq_true, decide_eq_true_eq] at hq
    have h1 := inB_true hq.1.1.1.1.1.1.1.1
    have h2 := inB_true hq.1.1.1.1.1.1.1.2
    exact ⟨by omega, by omega, by omega, by omega, hq.2⟩
  exact ⟨fun t ht => (key t ht).1, fun t ht => ⟨(key t ht).2.1, (key t ht).2.2.1, (key t ht).2.2.2.1⟩, fun t ht => (key t ht).2.2.2.2⟩
theorem forest_wo {f : GForest} (h : forestB f = true) (p : GToken → Bool) : WoOk p f.fTokens (wo p f.fTokens).1 (wo p f.fTokens).2 := wo_ok p _ (forest_inc h) (forest_par h).1
def knownU (ow : List GOwned) (js : List GJob) (s : List UInt8) : Bool := (ow.any fun o => o.fName == s) || (js.any fun j => j.fName == s)
def straysOf (us : List GUser) (ow : List GOwned) (js : List GJob) : List (List UInt8) := (us.filter fun u => !knownU ow js u.fName).map GUser.fName
def straysV (w : GWorld) : List (List UInt8) := if worldB w then straysOf w.fFar.fUsers w.fOwned w.fQueue.fJobs else []
theorem filter_succ {α β : Type} {p : α → Bool} {f : α → β} {a : List α} {k : Nat} {x : α} (h : a[k]? = some x) : ((a.take (k + 1)).filter p).map f = ((a.take k).filter p).map f ++ (if p x then [f x] else []) := by
  rw [List.take_add_one, h, List.filter_append, List.map_append]
  simp only [Option.toList_some, List.filter_cons, List.filter_nil]
  split <;> simp
theorem filter_take_len {α β : Type} (p : α → Bool) (f : α → β) (a : List α) (k : Nat) : (((a.take k).filter p).map f).length ≤ k := by
  rw [List.length_map]
  have h1 := List.length_filter_le p (a.take k)
  have h2 : (a.take k).length ≤ k := by simp; omega
  omega
theorem strsD_snoc (l : List (List UInt8)) (x : List UInt8) : strsD (l ++ [x]) = strsD l ++ [[.str x]] := by simp [strsD]
theorem Strays_c1_ok (t : GOwned) (a b : List UInt8) : Valid PP GG 33 [.agg t.c, .rp [.str a, .str b]] (.d (.bool (t.fName == a))) [none] := by
  refine cv Tryz.func33 [.d (.bool (t.fName == a))] ?_
  exact u_21
theorem i_Strays_ok [MaxL GG] (w : GWorld) (hf : fitW w) : Valid PP GG 8 [.agg w.c] (.own 0 1 (strsD (straysV w))) [none] := by
  refine cv Tryz.func8 [.own 0 1 (strsD (straysV w))] ?_
  have cw := isWorld_ok (GG := GG) w hf
  have hV : straysV w = if worldB w then straysOf w.fFar.fUsers w.fOwned w.fQueue.fJobs else [] := rfl
  have hul := hf.2.2.1.1
  have hjl := hf.2.2.2.1.1
  have hol := hf.2.2.2.2.1
  obtain ⟨now, next, lost, ⟨tk⟩, ⟨ls⟩, ⟨us, ff, fm⟩, ⟨js⟩, ow⟩ := w
  dsimp only at hV hul hjl hol cw
  generalize straysV ⟨now, next, lost, ⟨tk⟩, ⟨ls⟩, ⟨us, ff, fm⟩, ⟨js⟩, ow⟩ = R at *
  generalize worldB ⟨now, next, lost, ⟨tk⟩, ⟨ls⟩, ⟨us, ff, fm⟩, ⟨js⟩, ow⟩ = B at *
  cases B
  · simp at hV
    subst hV
    repeat' (first | refine W_seq ?_ | refine W_skip ?_ | refine W_block ?_ | refine W_exit ?_ | refine pick_pos rfl ?_ | refine pick_neg rfl ?_ | ((first | refine W_regP fun K hK => ?_ | refine W_regPD fun K hK => ?_ | refine W_ret ?_ | with_reducible refine callQ (cw) ?_); simp [Fin, strsD]) | (with_reducible refine hK _ ?_; clear hK K) | (with_reducible refine goL_split (fun h => ?_) (fun h => ?_) <;> first | (exfalso; simp at h; first | done | omega | contradiction) | ((try simp at h); simp [strsD])) | with_reducible refine And.intro ?_ ?_ | with_reducible exact okay_rfl rfl | with_reducible assumption | (refine W_cond rfl (fun h => ?_) (fun h => ?_) <;> first | (exfalso; simp at h; first | done | omega | contradiction) | (try simp at h)) | omega)
  simp only [if_true] at hV
  refine u_1 ?_
  refine W_seq (W_seq ?_)
  refine u_31 (Z1 cw) ?_
  refine W_cond rfl (fun h => by simp at h) (fun h => W_skip ?_)
  refine u_1 ?_
  refine W_nilV 3 rfl ?_
  repeat' (first | refine W_seq ?_ | refine W_skip ?_ | refine W_block ?_ | refine W_exit ?_ | refine pick_pos rfl ?_ | refine pick_neg rfl ?_ | ((first | refine W_regP fun K hK => ?_ | refine W_regPD fun K hK => ?_ | refine W_ret ?_); simp [Fin]) | (with_reducible refine hK _ ?_; clear hK K) | (with_reducible refine goL_split (fun h => ?_) (fun h => ?_) <;> first | (exfalso; simp at h; first | done | omega | contradiction) | ((try simp at h); simp)) | with_reducible refine And.intro ?_ ?_ | with_reducible exact okay_rfl rfl | with_reducible assumption | (refine W_cond rfl (fun h => ?_) (fun h => ?_) <;> first | (exfalso; simp at h; first | done | omega | contradiction) | (try simp at h)) | omega)
  refine W_loop (fun n st => ∃ i : Nat, n = us.length - i ∧ i ≤ us.length ∧
    st = ⟨[], [(1, .ptr 0 0), (3, .sl 1), (11, .d (.slc 2 (rUser us))), (12, .d (.int .i64 us.length)), (13, .d (.int .i64 i))], [(0, .box [.d (.int .i64 now), .d (.int .i64 next), .d (.int .i64 lost), .d (.slc 7 (rToken tk)), .d (.slc 6 (rLease ls)), .d (.slc 2 (rUser us)), .d (.int .i64 ff), .d (.int .i64 fm), .d (.slc 3 (rJob js)), .d (.slc 2 (rOwned ow))]), (1, .arr 0 0 1 (strsD (straysOf (us.take i) ow js)))], 2⟩) _ ⟨0, rfl, by omega, ?_⟩ ?_
  · simp [gc, closeN, liveA, gcV, gcO, renA, renAs, renO, namesAs, namesA, namesO, posn, straysOf, strsD]
  rintro n st ⟨i, rfl, hi, rfl⟩
  by_cases hlt : i < us.length
  rotate_left
  · have hie : i = us.length := by omega
    subst hie
    rw [List.take_length, ← hV]
    exact u_32
  have ha := List.getElem?_eq_getElem hlt
  generalize us[i] = x at ha
  have hsc := filter_succ (p := fun u : GUser => !knownU ow js u.fName) (f := GUser.fName) ha
  have hlen := filter_take_len (fun u : GUser => !knownU ow js u.fName) GUser.fName us i
  rw [show ∀ l, (l.filter fun u : GUser => !knownU ow js u.fName).map GUser.fName = straysOf l ow js from fun l => rfl] at hsc hlen
  rw [show ∀ l, (l.filter fun u : GUser => !knownU ow js u.fName).map GUser.fName = straysOf l ow js from fun l => rfl] at hsc
  have hkn : knownU ow js x.fName = ((ow.any fun o => o.fName == x.fName) || (js.any fun j => j.fName == x.fName)) := rfl
  have cj := hasJob_ok (GG := GG) ⟨js⟩ x.fName hjl
  have co := ContainsFuncOwned_ok (GG := GG) ow 33 [[.str x.fName, .str x.fPass]] (fun t => t.fName == x.fName) (by omega) fun t _ => Strays_c1_ok t _ _
  generalize straysOf (us.take i) ow js = L at *
  generalize knownU ow js x.fName = K at *
  obtain ⟨xn, xp⟩ := x
  dsimp only at hsc hkn cj co
  generalize ow.any (fun o => o.fName == xn) = OA at *
  generalize js.any (fun o => o.fName == xn) = JA at *
  cases K
  · simp only [Bool.not_false, if_true] at hsc
    obtain ⟨rfl, rfl⟩ : OA = false ∧ JA = false := by simpa using hkn.symm
    repeat' (first | refine W_seq ?_ | refine W_skip ?_ | refine W_block ?_ | refine W_exit ?_ | refine pick_pos rfl ?_ | refine pick_neg rfl ?_ | ((first | refine W_regP fun K hK => ?_ | refine W_regPD fun K hK => ?_ | refine W_ret ?_ | with_reducible refine callQ (cj) ?_ | with_reducible refine callQ (co) ?_); simp [Fin, ha, limit, strsD_len]) | (with_reducible refine hK _ ?_; clear hK K) | (with_reducible refine goL_split (fun h => ?_) (fun h => ?_) <;> first | (exfalso; simp at h; first | done | omega | contradiction) | ((try simp at h); simp [ha, limit, strsD_len])) | with_reducible refine And.intro ?_ ?_ | with_reducible exact okay_rfl rfl | with_reducible assumption | (refine W_cond rfl (fun h => ?_) (fun h => ?_) <;> first | (exfalso; simp at h; first | done | omega | contradiction) | (try simp at h)) | omega)
    refine ⟨us.length - (i + 1), by omega, i + 1, rfl, hlt, ?_⟩
    simp [gc, closeN, liveA, gcV, gcO, renA, renAs, renO, namesAs, namesA, namesO, posn, hsc, strsD_snoc]
    exact wrap_id (by omega) (by omega)
  · simp only [Bool.not_true, Bool.false_eq_true, if_false, List.append_nil] at hsc
    cases JA
    · simp at hkn
      subst hkn
      refine u_34 ha (Z2 cj co) ?_
      refine ⟨us.length - (i + 1), by omega, i + 1, rfl, hlt, ?_⟩
      refine u_28 hsc ?_
      exact wrap_id (by omega) (by omega)
    · refine u_34 ha (Z2 cj co) ?_
      refine ⟨us.length - (i + 1), by omega, i + 1, rfl, hlt, ?_⟩
      refine u_28 hsc ?_
      exact wrap_id (by omega) (by omega)
theorem strs_row (l : List (List UInt8)) : ∀ r, r ∈ strsD l → r.length = 1 := by
  intro r h
  simp only [strsD, List.mem_map] at h
  obtain ⟨x, _, rfl⟩ := h
  rfl
def clnString_ren : Go.Shelf.Ren := ⟨fun | 41 => 149 | n => n, fun | 22 => 41 | 23 => 9 | n => n, fun n => n⟩
theorem clnString : Go.Proofs.SlLaysE0.n41 PP clnString_ren := {
  mixed := by kernel_rfl
  f41 := ⟨"slices.Clone[[]string,string]", by decide, Tryz.func149.trans (congrArg some (by kernel_rfl))⟩
  t4 := Tryz.underlying4
  a4 := Tryz.isAgg4
  z4 := Tryz.sizeOf4
  v4 := Tryz.zeroValue4
  t22 := Tryz.underlying41
  a22 := Tryz.isAgg41
  z22 := Tryz.sizeOf41
  v22 := Tryz.zeroValue41
}
theorem CloneString_ok (l : List (List UInt8)) (hN : l.length ≤ 1099511627776) : Valid PP GG 149 [.d (.slc 1 (strsD l))] (.own 0 1 (strsD l)) [none] :=
  clone_valid clnString ⟨Tryz.f149, Tryz.func149, by kernel_rfl, by kernel_rfl⟩ 1 16 (by kernel_rfl) (by kernel_rfl) (by kernel_rfl) (by kernel_rfl) (by omega) (by omega) Tryz.sizeOf9 _ (strs_row l) (by rw [strsD_len]; exact hN)
def clnLease_ren : Go.Shelf.Ren := ⟨fun | 41 => 124 | n => n, fun | 22 => 27 | 23 => 49 | n => n, fun n => n⟩
theorem clnLease : Go.Proofs.SlLaysE0.n41 PP clnLease_ren := {
  mixed := by kernel_rfl
  f41 := ⟨"slices.Clone[[]loop.example/g00705/impl.Lease,loop.example/g00705/impl.Lease]", by decide, Tryz.func124.trans (congrArg some (by kernel_rfl))⟩
  t4 := Tryz.underlying4
  a4 := Tryz.isAgg4
  z4 := Tryz.sizeOf4
  v4 := Tryz.zeroValue4
  t22 := Tryz.underlying27
  a22 := Tryz.isAgg27
  z22 := Tryz.sizeOf27
  v22 := Tryz.zeroValue27
}
theorem CloneLease_ok (l : List GLease) (hN : l.length ≤ 1099511627776) : Valid PP GG 124 [.d (.slc 6 (rLease l))] (.own 0 6 (rLease l)) [none] :=
  clone_valid clnLease ⟨Tryz.f124, Tryz.func124, by kernel_rfl, by kernel_rfl⟩ 6 56 (by kernel_rfl) (by kernel_rfl) (by kernel_rfl) (by kernel_rfl) (by omega) (by omega) Tryz.sizeOf49 _ (rLease_row l) (by rw [rLease_len]; exact hN)
def clnUser_ren : Go.Shelf.Ren := ⟨fun | 41 => 125 | n => n, fun | 22 => 30 | 23 => 59 | n => n, fun n => n⟩
theorem clnUser : Go.Proofs.SlLaysE0.n41 PP clnUser_ren := {
  mixed := by kernel_rfl
  f41 := ⟨"slices.Clone[[]loop.example/g00705/impl.User,loop.example/g00705/impl.User]", by decide, Tryz.func125.trans (congrArg some (by kernel_rfl))⟩
  t4 := Tryz.underlying4
  a4 := Tryz.isAgg4
  z4 := Tryz.sizeOf4
  v4 := Tryz.zeroValue4
  t22 := Tryz.underlying30
  a22 := Tryz.isAgg30
  z22 := Tryz.sizeOf30
  v22 := Tryz.zeroValue30
}
theorem CloneUser_ok (l : List GUser) (hN : l.length ≤ 1099511627776) : Valid PP GG 125 [.d (.slc 2 (rUser l))] (.own 0 2 (rUser l)) [none] :=
  clone_valid clnUser ⟨Tryz.f125, Tryz.func125, by kernel_rfl, by kernel_rfl⟩ 2 32 (by kernel_rfl) (by kernel_rfl) (by kernel_rfl) (by kernel_rfl) (by omega) (by omega) Tryz.sizeOf59 _ (rUser_row l) (by rw [rUser_len]; exact hN)
def clnJob_ren : Go.Shelf.Ren := ⟨fun | 41 => 126 | n => n, fun | 22 => 33 | 23 => 114 | n => n, fun n => n⟩
theorem clnJob : Go.Proofs.SlLaysE0.n41 PP clnJob_ren := {
  mixed := by kernel_rfl
  f41 := ⟨"slices.Clone[[]loop.example/g00705/impl.Job,loop.example/g00705/impl.Job]", by decide, Tryz.func126.trans (congrArg some (by kernel_rfl))⟩
  t4 := Tryz.underlying4
  a4 := Tryz.isAgg4
  z4 := Tryz.sizeOf4
  v4 := Tryz.zeroValue4
  t22 := Tryz.underlying33
  a22 := Tryz.isAgg33
  z22 := Tryz.sizeOf33
  v22 := Tryz.zeroValue33
}
theorem CloneJob_ok (l : List GJob) (hN : l.length ≤ 1099511627776) : Valid PP GG 126 [.d (.slc 3 (rJob l))] (.own 0 3 (rJob l)) [none] :=
  clone_valid clnJob ⟨Tryz.f126, Tryz.func126, by kernel_rfl, by kernel_rfl⟩ 3 32 (by kernel_rfl) (by kernel_rfl) (by kernel_rfl) (by kernel_rfl) (by omega) (by omega) Tryz.sizeOf114 _ (rJob_row l) (by rw [rJob_len]; exact hN)
def clnOwned_ren : Go.Shelf.Ren := ⟨fun | 41 => 76 | n => n, fun | 22 => 36 | 23 => 82 | n => n, fun n => n⟩
theorem clnOwned : Go.Proofs.SlLaysE0.n41 PP clnOwned_ren := {
  mixed := by kernel_rfl
  f41 := ⟨"slices.Clone[[]loop.example/g00705/impl.Owned,loop.example/g00705/impl.Owned]", by decide, Tryz.func76.trans (congrArg some (by kernel_rfl))⟩
  t4 := Tryz.underlying4
  a4 := Tryz.isAgg4
  z4 := Tryz.sizeOf4
  v4 := Tryz.zeroValue4
  t22 := Tryz.underlying36
  a22 := Tryz.isAgg36
  z22 := Tryz.sizeOf36
  v22 := Tryz.zeroValue36
}
theorem CloneOwned_ok (l : List GOwned) (hN : l.length ≤ 1099511627776) : Valid PP GG 76 [.d (.slc 2 (rOwned l))] (.own 0 2 (rOwned l)) [none] :=
  clone_valid clnOwned ⟨Tryz.f76, Tryz.func76, by kernel_rfl, by kernel_rfl⟩ 2 24 (by kernel_rfl) (by kernel_rfl) (by kernel_rfl) (by kernel_rfl) (by omega) (by omega) Tryz.sizeOf82 _ (rOwned_row l) (by rw [rOwned_len]; exact hN)
theorem ints_get (l : List Int) (i : Nat) : (intsD l)[i]? = (l[i]?).map fun s => [.int .i64 s] := by simp [intsD]
theorem ints_len (l : List Int) : (intsD l).length = l.length := by simp [intsD]
theorem idxF_contains (x : Int) (a : List Int) : decide (0 ≤ idxF (fun y => y == x) a) = a.contains x := by
  rw [idxF_any, Bool.eq_iff_iff, List.contains_iff_mem, List.any_eq_true]
  constructor
  · rintro ⟨y, h1, h2⟩; exact (beq_iff_eq.1 h2) ▸ h1
  · intro h; exact ⟨x, h, beq_self_eq_true x⟩
theorem IndexInt_ok (a : List Int) (x : Int) (hsz : a.length ≤ 281474976710656) :
    Valid PP GG 107 [.d (.slc 1 (intsD a)), .d (.int .i64 x)] (.d (.int .i64 (idxF (fun y => y == x) a))) [none, none] := by
  refine cv Tryz.func107 [.d (.int .i64 (idxF (fun y => y == x) a))] ?_
  repeat' (first | refine W_seq ?_ | refine W_skip ?_ | refine W_block ?_ | refine W_exit ?_ | refine pick_pos rfl ?_ | refine pick_neg rfl ?_ | ((first | refine W_regP fun K hK => ?_ | refine W_regPD fun K hK => ?_ | refine W_ret ?_); simp [Fin, ints_len]) | (with_reducible refine hK _ ?_; clear hK K) | (with_reducible refine goL_split (fun h => ?_) (fun h => ?_) <;> first | (exfalso; simp at h; first | done | omega | contradiction) | ((try simp at h); simp [ints_len])) | with_reducible refine And.intro ?_ ?_ | with_reducible exact okay_rfl rfl | with_reducible assumption | (refine W_cond rfl (fun h => ?_) (fun h => ?_) <;> first | (exfalso; simp at h; first | done | omega | contradiction) | (exfalso; simp_all; done) | (try simp at h)) | omega)
  refine W_loop (fun n st => ∃ i : Nat, n = a.length - i ∧ i ≤ a.length ∧ (∀ y, y ∈ a.take i → (y == x) = false) ∧
    st = ⟨[], [(0, .d (.slc 1 (intsD a))), (1, .d (.int .i64 x)), (7, .d (.int .i64 a.length)), (8, .d (.int .i64 i))], [], 0⟩) _ ⟨0, rfl, by omega, fun x hx => by simp at hx, ?_⟩ ?_
  · simp [gc, closeN, liveA, gcV, gcO, renA, renAs, renO, namesAs, namesA, namesO, posn, ints_len]
  rintro n st ⟨i, rfl, hi, hn, rfl⟩
  by_cases hlt : i < a.length
  · have ha := List.getElem?_eq_getElem hlt
    generalize a[i] = y at ha
    cases hx : (y == x) with
    | true =>
      have e := idxF_hit (p := fun y => y == x) ha hn hx
      have hx' : (x == y) = true := by rw [beq_iff_eq] at hx ⊢; exact hx.symm
      rw [e]
      exact u_35 (Y3 ha hx hx')
    | false =>
      have hn2 := take_miss (p := fun y => y == x) ha hn hx
      have hx' : (x == y) = false := by rw [beq_eq_false_iff_ne] at hx ⊢; exact fun e => hx e.symm
      repeat' (first | refine W_seq ?_ | refine W_skip ?_ | refine W_block ?_ | refine W_exit ?_ | refine pick_pos rfl ?_ | refine pick_neg rfl ?_ | ((first | refine W_regP fun K hK => ?_ | refine W_regPD fun K hK => ?_ | refine W_ret ?_); simp [Fin, ha, ints_get, hx, hx']) | (with_reducible refine hK _ ?_; clear hK K) | (with_reducible refine goL_split (fun h => ?_) (fun h => ?_) <;> first | (exfalso; simp at h; first | done | omega | contradiction) | ((try simp at h); simp [ha, ints_get, hx, hx'])) | with_reducible refine And.intro ?_ ?_ | with_reducible exact okay_rfl rfl | with_reducible assumption | (refine W_cond rfl (fun h => ?_) (fun h => ?_) <;> first | (exfalso; simp at h; first | done | omega | contradiction) | (exfalso; simp_all; done) | (try simp at h)) | omega)
      refine ⟨a.length - (i + 1), by omega, i + 1, rfl, hlt, hn2, ?_⟩
      simp [gc, closeN, liveA, gcV, gcO, renA, renAs, renO, namesAs, namesA, namesO, posn, ints_len]
      exact wrap_id (by omega) (by omega)
  · have hie : i = a.length := by omega
    subst hie
    rw [List.take_length] at hn
    rw [idxF_miss hn]
    exact u_21
theorem ContainsInt_ok (a : List Int) (x : Int) (hsz : a.length ≤ 281474976710656) : Valid PP GG 56 [.d (.slc 1 (intsD a)), .d (.int .i64 x)] (.d (.bool (a.contains x))) [none, none] := by
  refine cv Tryz.func56 [.d (.bool (a.contains x))] ?_
  have ci := IndexInt_ok (GG := GG) a x hsz
  have e := idxF_contains x a
  exact u_24 e (Z1 ci)
theorem cloneToken_ok (t : GToken) (ht : fitT t) : Valid PP GG 106 [.agg t.c] (.agg t.o) [none] := by
  refine cv Tryz.func106 [.agg t.o] ?_
  have cc := CloneString_ok (GG := GG) t.fNames (by have := ht.1; omega)
  exact u_26 (Z1 cc)
theorem ind_rToken (l : List GToken) : ∀ row, row ∈ rToken l → ∀ d, d ∈ row → IndD 1 d := by
  intro row h d hd
  simp only [rToken, List.mem_map] at h
  obtain ⟨x, _, rfl⟩ := h
  simp only [GToken.row, List.mem_cons, List.not_mem_nil, or_false] at hd
  rcases hd with rfl | rfl | rfl | rfl | rfl | rfl | rfl <;> simp only [IndD]
  exact ind_strs x.fNames
theorem without_ok (a : List GToken) (g : FuncId) (caps : List (List D)) (p : GToken → Bool) (hf : fitF ⟨a⟩) (hp : ∀ x, x ∈ a → Valid PP GG g (.agg x.c :: caps.map .rp) (.d (.bool (p x))) [none]) :
    Valid PP GG 54 [.agg [.d (.slc 7 (rToken a))], .d (.fn g caps)] (.tup [.agg [.own 1 7 (rToken (wo p a).1)], .own 0 1 (intsD (wo p a).2)]) [none, none] := by
  refine cv Tryz.func54 [.agg [.own 1 7 (rToken (wo p a).1)], .own 0 1 (intsD (wo p a).2)] ?_
  obtain ⟨hl, ht⟩ := hf
  dsimp only at hl ht
  refine u_1 ?_
  refine u_1 ?_
  refine W_nilP 6 0 rfl rfl rfl ?_
  refine u_1 ?_
  refine W_nilV 7 rfl ?_
  refine u_23 ?_
  refine W_loop (fun n st => ∃ i : Nat, n = a.length - i ∧ i ≤ a.length ∧ ∃ v : Nat,
    st = ⟨[], [(1, .d (.fn g caps)), (4, .ptr 0 0), (6, .ptr 1 0), (7, .sl 2), (11, .d (.slc 7 (rToken a))), (12, .d (.int .i64 a.length)), (13, .d (.int .i64 i))],
      [(0, .box [.nil 1 7]), (1, .box [.sl 3]), (2, .arr 0 0 1 (intsD (wo p (a.take i)).2)), (3, .arr v 1 7 (rToken (wo p (a.take i)).1))], 4⟩) _ ⟨0, rfl, by omega, 0, ?_⟩ ?_
  · simp [gc, closeN, liveA, gcV, gcO, renA, renAs, renO, namesAs, namesA, namesO, posn, wo, rToken, intsD]
  rintro n st ⟨i, rfl, hi, v, rfl⟩
  by_cases hlt : i < a.length
  rotate_left
  · have hie : i = a.length := by omega
    subst hie
    rw [List.take_length]
    exact u_21
  have ha := List.getElem?_eq_getElem hlt
  have hm := List.getElem_mem hlt
  generalize a[i] = x at ha hm
  have cp := hp x hm
  have hw := wo_succ (p := p) ha
  have hwl := wo_len p (a.take i)
  rw [List.length_take] at hwl
  have hct := cloneToken_ok (GG := GG) x (ht x hm)
  have hir := ind_rToken (wo p (a.take i)).1
  generalize wo p (a.take i) = s at *
  obtain ⟨r, G⟩ := s
  dsimp only at hwl hir
  have cc := ContainsInt_ok (GG := GG) G x.fParent (by omega)
  have hig := ind_ints G
  unfold wstep at hw
  dsimp only at hw
  obtain ⟨xi, xp, xn, xm, xe, xl, xu⟩ := x
  dsimp only at cc hct hw
  generalize hcp : p ⟨xi, xp, xn, xm, xe, xl, xu⟩ = b at *
  generalize G.contains xp = c at *
  have hin := ind_strs xn
  cases b
  · cases c
    · rw [if_neg (by simp)] at hw
      repeat' (first | refine W_seq ?_ | refine W_skip ?_ | refine W_block ?_ | refine W_exit ?_ | refine pick_pos rfl ?_ | refine pick_neg rfl ?_ | ((first | refine W_regP fun K hK => ?_ | refine W_regPD fun K hK => ?_ | refine W_ret ?_ | with_reducible refine callQ (cp) ?_ | with_reducible refine callQ (cc) ?_ | with_reducible refine callQ (hct) ?_); simp [Fin, ha, limit, rToken_app]) | (with_reducible refine hK _ ?_; clear hK K) | (with_reducible refine goL_split (fun h => ?_) (fun h => ?_) <;> first | (exfalso; simp at h; first | done | omega | contradiction) | ((try simp at h); simp [ha, limit, rToken_app])) | with_reducible refine And.intro ?_ ?_ | with_reducible exact okay_rfl rfl | with_reducible assumption | (refine W_cond rfl (fun h => ?_) (fun h => ?_) <;> first | (exfalso; simp at h; first | done | omega | contradiction) | (exfalso; simp_all; done) | (try simp at h)) | omega)
      refine ⟨a.length - (i + 1), by omega, i + 1, rfl, hlt, 0, ?_⟩
      rw [hw]
      simp [gc, closeN, liveA, gcV, gcO, renA, renAs, renO, namesAs, namesA, namesO, posn, ints_len, rToken]
      exact wrap_id (by omega) (by omega)
    · rw [if_pos (by simp)] at hw
      refine u_37 ha (Z2 cp cc) ?_
      refine ⟨a.length - (i + 1), by omega, i + 1, rfl, hlt, 0, ?_⟩
      rw [hw]
      refine u_38 ?_
      exact wrap_id (by omega) (by omega)
  · rw [if_pos (by simp)] at hw
    refine u_37 ha (Z1 cp) ?_
    refine ⟨a.length - (i + 1), by omega, i + 1, rfl, hlt, 0, ?_⟩
    rw [hw]
    refine u_38 ?_
    exact wrap_id (by omega) (by omega)
def goneT (f : GForest) (id : Int) : List Int := if forestB f then (wo (fun t => decide (t.fId = id)) f.fTokens).2 else []
theorem goneT_len (f : GForest) (id : Int) : (goneT f id).length ≤ f.fTokens.length := by
  unfold goneT
  split
  · have := wo_len (fun t => decide (t.fId = id)) f.fTokens; omega
  · simp
theorem world_forest {w : GWorld} (h : worldB w = true) : forestB w.fForest = true := by
  unfold worldB at h; simp only [Bool.and_eq_true] at h; exact h.1.1.1.1.1.1.2
theorem world_book {w : GWorld} (h : worldB w = true) : bookB w.fBook = true := by
  unfold worldB at h; simp only [Bool.and_eq_true] at h; exact h.1.1.1.1.1.2
theorem rToken_succ {a : List GToken} {i : Nat} {x : GToken} (h : a[i]? = some x) : rToken (a.take (i + 1)) = rToken (a.take i) ++ [x.row] := by
  rw [List.take_add_one, h, rToken_app]; rfl
theorem rToken_take_len (a : List GToken) (i : Nat) : (rToken (a.take i)).length ≤ i := by rw [rToken_len, List.length_take]; omega
theorem ind_rLease (l : List GLease) : ∀ row, row ∈ rLease l → ∀ d, d ∈ row → IndD 0 d := by
  intro row h d hd
  simp only [rLease, List.mem_map] at h
  obtain ⟨x, _, rfl⟩ := h
  simp only [GLease.row, List.mem_cons, List.not_mem_nil, or_false] at hd
  rcases hd with rfl | rfl | rfl | rfl | rfl | rfl <;> trivial
theorem ind_rUser (l : List GUser) : ∀ row, row ∈ rUser l → ∀ d, d ∈ row → IndD 0 d := by
  intro row h d hd
  simp only [rUser, List.mem_map] at h
  obtain ⟨x, _, rfl⟩ := h
  simp only [GUser.row, List.mem_cons, List.not_mem_nil, or_false] at hd
  rcases hd with rfl | rfl <;> trivial
theorem ind_rJob (l : List GJob) : ∀ row, row ∈ rJob l → ∀ d, d ∈ row → IndD 0 d := by
  intro row h d hd
  simp only [rJob, List.mem_map] at h
  obtain ⟨x, _, rfl⟩ := h
  simp only [GJob.row, List.mem_cons, List.not_mem_nil, or_false] at hd
  rcases hd with rfl | rfl | rfl <;> trivial
theorem ind_rOwned (l : List GOwned) : ∀ row, row ∈ rOwned l → ∀ d, d ∈ row → IndD 0 d := by
  intro row h d hd
  simp only [rOwned, List.mem_map] at h
  obtain ⟨x, _, rfl⟩ := h
  simp only [GOwned.row, List.mem_cons, List.not_mem_nil, or_false] at hd
  rcases hd with rfl | rfl <;> trivial
theorem strsD_take_len (a : List (List UInt8)) (i : Nat) : (strsD (a.take i)).length ≤ i := by rw [strsD_len, List.length_take]; omega
theorem s_l08Texts_ok (a : List (List UInt8)) (hl : a.length ≤ 1048576) : Valid PP GG 81 [.d (.slc 1 (strsD a))] (.own 0 1 (strsD a)) [none] := by
  refine cv Tryz.func81 [.own 0 1 (strsD a)] ?_
  refine u_40 ?_
  refine W_loop (fun n st => ∃ i : Nat, n = a.length - i ∧ i ≤ a.length ∧
    st = ⟨[], [(0, .d (.slc 1 (strsD a))), (3, .sl 0), (4, .d (.int .i64 i))], [(0, .arr 0 0 1 (strsD (a.take i)))], 1⟩) _ ⟨0, rfl, by omega, ?_⟩ ?_
  · simp [gc, closeN, liveA, gcV, gcO, renA, renAs, renO, namesAs, namesA, namesO, posn, strsD]
  rintro n st ⟨i, rfl, hi, rfl⟩
  by_cases hlt : i < a.length
  rotate_left
  · have hie : i = a.length := by omega
    subst hie
    rw [List.take_length]
    exact u_39
  have ha := List.getElem?_eq_getElem hlt
  generalize a[i] = x at ha
  have hsc := strsD_succ ha
  have hlen := strsD_take_len a i
  generalize strsD (a.take i) = L at *
  repeat' (first | refine W_seq ?_ | refine W_skip ?_ | refine W_block ?_ | refine W_exit ?_ | refine pick_pos rfl ?_ | refine pick_neg rfl ?_ | ((first | refine W_regP fun K hK => ?_ | refine W_regPD fun K hK => ?_ | refine W_ret ?_); simp [Fin, ha, strs_get, limit, strsD_len]) | (with_reducible refine hK _ ?_; clear hK K) | (with_reducible refine goL_split (fun h => ?_) (fun h => ?_) <;> first | (exfalso; simp at h; first | done | omega | contradiction) | ((try simp at h); simp [ha, strs_get, limit, strsD_len])) | with_reducible refine And.intro ?_ ?_ | with_reducible exact okay_rfl rfl | with_reducible assumption | (refine W_cond rfl (fun h => ?_) (fun h => ?_) <;> first | (exfalso; simp at h; first | done | omega | contradiction) | (exfalso; simp_all; done) | (try simp at h)) | omega)
  refine ⟨a.length - (i + 1), by omega, i + 1, rfl, hlt, ?_⟩
  rw [hsc]
  refine u_19 ?_
  exact wrap_id (by omega) (by omega)
theorem s_l08CopyToken_ok (t : GToken) (ht : fitT t) : Valid PP GG 38 [.agg t.c] (.agg t.o) [none] := by
  refine cv Tryz.func38 [.agg t.o] ?_
  have cc := s_l08Texts_ok (GG := GG) t.fNames ht.1
  exact u_26 (Z1 cc)
theorem cloneForest_ok (a : List GToken) (hf : fitF ⟨a⟩) : Valid PP GG 62 [.agg (GForest.mk a).c] (.agg (GForest.mk a).o) [none] := by
  refine cv Tryz.func62 [.agg (GForest.mk a).o] ?_
  have hla : a.length ≤ 1048576 := hf.1
  refine u_1 ?_
  refine u_1 ?_
  refine W_nilP 3 0 rfl rfl rfl ?_
  refine u_23 ?_
  refine W_loop (fun n st => ∃ i : Nat, n = a.length - i ∧ i ≤ a.length ∧
    st = ⟨[], [(2, .ptr 0 0), (3, .ptr 1 0), (7, .d (.slc 7 (rToken a))), (8, .d (.int .i64 a.length)), (9, .d (.int .i64 i))], [(0, .box [.nil 1 7]), (1, .box [.sl 2]), (2, .arr 0 1 7 (rToken (a.take i)))], 3⟩) _ ⟨0, rfl, by omega, ?_⟩ ?_
  · simp [gc, closeN, liveA, gcV, gcO, renA, renAs, renO, namesAs, namesA, namesO, posn, rToken]
  rintro n st ⟨i, rfl, hi, rfl⟩
  by_cases hlt : i < a.length
  rotate_left
  · have hie : i = a.length := by omega
    subst hie
    rw [List.take_length]
    exact u_21
  have ha := List.getElem?_eq_getElem hlt
  have hm := List.getElem_mem hlt
  generalize a[i] = x at ha hm
  have hsc := rToken_succ ha
  have hlen := rToken_take_len a i
  have hir := ind_rToken (a.take i)
  have ct := cloneToken_ok (GG := GG) x (hf.2 x hm)
  generalize rToken (a.take i) = L at *
  refine u_42 ha (Z1 ct) ?_
  refine ⟨a.length - (i + 1), by omega, i + 1, rfl, hlt, ?_⟩
  rw [hsc]
  refine u_19 ?_
  exact wrap_id (by omega) (by omega)
theorem cloneBook_ok (a : List GLease) (hla : a.length ≤ 1048577) : Valid PP GG 73 [.agg (GBook.mk a).c] (.agg (GBook.mk a).o) [none] := by
  refine cv Tryz.func73 [.agg (GBook.mk a).o] ?_
  have cc := CloneLease_ok (GG := GG) a (by omega)
  exact u_26 (Z1 cc)
theorem cloneQueue_ok (a : List GJob) (hla : a.length ≤ 1048577) : Valid PP GG 75 [.agg (GQueue.mk a).c] (.agg (GQueue.mk a).o) [none] := by
  refine cv Tryz.func75 [.agg (GQueue.mk a).o] ?_
  have cc := CloneJob_ok (GG := GG) a (by omega)
  exact u_26 (Z1 cc)
theorem cloneFar_ok (a : List GUser) (ff fm : Int) (hla : a.length ≤ 1048577) : Valid PP GG 74 [.agg (GFar.mk a ff fm).c] (.agg (GFar.mk a ff fm).o) [none] := by
  refine cv Tryz.func74 [.agg (GFar.mk a ff fm).o] ?_
  have cc := CloneUser_ok (GG := GG) a (by omega)
  exact u_26 (Z1 cc)
theorem cloneWorld_ok (w : GWorld) (hf : fitW w) : Valid PP GG 35 [.agg w.c] (.agg w.o) [none] := by
  refine cv Tryz.func35 [.agg w.o] ?_
  obtain ⟨now, next, lost, ⟨tk⟩, ⟨ls⟩, ⟨us, ff, fm⟩, ⟨js⟩, a⟩ := w
  obtain ⟨hf1, hf2, hf3, hf4, hol, hon⟩ := hf
  dsimp only at hf1 hf2 hf3 hf4 hol
  have c1 := cloneForest_ok (GG := GG) tk hf1
  have c2 := cloneBook_ok (GG := GG) ls (by have := hf2.1; dsimp only at this; omega)
  have c3 := cloneFar_ok (GG := GG) us ff fm (by have := hf3.1; dsimp only at this; omega)
  have c4 := cloneQueue_ok (GG := GG) js (by have := hf4.1; dsimp only at this; omega)
  have c5 := CloneOwned_ok (GG := GG) a (by omega)
  have hi1 := ind_rToken tk
  have hi2 := ind_rLease ls
  have hi3 := ind_rUser us
  have hi4 := ind_rJob js
  have hi5 := ind_rOwned a
  exact u_26 (Z5 c1 c2 c3 c4 c5)
def zTok : GToken := ⟨0, 0, [], 0, 0, 0, 0⟩
def findT (f : GForest) (id : Int) : GToken := if forestB f then (f.fTokens.find? fun t => decide (t.fId = id)).getD zTok else zTok
def overB (e now : Int) : Bool := !decide (e = 0) && decide (e ≤ now)
theorem idxF_find {α : Type} {p : α → Bool} {l : List α} (h : l.any p = true) : ∃ (k : Nat) (t : α), idxF p l = k ∧ l[k]? = some t ∧ p t = true ∧ l.find? p = some t := by
  unfold idxF
  cases hf : l.findIdx? p with
  | none =>
    rw [List.findIdx?_eq_none_iff] at hf
    rw [List.any_eq_true] at h
    obtain ⟨x, hx, hp⟩ := h
    rw [hf x hx] at hp; cases hp
  | some i =>
    rw [List.findIdx?_eq_some_iff_getElem] at hf
    obtain ⟨h1, h2, h3⟩ := hf
    refine ⟨i, _, rfl, List.getElem?_eq_getElem h1, h2, ?_⟩
    rw [List.find?_eq_some_iff_getElem]
    exact ⟨h2, i, h1, rfl, fun j hj => by simpa using h3 j hj⟩
theorem isOver_ok (e now : Int) : Valid PP GG 78 [.d (.int .i64 e), .d (.int .i64 now)] (.d (.bool (overB e now))) [none, none] := by
  refine cv Tryz.func78 [.d (.bool (overB e now))] ?_
  have hr : overB e now = (!decide (e = 0) && decide (e ≤ now)) := rfl
  have q : (e != 0) = !decide (e = 0) := rfl
  generalize overB e now = r at *
  cases h0 : decide (e = 0)
  · rw [h0] at hr q
    simp only [Bool.not_false, Bool.true_and] at hr q
    subst hr
    exact u_14 q
  · rw [h0] at hr q
    simp only [Bool.not_true, Bool.false_and] at hr q
    subst hr
    exact u_14 q
theorem s_FindToken_ok [MaxL GG] (f : GForest) (id : Int) (hf : fitF f) : Valid PP GG 10 [.agg f.c, .d (.int .i64 id)] (.tup [.agg (findT f id).o, .d (.bool (forestB f && hasTok f id))]) [none, none] := by
  refine cv Tryz.func10 [.agg (findT f id).o, .d (.bool (forestB f && hasTok f id))] ?_
  have cf := s_ForestOk_ok (GG := GG) f hf
  have cat := s_l08At_ok (GG := GG) f id hf.1
  have hno : decide (idxF (fun t => decide (t.fId = id)) f.fTokens < 0) = !hasTok f id := idxF_none _ _
  have hF : findT f id = if forestB f then (f.fTokens.find? fun t => decide (t.fId = id)).getD zTok else zTok := rfl
  have hfi := fun (h : hasTok f id = true) => idxF_find (p := fun t : GToken => decide (t.fId = id)) (l := f.fTokens) h
  have hft := hf.2
  obtain ⟨a⟩ := f
  dsimp only at cf cat hno hF hfi hft
  generalize findT ⟨a⟩ id = F at *
  generalize hasTok ⟨a⟩ id = H at *
  generalize forestB ⟨a⟩ = B at *
  cases B
  · simp only [Bool.false_eq_true, if_false] at hF
    subst hF
    repeat' (first | refine W_seq ?_ | refine W_skip ?_ | refine W_block ?_ | refine W_exit ?_ | refine pick_pos rfl ?_ | refine pick_neg rfl ?_ | ((first | refine W_regP fun K hK => ?_ | refine W_regPD fun K hK => ?_ | refine W_ret ?_ | with_reducible refine callQ (cf) ?_); simp [Fin, zTok, strsD]) | (with_reducible refine hK _ ?_; clear hK K) | (with_reducible refine goL_split (fun h => ?_) (fun h => ?_) <;> first | (exfalso; simp at h; first | done | omega | contradiction) | ((try simp at h); simp [zTok, strsD])) | with_reducible refine And.intro ?_ ?_ | with_reducible exact okay_rfl rfl | with_reducible assumption | (refine W_cond rfl (fun h => ?_) (fun h => ?_) <;> first | (exfalso; simp at h; first | done | omega | contradiction) | (exfalso; simp_all; done) | (try simp at h)) | omega)
  simp only [if_true] at hF
  cases H
  · simp only [Bool.not_false] at hno
    have hn : a.find? (fun t => decide (t.fId = id)) = none := by
      rw [List.find?_eq_none]
      have h2 := idxF_none (fun t : GToken => decide (t.fId = id)) a
      rw [hno] at h2
      intro x hx hp
      have : a.any (fun t => decide (t.fId = id)) = true := List.any_eq_true.2 ⟨x, hx, hp⟩
      rw [this] at h2; cases h2
    rw [hn] at hF
    simp only [Option.getD_none] at hF
    subst hF
    repeat' (first | refine W_seq ?_ | refine W_skip ?_ | refine W_block ?_ | refine W_exit ?_ | refine pick_pos rfl ?_ | refine pick_neg rfl ?_ | ((first | refine W_regP fun K hK => ?_ | refine W_regPD fun K hK => ?_ | refine W_ret ?_ | with_reducible refine callQ (cf) ?_ | with_reducible refine callQ (cat) ?_); simp [Fin, zTok, strsD, hno]) | (with_reducible refine hK _ ?_; clear hK K) | (with_reducible refine goL_split (fun h => ?_) (fun h => ?_) <;> first | (exfalso; simp at h; first | done | omega | contradiction) | ((try simp at h); simp [zTok, strsD, hno])) | with_reducible refine And.intro ?_ ?_ | with_reducible exact okay_rfl rfl | with_reducible assumption | (refine W_cond rfl (fun h => ?_) (fun h => ?_) <;> first | (exfalso; simp at h; first | done | omega | contradiction) | (exfalso; simp_all; done) | (try simp at h)) | omega)
  · obtain ⟨k, t, hk, ht, _, hfd⟩ := hfi rfl
    rw [hfd] at hF
    simp only [Option.getD_some] at hF
    simp only [Bool.not_true] at hno
    rw [hk] at cat hno
    have hkl := (List.getElem?_eq_some_iff.1 ht).1
    have cc := s_l08CopyToken_ok (GG := GG) t (hft t (List.mem_of_getElem? ht))
    subst hF
    exact u_24 ht (Z3 cf cat cc)
def addL (b : GBook) (l : GLease) : Bool := bookB b && bookB ⟨b.fLeases ++ [l]⟩
def addBk (b : GBook) (l : GLease) : GBook := if addL b l then ⟨b.fLeases ++ [l]⟩ else b
theorem fitB_app {b : GBook} {l : GLease} (h : bookB b = true) (hf : fitB b) (hl : l.fPath.length ≤ 1048576) : fitB ⟨b.fLeases ++ [l]⟩ := by
  unfold bookB at h
  simp only [Bool.and_eq_true, decide_eq_true_eq] at h
  refine ⟨by simp; omega, fun t ht => ?_⟩
  rcases List.mem_append.1 ht with ht | ht
  · exact hf.2 t ht
  · simp at ht; subst ht; exact hl
theorem addLease_ok [MaxL GG] (b : GBook) (l : GLease) (hf : fitB b) (hl : l.fPath.length ≤ 1048576) (hb : bookB b = true) : Valid PP GG 119 [.agg b.c, .agg l.c] (.tup [.agg (addBk b l).o, .d (.bool (addL b l))]) [none, none] := by
  refine cv Tryz.func119 [.agg (addBk b l).o, .d (.bool (addL b l))] ?_
  have co := isBook_ok (GG := GG) ⟨b.fLeases ++ [l]⟩ (fitB_app hb hf hl)
  have ccp := cloneBook_ok (GG := GG) b.fLeases (by have := hf.1; omega)
  have hA : addL b l = (bookB b && bookB ⟨b.fLeases ++ [l]⟩) := rfl
  have hB : addBk b l = if addL b l then ⟨b.fLeases ++ [l]⟩ else b := rfl
  have hbl := hf.1
  rw [hb, Bool.true_and] at hA
  obtain ⟨a⟩ := b
  dsimp only at co ccp hA hB hbl
  have hrl := rLease_app a [l]
  rw [show rLease [l] = [l.row] from rfl] at hrl
  have hi1 := ind_rLease a
  dsimp only [GBook.c] at co
  rw [← hA, hrl] at co
  generalize addL ⟨a⟩ l = AL at *
  generalize addBk ⟨a⟩ l = AB at *
  cases AL
  · simp only [Bool.false_eq_true, if_false] at hB
    subst hB
    exact u_43 (Z2 ccp co)
  · simp only [if_true] at hB
    subst hB
    exact u_41 hrl (Z2 ccp co)
def tokLive (w : GWorld) (tok : Int) : Bool := hasTok w.fForest tok && !overB (findT w.fForest tok).fEnds w.fNow
def newL (w : GWorld) (tok : Int) (path : List UInt8) (ttl limit : Int) : GLease := ⟨w.fNext, tok, path, w.fNow, w.fNow + ttl, w.fNow + limit⟩
def grantOk (w : GWorld) (tok ttl limit : Int) : Bool := tokLive w tok && !decide (w.fNext = 1000000000) && decide (limit ≤ 1000000000) && inB ttl 1 limit
def grantB (w : GWorld) (tok : Int) (path : List UInt8) (ttl limit : Int) : Bool := worldB w && grantOk w tok ttl limit && addL w.fBook (newL w tok path ttl limit)
def grantW (w : GWorld) (tok : Int) (path : List UInt8) (ttl limit : Int) : GWorld := if grantB w tok path ttl limit then { w with fBook := ⟨w.fBook.fLeases ++ [newL w tok path ttl limit]⟩, fNext := w.fNext + 1 } else w
def grantI (w : GWorld) (tok : Int) (path : List UInt8) (ttl limit : Int) : Int := if grantB w tok path ttl limit then w.fNext else 0
theorem world_nums {w : GWorld} (h : worldB w = true) : (0 ≤ w.fNow ∧ w.fNow ≤ 1000000000) ∧ (1 ≤ w.fNext ∧ w.fNext ≤ 1000000000) ∧ (0 ≤ w.fLost ∧ w.fLost ≤ 1000000000) := by
  unfold worldB at h
  simp only [Bool.and_eq_true] at h
  exact ⟨inB_true h.1.1.1.1.1.1.1.1.1, inB_true h.1.1.1.1.1.1.1.1.2, inB_true h.1.1.1.1.1.1.1.2⟩
theorem grantLease_ok [MaxL GG] (w : GWorld) (tok : Int) (path : List UInt8) (ttl limit : Int) (hf : fitW w) (hp : path.length ≤ 1048576) (hWB : worldB w = true) :
    Valid PP GG 64 [.agg w.c, .d (.int .i64 tok), .d (.str path), .d (.int .i64 ttl), .d (.int .i64 limit)] (.tup [.agg (grantW w tok path ttl limit).o, .d (.int .i64 (grantI w tok path ttl limit))]) [none, none, none, none, none] := by
  refine cv Tryz.func64 [.agg (grantW w tok path ttl limit).o, .d (.int .i64 (grantI w tok path ttl limit))] ?_
  have ccp := cloneWorld_ok (GG := GG) w hf
  have cft := tokenIndex_ok (GG := GG) w.fForest tok hf.1.1
  have hno : decide (idxF (fun t => decide (t.fId = tok)) w.fForest.fTokens < 0) = !hasTok w.fForest tok := idxF_none _ _
  have hfi := fun (h : hasTok w.fForest tok = true) => idxF_find (p := fun t : GToken => decide (t.fId = tok)) (l := w.fForest.fTokens) h
  have hFT : findT w.fForest tok = if forestB w.fForest then (w.fForest.fTokens.find? fun t => decide (t.fId = tok)).getD zTok else zTok := rfl
  have cin : Valid PP GG 34 [.d (.int .i64 ttl), .d (.int .i64 1), .d (.int .i64 limit)] (.d (.bool (inB ttl 1 limit))) [none, none, none] := within_ok _ _ _
  have cad := addLease_ok (GG := GG) w.fBook (newL w tok path ttl limit) hf.2.1 hp (world_book hWB)
  have hnum := world_nums hWB
  have hfb := world_forest hWB
  rw [if_pos hfb] at hFT
  have hB : grantB w tok path ttl limit = ((hasTok w.fForest tok && !overB (findT w.fForest tok).fEnds w.fNow && !decide (w.fNext = 1000000000) && decide (limit ≤ 1000000000) && inB ttl 1 limit) && addL w.fBook (newL w tok path ttl limit)) := by
    have : grantB w tok path ttl limit = (worldB w && (hasTok w.fForest tok && !overB (findT w.fForest tok).fEnds w.fNow && !decide (w.fNext = 1000000000) && decide (limit ≤ 1000000000) && inB ttl 1 limit) && addL w.fBook (newL w tok path ttl limit)) := rfl
    rw [this, hWB, Bool.true_and]
  have hW : grantW w tok path ttl limit = if grantB w tok path ttl limit then { w with fBook := ⟨w.fBook.fLeases ++ [newL w tok path ttl limit]⟩, fNext := w.fNext + 1 } else w := rfl
  have hI : grantI w tok path ttl limit = if grantB w tok path ttl limit then w.fNext else 0 := rfl
  have hAB : addBk w.fBook (newL w tok path ttl limit) = if addL w.fBook (newL w tok path ttl limit) then ⟨w.fBook.fLeases ++ [newL w tok path ttl limit]⟩ else w.fBook := rfl
  have hNL : newL w tok path ttl limit = ⟨w.fNext, tok, path, w.fNow, w.fNow + ttl, w.fNow + limit⟩ := rfl
  obtain ⟨now, next, lost, ⟨tk⟩, ⟨ls⟩, ⟨us, ff, fm⟩, ⟨js⟩, ow⟩ := w
  dsimp only at cft cad hnum hfb hB hW hI hAB hNL hno hfi hFT
  have hi1 := ind_rToken tk
  have hi2 := ind_rLease ls
  have hi3 := ind_rUser us
  have hi4 := ind_rJob js
  have hi5 := ind_rOwned ow
  generalize grantW ⟨now, next, lost, ⟨tk⟩, ⟨ls⟩, ⟨us, ff, fm⟩, ⟨js⟩, ow⟩ tok path ttl limit = GW at *
  generalize grantI ⟨now, next, lost, ⟨tk⟩, ⟨ls⟩, ⟨us, ff, fm⟩, ⟨js⟩, ow⟩ tok path ttl limit = GI at *
  generalize grantB ⟨now, next, lost, ⟨tk⟩, ⟨ls⟩, ⟨us, ff, fm⟩, ⟨js⟩, ow⟩ tok path ttl limit = GB at *
  generalize newL ⟨now, next, lost, ⟨tk⟩, ⟨ls⟩, ⟨us, ff, fm⟩, ⟨js⟩, ow⟩ tok path ttl limit = NL at *
  generalize hasTok ⟨tk⟩ tok = H at *
  cases H
  · simp only [Bool.false_and] at hB
    subst hB
    simp only [Bool.false_eq_true, if_false] at hW hI
    subst hW hI
    simp only [Bool.not_false] at hno
    exact u_24 hno (Z2 ccp cft)
  obtain ⟨k, t, hk, ht, _, hfd⟩ := hfi rfl
  rw [hfd] at hFT
  simp only [Option.getD_some] at hFT
  rw [hFT] at hB
  simp only [Bool.not_true] at hno
  rw [hk] at cft hno
  have hkl := (List.getElem?_eq_some_iff.1 ht).1
  clear hfi hfd hFT hk
  obtain ⟨t1, t2, t3, t4, t5, t6, t7⟩ := t
  dsimp only at hB
  have cov := isOver_ok (GG := GG) t5 now
  generalize overB t5 now = O at *
  simp only [Bool.true_and] at hB
  have hN : (next == 1000000000) = decide (next = 1000000000) := rfl
  have hM : decide (1000000000 < limit) = !decide (limit ≤ 1000000000) := by rw [← decide_not]; exact decide_eq_decide.2 (by omega)
  generalize decide (next = 1000000000) = N at *
  have hinl : inB ttl 1 limit = true → 1 ≤ ttl ∧ ttl ≤ limit := inB_true
  generalize inB ttl 1 limit = I at *
  cases O
  rotate_left
  · simp only [Bool.not_true, Bool.and_false, Bool.false_and] at hB
    subst hB
    simp only [Bool.false_eq_true, if_false] at hW hI
    subst hW hI
    exact u_24 ht (Z3 ccp cft cov)
  cases N
  rotate_left
  · simp only [Bool.not_true, Bool.and_false, Bool.false_and] at hB
    subst hB
    simp only [Bool.false_eq_true, if_false] at hW hI
    subst hW hI
    exact u_24 (Y2 ht hN) (Z3 ccp cft cov)
  cases I
  · simp only [Bool.and_false, Bool.false_and] at hB
    subst hB
    simp only [Bool.false_eq_true, if_false] at hW hI
    subst hW hI
    exact u_24 (Y2 ht hN) (Z4 ccp cft cov cin)
  have hinl := hinl rfl
  by_cases hml : limit ≤ 1000000000
  rotate_left
  · rw [decide_eq_false hml] at hB
    simp only [Bool.and_false, Bool.false_and] at hB
    subst hB
    simp only [Bool.false_eq_true, if_false] at hW hI
    subst hW hI
    have hlt : 1000000000 < limit := by omega
    exact u_24 (Y3 ht hN hlt) (Z4 ccp cft cov cin)
  have hnl : ¬ 1000000000 < limit := by omega
  rw [decide_eq_true hml] at hB
  simp only [Bool.not_false, Bool.and_true, Bool.true_and] at hB
  subst hB
  have hw1 : IntKind.i64.wrap (now + ttl) = now + ttl := wrap_id (by omega) (by omega)
  have hw2 : IntKind.i64.wrap (now + limit) = now + limit := wrap_id (by omega) (by omega)
  have hw3 : IntKind.i64.wrap (next + 1) = next + 1 := wrap_id (by omega) (by omega)
  subst hNL
  generalize addBk ⟨ls⟩ ⟨next, tok, path, now, now + ttl, now + limit⟩ = AB at *
  obtain ⟨ab⟩ := AB
  have hi6 := ind_rLease ab
  cases hAL : addL ⟨ls⟩ ⟨next, tok, path, now, now + ttl, now + limit⟩ with
  | false =>
    rw [hAL] at hAB hW hI cad
    simp only [Bool.false_eq_true, if_false] at hAB hW hI
    cases hAB
    subst hW hI
    exact u_24 (Y5 ht hN hnl hw1 hw2) (Z5 ccp cft cov cin cad)
  | true =>
    rw [hAL] at hAB hW hI cad
    simp only [if_true] at hAB hW hI
    cases hAB
    subst hW hI
    exact u_24 (Y6 ht hN hnl hw1 hw2 hw3) (Z5 ccp cft cov cin cad)
theorem i_GrantLease_ok [MaxL GG] (w : GWorld) (tok : Int) (path : List UInt8) (ttl limit : Int) (hf : fitW w) (hp : path.length ≤ 1048576) :
    Valid PP GG 22 [.agg w.c, .d (.int .i64 tok), .d (.str path), .d (.int .i64 ttl), .d (.int .i64 limit)] (.tup [.agg (grantW w tok path ttl limit).o, .d (.int .i64 (grantI w tok path ttl limit))]) [none, none, none, none, none] := by
  refine cv Tryz.func22 [.agg (grantW w tok path ttl limit).o, .d (.int .i64 (grantI w tok path ttl limit))] ?_
  have cw := isWorld_ok (GG := GG) w hf
  have ccp := cloneWorld_ok (GG := GG) w hf
  have cg := fun h => grantLease_ok (GG := GG) w tok path ttl limit hf hp h
  cases hWB : worldB w with
  | false =>
    rw [hWB] at cw
    have hB : grantB w tok path ttl limit = false := by unfold grantB; rw [hWB]; rfl
    have hW : grantW w tok path ttl limit = w := by unfold grantW; rw [hB]; rfl
    have hI : grantI w tok path ttl limit = 0 := by unfold grantI; rw [hB]; rfl
    rw [hW, hI]
    clear hW hI hB cg hWB
    have hi1 := ind_rToken w.fForest.fTokens
    have hi2 := ind_rLease w.fBook.fLeases
    have hi3 := ind_rUser w.fFar.fUsers
    have hi4 := ind_rJob w.fQueue.fJobs
    have hi5 := ind_rOwned w.fOwned
    exact u_26 (Z2 cw ccp)
  | true =>
    rw [hWB] at cw
    have cg := cg hWB
    generalize grantW w tok path ttl limit = v at *
    generalize grantI w tok path ttl limit = j at *
    have hi1 := ind_rToken v.fForest.fTokens
    have hi2 := ind_rLease v.fBook.fLeases
    have hi3 := ind_rUser v.fFar.fUsers
    have hi4 := ind_rJob v.fQueue.fJobs
    have hi5 := ind_rOwned v.fOwned
    exact u_26 (Z2 cw cg)
theorem bl_irrefl (a : List UInt8) : Go.Op.bytesLess a a = false := by
  induction a with
  | nil => rfl
  | cons x a ih => simp [Go.Op.bytesLess, ih]
theorem bl_trans {a b c : List UInt8} : Go.Op.bytesLess a b = true → Go.Op.bytesLess b c = true → Go.Op.bytesLess a c = true := by
  induction a generalizing b c with
  | nil =>
    intro h1 h2
    cases b with
    | nil => simp [Go.Op.bytesLess] at h1
    | cons y b =>
      cases c with
      | nil => simp [Go.Op.bytesLess] at h2
      | cons z c => rfl
  | cons x a ih =>
    intro h1 h2
    cases b with
    | nil => simp [Go.Op.bytesLess] at h1
    | cons y b =>
      cases c with
      | nil => simp [Go.Op.bytesLess] at h2
      | cons z c =>
        simp only [Go.Op.bytesLess, Bool.or_eq_true, decide_eq_true_eq, Bool.and_eq_true, beq_iff_eq] at h1 h2 ⊢
        rcases h1 with h1 | ⟨rfl, h1⟩
        · rcases h2 with h2 | ⟨rfl, h2⟩
          · exact .inl (UInt8.lt_trans h1 h2)
          · exact .inl h1
        · rcases h2 with h2 | ⟨rfl, h2⟩
          · exact .inl h2
          · exact .inr ⟨rfl, ih h1 h2⟩
theorem bl_total {a b : List UInt8} (h : a ≠ b) : Go.Op.bytesLess a b = true ∨ Go.Op.bytesLess b a = true := by
  induction a generalizing b with
  | nil =>
    cases b with
    | nil => exact absurd rfl h
    | cons y b => exact .inl rfl
  | cons x a ih =>
    cases b with
    | nil => exact .inr rfl
    | cons y b =>
      simp only [Go.Op.bytesLess, Bool.or_eq_true, decide_eq_true_eq, Bool.and_eq_true, beq_iff_eq]
      by_cases hxy : x = y
      · subst hxy
        rcases ih (b := b) (fun e => h (by rw [e])) with h1 | h1
        · exact .inl (.inr ⟨rfl, h1⟩)
        · exact .inr (.inr ⟨rfl, h1⟩)
      · have hn : x.toNat ≠ y.toNat := fun e => hxy (UInt8.toNat_inj.1 e)
        rcases Nat.lt_or_gt_of_ne hn with h1 | h1
        · exact .inl (.inl (UInt8.lt_iff_toNat_lt.2 h1))
        · exact .inr (.inl (UInt8.lt_iff_toNat_lt.2 h1))
theorem bl_asymm {a b : List UInt8} (h : Go.Op.bytesLess a b = true) : Go.Op.bytesLess b a = false := by
  cases h2 : Go.Op.bytesLess b a with
  | false => rfl
  | true => have := bl_trans h h2; rw [bl_irrefl] at this; cases this
theorem cmp_cases (a b : List UInt8) : (Go.Op.bytesLess a b = true ∧ Lib.compareBytes a b = -1) ∨ (a = b ∧ Lib.compareBytes a b = 0) ∨ (Go.Op.bytesLess b a = true ∧ Lib.compareBytes a b = 1) := by
  induction a generalizing b with
  | nil =>
    cases b with
    | nil => exact .inr (.inl ⟨rfl, rfl⟩)
    | cons y b => exact .inl ⟨rfl, rfl⟩
  | cons x a ih =>
    cases b with
    | nil => exact .inr (.inr ⟨rfl, rfl⟩)
    | cons y b =>
      unfold Lib.compareBytes
      simp only [Go.Op.bytesLess, Bool.or_eq_true, decide_eq_true_eq, Bool.and_eq_true, beq_iff_eq]
      by_cases h1 : x < y
      · rw [if_pos h1]; exact .inl ⟨.inl h1, rfl⟩
      · rw [if_neg h1]
        by_cases h2 : y < x
        · rw [if_pos h2]; exact .inr (.inr ⟨.inl h2, rfl⟩)
        · rw [if_neg h2]
          have e : x = y := by
            have h1 : ¬ x.toNat < y.toNat := fun h => h1 (UInt8.lt_iff_toNat_lt.2 h)
            have h2 : ¬ y.toNat < x.toNat := fun h => h2 (UInt8.lt_iff_toNat_lt.2 h)
            exact UInt8.toNat_inj.1 (by omega)
          subst e
          rcases ih b with ⟨h3, h4⟩ | ⟨rfl, h4⟩ | ⟨h3, h4⟩
          · exact .inl ⟨.inr ⟨rfl, h3⟩, h4⟩
          · exact .inr (.inl ⟨rfl, h4⟩)
          · exact .inr (.inr ⟨.inr ⟨rfl, h3⟩, h4⟩)
theorem cmp_neg (a b : List UInt8) : decide (Lib.compareBytes a b < 0) = Go.Op.bytesLess a b := by
  rcases cmp_cases a b with ⟨h1, h2⟩ | ⟨rfl, h2⟩ | ⟨h1, h2⟩
  · rw [h2, h1]; rfl
  · rw [h2, bl_irrefl]; rfl
  · rw [h2, bl_asymm h1]; rfl
theorem cmp_zero (a b : List UInt8) : (Lib.compareBytes a b == 0) = (a == b) := by
  rcases cmp_cases a b with ⟨h1, h2⟩ | ⟨rfl, h2⟩ | ⟨h1, h2⟩
  · rw [h2]; symm; rw [show ((-1 : Int) == 0) = false from rfl, beq_eq_false_iff_ne]; rintro rfl; rw [bl_irrefl] at h1; cases h1
  · rw [h2]; simp
  · rw [h2]; symm; rw [show ((1 : Int) == 0) = false from rfl, beq_eq_false_iff_ne]; rintro rfl; rw [bl_irrefl] at h1; cases h1
theorem Compare_ok (a b : List UInt8) : Valid PP GG 170 [.d (.str a), .d (.str b)] (.d (.int .i64 (Lib.compareBytes a b))) [none, none] := by
  refine lib_new [.str a, .str b] ⟨Tryz.f170, Tryz.func170, by kernel_rfl, by kernel_rfl⟩ fun w Fz args hG hFz hl hA => ?_
  have e : args = #[.string ⟨a.toArray⟩, .string ⟨b.toArray⟩] := by
    refine args_eq (l := [.string ⟨a.toArray⟩, .string ⟨b.toArray⟩]) hl fun i v hv => ?_
    match i, hv with
    | 0, hv => cases hv; exact shr_str (hA 0 _ rfl)
    | 1, hv => cases hv; exact shr_str (hA 1 _ rfl)
  subst e
  refine (Go.Proofs.YtoomonfpedjgoaaGreatDoor.Tryz.strings_Compare ⟨a.toArray⟩ ⟨b.toArray⟩ w).mono ?_
  rintro e w' ⟨rfl, rfl⟩
  exact ⟨_, Fz, fun _ _ => False, rfl, ⟨rfl, rfl⟩, Nat.le_refl _, fun _ _ => rfl, fun _ _ h => h, fun b o h => ⟨.inl h, hFz b o h⟩, .d _ _ _ (.int _ _) fun _ _ h => h, fun _ _ h => h.elim⟩
def lessN {α : Type} (key : α → List UInt8) (s : List UInt8) (l : List α) : Nat := (l.filter fun x => Go.Op.bytesLess (key x) s).length
theorem lessN_eq {α : Type} {key : α → List UInt8} {s : List UInt8} {l : List α} {i : Nat} (hi : i ≤ l.length) (h1 : ∀ (m : Nat) x, m < i → l[m]? = some x → Go.Op.bytesLess (key x) s = true) (h2 : ∀ (m : Nat) x, i ≤ m → l[m]? = some x → Go.Op.bytesLess (key x) s = false) : lessN key s l = i := by
  unfold lessN
  conv => lhs; rw [← List.take_append_drop i l, List.filter_append, List.length_append]
  have e1 : (l.take i).filter (fun x => Go.Op.bytesLess (key x) s) = l.take i := by
    rw [List.filter_eq_self]
    intro x hx
    obtain ⟨m, hm⟩ := List.getElem?_of_mem hx
    have hml := (List.getElem?_eq_some_iff.1 hm).1
    rw [List.length_take] at hml
    rw [List.getElem?_take_of_lt (by omega)] at hm
    exact h1 m x (by omega) hm
  have e2 : (l.drop i).filter (fun x => Go.Op.bytesLess (key x) s) = [] := by
    rw [List.filter_eq_nil_iff]
    intro x hx
    obtain ⟨m, hm⟩ := List.getElem?_of_mem hx
    rw [List.getElem?_drop] at hm
    rw [h2 (i + m) x (by omega) hm]; simp
  rw [e1, e2, List.length_take]
  simp; omega
theorem far_inc {f : GFar} (h : farB f = true) : f.fUsers.Pairwise (fun y x => Go.Op.bytesLess y.fName x.fName = true) := by
  unfold farB at h
  simp only [Bool.and_eq_true] at h
  have h := h.2
  have hs : ∀ (i : Nat) x y, f.fUsers[i]? = some y → f.fUsers[i + 1]? = some x → Go.Op.bytesLess y.fName x.fName = true := by
    intro i x y hy hx
    have := okP_get h hx
    unfold farQ at this
    rw [Bool.and_eq_true, adj_succ _ hy] at this
    exact this.2
  rw [List.pairwise_iff_getElem]
  intro i j hi hj hij
  obtain ⟨d, rfl⟩ : ∃ d, j = i + 1 + d := ⟨j - i - 1, by omega⟩
  induction d with
  | zero => exact hs i _ _ (List.getElem?_eq_getElem hi) (List.getElem?_eq_getElem hj)
  | succ d ih =>
    have h1 := ih (by omega) (by omega)
    have h2 := hs (i + 1 + d) _ _ (List.getElem?_eq_getElem (show i + 1 + d < f.fUsers.length by omega)) (List.getElem?_eq_getElem hj)
    exact bl_trans h1 h2
theorem pw_get {α : Type} {R : α → α → Prop} {l : List α} (h : l.Pairwise R) {i j : Nat} {x y : α} (hij : i < j) (hx : l[i]? = some x) (hy : l[j]? = some y) : R x y := by
  rw [List.pairwise_iff_getElem] at h
  obtain ⟨h1, rfl⟩ := List.getElem?_eq_some_iff.1 hx
  obtain ⟨h2, rfl⟩ := List.getElem?_eq_some_iff.1 hy
  exact h i j h1 h2 hij
theorem mid_int {i j : Nat} (hij : i + j ≤ 9223372036854775807) : IntKind.i64.wrap ((IntKind.u64.wrap (IntKind.i64.wrap ((i : Int) + (j : Int)))).fdiv 2) = (((i + j) / 2 : Nat) : Int) := by
  have e1 : IntKind.i64.wrap ((i : Int) + (j : Int)) = ((i + j : Nat) : Int) := by rw [wrap_id (by omega) (by omega)]; omega
  have e2 : IntKind.u64.wrap ((i + j : Nat) : Int) = ((i + j : Nat) : Int) := by rw [IntKind.wrap_u64]; omega
  rw [e1, e2, Int.fdiv_eq_ediv_of_nonneg _ (by omega), wrap_id (by omega) (by omega)]
  omega
theorem userIndex_c1_ok (u : GUser) (s : List UInt8) : Valid PP GG 169 [.agg u.c, .d (.str s)] (.d (.int .i64 (Lib.compareBytes u.fName s))) [none, none] := by
  refine cv Tryz.func169 [.d (.int .i64 (Lib.compareBytes u.fName s))] ?_
  have cc := Compare_ok (GG := GG) u.fName s
  exact u_26 (Z1 cc)
theorem SearchUser_ok (a : List GUser) (s : List UInt8) (hl : a.length ≤ 1048576) (hs : a.Pairwise (fun y x => Go.Op.bytesLess y.fName x.fName = true)) :
    Valid PP GG 168 [.d (.slc 2 (rUser a)), .d (.str s), .d (.fn 169 [])] (.tup [.d (.int .i64 (lessN GUser.fName s a)), .d (.bool (a.any fun u => u.fName == s))]) [none, none, none] := by
  refine cv Tryz.func168 [.d (.int .i64 (lessN GUser.fName s a)), .d (.bool (a.any fun u => u.fName == s))] ?_
  refine u_23 ?_
  refine W_loop (fun n st => ∃ i j : Nat, n = j - i ∧ i ≤ j ∧ j ≤ a.length ∧ (∀ (m : Nat) x, m < i → a[m]? = some x → Go.Op.bytesLess x.fName s = true) ∧ (∀ (m : Nat) x, j ≤ m → a[m]? = some x → Go.Op.bytesLess x.fName s = false) ∧
    st = ⟨[], [(0, .d (.slc 2 (rUser a))), (1, .d (.str s)), (2, .d (.fn 169 [])), (8, .d (.int .i64 a.length)), (9, .d (.int .i64 i)), (10, .d (.int .i64 j))], [], 0⟩) _ ⟨0, a.length, rfl, by omega, Nat.le_refl _, fun m x h => by omega, fun m x h h2 => (by rw [List.getElem?_eq_none h] at h2; cases h2), ?_⟩ ?_
  · exact u_16
  rintro n st ⟨i, j, rfl, hij, hj, h1, h2, rfl⟩
  by_cases hlt : i < j
  · have hm := mid_int (i := i) (j := j) (by omega)
    obtain ⟨md, hh⟩ : ∃ md, (i + j) / 2 = md := ⟨_, rfl⟩
    rw [hh] at hm
    have hmx := List.getElem?_eq_getElem (show md < a.length by omega)
    generalize a[md]'_ = x at hmx
    have cc := userIndex_c1_ok (GG := GG) x s
    have hcn := cmp_neg x.fName s
    cases hb : Go.Op.bytesLess x.fName s with
    | true =>
      rw [hb] at hcn
      have hw : IntKind.i64.wrap ((md : Int) + 1) = ((md + 1 : Nat) : Int) := by rw [wrap_id (by omega) (by omega)]; omega
      refine u_25 (Y4 hlt hm hmx hcn) (Z1 cc) ?_
      refine ⟨j - (md + 1), by omega, md + 1, j, rfl, by omega, hj, fun m y hm2 hy => ?_, h2, ?_⟩
      · by_cases hmh : m = md
        · subst hmh; rw [hmx] at hy; cases hy; exact hb
        · exact bl_trans (pw_get hs (show m < md by omega) hy hmx) hb
      · exact u_27 hw
    | false =>
      rw [hb] at hcn
      refine u_25 (Y4 hlt hm hmx hcn) (Z1 cc) ?_
      refine ⟨md - i, by omega, i, md, rfl, by omega, by omega, h1, fun m y hm2 hy => ?_, ?_⟩
      · by_cases hmh : m = md
        · subst hmh; rw [hmx] at hy; cases hy; exact hb
        · cases hby : Go.Op.bytesLess y.fName s with
          | false => rfl
          | true => have := bl_trans (pw_get hs (show md < m by omega) hmx hy) hby; rw [hb] at this; cases this
      · exact u_16
  · have hije : i = j := by omega
    subst hije
    rw [lessN_eq hj h1 h2]
    by_cases hil : i < a.length
    · have ha := List.getElem?_eq_getElem hil
      generalize a[i] = x at ha
      have cc := userIndex_c1_ok (GG := GG) x s
      have hcz := cmp_zero x.fName s
      have hany : a.any (fun u => u.fName == s) = (x.fName == s) := by
        cases hx : (x.fName == s) with
        | true => exact List.any_eq_true.2 ⟨x, List.mem_of_getElem? ha, hx⟩
        | false =>
          rw [List.any_eq_false]
          intro y hy hys
          have hys : y.fName = s := by simpa using hys
          obtain ⟨m, hm⟩ := List.getElem?_of_mem hy
          rcases Nat.lt_trichotomy m i with hmi | rfl | hmi
          · have := h1 m y hmi hm; rw [hys, bl_irrefl] at this; cases this
          · rw [ha] at hm; cases hm; rw [hys, beq_self_eq_true] at hx; cases hx
          · have hxy := pw_get hs hmi ha hm
            rw [hys, h2 i x (Nat.le_refl _) ha] at hxy; cases hxy
      rw [hany]
      have hte := (List.getElem?_eq_some_iff.1 ha).2
      exact u_24 (Y3 hil hte hcz) (Z1 cc)
    · have hany : a.any (fun u => u.fName == s) = false := by
        rw [List.any_eq_false]
        intro y hy hys
        have hys : y.fName = s := by simpa using hys
        obtain ⟨m, hm⟩ := List.getElem?_of_mem hy
        have := h1 m y (by have := (List.getElem?_eq_some_iff.1 hm).1; omega) hm
        rw [hys, bl_irrefl] at this; cases this
      rw [hany]
      exact u_14 hil
theorem userIndex_ok (f : GFar) (s : List UInt8) (hl : f.fUsers.length ≤ 1048576) (hb : farB f = true) : Valid PP GG 145 [.agg f.c, .d (.str s)] (.tup [.d (.int .i64 (lessN GUser.fName s f.fUsers)), .d (.bool (f.fUsers.any fun u => u.fName == s))]) [none, none] := by
  refine cv Tryz.func145 [.d (.int .i64 (lessN GUser.fName s f.fUsers)), .d (.bool (f.fUsers.any fun u => u.fName == s))] ?_
  have cs := SearchUser_ok (GG := GG) f.fUsers s hl (far_inc hb)
  exact u_26 (Z1 cs)
def delLease_ren : Go.Shelf.Ren := ⟨fun | 45 => 57 | n => n, fun | 22 => 27 | 23 => 49 | n => n, fun n => n⟩
theorem delLease : Go.Proofs.SlLaysE0.n45 PP delLease_ren := {
  mixed := by kernel_rfl
  f45 := ⟨"slices.Delete[[]loop.example/g00705/impl.Lease,loop.example/g00705/impl.Lease]", by decide, Tryz.func57.trans (congrArg some (by kernel_rfl))⟩
  t0 := Tryz.underlying0
  a0 := Tryz.isAgg0
  z0 := Tryz.sizeOf0
  v0 := Tryz.zeroValue0
  t3 := Tryz.underlying3
  a3 := Tryz.isAgg3
  z3 := Tryz.sizeOf3
  v3 := Tryz.zeroValue3
  t4 := Tryz.underlying4
  a4 := Tryz.isAgg4
  z4 := Tryz.sizeOf4
  v4 := Tryz.zeroValue4
  t22 := Tryz.underlying27
  a22 := Tryz.isAgg27
  z22 := Tryz.sizeOf27
  v22 := Tryz.zeroValue27
}
theorem DeleteLease_ok (rows : List (List D)) (i j : Nat) (hij : i ≤ j) (hj : j ≤ rows.length) : Valid PP GG 57 [.own 0 6 rows, .d (.int .i64 i), .d (.int .i64 j)] (.own 0 6 (rows.take i ++ rows.drop j)) [none, none, none] :=
  delete_valid delLease ⟨Tryz.f57, Tryz.func57, by kernel_rfl, by kernel_rfl⟩ (by kernel_rfl) (by omega) i j hij hj
theorem rLease_del (a : List GLease) (i : Nat) : (rLease a).take i ++ (rLease a).drop (i + 1) = rLease (a.take i ++ a.drop (i + 1)) := by simp [rLease]
def delUser_ren : Go.Shelf.Ren := ⟨fun | 45 => 178 | n => n, fun | 22 => 30 | 23 => 59 | n => n, fun n => n⟩
theorem delUser : Go.Proofs.SlLaysE0.n45 PP delUser_ren := {
  mixed := by kernel_rfl
  f45 := ⟨"slices.Delete[[]loop.example/g00705/impl.User,loop.example/g00705/impl.User]", by decide, Tryz.func178.trans (congrArg some (by kernel_rfl))⟩
  t0 := Tryz.underlying0
  a0 := Tryz.isAgg0
  z0 := Tryz.sizeOf0
  v0 := Tryz.zeroValue0
  t3 := Tryz.underlying3
  a3 := Tryz.isAgg3
  z3 := Tryz.sizeOf3
  v3 := Tryz.zeroValue3
  t4 := Tryz.underlying4
  a4 := Tryz.isAgg4
  z4 := Tryz.sizeOf4
  v4 := Tryz.zeroValue4
  t22 := Tryz.underlying30
  a22 := Tryz.isAgg30
  z22 := Tryz.sizeOf30
  v22 := Tryz.zeroValue30
}
theorem DeleteUser_ok (rows : List (List D)) (i j : Nat) (hij : i ≤ j) (hj : j ≤ rows.length) : Valid PP GG 178 [.own 0 2 rows, .d (.int .i64 i), .d (.int .i64 j)] (.own 0 2 (rows.take i ++ rows.drop j)) [none, none, none] :=
  delete_valid delUser ⟨Tryz.f178, Tryz.func178, by kernel_rfl, by kernel_rfl⟩ (by kernel_rfl) (by omega) i j hij hj
theorem rUser_del (a : List GUser) (i : Nat) : (rUser a).take i ++ (rUser a).drop (i + 1) = rUser (a.take i ++ a.drop (i + 1)) := by simp [rUser]
def delOwned_ren : Go.Shelf.Ren := ⟨fun | 45 => 110 | n => n, fun | 22 => 36 | 23 => 82 | n => n, fun n => n⟩
theorem delOwned : Go.Proofs.SlLaysE0.n45 PP delOwned_ren := {
  mixed := by kernel_rfl
  f45 := ⟨"slices.Delete[[]loop.example/g00705/impl.Owned,loop.example/g00705/impl.Owned]", by decide, Tryz.func110.trans (congrArg some (by kernel_rfl))⟩
  t0 := Tryz.underlying0
  a0 := Tryz.isAgg0
  z0 := Tryz.sizeOf0
  v0 := Tryz.zeroValue0
  t3 := Tryz.underlying3
  a3 := Tryz.isAgg3
  z3 := Tryz.sizeOf3
  v3 := Tryz.zeroValue3
  t4 := Tryz.underlying4
  a4 := Tryz.isAgg4
  z4 := Tryz.sizeOf4
  v4 := Tryz.zeroValue4
  t22 := Tryz.underlying36
  a22 := Tryz.isAgg36
  z22 := Tryz.sizeOf36
  v22 := Tryz.zeroValue36
}
theorem DeleteOwned_ok (rows : List (List D)) (i j : Nat) (hij : i ≤ j) (hj : j ≤ rows.length) : Valid PP GG 110 [.own 0 2 rows, .d (.int .i64 i), .d (.int .i64 j)] (.own 0 2 (rows.take i ++ rows.drop j)) [none, none, none] :=
  delete_valid delOwned ⟨Tryz.f110, Tryz.func110, by kernel_rfl, by kernel_rfl⟩ (by kernel_rfl) (by omega) i j hij hj
theorem rOwned_del (a : List GOwned) (i : Nat) : (rOwned a).take i ++ (rOwned a).drop (i + 1) = rOwned (a.take i ++ a.drop (i + 1)) := by simp [rOwned]
def dropF (f : GFar) (s : List UInt8) : GFar := if 0 < f.fFail then { f with fFail := f.fFail - 1 } else { f with fUsers := f.fUsers.filter fun u => !(u.fName == s) }
def dropC (f : GFar) : Int := if 0 < f.fFail then 2 else 0
theorem filter_keep {α : Type} {p : α → Bool} {l : List α} (h : ∀ x, x ∈ l → p x = true) : l.filter p = l := by
  rw [List.filter_eq_self]; exact h
end Go.Proofs.YtoomonfpedjgoaaGreatDoor.Ab
