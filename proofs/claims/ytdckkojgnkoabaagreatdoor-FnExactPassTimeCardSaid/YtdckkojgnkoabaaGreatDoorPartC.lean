/-
  A part of a proof about the given program; what is proved is said where each theorem stands.
-/
import Derived.Test.YtdckkojgnkoabaaGreatDoorFrameA
import Derived.Test.YtdckkojgnkoabaaGreatDoorFrameB
import Derived.Test.YtdckkojgnkoabaaGreatDoorFrameC
import Derived.Test.YtdckkojgnkoabaaGreatDoorFrameD
import Derived.Test.YtdckkojgnkoabaaGreatDoorFrameE
import Derived.Test.YtdckkojgnkoabaaGreatDoorHead
import Derived.Test.YtdckkojgnkoabaaGreatDoorShelf
import Derived.Test.YtdckkojgnkoabaaGreatDoorPartA
import Derived.Test.YtdckkojgnkoabaaGreatDoorPartB
namespace Go.Proofs
end Go.Proofs
set_option linter.unusedSimpArgs false
set_option linter.unusedVariables false
set_option maxRecDepth 100000
set_option maxHeartbeats 2000000
namespace Go.Proofs.YtdckkojgnkoabaaGreatDoor.Ab
open Go.Proofs
variable {GG : GV}
theorem isBook_ok [MaxL GG] (f : GBook) (hf : fitB f) : Valid PP GG 123 [.agg f.c] (.d (.bool (bookB f))) [none] := by
  refine cv Tryz.func123 [.d (.bool (bookB f))] ?_
  obtain ⟨hl, ht⟩ := hf
  generalize hfa : f.fLeases = a at *
  refine u_23 hfa ?_
  refine W_loop (fun n st => ∃ i : Nat, n = a.length - i ∧ i ≤ a.length ∧ okP leaseQ [] (a.take i) = true ∧
    st = ⟨[], [(1, .ptr 0 0), (6, .d (.slc 6 (rLease a))), (7, .d (.int .i64 a.length)), (8, .d (.int .i64 i))], [(0, .box [.d (.slc 6 (rLease a))])], 1⟩) _ ⟨0, rfl, by omega, rfl, ?_⟩ ?_
  · exact u_34 hfa
  rintro n st ⟨i, rfl, hi, hok, rfl⟩
  by_cases hlt : i < a.length
  · have ha := List.getElem?_eq_getElem hlt
    generalize a[i] = x at ha
    have ct := isLease_ok (GG := GG) x (ht x (List.mem_of_getElem? ha))
    have hbad0 := fun h => okP_bad (q := leaseQ) ha h
    have hst := okP_step (q := leaseQ) ha
    rw [hok, Bool.true_and] at hst
    have hbad : leaseQ (a.take i) x = false → bookB f = false := fun h => by unfold bookB; rw [hfa, hbad0 h, Bool.and_false]
    clear hbad0
    have hq : leaseQ (a.take i) x = (leaseB x && adjB (fun p x => decide (p.fId < x.fId)) (a.take i) x) := rfl
    rw [hq] at hst hbad
    clear hq
    obtain ⟨xi, xp, xn, xm, xe, xl⟩ := x
    cases htb : leaseB ⟨xi, xp, xn, xm, xe, xl⟩ with
    | false =>
      rw [htb] at ct hbad
      have hb := hbad (by simp)
      rw [hb]
      exact u_31 (Y2 ha hfa) (Z1 ct)
    | true =>
      rw [htb] at ct hst hbad
      simp only [Bool.true_and] at hst hbad
      by_cases h0 : i = 0
      · have hpi : ¬ 0 < i := by omega
        have hz : adjB (fun p x : GLease => decide (p.fId < x.fId)) (a.take i) ⟨xi, xp, xn, xm, xe, xl⟩ = true := by rw [h0]; exact adj_zero _ _ _
        rw [hz] at hst
        refine u_32 (Y3 ha hfa hpi) (Z1 ct) ?_
        refine ⟨a.length - (i + 1), by omega, i + 1, rfl, hlt, hst, ?_⟩
        refine u_35 hfa ?_
        exact wrap_id (by omega) (by omega)
      · have hp := List.getElem?_eq_getElem (show i - 1 < a.length by omega)
        generalize a[i - 1]'_ = p at hp
        rw [adj_pos _ (by omega) hp] at hst hbad
        have hpi : 0 < i := by omega
        have hw1 : IntKind.i64.wrap ((i : Int) - 1) = ((i - 1 : Nat) : Int) := by rw [wrap_id (by omega) (by omega)]; omega
        obtain ⟨yi, yp, yn, ym, ye, yl⟩ := p
        dsimp only at hst hbad
        by_cases hle : xi ≤ yi
        · have hb := hbad (decide_eq_false (show ¬ yi < xi by omega))
          rw [hb]
          exact u_31 (Y6 ha hp hfa hpi hw1 hle) (Z1 ct)
        · rw [decide_eq_true (show yi < xi by omega)] at hst
          refine u_32 (Y6 ha hp hfa hpi hw1 hle) (Z1 ct) ?_
          refine ⟨a.length - (i + 1), by omega, i + 1, rfl, hlt, hst, ?_⟩
          refine u_35 hfa ?_
          exact wrap_id (by omega) (by omega)
  · have hie : i = a.length := by omega
    subst hie
    rw [List.take_length] at hok
    have e : bookB f = decide ((a.length : Int) ≤ 150) := by unfold bookB; rw [hfa, hok, Bool.and_true]; exact decide_eq_decide.2 (by omega)
    rw [e]
    exact u_29
theorem s_l09Lease_ok [MaxL GG] (x : GLease) (hx : x.fPath.length ≤ 1048576) : Valid PP GG 116 [.agg x.c] (.d (.bool (leaseB x))) [none] := by
  refine cv Tryz.func116 [.d (.bool (leaseB x))] ?_
  obtain ⟨x1, x2, x3, x4, x5, x6⟩ := x
  have hr : leaseB ⟨x1, x2, x3, x4, x5, x6⟩ = (inB x1 1 1000000000 && inB x2 0 1000000000 && pathOk x3 && inB x4 0 1000000000 && inB x6 (IntKind.i64.wrap (x4 + 1)) 1000000000 && inB x5 (IntKind.i64.wrap (x4 + 1)) x6) := rfl
  have c1 : Valid PP GG 49 [.d (.int .i64 x1), .d (.int .i64 1), .d (.int .i64 1000000000)] (.d (.bool (inB x1 1 1000000000))) [none, none, none] := l01In_ok _ _ _
  have c2 : Valid PP GG 49 [.d (.int .i64 x2), .d (.int .i64 0), .d (.int .i64 1000000000)] (.d (.bool (inB x2 0 1000000000))) [none, none, none] := l01In_ok _ _ _
  have c3 := s_PathOk_ok (GG := GG) x3 (by dsimp only at hx; omega)
  have c4 : Valid PP GG 49 [.d (.int .i64 x4), .d (.int .i64 0), .d (.int .i64 1000000000)] (.d (.bool (inB x4 0 1000000000))) [none, none, none] := l01In_ok _ _ _
  have c5 : Valid PP GG 49 [.d (.int .i64 x6), .d (.int .i64 (IntKind.i64.wrap (x4 + 1))), .d (.int .i64 1000000000)] (.d (.bool (inB x6 (IntKind.i64.wrap (x4 + 1)) 1000000000))) [none, none, none] := l01In_ok _ _ _
  have c6 : Valid PP GG 49 [.d (.int .i64 x5), .d (.int .i64 (IntKind.i64.wrap (x4 + 1))), .d (.int .i64 x6)] (.d (.bool (inB x5 (IntKind.i64.wrap (x4 + 1)) x6))) [none, none, none] := l01In_ok _ _ _
  generalize inB x1 1 1000000000 = p1 at *
  generalize inB x2 0 1000000000 = p2 at *
  generalize pathOk x3 = p3 at *
  generalize inB x4 0 1000000000 = p4 at *
  generalize inB x6 (IntKind.i64.wrap (x4 + 1)) 1000000000 = p5 at *
  generalize inB x5 (IntKind.i64.wrap (x4 + 1)) x6 = p6 at *
  refine u_1 ?_
  refine u_19 (Z6 c1 c2 c3 c4 c5 c6) 2 (p1 && p2 && p3 && p4 && p5 && p6) ?_
  exact u_10 hr
theorem s_BookOk_ok [MaxL GG] (f : GBook) (hf : fitB f) : Valid PP GG 51 [.agg f.c] (.d (.bool (bookB f))) [none] := by
  refine cv Tryz.func51 [.d (.bool (bookB f))] ?_
  obtain ⟨hl, ht⟩ := hf
  generalize hfa : f.fLeases = a at *
  by_cases h6 : a.length ≤ 150
  rotate_left
  · have hb : bookB f = false := by unfold bookB; rw [hfa, decide_eq_false h6, Bool.false_and]
    rw [hb]
    have hd : 150 < a.length := by omega
    exact u_22 (Y2 hfa hd)
  have hd : ¬ 150 < a.length := by omega
  refine u_23 (Y2 hfa hd) ?_
  refine W_loop (fun n st => ∃ i : Nat, n = a.length - i ∧ i ≤ a.length ∧ okP leaseQ [] (a.take i) = true ∧
    st = ⟨[], [(1, .ptr 0 0), (3, .d (.int .i64 i))], [(0, .box [.d (.slc 6 (rLease a))])], 1⟩) _ ⟨0, rfl, by omega, rfl, ?_⟩ ?_
  · exact u_34 hfa
  rintro n st ⟨i, rfl, hi, hok, rfl⟩
  by_cases hlt : i < a.length
  · have ha := List.getElem?_eq_getElem hlt
    generalize a[i] = x at ha
    have ct := s_l09Lease_ok (GG := GG) x (ht x (List.mem_of_getElem? ha))
    have hbad0 := fun h => okP_bad (q := leaseQ) ha h
    have hst := okP_step (q := leaseQ) ha
    rw [hok, Bool.true_and] at hst
    have hbad : leaseQ (a.take i) x = false → bookB f = false := fun h => by unfold bookB; rw [hfa, hbad0 h, Bool.and_false]
    clear hbad0
    have hq : leaseQ (a.take i) x = (leaseB x && adjB (fun p x => decide (p.fId < x.fId)) (a.take i) x) := rfl
    rw [hq] at hst hbad
    clear hq
    obtain ⟨xi, xp, xn, xm, xe, xl⟩ := x
    cases htb : leaseB ⟨xi, xp, xn, xm, xe, xl⟩ with
    | false =>
      rw [htb] at ct hbad
      have hb := hbad (by simp)
      rw [hb]
      exact u_31 (Y2 ha hfa) (Z1 ct)
    | true =>
      rw [htb] at ct hst hbad
      simp only [Bool.true_and] at hst hbad
      by_cases h0 : i = 0
      · have hpi : ¬ 0 < i := by omega
        have hz : adjB (fun p x : GLease => decide (p.fId < x.fId)) (a.take i) ⟨xi, xp, xn, xm, xe, xl⟩ = true := by rw [h0]; exact adj_zero _ _ _
        rw [hz] at hst
        refine u_32 (Y3 ha hfa hpi) (Z1 ct) ?_
        refine ⟨a.length - (i + 1), by omega, i + 1, rfl, hlt, hst, ?_⟩
        refine u_35 hfa ?_
        exact wrap_id (by omega) (by omega)
      · have hp := List.getElem?_eq_getElem (show i - 1 < a.length by omega)
        generalize a[i - 1]'_ = p at hp
        rw [adj_pos _ (by omega) hp] at hst hbad
        have hpi : 0 < i := by omega
        have hw1 : IntKind.i64.wrap ((i : Int) - 1) = ((i - 1 : Nat) : Int) := by rw [wrap_id (by omega) (by omega)]; omega
        obtain ⟨yi, yp, yn, ym, ye, yl⟩ := p
        dsimp only at hst hbad
        by_cases hle : xi ≤ yi
        · have hb := hbad (decide_eq_false (show ¬ yi < xi by omega))
          rw [hb]
          exact u_31 (Y6 ha hp hfa hpi hw1 hle) (Z1 ct)
        · rw [decide_eq_true (show yi < xi by omega)] at hst
          refine u_32 (Y6 ha hp hfa hpi hw1 hle) (Z1 ct) ?_
          refine ⟨a.length - (i + 1), by omega, i + 1, rfl, hlt, hst, ?_⟩
          refine u_35 hfa ?_
          exact wrap_id (by omega) (by omega)
  · have hie : i = a.length := by omega
    subst hie
    rw [List.take_length] at hok
    have e : bookB f = true := by unfold bookB; rw [hfa, hok, decide_eq_true h6]; rfl
    rw [e]
    exact u_22 hfa
def farQ (pre : List GUser) (u : GUser) : Bool := nameOk u.fName && adjB (fun p x => Go.Op.bytesLess p.fName x.fName) pre u
def farB (f : GFar) : Bool := decide (f.fUsers.length ≤ 120) && inB f.fFail 0 1000 && inB f.fMade 0 1000000000 && okP farQ [] f.fUsers
def fitFar (f : GFar) : Prop := f.fUsers.length ≤ 1048576 ∧ ∀ u, u ∈ f.fUsers → u.fName.length ≤ 1048576
theorem isFar_ok [MaxL GG] (f : GFar) (hf : fitFar f) : Valid PP GG 124 [.agg f.c] (.d (.bool (farB f))) [none] := by
  refine cv Tryz.func124 [.d (.bool (farB f))] ?_
  obtain ⟨a, ff, fm⟩ := f
  obtain ⟨hl, ht⟩ := hf
  dsimp only at hl ht
  have c1 : Valid PP GG 103 [.d (.int .i64 ff), .d (.int .i64 0), .d (.int .i64 1000)] (.d (.bool (inB ff 0 1000))) [none, none, none] := within_ok _ _ _
  have c2 : Valid PP GG 103 [.d (.int .i64 fm), .d (.int .i64 0), .d (.int .i64 1000000000)] (.d (.bool (inB fm 0 1000000000))) [none, none, none] := within_ok _ _ _
  have hB : farB ⟨a, ff, fm⟩ = (decide (a.length ≤ 120) && inB ff 0 1000 && inB fm 0 1000000000 && okP farQ [] a) := rfl
  generalize farB ⟨a, ff, fm⟩ = B at *
  generalize inB ff 0 1000 = p2 at *
  generalize inB fm 0 1000000000 = p3 at *
  refine u_30 ?_
  refine W_loop (fun n st => ∃ i : Nat, n = a.length - i ∧ i ≤ a.length ∧ okP farQ [] (a.take i) = true ∧
    st = ⟨[], [(1, .ptr 0 0), (6, .d (.slc 2 (rUser a))), (7, .d (.int .i64 a.length)), (8, .d (.int .i64 i))], [(0, .box [.d (.slc 2 (rUser a)), .d (.int .i64 ff), .d (.int .i64 fm)])], 1⟩) _ ⟨0, rfl, by omega, rfl, ?_⟩ ?_
  · exact u_24
  rintro n st ⟨i, rfl, hi, hok, rfl⟩
  by_cases hlt : i < a.length
  · have ha := List.getElem?_eq_getElem hlt
    generalize a[i] = x at ha
    have ct := isName_ok (GG := GG) x.fName (by have := ht x (List.mem_of_getElem? ha); omega)
    have hbad0 := fun h => okP_bad (q := farQ) ha h
    have hst := okP_step (q := farQ) ha
    rw [hok, Bool.true_and] at hst
    have hbad : farQ (a.take i) x = false → B = false := fun h => by rw [hB, hbad0 h, Bool.and_false]
    clear hbad0
    have hq : farQ (a.take i) x = (nameOk x.fName && adjB (fun p x => Go.Op.bytesLess p.fName x.fName) (a.take i) x) := rfl
    rw [hq] at hst hbad
    clear hq
    obtain ⟨xn, xp⟩ := x
    dsimp only at ct hst hbad
    cases htb : nameOk xn with
    | false =>
      rw [htb] at ct hbad
      have hb := hbad (by simp)
      rw [hb]
      exact u_31 ha (Z1 ct)
    | true =>
      rw [htb] at ct hst hbad
      simp only [Bool.true_and] at hst hbad
      by_cases h0 : i = 0
      · have hpi : ¬ 0 < i := by omega
        have hz : adjB (fun p x : GUser => Go.Op.bytesLess p.fName x.fName) (a.take i) ⟨xn, xp⟩ = true := by rw [h0]; exact adj_zero _ _ _
        rw [hz] at hst
        refine u_32 (Y2 ha hpi) (Z1 ct) ?_
        refine ⟨a.length - (i + 1), by omega, i + 1, rfl, hlt, hst, ?_⟩
        refine u_27 ?_
        exact wrap_id (by omega) (by omega)
      · have hp := List.getElem?_eq_getElem (show i - 1 < a.length by omega)
        generalize a[i - 1]'_ = p at hp
        rw [adj_pos _ (by omega) hp] at hst hbad
        have hpi : 0 < i := by omega
        have hw1 : IntKind.i64.wrap ((i : Int) - 1) = ((i - 1 : Nat) : Int) := by rw [wrap_id (by omega) (by omega)]; omega
        obtain ⟨yn, yp⟩ := p
        dsimp only at hst hbad
        cases hbl : Go.Op.bytesLess yn xn with
        | false =>
          have hb := hbad hbl
          rw [hb]
          exact u_31 (Y5 ha hp hpi hw1 hbl) (Z1 ct)
        | true =>
          rw [hbl] at hst
          refine u_32 (Y5 ha hp hpi hw1 hbl) (Z1 ct) ?_
          refine ⟨a.length - (i + 1), by omega, i + 1, rfl, hlt, hst, ?_⟩
          refine u_27 ?_
          exact wrap_id (by omega) (by omega)
  · have hie : i = a.length := by omega
    subst hie
    rw [List.take_length] at hok
    rw [hok, Bool.and_true] at hB
    by_cases h6 : a.length ≤ 120
    · rw [decide_eq_true h6, Bool.true_and] at hB
      cases p2
      · rw [hB]
        exact u_31 h6 (Z1 c1)
      · rw [hB]
        exact u_31 h6 (Z2 c1 c2)
    · rw [decide_eq_false h6] at hB
      simp only [Bool.false_and] at hB
      rw [hB]
      exact u_22 h6
theorem s_FarOk_ok [MaxL GG] (f : GFar) (hf : fitFar f) : Valid PP GG 52 [.agg f.c] (.d (.bool (farB f))) [none] := by
  refine cv Tryz.func52 [.d (.bool (farB f))] ?_
  obtain ⟨a, ff, fm⟩ := f
  obtain ⟨hl, ht⟩ := hf
  dsimp only at hl ht
  have c1 : Valid PP GG 49 [.d (.int .i64 ff), .d (.int .i64 0), .d (.int .i64 1000)] (.d (.bool (inB ff 0 1000))) [none, none, none] := l01In_ok _ _ _
  have c2 : Valid PP GG 49 [.d (.int .i64 fm), .d (.int .i64 0), .d (.int .i64 1000000000)] (.d (.bool (inB fm 0 1000000000))) [none, none, none] := l01In_ok _ _ _
  have hB : farB ⟨a, ff, fm⟩ = (decide (a.length ≤ 120) && inB ff 0 1000 && inB fm 0 1000000000 && okP farQ [] a) := rfl
  generalize farB ⟨a, ff, fm⟩ = B at *
  generalize inB ff 0 1000 = p2 at *
  generalize inB fm 0 1000000000 = p3 at *
  by_cases h6 : a.length ≤ 120
  rotate_left
  · have hd : 120 < a.length := by omega
    rw [decide_eq_false h6] at hB
    simp only [Bool.false_and] at hB
    rw [hB]
    exact u_22 hd
  have hd : ¬ 120 < a.length := by omega
  rw [decide_eq_true h6, Bool.true_and] at hB
  cases p2
  · rw [hB]
    exact u_31 hd (Z1 c1)
  cases p3
  · rw [hB]
    exact u_31 hd (Z2 c1 c2)
  rw [Bool.true_and, Bool.true_and] at hB
  refine u_32 hd (Z2 c1 c2) ?_
  refine W_loop (fun n st => ∃ i : Nat, n = a.length - i ∧ i ≤ a.length ∧ okP farQ [] (a.take i) = true ∧
    st = ⟨[], [(1, .ptr 0 0), (3, .d (.int .i64 i))], [(0, .box [.d (.slc 2 (rUser a)), .d (.int .i64 ff), .d (.int .i64 fm)])], 1⟩) _ ⟨0, rfl, by omega, rfl, ?_⟩ ?_
  · exact u_24
  rintro n st ⟨i, rfl, hi, hok, rfl⟩
  by_cases hlt : i < a.length
  · have ha := List.getElem?_eq_getElem hlt
    generalize a[i] = x at ha
    have ct := l01Name_ok (GG := GG) x.fName (by have := ht x (List.mem_of_getElem? ha); omega)
    have hbad0 := fun h => okP_bad (q := farQ) ha h
    have hst := okP_step (q := farQ) ha
    rw [hok, Bool.true_and] at hst
    have hbad : farQ (a.take i) x = false → B = false := fun h => by rw [hB, hbad0 h]
    clear hbad0
    have hq : farQ (a.take i) x = (nameOk x.fName && adjB (fun p x => Go.Op.bytesLess p.fName x.fName) (a.take i) x) := rfl
    rw [hq] at hst hbad
    clear hq
    obtain ⟨xn, xp⟩ := x
    dsimp only at ct hst hbad
    cases htb : nameOk xn with
    | false =>
      rw [htb] at ct hbad
      have hb := hbad (by simp)
      rw [hb]
      exact u_31 ha (Z1 ct)
    | true =>
      rw [htb] at ct hst hbad
      simp only [Bool.true_and] at hst hbad
      by_cases h0 : i = 0
      · have hpi : ¬ 0 < i := by omega
        have hz : adjB (fun p x : GUser => Go.Op.bytesLess p.fName x.fName) (a.take i) ⟨xn, xp⟩ = true := by rw [h0]; exact adj_zero _ _ _
        rw [hz] at hst
        refine u_32 (Y2 ha hpi) (Z1 ct) ?_
        refine ⟨a.length - (i + 1), by omega, i + 1, rfl, hlt, hst, ?_⟩
        refine u_27 ?_
        exact wrap_id (by omega) (by omega)
      · have hp := List.getElem?_eq_getElem (show i - 1 < a.length by omega)
        generalize a[i - 1]'_ = p at hp
        rw [adj_pos _ (by omega) hp] at hst hbad
        have hpi : 0 < i := by omega
        have hw1 : IntKind.i64.wrap ((i : Int) - 1) = ((i - 1 : Nat) : Int) := by rw [wrap_id (by omega) (by omega)]; omega
        obtain ⟨yn, yp⟩ := p
        dsimp only at hst hbad
        cases hbl : Go.Op.bytesLess yn xn with
        | false =>
          have hb := hbad hbl
          rw [hb]
          exact u_31 (Y5 ha hp hpi hw1 hbl) (Z1 ct)
        | true =>
          rw [hbl] at hst
          refine u_32 (Y5 ha hp hpi hw1 hbl) (Z1 ct) ?_
          refine ⟨a.length - (i + 1), by omega, i + 1, rfl, hlt, hst, ?_⟩
          refine u_27 ?_
          exact wrap_id (by omega) (by omega)
  · have hie : i = a.length := by omega
    subst hie
    rw [List.take_length] at hok
    rw [hok] at hB
    rw [hB]
    exact u_29
def jobB (j : GJob) : Bool := nameOk j.fName && inB j.fAt 0 2000000000 && inB j.fTries 0 5
def jobQ (pre : List GJob) (j : GJob) : Bool := jobB j && !(pre.any fun t => t.fName == j.fName)
def queueB (q : GQueue) : Bool := decide (q.fJobs.length ≤ 120) && okP jobQ [] q.fJobs
def fitQ (q : GQueue) : Prop := q.fJobs.length ≤ 1048576 ∧ ∀ j, j ∈ q.fJobs → j.fName.length ≤ 1048576
theorem isQueue_ok [MaxL GG] (f : GQueue) (hf : fitQ f) : Valid PP GG 125 [.agg f.c] (.d (.bool (queueB f))) [none] := by
  refine cv Tryz.func125 [.d (.bool (queueB f))] ?_
  obtain ⟨a⟩ := f
  obtain ⟨hl, ht⟩ := hf
  dsimp only at hl ht
  have hB : queueB ⟨a⟩ = (decide (a.length ≤ 120) && okP jobQ [] a) := rfl
  generalize queueB ⟨a⟩ = B at *
  refine u_30 ?_
  refine W_loop (fun n st => ∃ i : Nat, n = a.length - i ∧ i ≤ a.length ∧ okP jobQ [] (a.take i) = true ∧
    st = ⟨[], [(1, .ptr 0 0), (6, .d (.slc 3 (rJob a))), (7, .d (.int .i64 a.length)), (8, .d (.int .i64 i))], [(0, .box [.d (.slc 3 (rJob a))])], 1⟩) _ ⟨0, rfl, by omega, rfl, ?_⟩ ?_
  · exact u_24
  rintro n st ⟨i, rfl, hi, hok, rfl⟩
  by_cases hlt : i < a.length
  · have ha := List.getElem?_eq_getElem hlt
    generalize a[i] = x at ha
    have ct := isName_ok (GG := GG) x.fName (by have := ht x (List.mem_of_getElem? ha); omega)
    have c1 : Valid PP GG 103 [.d (.int .i64 x.fAt), .d (.int .i64 0), .d (.int .i64 2000000000)] (.d (.bool (inB x.fAt 0 2000000000))) [none, none, none] := within_ok _ _ _
    have c2 : Valid PP GG 103 [.d (.int .i64 x.fTries), .d (.int .i64 0), .d (.int .i64 5)] (.d (.bool (inB x.fTries 0 5))) [none, none, none] := within_ok _ _ _
    have ch : Valid PP GG 67 [.agg [.d (.slc 3 (rJob (a.take i)))], .d (.str x.fName)] (.d (.bool ((a.take i).any fun t => t.fName == x.fName))) [none, none] := hasJob_ok (GG := GG) ⟨a.take i⟩ x.fName (by simp; omega)
    have htk : (rJob a).take i = rJob (a.take i) := by simp [rJob, List.map_take]
    have hbad0 := fun h => okP_bad (q := jobQ) ha h
    have hst := okP_step (q := jobQ) ha
    rw [hok, Bool.true_and] at hst
    have hbad : jobQ (a.take i) x = false → B = false := fun h => by rw [hB, hbad0 h, Bool.and_false]
    clear hbad0
    have hq : jobQ (a.take i) x = (nameOk x.fName && inB x.fAt 0 2000000000 && inB x.fTries 0 5 && !((a.take i).any fun t => t.fName == x.fName)) := rfl
    rw [hq] at hst hbad
    clear hq
    obtain ⟨xn, xa, xt⟩ := x
    dsimp only at ct c1 c2 ch hst hbad
    generalize nameOk xn = p1 at *
    generalize inB xa 0 2000000000 = p2 at *
    generalize inB xt 0 5 = p3 at *
    generalize ((a.take i).any fun t => t.fName == xn) = p4 at *
    cases p1
    · rw [hbad (by simp)]
      exact u_31 ha (Z1 ct)
    cases p2
    · rw [hbad (by simp)]
      exact u_31 ha (Z2 ct c1)
    cases p3
    · rw [hbad (by simp)]
      exact u_31 ha (Z3 ct c1 c2)
    cases p4
    · refine u_32 (Y2 ha htk) (Z4 ct c1 c2 ch) ?_
      refine ⟨a.length - (i + 1), by omega, i + 1, rfl, hlt, hst, ?_⟩
      refine u_27 ?_
      exact wrap_id (by omega) (by omega)
    · rw [hbad (by simp)]
      exact u_31 (Y2 ha htk) (Z4 ct c1 c2 ch)
  · have hie : i = a.length := by omega
    subst hie
    rw [List.take_length] at hok
    rw [hok, Bool.and_true] at hB
    have e : decide ((a.length : Int) ≤ 120) = decide (a.length ≤ 120) := decide_eq_decide.2 (by omega)
    rw [hB, ← e]
    exact u_29
theorem s_QueueOk_ok [MaxL GG] (f : GQueue) (hf : fitQ f) : Valid PP GG 53 [.agg f.c] (.d (.bool (queueB f))) [none] := by
  refine cv Tryz.func53 [.d (.bool (queueB f))] ?_
  obtain ⟨a⟩ := f
  obtain ⟨hl, ht⟩ := hf
  dsimp only at hl ht
  have hB : queueB ⟨a⟩ = (decide (a.length ≤ 120) && okP jobQ [] a) := rfl
  generalize queueB ⟨a⟩ = B at *
  by_cases h6 : a.length ≤ 120
  rotate_left
  · have hd : 120 < a.length := by omega
    rw [decide_eq_false h6] at hB
    simp only [Bool.false_and] at hB
    rw [hB]
    exact u_22 hd
  have hd : ¬ 120 < a.length := by omega
  rw [decide_eq_true h6, Bool.true_and] at hB
  refine u_23 hd ?_
  refine W_loop (fun n st => ∃ i : Nat, n = a.length - i ∧ i ≤ a.length ∧ okP jobQ [] (a.take i) = true ∧
    st = ⟨[], [(1, .ptr 0 0), (3, .d (.int .i64 i))], [(0, .box [.d (.slc 3 (rJob a))])], 1⟩) _ ⟨0, rfl, by omega, rfl, ?_⟩ ?_
  · exact u_24
  rintro n st ⟨i, rfl, hi, hok, rfl⟩
  by_cases hlt : i < a.length
  · have ha := List.getElem?_eq_getElem hlt
    generalize a[i] = x at ha
    have ct := l01Name_ok (GG := GG) x.fName (by have := ht x (List.mem_of_getElem? ha); omega)
    have c1 : Valid PP GG 49 [.d (.int .i64 x.fAt), .d (.int .i64 0), .d (.int .i64 2000000000)] (.d (.bool (inB x.fAt 0 2000000000))) [none, none, none] := l01In_ok _ _ _
    have c2 : Valid PP GG 49 [.d (.int .i64 x.fTries), .d (.int .i64 0), .d (.int .i64 5)] (.d (.bool (inB x.fTries 0 5))) [none, none, none] := l01In_ok _ _ _
    have hbad0 := fun h => okP_bad (q := jobQ) ha h
    have hst := okP_step (q := jobQ) ha
    rw [hok, Bool.true_and] at hst
    have hbad : jobQ (a.take i) x = false → B = false := fun h => by rw [hB, hbad0 h]
    clear hbad0
    have hq : jobQ (a.take i) x = (nameOk x.fName && inB x.fAt 0 2000000000 && inB x.fTries 0 5 && !((a.take i).any fun t => t.fName == x.fName)) := rfl
    rw [hq] at hst hbad
    clear hq
    obtain ⟨xn, xa, xt⟩ := x
    dsimp only at ct c1 c2 hst hbad
    generalize nameOk xn = p1 at *
    generalize inB xa 0 2000000000 = p2 at *
    generalize inB xt 0 5 = p3 at *
    cases p1
    · rw [hbad (by simp)]
      exact u_31 ha (Z1 ct)
    cases p2
    · rw [hbad (by simp)]
      exact u_31 ha (Z2 ct c1)
    cases p3
    · rw [hbad (by simp)]
      exact u_31 ha (Z3 ct c1 c2)
    refine u_32 ha (Z3 ct c1 c2) ?_
    refine W_loop (fun n st => ∃ k : Nat, n = i - k ∧ k ≤ i ∧ (∀ y, y ∈ a.take k → (y.fName == xn) = false) ∧
      st = ⟨[], [(1, .ptr 0 0), (3, .d (.int .i64 i)), (4, .ptr 1 0), (5, .d (.int .i64 k))], [(0, .box [.d (.slc 3 (rJob a))]), (1, .box [.d (.str xn), .d (.int .i64 xa), .d (.int .i64 xt)])], 2⟩) _ ⟨0, rfl, by omega, fun y h => by simp at h, ?_⟩ ?_
    · exact u_24
    rintro n st ⟨k, rfl, hk, hn, rfl⟩
    by_cases hkl : k < i
    · have hak := List.getElem?_eq_getElem (show k < a.length by omega)
      generalize a[k]'_ = y at hak
      obtain ⟨yn, ya, yt⟩ := y
      cases hyn : (yn == xn) with
      | true =>
        rw [hbad (by
          have : (a.take i).any (fun t => t.fName == xn) = true := by
            rw [List.any_eq_true]
            exact ⟨_, List.mem_of_getElem? (by rw [List.getElem?_take_of_lt hkl]; exact hak), hyn⟩
          rw [this]; rfl)]
        exact u_22 (Y3 hak hkl hyn)
      | false =>
        have hn2 := take_miss (p := fun y : GJob => y.fName == xn) hak hn hyn
        refine u_23 (Y3 hak hkl hyn) ?_
        refine ⟨i - (k + 1), by omega, k + 1, rfl, hkl, hn2, ?_⟩
        refine u_27 ?_
        exact wrap_id (by omega) (by omega)
    · have hke : k = i := by omega
      subst hke
      have : (a.take k).any (fun t => t.fName == xn) = false := by
        rw [List.any_eq_false]; intro y hy; rw [hn y hy]; simp
      rw [this] at hst
      refine u_23 hkl ?_
      refine ⟨a.length - (k + 1), by omega, k + 1, rfl, hlt, hst, ?_⟩
      refine u_27 ?_
      exact wrap_id (by omega) (by omega)
  · have hie : i = a.length := by omega
    subst hie
    rw [List.take_length] at hok
    rw [hok] at hB
    rw [hB]
    exact u_29
theorem okP_get {α : Type} {q : List α → α → Bool} {l : List α} {i : Nat} {x : α} (h : okP q [] l = true) (hi : l[i]? = some x) : q (l.take i) x = true := by
  cases hq : q (l.take i) x with
  | true => rfl
  | false => rw [okP_bad hi hq] at h; cases h
theorem inc_of_step {α : Type} {key : α → Int} {l : List α} (h : ∀ (i : Nat) x y, l[i]? = some y → l[i + 1]? = some x → key y < key x) : l.Pairwise (fun y x => key y < key x) := by
  rw [List.pairwise_iff_getElem]
  intro i j hi hj hij
  obtain ⟨d, rfl⟩ : ∃ d, j = i + 1 + d := ⟨j - i - 1, by omega⟩
  induction d with
  | zero => exact h i _ _ (List.getElem?_eq_getElem hi) (List.getElem?_eq_getElem hj)
  | succ d ih =>
    have h1 := ih (by omega) (by omega)
    have h2 := h (i + 1 + d) _ _ (List.getElem?_eq_getElem (show i + 1 + d < l.length by omega)) (List.getElem?_eq_getElem hj)
    exact Int.lt_trans h1 h2
theorem okP_inc {α : Type} {q : List α → α → Bool} {key : α → Int} (hq : ∀ pre x, q pre x = true → adjB (fun p x => decide (key p < key x)) pre x = true) {l : List α} (h : okP q [] l = true) : l.Pairwise (fun y x => key y < key x) := by
  refine inc_of_step fun i x y hy hx => ?_
  have h1 := hq _ _ (okP_get h hx)
  rw [adj_succ _ hy] at h1
  exact of_decide_eq_true h1
theorem inc_last {α : Type} {key : α → Int} {l : List α} (h : l.Pairwise (fun y x => key y < key x)) {k : Nat} {t : α} (hk : l.length = k + 1) (ht : l[k]? = some t) (n : Int) : l.all (fun x => decide (key x < n)) = decide (key t < n) := by
  rw [List.pairwise_iff_getElem] at h
  obtain ⟨h1, rfl⟩ := List.getElem?_eq_some_iff.1 ht
  by_cases hn : key l[k] < n
  · rw [decide_eq_true hn, List.all_eq_true]
    intro x hx
    obtain ⟨i, hi, rfl⟩ := List.mem_iff_getElem.1 hx
    by_cases hik : i = k
    · subst hik; exact decide_eq_true hn
    · have := h i k hi h1 (by omega)
      exact decide_eq_true (by omega)
  · rw [decide_eq_false hn, List.all_eq_false]
    exact ⟨_, List.getElem_mem h1, by simpa using hn⟩
def belowT (f : GForest) (n : Int) : Bool := f.fTokens.all fun t => decide (t.fId < n)
def belowL (b : GBook) (n : Int) : Bool := b.fLeases.all fun t => decide (t.fId < n)
def hasLease (b : GBook) (id : Int) : Bool := b.fLeases.any fun l => decide (l.fId = id)
def ownQ (b : GBook) (pre : List GOwned) (o : GOwned) : Bool := adjB (fun p x => decide (p.fLease < x.fLease)) pre o && hasLease b o.fLease && nameOk o.fName && !(pre.any fun p => p.fName == o.fName)
def worldB (w : GWorld) : Bool := inB w.fNow 0 1000000000 && inB w.fNext 1 1000000000 && inB w.fLost 0 1000000000 && forestB w.fForest && bookB w.fBook && farB w.fFar && queueB w.fQueue && belowT w.fForest w.fNext && belowL w.fBook w.fNext && okP (ownQ w.fBook) [] w.fOwned
def fitW (w : GWorld) : Prop := fitF w.fForest ∧ fitB w.fBook ∧ fitFar w.fFar ∧ fitQ w.fQueue ∧ w.fOwned.length ≤ 1048576 ∧ ∀ o, o ∈ w.fOwned → o.fName.length ≤ 1048576
theorem forest_inc {f : GForest} (h : forestB f = true) : f.fTokens.Pairwise (fun y x => y.fId < x.fId) := by
  unfold forestB at h
  rw [Bool.and_eq_true] at h
  refine okP_inc (key := GToken.fId) (fun pre x hq => ?_) h.2
  unfold tokQ at hq
  simp only [Bool.and_eq_true] at hq
  exact hq.1.2
theorem book_inc {f : GBook} (h : bookB f = true) : f.fLeases.Pairwise (fun y x => y.fId < x.fId) := by
  unfold bookB at h
  rw [Bool.and_eq_true] at h
  refine okP_inc (key := GLease.fId) (fun pre x hq => ?_) h.2
  unfold leaseQ at hq
  rw [Bool.and_eq_true] at hq
  exact hq.2
theorem own_inc {b : GBook} {l : List GOwned} (h : okP (ownQ b) [] l = true) : l.Pairwise (fun y x => y.fLease < x.fLease) := by
  refine okP_inc (key := GOwned.fLease) (fun pre x hq => ?_) h
  unfold ownQ at hq
  simp only [Bool.and_eq_true] at hq
  exact hq.1.1.1
theorem lastT {f : GForest} (h : forestB f = true) (n : Int) : (f.fTokens = [] ∧ belowT f n = true) ∨ ∃ k t, f.fTokens.length = k + 1 ∧ f.fTokens[k]? = some t ∧ belowT f n = decide (t.fId < n) := by
  by_cases h0 : f.fTokens = []
  · exact .inl ⟨h0, by unfold belowT; rw [h0]; rfl⟩
  · have hl := List.length_pos_iff.2 h0
    refine .inr ⟨f.fTokens.length - 1, f.fTokens[f.fTokens.length - 1], by omega, List.getElem?_eq_getElem (by omega), ?_⟩
    exact inc_last (key := GToken.fId) (forest_inc h) (by omega) (List.getElem?_eq_getElem (by omega)) n
theorem lastL {f : GBook} (h : bookB f = true) (n : Int) : (f.fLeases = [] ∧ belowL f n = true) ∨ ∃ k t, f.fLeases.length = k + 1 ∧ f.fLeases[k]? = some t ∧ belowL f n = decide (t.fId < n) := by
  by_cases h0 : f.fLeases = []
  · exact .inl ⟨h0, by unfold belowL; rw [h0]; rfl⟩
  · have hl := List.length_pos_iff.2 h0
    refine .inr ⟨f.fLeases.length - 1, f.fLeases[f.fLeases.length - 1], by omega, List.getElem?_eq_getElem (by omega), ?_⟩
    exact inc_last (key := GLease.fId) (book_inc h) (by omega) (List.getElem?_eq_getElem (by omega)) n
theorem inc_len {α β : Type} {ka : α → Int} {kb : β → Int} : ∀ (b : List β) (a : List α), a.Pairwise (fun y x => ka y < ka x) → b.Pairwise (fun y x => kb y < kb x) → (∀ x, x ∈ a → ∃ y, y ∈ b ∧ kb y = ka x) → a.length ≤ b.length := by
  intro b
  induction b with
  | nil =>
    intro a _ _ h
    cases a with
    | nil => simp
    | cons x a => obtain ⟨y, hy, _⟩ := h x (by simp); simp at hy
  | cons y b ih =>
    intro a ha hb h
    cases a with
    | nil => simp
    | cons x a =>
      rw [List.pairwise_cons] at ha hb
      by_cases hxy : kb y = ka x
      · have := ih a ha.2 hb.2 fun z hz => by
          obtain ⟨u, hu, e⟩ := h z (by simp [hz])
          have := ha.1 z hz
          rcases List.mem_cons.1 hu with rfl | hu
          · omega
          · exact ⟨u, hu, e⟩
        simp only [List.length_cons]; omega
      · have hgt : ∃ u, u ∈ b ∧ kb u = ka x := by
          obtain ⟨u, hu, e⟩ := h x (by simp)
          rcases List.mem_cons.1 hu with rfl | hu
          · exact absurd e hxy
          · exact ⟨u, hu, e⟩
        obtain ⟨u, hu, e⟩ := hgt
        have hyx := hb.1 u hu
        have := ih (x :: a) (List.pairwise_cons.2 ha) hb.2 fun z hz => by
          obtain ⟨u', hu', e'⟩ := h z hz
          rcases List.mem_cons.1 hu' with rfl | hu'
          · rcases List.mem_cons.1 hz with rfl | hz
            · exact absurd e' hxy
            · have := ha.1 z hz; omega
          · exact ⟨u', hu', e'⟩
        simp only [List.length_cons] at this ⊢; omega
theorem owned_len {b : GBook} {l : List GOwned} (hb : bookB b = true) (h : okP (ownQ b) [] l = true) : l.length ≤ b.fLeases.length := by
  refine inc_len (ka := GOwned.fLease) (kb := GLease.fId) _ _ (own_inc h) (book_inc hb) fun x hx => ?_
  obtain ⟨i, hi⟩ := List.getElem?_of_mem hx
  have := okP_get h hi
  unfold ownQ hasLease at this
  simp only [Bool.and_eq_true, List.any_eq_true, decide_eq_true_eq] at this
  exact this.1.1.2
theorem isWorld_c1_ok (t : GOwned) (l : Int) (s : List UInt8) : Valid PP GG 127 [.agg t.c, .rp [.int .i64 l, .str s]] (.d (.bool (t.fName == s))) [none] := by
  refine cv Tryz.func127 [.d (.bool (t.fName == s))] ?_
  exact u_29
theorem adj_cases {α : Type} {lt : α → α → Bool} {a : List α} {i : Nat} {x : α} (hi : i ≤ a.length) : (i = 0 ∧ adjB lt (a.take i) x = true) ∨ ∃ j p, i = j + 1 ∧ a[j]? = some p ∧ adjB lt (a.take i) x = lt p x := by
  cases i with
  | zero => exact .inl ⟨rfl, adj_zero _ _ _⟩
  | succ j =>
    have hp := List.getElem?_eq_getElem (show j < a.length by omega)
    exact .inr ⟨j, _, rfl, hp, adj_succ _ hp _⟩
theorem isWorld_ok [MaxL GG] (w : GWorld) (hf : fitW w) : Valid PP GG 61 [.agg w.c] (.d (.bool (worldB w))) [none] := by
  refine cv Tryz.func61 [.d (.bool (worldB w))] ?_
  obtain ⟨now, next, lost, ⟨tk⟩, ⟨ls⟩, ⟨us, ff, fm⟩, ⟨js⟩, ow⟩ := w
  obtain ⟨hf1, hf2, hf3, hf4, hol, hon⟩ := hf
  dsimp only at hf1 hf2 hf3 hf4 hol hon
  have c1 : Valid PP GG 103 [.d (.int .i64 now), .d (.int .i64 0), .d (.int .i64 1000000000)] (.d (.bool (inB now 0 1000000000))) [none, none, none] := within_ok _ _ _
  have c2 : Valid PP GG 103 [.d (.int .i64 next), .d (.int .i64 1), .d (.int .i64 1000000000)] (.d (.bool (inB next 1 1000000000))) [none, none, none] := within_ok _ _ _
  have c3 : Valid PP GG 103 [.d (.int .i64 lost), .d (.int .i64 0), .d (.int .i64 1000000000)] (.d (.bool (inB lost 0 1000000000))) [none, none, none] := within_ok _ _ _
  have c4 := isForest_ok (GG := GG) ⟨tk⟩ hf1
  have c5 := isBook_ok (GG := GG) ⟨ls⟩ hf2
  have c6 := isFar_ok (GG := GG) ⟨us, ff, fm⟩ hf3
  have c7 := isQueue_ok (GG := GG) ⟨js⟩ hf4
  have hT := fun h => lastT (f := ⟨tk⟩) h next
  have hL := fun h => lastL (f := ⟨ls⟩) h next
  have hli : ∀ id, Valid PP GG 94 [.agg [.d (.slc 6 (rLease ls))], .d (.int .i64 id)] (.d (.int .i64 (idxF (fun t => decide (t.fId = id)) ls))) [none, none] := fun id => leaseIndex_ok (GG := GG) ⟨ls⟩ id hf2.1
  have hB : worldB ⟨now, next, lost, ⟨tk⟩, ⟨ls⟩, ⟨us, ff, fm⟩, ⟨js⟩, ow⟩ = (inB now 0 1000000000 && inB next 1 1000000000 && inB lost 0 1000000000 && forestB ⟨tk⟩ && bookB ⟨ls⟩ && farB ⟨us, ff, fm⟩ && queueB ⟨js⟩ && belowT ⟨tk⟩ next && belowL ⟨ls⟩ next && okP (ownQ ⟨ls⟩) [] ow) := rfl
  have htl := hf1.1
  have hll := hf2.1
  generalize worldB ⟨now, next, lost, ⟨tk⟩, ⟨ls⟩, ⟨us, ff, fm⟩, ⟨js⟩, ow⟩ = B at *
  dsimp only at c4 c5 c6 c7 hT hL htl hll
  generalize inB now 0 1000000000 = p1 at *
  generalize inB next 1 1000000000 = p2 at *
  generalize inB lost 0 1000000000 = p3 at *
  generalize forestB ⟨tk⟩ = p4 at *
  generalize bookB ⟨ls⟩ = p5 at *
  generalize farB ⟨us, ff, fm⟩ = p6 at *
  generalize queueB ⟨js⟩ = p7 at *
  generalize belowT ⟨tk⟩ next = BT at *
  generalize belowL ⟨ls⟩ next = BL at *
  refine u_1 ?_
  refine W_seq (W_seq ?_)
  refine u_36 (Z7 c1 c2 c3 c4 c5 c6 c7) 46 (!(p1 && p2 && p3 && p4 && p5 && p6 && p7)) ?_
  refine W_cond rfl (fun h => ?_) (fun h => ?_)
  · rw [Bool.not_eq_true'] at h
    have hb : B = false := by rw [hB, h]; simp
    rw [hb]
    exact u_29
  rw [Bool.not_eq_false'] at h
  rw [h, Bool.true_and] at hB
  simp only [Bool.and_eq_true] at h
  have hT := hT h.1.1.1.2
  have hL := hL h.1.1.2
  clear h
  refine W_skip ?_
  refine W_seq (W_seq ?_)
  refine u_3 ?_
  refine W_seq (?_)
  refine W_regBD 65 (!BT) (fun K hK => ?_) ?_
  · rcases hT with ⟨e, hb⟩ | ⟨k, t, hk, ht, hb⟩
    · subst e
      rw [hb] at hK
      simp
      repeat' (first | exact hK _ _ (by clear hK; first | rfl | omega | (exact decide_eq_false (by omega)) | (exact decide_eq_true (by omega)) | (exact (decide_eq_true (by omega)).symm) | (exact (decide_eq_false (by omega)).symm) | (exact decide_eq_decide.2 (by omega)) | (simp only [← decide_not]; exact decide_eq_decide.2 (by omega)) | (simp [*]; done) | (simp [*]; omega) | (simp_all; done) | (simp_all; omega) | (rw [Bool.eq_iff_iff]; simp at *; omega)) | (with_reducible refine goL_split (fun _ => ?_) (fun _ => ?_) <;> simp) | with_reducible refine And.intro ?_ ?_ | with_reducible exact okay_rfl rfl | with_reducible assumption | omega)
    · have hw1 : IntKind.i64.wrap (k : Int) = k := wrap_id (by omega) (by omega)
      have hkc : (tk.length : Int) = (k : Int) + 1 := by omega
      have hpos : (0 : Int) < (k : Int) + 1 := by omega
      rw [hb, hkc] at hK
      simp [hkc, hpos, ht, hw1]
      repeat' (first | exact hK _ _ (by clear hK; first | rfl | omega | (exact decide_eq_false (by omega)) | (exact decide_eq_true (by omega)) | (exact (decide_eq_true (by omega)).symm) | (exact (decide_eq_false (by omega)).symm) | (exact decide_eq_decide.2 (by omega)) | (simp only [← decide_not]; exact decide_eq_decide.2 (by omega)) | (simp [*]; done) | (simp [*]; omega) | (simp_all; done) | (simp_all; omega) | (rw [Bool.eq_iff_iff]; simp at *; omega)) | (with_reducible refine goL_split (fun _ => ?_) (fun _ => ?_) <;> simp [hkc, hpos, ht, hw1]) | with_reducible refine And.intro ?_ ?_ | with_reducible exact okay_rfl rfl | with_reducible assumption | omega)
  refine W_cond rfl (fun h => ?_) (fun h => ?_)
  · rw [Bool.not_eq_true'] at h
    have hb : B = false := by rw [hB, h]; simp
    rw [hb]
    exact u_29
  rw [Bool.not_eq_false'] at h
  rw [h, Bool.true_and] at hB
  clear h hT
  refine W_skip ?_
  refine W_seq (W_seq ?_)
  refine u_3 ?_
  refine W_seq (?_)
  refine W_regBD 84 (!BL) (fun K hK => ?_) ?_
  · rcases hL with ⟨e, hb⟩ | ⟨k, t, hk, ht, hb⟩
    · subst e
      rw [hb] at hK
      simp
      repeat' (first | exact hK _ _ (by clear hK; first | rfl | omega | (exact decide_eq_false (by omega)) | (exact decide_eq_true (by omega)) | (exact (decide_eq_true (by omega)).symm) | (exact (decide_eq_false (by omega)).symm) | (exact decide_eq_decide.2 (by omega)) | (simp only [← decide_not]; exact decide_eq_decide.2 (by omega)) | (simp [*]; done) | (simp [*]; omega) | (simp_all; done) | (simp_all; omega) | (rw [Bool.eq_iff_iff]; simp at *; omega)) | (with_reducible refine goL_split (fun _ => ?_) (fun _ => ?_) <;> simp) | with_reducible refine And.intro ?_ ?_ | with_reducible exact okay_rfl rfl | with_reducible assumption | omega)
    · have hw1 : IntKind.i64.wrap (k : Int) = k := wrap_id (by omega) (by omega)
      have hkc : (ls.length : Int) = (k : Int) + 1 := by omega
      have hpos : (0 : Int) < (k : Int) + 1 := by omega
      rw [hb, hkc] at hK
      simp [hkc, hpos, ht, hw1]
      repeat' (first | exact hK _ _ (by clear hK; first | rfl | omega | (exact decide_eq_false (by omega)) | (exact decide_eq_true (by omega)) | (exact (decide_eq_true (by omega)).symm) | (exact (decide_eq_false (by omega)).symm) | (exact decide_eq_decide.2 (by omega)) | (simp only [← decide_not]; exact decide_eq_decide.2 (by omega)) | (simp [*]; done) | (simp [*]; omega) | (simp_all; done) | (simp_all; omega) | (rw [Bool.eq_iff_iff]; simp at *; omega)) | (with_reducible refine goL_split (fun _ => ?_) (fun _ => ?_) <;> simp [hkc, hpos, ht, hw1]) | with_reducible refine And.intro ?_ ?_ | with_reducible exact okay_rfl rfl | with_reducible assumption | omega)
  refine W_cond rfl (fun h => ?_) (fun h => ?_)
  · rw [Bool.not_eq_true'] at h
    have hb : B = false := by rw [hB, h]; simp
    rw [hb]
    exact u_29
  rw [Bool.not_eq_false'] at h
  rw [h, Bool.true_and] at hB
  clear h hL
  refine u_30 ?_
  refine W_loop (fun n st => ∃ i : Nat, n = ow.length - i ∧ i ≤ ow.length ∧ okP (ownQ ⟨ls⟩) [] (ow.take i) = true ∧
    st = ⟨[], [(1, .ptr 0 0), (86, .d (.slc 2 (rOwned ow))), (87, .d (.int .i64 ow.length)), (88, .d (.int .i64 i))], [(0, .box [.d (.int .i64 now), .d (.int .i64 next), .d (.int .i64 lost), .d (.slc 7 (rToken tk)), .d (.slc 6 (rLease ls)), .d (.slc 2 (rUser us)), .d (.int .i64 ff), .d (.int .i64 fm), .d (.slc 3 (rJob js)), .d (.slc 2 (rOwned ow))])], 1⟩) _ ⟨0, rfl, by omega, rfl, ?_⟩ ?_
  · exact u_24
  rintro n st ⟨i, rfl, hi, hok, rfl⟩
  by_cases hlt : i < ow.length
  · have ha := List.getElem?_eq_getElem hlt
    generalize ow[i] = x at ha
    have hst := okP_step (q := ownQ ⟨ls⟩) ha
    have hbad : ownQ ⟨ls⟩ (ow.take i) x = false → B = false := fun h => by rw [hB]; exact okP_bad ha h
    rw [hok, Bool.true_and] at hst
    have hq : ownQ ⟨ls⟩ (ow.take i) x = (adjB (fun p x => decide (p.fLease < x.fLease)) (ow.take i) x && hasLease ⟨ls⟩ x.fLease && nameOk x.fName && !((ow.take i).any fun p => p.fName == x.fName)) := rfl
    rw [hq] at hst hbad
    clear hq
    have hA := adj_cases (lt := fun p x : GOwned => decide (p.fLease < x.fLease)) (x := x) hi
    have cn := isName_ok (GG := GG) x.fName (by have := hon x (List.mem_of_getElem? ha); omega)
    have cl := hli x.fLease
    have hno : decide (idxF (fun t => decide (t.fId = x.fLease)) ls < 0) = !hasLease ⟨ls⟩ x.fLease := idxF_none _ _
    have cc := ContainsFuncOwned_ok (GG := GG) (ow.take i) 127 [[.int .i64 x.fLease, .str x.fName]] (fun p => p.fName == x.fName) (by simp; omega) fun t _ => isWorld_c1_ok t _ _
    have htk : (rOwned ow).take i = rOwned (ow.take i) := by simp [rOwned, List.map_take]
    generalize adjB (fun p x : GOwned => decide (p.fLease < x.fLease)) (ow.take i) x = A at *
    obtain ⟨xl, xn⟩ := x
    dsimp only at cn cl hno cc hst hbad hA
    generalize hasLease ⟨ls⟩ xl = L at *
    generalize nameOk xn = N at *
    generalize (ow.take i).any (fun p => p.fName == xn) = C at *
    generalize idxF (fun t => decide (t.fId = xl)) ls = k at *
    refine W_seq (?_)
    refine u_3 ?_
    refine W_seq (W_cond rfl (fun h => W_skip ?_) (fun h => ?_))
    rotate_left
    · exfalso; simp at h; omega
    refine W_seq (W_block (W_seq ?_))
    refine u_7 ha ?_
    refine W_seq (?_)
    refine W_regBD 128 (!(A && L && N && !C)) (fun K hK => ?_) ?_
    · rcases hA with ⟨rfl, hA⟩ | ⟨j, p, rfl, hp, hA⟩
      · subst hA
        simp only [List.take_zero] at cc
        cases L
        · simp only [Bool.not_false] at hno
          simp [hno]
          repeat' (first | exact hK _ _ (by clear hK; first | rfl | omega | (exact decide_eq_false (by omega)) | (exact decide_eq_true (by omega)) | (exact (decide_eq_true (by omega)).symm) | (exact (decide_eq_false (by omega)).symm) | (exact decide_eq_decide.2 (by omega)) | (simp only [← decide_not]; exact decide_eq_decide.2 (by omega)) | (simp [*]; done) | (simp [*]; omega) | (simp_all; done) | (simp_all; omega) | (rw [Bool.eq_iff_iff]; simp at *; omega)) | (with_reducible refine callQ (cl) ?_; simp [hno]) | (with_reducible refine callQ (cn) ?_; simp [hno]) | (with_reducible refine callQ (cc) ?_; simp [hno]) | (with_reducible refine goL_split (fun _ => ?_) (fun _ => ?_) <;> simp [hno]) | with_reducible refine And.intro ?_ ?_ | with_reducible exact okay_rfl rfl | with_reducible assumption | omega)
        · simp only [Bool.not_true] at hno
          simp [hno, htk]
          repeat' (first | exact hK _ _ (by clear hK; first | rfl | omega | (exact decide_eq_false (by omega)) | (exact decide_eq_true (by omega)) | (exact (decide_eq_true (by omega)).symm) | (exact (decide_eq_false (by omega)).symm) | (exact decide_eq_decide.2 (by omega)) | (simp only [← decide_not]; exact decide_eq_decide.2 (by omega)) | (simp [*]; done) | (simp [*]; omega) | (simp_all; done) | (simp_all; omega) | (rw [Bool.eq_iff_iff]; simp at *; omega)) | (with_reducible refine callQ (cl) ?_; simp [hno, htk]) | (with_reducible refine callQ (cn) ?_; simp [hno, htk]) | (with_reducible refine callQ (cc) ?_; simp [hno, htk]) | (with_reducible refine goL_split (fun _ => ?_) (fun _ => ?_) <;> simp [hno, htk]) | with_reducible refine And.intro ?_ ?_ | with_reducible exact okay_rfl rfl | with_reducible assumption | omega)
      · have hw1 : IntKind.i64.wrap (j : Int) = j := wrap_id (by omega) (by omega)
        rw [hA] at hK
        cases L
        · simp only [Bool.not_false] at hno
          simp [hp, hw1, htk, hno]
          repeat' (first | exact hK _ _ (by clear hK; first | rfl | omega | (exact decide_eq_false (by omega)) | (exact decide_eq_true (by omega)) | (exact (decide_eq_true (by omega)).symm) | (exact (decide_eq_false (by omega)).symm) | (exact decide_eq_decide.2 (by omega)) | (simp only [← decide_not]; exact decide_eq_decide.2 (by omega)) | (simp [*]; done) | (simp [*]; omega) | (simp_all; done) | (simp_all; omega) | (rw [Bool.eq_iff_iff]; simp at *; omega)) | (with_reducible refine callQ (cl) ?_; simp [hp, hw1, htk, hno]) | (with_reducible refine callQ (cn) ?_; simp [hp, hw1, htk, hno]) | (with_reducible refine callQ (cc) ?_; simp [hp, hw1, htk, hno]) | (with_reducible refine goL_split (fun _ => ?_) (fun _ => ?_) <;> simp [hp, hw1, htk, hno]) | with_reducible refine And.intro ?_ ?_ | with_reducible exact okay_rfl rfl | with_reducible assumption | omega)
        · simp only [Bool.not_true] at hno
          simp [hp, hw1, htk, hno]
          repeat' (first | exact hK _ _ (by clear hK; first | rfl | omega | (exact decide_eq_false (by omega)) | (exact decide_eq_true (by omega)) | (exact (decide_eq_true (by omega)).symm) | (exact (decide_eq_false (by omega)).symm) | (exact decide_eq_decide.2 (by omega)) | (simp only [← decide_not]; exact decide_eq_decide.2 (by omega)) | (simp [*]; done) | (simp [*]; omega) | (simp_all; done) | (simp_all; omega) | (rw [Bool.eq_iff_iff]; simp at *; omega)) | (with_reducible refine callQ (cl) ?_; simp [hp, hw1, htk, hno]) | (with_reducible refine callQ (cn) ?_; simp [hp, hw1, htk, hno]) | (with_reducible refine callQ (cc) ?_; simp [hp, hw1, htk, hno]) | (with_reducible refine goL_split (fun _ => ?_) (fun _ => ?_) <;> simp [hp, hw1, htk, hno]) | with_reducible refine And.intro ?_ ?_ | with_reducible exact okay_rfl rfl | with_reducible assumption | omega)
    refine W_cond rfl (fun h => ?_) (fun h => ?_)
    · rw [Bool.not_eq_true'] at h
      rw [hbad h]
      exact u_29
    rw [Bool.not_eq_false'] at h
    rw [h] at hst
    refine u_30 ?_
    refine ⟨ow.length - (i + 1), by omega, i + 1, rfl, hlt, hst, ?_⟩
    refine u_27 ?_
    exact wrap_id (by omega) (by omega)
  · have hie : i = ow.length := by omega
    subst hie
    rw [List.take_length] at hok
    rw [hok] at hB
    rw [hB]
    exact u_29
def zLease : GLease := ⟨0, 0, [], 0, 0, 0⟩
def findL (b : GBook) (id : Int) : GLease := if bookB b then (b.fLeases.find? fun l => decide (l.fId = id)).getD zLease else zLease
theorem find_hit {α : Type} {p : α → Bool} {a : List α} {i : Nat} {x : α} (ha : a[i]? = some x) (hn : ∀ x, x ∈ a.take i → p x = false) (hx : p x = true) : a.find? p = some x ∧ a.any p = true := by
  constructor
  · rw [List.find?_eq_some_iff_getElem]
    obtain ⟨h, e⟩ := List.getElem?_eq_some_iff.1 ha
    refine ⟨hx, i, h, e, fun j hj => ?_⟩
    have := hn a[j] (List.mem_take_iff_getElem.2 ⟨j, by omega, rfl⟩); simp [this]
  · rw [List.any_eq_true]; exact ⟨x, List.mem_of_getElem? ha, hx⟩
theorem find_miss {α : Type} {p : α → Bool} {a : List α} (hn : ∀ x, x ∈ a → p x = false) : a.find? p = none ∧ a.any p = false := by
  constructor
  · rw [List.find?_eq_none]; intro x hx; simp [hn x hx]
  · rw [List.any_eq_false]; intro x hx; simp [hn x hx]
theorem s_FindLease_ok [MaxL GG] (b : GBook) (id : Int) (hf : fitB b) : Valid PP GG 54 [.agg b.c, .d (.int .i64 id)] (.tup [.agg (findL b id).o, .d (.bool (bookB b && hasLease b id))]) [none, none] := by
  refine cv Tryz.func54 [.agg (findL b id).o, .d (.bool (bookB b && hasLease b id))] ?_
  obtain ⟨a⟩ := b
  have cb := s_BookOk_ok (GG := GG) ⟨a⟩ hf
  have hl := hf.1
  dsimp only at hl cb
  have hF : findL ⟨a⟩ id = if bookB ⟨a⟩ then (a.find? fun l => decide (l.fId = id)).getD zLease else zLease := rfl
  have hH : hasLease ⟨a⟩ id = a.any fun l => decide (l.fId = id) := rfl
  generalize findL ⟨a⟩ id = F at *
  generalize hasLease ⟨a⟩ id = H at *
  cases hb : bookB ⟨a⟩ with
  | false =>
    rw [hb] at cb hF
    simp only [Bool.false_eq_true, if_false] at hF
    subst hF
    repeat' (first | refine W_seq ?_ | refine W_skip ?_ | refine W_block ?_ | refine W_exit ?_ | refine pick_pos rfl ?_ | refine pick_neg rfl ?_ | ((first | refine W_regP fun K hK => ?_ | refine W_regPD fun K hK => ?_ | refine W_ret ?_ | with_reducible refine callQ (cb) ?_); simp [Fin, zLease]) | (with_reducible refine hK _ ?_; clear hK K) | (with_reducible refine goL_split (fun h => ?_) (fun h => ?_) <;> first | (exfalso; simp at h; first | done | omega | contradiction) | ((try simp at h); simp [zLease])) | with_reducible refine And.intro ?_ ?_ | with_reducible exact okay_rfl rfl | with_reducible assumption | (refine W_cond rfl (fun h => ?_) (fun h => ?_) <;> first | (exfalso; simp at h; first | done | omega | contradiction) | (exfalso; simp_all; done) | (try simp at h)) | omega)
  | true =>
    rw [hb] at cb hF
    simp only [if_true] at hF
    refine u_37 (Z1 cb) ?_
    refine W_loop (fun n st => ∃ i : Nat, n = a.length - i ∧ i ≤ a.length ∧ (∀ x, x ∈ a.take i → (decide (x.fId = id)) = false) ∧
      st = ⟨[], [(1, .d (.int .i64 id)), (2, .ptr 0 0), (4, .ptr 1 0), (6, .d (.int .i64 i))], [(0, .box [.d (.slc 6 (rLease a))]), (1, .box [.d (.int .i64 0), .d (.int .i64 0), .d (.str []), .d (.int .i64 0), .d (.int .i64 0), .d (.int .i64 0)])], 2⟩) _ ⟨0, rfl, by omega, fun x hx => by simp at hx, ?_⟩ ?_
    · exact u_24
    rintro n st ⟨i, rfl, hi, hn, rfl⟩
    by_cases hlt : i < a.length
    · have ha := List.getElem?_eq_getElem hlt
      generalize a[i] = x at ha
      by_cases hx : x.fId = id
      · obtain ⟨e1, e2⟩ := find_hit ha hn (decide_eq_true hx)
        rw [e1] at hF
        rw [e2] at hH
        simp only [Option.getD_some] at hF
        have hxb : (x.fId == id) = true := decide_eq_true hx
        subst hF hH
        exact u_22 (Y2 ha hxb)
      · have hn2 := take_miss (p := fun x : GLease => decide (x.fId = id)) ha hn (decide_eq_false hx)
        have hxb : (x.fId == id) = false := decide_eq_false hx
        refine u_23 (Y2 ha hxb) ?_
        refine ⟨a.length - (i + 1), by omega, i + 1, rfl, hlt, hn2, ?_⟩
        refine u_27 ?_
        exact wrap_id (by omega) (by omega)
    · have hie : i = a.length := by omega
      subst hie
      rw [List.take_length] at hn
      obtain ⟨e1, e2⟩ := find_miss hn
      rw [e1] at hF
      rw [e2] at hH
      simp only [Option.getD_none] at hF
      subst hF hH
      repeat' (first | refine W_seq ?_ | refine W_skip ?_ | refine W_block ?_ | refine W_exit ?_ | refine pick_pos rfl ?_ | refine pick_neg rfl ?_ | ((first | refine W_regP fun K hK => ?_ | refine W_regPD fun K hK => ?_ | refine W_ret ?_); simp [Fin, zLease]) | (with_reducible refine hK _ ?_; clear hK K) | (with_reducible refine goL_split (fun h => ?_) (fun h => ?_) <;> first | (exfalso; simp at h; first | done | omega | contradiction) | ((try simp at h); simp [zLease])) | with_reducible refine And.intro ?_ ?_ | with_reducible exact okay_rfl rfl | with_reducible assumption | (refine W_cond rfl (fun h => ?_) (fun h => ?_) <;> first | (exfalso; simp at h; first | done | omega | contradiction) | (exfalso; simp_all; done) | (try simp at h)) | omega)
theorem s_WorldOk_ok [MaxL GG] (w : GWorld) (hf : fitW w) : Valid PP GG 12 [.agg w.c] (.d (.bool (worldB w))) [none] := by
  refine cv Tryz.func12 [.d (.bool (worldB w))] ?_
  obtain ⟨now, next, lost, ⟨tk⟩, ⟨ls⟩, ⟨us, ff, fm⟩, ⟨js⟩, ow⟩ := w
  obtain ⟨hf1, hf2, hf3, hf4, hol, hon⟩ := hf
  dsimp only at hf1 hf2 hf3 hf4 hol hon
  have c1 : Valid PP GG 49 [.d (.int .i64 now), .d (.int .i64 0), .d (.int .i64 1000000000)] (.d (.bool (inB now 0 1000000000))) [none, none, none] := l01In_ok _ _ _
  have c2 : Valid PP GG 49 [.d (.int .i64 next), .d (.int .i64 1), .d (.int .i64 1000000000)] (.d (.bool (inB next 1 1000000000))) [none, none, none] := l01In_ok _ _ _
  have c3 : Valid PP GG 49 [.d (.int .i64 lost), .d (.int .i64 0), .d (.int .i64 1000000000)] (.d (.bool (inB lost 0 1000000000))) [none, none, none] := l01In_ok _ _ _
  have c4 := s_ForestOk_ok (GG := GG) ⟨tk⟩ hf1
  have c5 := s_BookOk_ok (GG := GG) ⟨ls⟩ hf2
  have c6 := s_FarOk_ok (GG := GG) ⟨us, ff, fm⟩ hf3
  have c7 := s_QueueOk_ok (GG := GG) ⟨js⟩ hf4
  have hfl := fun id => s_FindLease_ok (GG := GG) ⟨ls⟩ id hf2
  have hOL := fun h h' => owned_len (b := ⟨ls⟩) (l := ow) h h'
  have hB : worldB ⟨now, next, lost, ⟨tk⟩, ⟨ls⟩, ⟨us, ff, fm⟩, ⟨js⟩, ow⟩ = (inB now 0 1000000000 && inB next 1 1000000000 && inB lost 0 1000000000 && forestB ⟨tk⟩ && bookB ⟨ls⟩ && farB ⟨us, ff, fm⟩ && queueB ⟨js⟩ && belowT ⟨tk⟩ next && belowL ⟨ls⟩ next && okP (ownQ ⟨ls⟩) [] ow) := rfl
  have hBT : belowT ⟨tk⟩ next = tk.all fun t => decide (t.fId < next) := rfl
  have hBL : belowL ⟨ls⟩ next = ls.all fun t => decide (t.fId < next) := rfl
  have htl := hf1.1
  have hll := hf2.1
  generalize worldB ⟨now, next, lost, ⟨tk⟩, ⟨ls⟩, ⟨us, ff, fm⟩, ⟨js⟩, ow⟩ = B at *
  dsimp only at c4 c5 c6 c7 htl hll hOL
  generalize inB now 0 1000000000 = p1 at *
  generalize inB next 1 1000000000 = p2 at *
  generalize inB lost 0 1000000000 = p3 at *
  generalize forestB ⟨tk⟩ = p4 at *
  generalize bookB ⟨ls⟩ = p5 at *
  generalize farB ⟨us, ff, fm⟩ = p6 at *
  generalize queueB ⟨js⟩ = p7 at *
  generalize belowT ⟨tk⟩ next = BT at *
  generalize belowL ⟨ls⟩ next = BL at *
  refine u_1 ?_
  refine W_seq (W_seq ?_)
  refine u_36 (Z7 c1 c2 c3 c4 c5 c6 c7) 48 (!(p1 && p2 && p3 && p4 && p5 && p6 && p7)) ?_
  refine W_cond rfl (fun h => ?_) (fun h => ?_)
  · rw [Bool.not_eq_true'] at h
    have hb : B = false := by rw [hB, h]; simp
    rw [hb]
    exact u_29
  rw [Bool.not_eq_false'] at h
  rw [h, Bool.true_and] at hB
  simp only [Bool.and_eq_true] at h
  have hp5 := h.1.1.2
  subst hp5
  simp only [Bool.true_and] at hfl
  have hOL := hOL rfl
  clear h
  refine W_skip ?_
  refine u_30 ?_
  refine W_loop (fun n st => ∃ i : Nat, n = tk.length - i ∧ i ≤ tk.length ∧ (∀ x, x ∈ tk.take i → (!decide (x.fId < next)) = false) ∧
    st = ⟨[], [(1, .ptr 0 0), (3, .d (.int .i64 i))], [(0, .box [.d (.int .i64 now), .d (.int .i64 next), .d (.int .i64 lost), .d (.slc 7 (rToken tk)), .d (.slc 6 (rLease ls)), .d (.slc 2 (rUser us)), .d (.int .i64 ff), .d (.int .i64 fm), .d (.slc 3 (rJob js)), .d (.slc 2 (rOwned ow))])], 1⟩) _ ⟨0, rfl, by omega, fun x hx => by simp at hx, ?_⟩ ?_
  · exact u_24
  rintro n st ⟨i, rfl, hi, hn, rfl⟩
  by_cases hlt : i < tk.length
  · have ha := List.getElem?_eq_getElem hlt
    generalize tk[i] = x at ha
    by_cases hx : next ≤ x.fId
    · have hb : BT = false := by
        rw [hBT, List.all_eq_false]
        exact ⟨x, List.mem_of_getElem? ha, by simp; omega⟩
      rw [hB, hb]
      exact u_22 (Y2 ha hx)
    · have hn2 := take_miss (p := fun x : GToken => !decide (x.fId < next)) ha hn (by simp; omega)
      refine u_23 (Y2 ha hx) ?_
      refine ⟨tk.length - (i + 1), by omega, i + 1, rfl, hlt, hn2, ?_⟩
      refine u_27 ?_
      exact wrap_id (by omega) (by omega)
  have hie : i = tk.length := by omega
  subst hie
  rw [List.take_length] at hn
  have hb : BT = true := by
    rw [hBT, List.all_eq_true]; intro x hx; simpa using hn x hx
  subst hb
  clear hn hi hlt
  rw [Bool.true_and] at hB
  refine u_30 ?_
  refine W_loop (fun n st => ∃ i : Nat, n = ls.length - i ∧ i ≤ ls.length ∧ (∀ x, x ∈ ls.take i → (!decide (x.fId < next)) = false) ∧
    st = ⟨[], [(1, .ptr 0 0), (4, .d (.int .i64 i))], [(0, .box [.d (.int .i64 now), .d (.int .i64 next), .d (.int .i64 lost), .d (.slc 7 (rToken tk)), .d (.slc 6 (rLease ls)), .d (.slc 2 (rUser us)), .d (.int .i64 ff), .d (.int .i64 fm), .d (.slc 3 (rJob js)), .d (.slc 2 (rOwned ow))])], 1⟩) _ ⟨0, rfl, by omega, fun x hx => by simp at hx, ?_⟩ ?_
  · exact u_24
  rintro n st ⟨i, rfl, hi, hn, rfl⟩
  by_cases hlt : i < ls.length
  · have ha := List.getElem?_eq_getElem hlt
    generalize ls[i] = x at ha
    by_cases hx : next ≤ x.fId
    · have hb : BL = false := by
        rw [hBL, List.all_eq_false]
        exact ⟨x, List.mem_of_getElem? ha, by simp; omega⟩
      rw [hB, hb]
      exact u_22 (Y2 ha hx)
    · have hn2 := take_miss (p := fun x : GLease => !decide (x.fId < next)) ha hn (by simp; omega)
      refine u_23 (Y2 ha hx) ?_
      refine ⟨ls.length - (i + 1), by omega, i + 1, rfl, hlt, hn2, ?_⟩
      refine u_27 ?_
      exact wrap_id (by omega) (by omega)
  have hie : i = ls.length := by omega
  subst hie
  rw [List.take_length] at hn
  have hb : BL = true := by
    rw [hBL, List.all_eq_true]; intro x hx; simpa using hn x hx
  subst hb
  clear hn hi hlt
  rw [Bool.true_and] at hB
  by_cases hol2 : ls.length < ow.length
  · have hb : B = false := by
      rw [hB]
      cases h : okP (ownQ ⟨ls⟩) [] ow with
      | false => rfl
      | true => have := hOL h; omega
    rw [hb]
    exact u_22 hol2
  clear hOL
  refine u_23 hol2 ?_
  refine W_loop (fun n st => ∃ i : Nat, n = ow.length - i ∧ i ≤ ow.length ∧ okP (ownQ ⟨ls⟩) [] (ow.take i) = true ∧
    st = ⟨[], [(1, .ptr 0 0), (5, .d (.int .i64 i))], [(0, .box [.d (.int .i64 now), .d (.int .i64 next), .d (.int .i64 lost), .d (.slc 7 (rToken tk)), .d (.slc 6 (rLease ls)), .d (.slc 2 (rUser us)), .d (.int .i64 ff), .d (.int .i64 fm), .d (.slc 3 (rJob js)), .d (.slc 2 (rOwned ow))])], 1⟩) _ ⟨0, rfl, by omega, rfl, ?_⟩ ?_
  · exact u_24
  rintro n st ⟨i, rfl, hi, hok, rfl⟩
  by_cases hlt : i < ow.length
  rotate_left
  · have hie : i = ow.length := by omega
    subst hie
    rw [List.take_length] at hok
    rw [hok] at hB
    rw [hB]
    exact u_29
  have ha := List.getElem?_eq_getElem hlt
  generalize ow[i] = x at ha
  have hst := okP_step (q := ownQ ⟨ls⟩) ha
  have hbad : ownQ ⟨ls⟩ (ow.take i) x = false → B = false := fun h => by rw [hB]; exact okP_bad ha h
  rw [hok, Bool.true_and] at hst
  have hq : ownQ ⟨ls⟩ (ow.take i) x = (adjB (fun p x => decide (p.fLease < x.fLease)) (ow.take i) x && hasLease ⟨ls⟩ x.fLease && nameOk x.fName && !((ow.take i).any fun p => p.fName == x.fName)) := rfl
  rw [hq] at hst hbad
  clear hq
  have hA := adj_cases (lt := fun p x : GOwned => decide (p.fLease < x.fLease)) (x := x) hi
  have cn := l01Name_ok (GG := GG) x.fName (by have := hon x (List.mem_of_getElem? ha); omega)
  have cl := hfl x.fLease
  generalize adjB (fun p x : GOwned => decide (p.fLease < x.fLease)) (ow.take i) x = A at *
  obtain ⟨xl, xn⟩ := x
  dsimp only at cn cl hst hbad hA
  generalize hasLease ⟨ls⟩ xl = L at *
  generalize nameOk xn = N at *
  generalize findL ⟨ls⟩ xl = FL at *
  refine W_seq (W_seq ?_)
  refine u_3 ?_
  refine W_cond rfl (fun h => W_skip ?_) (fun h => ?_)
  rotate_left
  · exfalso; simp at h; omega
  refine W_seq (W_block (W_seq ?_))
  refine u_12 ha (Z1 cl) ?_
  refine W_seq (W_seq ?_)
  refine W_regBD 143 (!(A && L && N)) (fun K hK => ?_) ?_
  · rcases hA with ⟨rfl, hA⟩ | ⟨j, p, rfl, hp, hA⟩
    · subst hA
      simp [ha]
      repeat' (first | exact hK _ _ (by clear hK; first | rfl | omega | (exact decide_eq_false (by omega)) | (exact decide_eq_true (by omega)) | (exact (decide_eq_true (by omega)).symm) | (exact (decide_eq_false (by omega)).symm) | (exact decide_eq_decide.2 (by omega)) | (simp only [← decide_not]; exact decide_eq_decide.2 (by omega)) | (simp [*]; done) | (simp [*]; omega) | (simp_all; done) | (simp_all; omega) | (rw [Bool.eq_iff_iff]; simp at *; omega)) | (with_reducible refine callQ (cn) ?_; simp [ha]) | (with_reducible refine goL_split (fun _ => ?_) (fun _ => ?_) <;> simp [ha]) | with_reducible refine And.intro ?_ ?_ | with_reducible exact okay_rfl rfl | with_reducible assumption | omega)
    · have hw1 : IntKind.i64.wrap (j : Int) = j := wrap_id (by omega) (by omega)
      rw [hA] at hK
      cases L
      · simp [hp, ha, hw1]
        repeat' (first | exact hK _ _ (by clear hK; first | rfl | omega | (exact decide_eq_false (by omega)) | (exact decide_eq_true (by omega)) | (exact (decide_eq_true (by omega)).symm) | (exact (decide_eq_false (by omega)).symm) | (exact decide_eq_decide.2 (by omega)) | (simp only [← decide_not]; exact decide_eq_decide.2 (by omega)) | (simp [*]; done) | (simp [*]; omega) | (simp_all; done) | (simp_all; omega) | (rw [Bool.eq_iff_iff]; simp at *; omega)) | (with_reducible refine callQ (cn) ?_; simp [hp, ha, hw1]) | (with_reducible refine goL_split (fun _ => ?_) (fun _ => ?_) <;> simp [hp, ha, hw1]) | with_reducible refine And.intro ?_ ?_ | with_reducible exact okay_rfl rfl | with_reducible assumption | omega)
      · cases N
        · simp [hp, ha, hw1]
          repeat' (first | exact hK _ _ (by clear hK; first | rfl | omega | (exact decide_eq_false (by omega)) | (exact decide_eq_true (by omega)) | (exact (decide_eq_true (by omega)).symm) | (exact (decide_eq_false (by omega)).symm) | (exact decide_eq_decide.2 (by omega)) | (simp only [← decide_not]; exact decide_eq_decide.2 (by omega)) | (simp [*]; done) | (simp [*]; omega) | (simp_all; done) | (simp_all; omega) | (rw [Bool.eq_iff_iff]; simp at *; omega)) | (with_reducible refine callQ (cn) ?_; simp [hp, ha, hw1]) | (with_reducible refine goL_split (fun _ => ?_) (fun _ => ?_) <;> simp [hp, ha, hw1]) | with_reducible refine And.intro ?_ ?_ | with_reducible exact okay_rfl rfl | with_reducible assumption | omega)
        · simp only [Bool.and_true] at hK
          simp [hp, ha, hw1]
          repeat' (first | exact hK _ _ (by clear hK; first | rfl | omega | (exact decide_eq_false (by omega)) | (exact decide_eq_true (by omega)) | (exact (decide_eq_true (by omega)).symm) | (exact (decide_eq_false (by omega)).symm) | (exact decide_eq_decide.2 (by omega)) | (simp only [← decide_not]; exact decide_eq_decide.2 (by omega)) | (simp [*]; done) | (simp [*]; omega) | (simp_all; done) | (simp_all; omega) | (rw [Bool.eq_iff_iff]; simp at *; omega)) | (with_reducible refine callQ (cn) ?_; simp [hp, ha, hw1]) | (with_reducible refine goL_split (fun _ => ?_) (fun _ => ?_) <;> simp [hp, ha, hw1]) | with_reducible refine And.intro ?_ ?_ | with_reducible exact okay_rfl rfl | with_reducible assumption | omega)
  refine W_cond rfl (fun h => ?_) (fun h => ?_)
  · rw [Bool.not_eq_true'] at h
    rw [h] at hbad
    rw [hbad rfl]
    exact u_29
  rw [Bool.not_eq_false'] at h
  rw [h, Bool.true_and] at hst hbad
  clear h hA
  refine W_skip ?_
  refine u_30 ?_
  refine W_loop (fun n st => ∃ k : Nat, n = i - k ∧ k ≤ i ∧ (∀ y, y ∈ ow.take k → (y.fName == xn) = false) ∧
    st = ⟨[], [(1, .ptr 0 0), (5, .d (.int .i64 i)), (8, .d (.int .i64 k))], [(0, .box [.d (.int .i64 now), .d (.int .i64 next), .d (.int .i64 lost), .d (.slc 7 (rToken tk)), .d (.slc 6 (rLease ls)), .d (.slc 2 (rUser us)), .d (.int .i64 ff), .d (.int .i64 fm), .d (.slc 3 (rJob js)), .d (.slc 2 (rOwned ow))])], 1⟩) _ ⟨0, rfl, by omega, fun y h => by simp at h, ?_⟩ ?_
  · exact u_24
  rintro n st ⟨k, rfl, hk, hn, rfl⟩
  by_cases hkl : k < i
  · have hak := List.getElem?_eq_getElem (show k < ow.length by omega)
    generalize ow[k]'_ = y at hak
    obtain ⟨yl, yn⟩ := y
    cases hyn : (yn == xn) with
    | true =>
      rw [hbad (by
        have : (ow.take i).any (fun t => t.fName == xn) = true := by
          rw [List.any_eq_true]
          exact ⟨_, List.mem_of_getElem? (by rw [List.getElem?_take_of_lt hkl]; exact hak), hyn⟩
        rw [this]; rfl)]
      exact u_22 (Y4 hak ha hkl hyn)
    | false =>
      have hn2 := take_miss (p := fun y : GOwned => y.fName == xn) hak hn hyn
      refine u_23 (Y4 hak ha hkl hyn) ?_
      refine ⟨i - (k + 1), by omega, k + 1, rfl, hkl, hn2, ?_⟩
      refine u_27 ?_
      exact wrap_id (by omega) (by omega)
  · have hke : k = i := by omega
    subst hke
    have : (ow.take k).any (fun t => t.fName == xn) = false := by
      rw [List.any_eq_false]; intro y hy; rw [hn y hy]; simp
    rw [this] at hst
    refine u_23 hkl ?_
    refine ⟨ow.length - (k + 1), by omega, k + 1, rfl, hlt, hst, ?_⟩
    refine u_27 ?_
    exact wrap_id (by omega) (by omega)
theorem fitW_of {w : GWorld} (h : w.cost ≤ 1048576) : fitW w := by
  have e : w.cost = w.fForest.cost + w.fBook.cost + w.fFar.cost + w.fQueue.cost + (w.fOwned.length + sumBy GOwned.cost w.fOwned) := rfl
  have e1 : w.fForest.cost = w.fForest.fTokens.length + sumBy GToken.cost w.fForest.fTokens := rfl
  have e2 : w.fBook.cost = w.fBook.fLeases.length + sumBy GLease.cost w.fBook.fLeases := rfl
  have e3 : w.fFar.cost = w.fFar.fUsers.length + sumBy GUser.cost w.fFar.fUsers := rfl
  have e4 : w.fQueue.cost = w.fQueue.fJobs.length + sumBy GJob.cost w.fQueue.fJobs := rfl
  refine ⟨⟨by omega, fun t ht => ?_⟩, ⟨by omega, fun t ht => ?_⟩, ⟨by omega, fun t ht => ?_⟩, ⟨by omega, fun t ht => ?_⟩, by omega, fun t ht => ?_⟩
  · have h1 := sumBy_mem (f := GToken.cost) ht
    have e5 : t.cost = t.fNames.length + sumBy List.length t.fNames := rfl
    refine ⟨by omega, fun s hs => ?_⟩
    have := sumBy_mem (f := List.length) hs
    omega
  · have h1 := sumBy_mem (f := GLease.cost) ht
    have e5 : t.cost = t.fPath.length := rfl
    omega
  · have h1 := sumBy_mem (f := GUser.cost) ht
    have e5 : t.cost = t.fName.length + t.fPass.length := rfl
    omega
  · have h1 := sumBy_mem (f := GJob.cost) ht
    have e5 : t.cost = t.fName.length := rfl
    omega
  · have h1 := sumBy_mem (f := GOwned.cost) ht
    have e5 : t.cost = t.fName.length := rfl
    omega
theorem snoc_ind {α : Type} {P : List α → Prop} (h0 : P []) (h1 : ∀ l x, P l → P (l ++ [x])) : ∀ l, P l := by
  intro l
  rw [← List.reverse_reverse l]
  induction l.reverse with
  | nil => exact h0
  | cons x r ih => rw [List.reverse_cons]; exact h1 _ _ ih
def wstep (p : GToken → Bool) (s : List GToken × List Int) (t : GToken) : List GToken × List Int :=
  if (p t || s.2.contains t.fParent) = true then (s.1, s.2 ++ [t.fId]) else (s.1 ++ [t], s.2)
def wo (p : GToken → Bool) (l : List GToken) : List GToken × List Int := l.foldl (wstep p) ([], [])
theorem wo_snoc (p : GToken → Bool) (l : List GToken) (t : GToken) : wo p (l ++ [t]) = wstep p (wo p l) t := by
  unfold wo; rw [List.foldl_append]; rfl
theorem wo_succ {p : GToken → Bool} {l : List GToken} {i : Nat} {t : GToken} (h : l[i]? = some t) : wo p (l.take (i + 1)) = wstep p (wo p (l.take i)) t := by
  rw [List.take_add_one, h]; exact wo_snoc p _ t
theorem wo_len (p : GToken → Bool) (l : List GToken) : (wo p l).1.length + (wo p l).2.length = l.length := by
  induction l using snoc_ind with
  | h0 => rfl
  | h1 l t ih =>
    rw [wo_snoc]; unfold wstep
    split <;> simp <;> omega
structure WoOk (p : GToken → Bool) (l : List GToken) (r : List GToken) (G : List Int) : Prop where
  sub : ∀ x, x ∈ G → ∃ t, t ∈ l ∧ t.fId = x
  rec_ : ∀ t, t ∈ l → G.contains t.fId = (p t || G.contains t.fParent)
  rest : r = l.filter fun t => !G.contains t.fId
  ids : G = (l.filter fun t => G.contains t.fId).map GToken.fId
theorem contains_app (G : List Int) (y x : Int) : (G ++ [y]).contains x = (G.contains x || decide (x = y)) := by
  rw [Bool.eq_iff_iff]; simp [List.contains_iff_mem]
theorem wo_ok (p : GToken → Bool) (l : List GToken) : l.Pairwise (fun y x => y.fId < x.fId) → (∀ t, t ∈ l → t.fParent < t.fId) → WoOk p l (wo p l).1 (wo p l).2 := by
  induction l using snoc_ind with
  | h0 => intro _ _; exact ⟨fun x h => by simp [wo] at h, fun t h => by simp at h, rfl, rfl⟩
  | h1 l t ih =>
    intro hinc hpar
    rw [List.pairwise_append] at hinc
    obtain ⟨hi1, _, hi2⟩ := hinc
    have hlt : ∀ s, s ∈ l → s.fId < t.fId := fun s hs => hi2 s hs t (by simp)
    obtain ⟨sub, hrec, rest, ids⟩ := ih hi1 fun s hs => hpar s (by simp [hs])
    have htp := hpar t (by simp)
    rw [wo_snoc]
    generalize wo p l = s at sub hrec rest ids ⊢
    obtain ⟨r, G⟩ := s
    dsimp only at sub hrec rest ids ⊢
    have hGt : ∀ y, y ∈ G → y < t.fId := fun y hy => by obtain ⟨s, hs, rfl⟩ := sub y hy; exact hlt s hs
    have hct : G.contains t.fId = false := by
      cases h : G.contains t.fId with
      | false => rfl
      | true => have := hGt _ (List.contains_iff_mem.1 h); omega
    unfold wstep
    by_cases hd : (p t || G.contains t.fParent) = true
    · rw [if_pos hd]
      have hc : ∀ x, x < t.fId → (G ++ [t.fId]).contains x = G.contains x := fun x hx => by
        rw [contains_app, decide_eq_false (by omega), Bool.or_false]
      have hc2 : (G ++ [t.fId]).contains t.fId = true := by rw [contains_app, decide_eq_true rfl, Bool.or_true]
      refine ⟨fun x hx => ?_, fun s hs => ?_, ?_, ?_⟩
      · rcases List.mem_append.1 hx with h | h
        · obtain ⟨s, hs, e⟩ := sub x h; exact ⟨s, by simp [hs], e⟩
        · simp at h; exact ⟨t, by simp, h.symm⟩
      · rcases List.mem_append.1 hs with h | h
        · have h1 := hlt s h
          have h2 := hpar s hs
          rw [hc _ h1, hc _ (by omega)]
          exact hrec s h
        · simp at h; subst h
          rw [hc2, hc _ htp, hd]
      · simp only
        rw [List.filter_append, List.filter_congr (q := fun s => !G.contains s.fId) fun s hs => by rw [hc _ (hlt s hs)], ← rest]
        simp [hc2]
      · simp only
        rw [List.filter_append, List.filter_congr (q := fun s => G.contains s.fId) fun s hs => by rw [hc _ (hlt s hs)], List.map_append, ← ids]
        simp
    · rw [if_neg hd]
      simp only [Bool.not_eq_true] at hd
      refine ⟨fun x hx => ?_, fun s hs => ?_, ?_, ?_⟩
      · obtain ⟨s, hs, e⟩ := sub x hx; exact ⟨s, by simp [hs], e⟩
      · rcases List.mem_append.1 hs with h | h
        · exact hrec s h
        · simp at h; subst h; rw [hct, hd]
      · simp only
        rw [List.filter_append, ← rest]
        simp only [List.filter_cons, List.filter_nil, hct]; simp
      · simp only
        rw [List.filter_append, List.map_append, ← ids]
        simp only [List.filter_cons, List.filter_nil, hct]; simp
theorem forest_par {f : GForest} (h : forestB f = true) : (∀ t, t ∈ f.fTokens → t.fParent < t.fId) ∧ (∀ t, t ∈ f.fTokens → 0 ≤ t.fParent ∧ 1 ≤ t.fId ∧ t.fId ≤ 1000000000) ∧ (∀ t, t ∈ f.fTokens → t.fParent = 0 ∨ hasTok f t.fParent = true) := by
  unfold forestB at h
  rw [Bool.and_eq_true] at h
  have key : ∀ t, t ∈ f.fTokens → t.fParent < t.fId ∧ 0 ≤ t.fParent ∧ 1 ≤ t.fId ∧ t.fId ≤ 1000000000 ∧ (t.fParent = 0 ∨ hasTok f t.fParent = true) := by
    intro t ht
    obtain ⟨i, hi⟩ := List.getElem?_of_mem ht
    have hq := okP_get h.2 hi
    unfold tokQ tokenB at hq
    simp only [Bool.and_eq_true, Bool.or_eq_true, decide_eq_true_eq] at hq
    have h1 := inB_true hq.1.1.1.1.1.1.1.1
    have h2 := inB_true hq.1.1.1.1.1.1.1.2
    exact ⟨by omega, by omega, by omega, by omega, hq.2⟩
  exact ⟨fun t ht => (key t ht).1, fun t ht => ⟨(key t ht).2.1, (key t ht).2.2.1, (key t ht).2.2.2.1⟩, fun t ht => (key t ht).2.2.2.2⟩
theorem forest_wo {f : GForest} (h : forestB f = true) (p : GToken → Bool) : WoOk p f.fTokens (wo p f.fTokens).1 (wo p f.fTokens).2 := wo_ok p _ (forest_inc h) (forest_par h).1
theorem filter_succ {α β : Type} {p : α → Bool} {f : α → β} {a : List α} {k : Nat} {x : α} (h : a[k]? = some x) : ((a.take (k + 1)).filter p).map f = ((a.take k).filter p).map f ++ (if p x then [f x] else []) := by
  rw [List.take_add_one, h, List.filter_append, List.map_append]
  simp only [Option.toList_some, List.filter_cons, List.filter_nil]
  split <;> simp
theorem filter_take_len {α β : Type} (p : α → Bool) (f : α → β) (a : List α) (k : Nat) : (((a.take k).filter p).map f).length ≤ k := by
  rw [List.length_map]
  have h1 := List.length_filter_le p (a.take k)
  have h2 : (a.take k).length ≤ k := by simp; omega
  omega
theorem strs_row (l : List (List UInt8)) : ∀ r, r ∈ strsD l → r.length = 1 := by
  intro r h
  simp only [strsD, List.mem_map] at h
  obtain ⟨x, _, rfl⟩ := h
  rfl
def clnString_ren : Go.Shelf.Ren := ⟨fun | 41 => 198 | n => n, fun | 22 => 57 | 23 => 9 | n => n, fun n => n⟩
theorem clnString : Go.Proofs.SlLaysE0.n41 PP clnString_ren := {
  mixed := by kernel_rfl
  f41 := ⟨"slices.Clone[[]string,string]", by decide, Tryz.func198.trans (congrArg some (by kernel_rfl))⟩
  t4 := Tryz.underlying4
  a4 := Tryz.isAgg4
  z4 := Tryz.sizeOf4
  v4 := Tryz.zeroValue4
  t22 := Tryz.underlying57
  a22 := Tryz.isAgg57
  z22 := Tryz.sizeOf57
  v22 := Tryz.zeroValue57
}
theorem CloneString_ok (l : List (List UInt8)) (hN : l.length ≤ 1099511627776) : Valid PP GG 198 [.d (.slc 1 (strsD l))] (.own 0 1 (strsD l)) [none] :=
  clone_valid clnString ⟨Tryz.f198, Tryz.func198, by kernel_rfl, by kernel_rfl⟩ 1 16 (by kernel_rfl) (by kernel_rfl) (by kernel_rfl) (by kernel_rfl) (by omega) (by omega) Tryz.sizeOf9 _ (strs_row l) (by rw [strsD_len]; exact hN)
def clnLease_ren : Go.Shelf.Ren := ⟨fun | 41 => 200 | n => n, fun | 22 => 42 | 23 => 104 | n => n, fun n => n⟩
theorem clnLease : Go.Proofs.SlLaysE0.n41 PP clnLease_ren := {
  mixed := by kernel_rfl
  f41 := ⟨"slices.Clone[[]loop.example/g00705/impl.Lease,loop.example/g00705/impl.Lease]", by decide, Tryz.func200.trans (congrArg some (by kernel_rfl))⟩
  t4 := Tryz.underlying4
  a4 := Tryz.isAgg4
  z4 := Tryz.sizeOf4
  v4 := Tryz.zeroValue4
  t22 := Tryz.underlying42
  a22 := Tryz.isAgg42
  z22 := Tryz.sizeOf42
  v22 := Tryz.zeroValue42
}
theorem CloneLease_ok (l : List GLease) (hN : l.length ≤ 1099511627776) : Valid PP GG 200 [.d (.slc 6 (rLease l))] (.own 0 6 (rLease l)) [none] :=
  clone_valid clnLease ⟨Tryz.f200, Tryz.func200, by kernel_rfl, by kernel_rfl⟩ 6 56 (by kernel_rfl) (by kernel_rfl) (by kernel_rfl) (by kernel_rfl) (by omega) (by omega) Tryz.sizeOf104 _ (rLease_row l) (by rw [rLease_len]; exact hN)
def clnUser_ren : Go.Shelf.Ren := ⟨fun | 41 => 201 | n => n, fun | 22 => 45 | 23 => 84 | n => n, fun n => n⟩
theorem clnUser : Go.Proofs.SlLaysE0.n41 PP clnUser_ren := {
  mixed := by kernel_rfl
  f41 := ⟨"slices.Clone[[]loop.example/g00705/impl.User,loop.example/g00705/impl.User]", by decide, Tryz.func201.trans (congrArg some (by kernel_rfl))⟩
  t4 := Tryz.underlying4
  a4 := Tryz.isAgg4
  z4 := Tryz.sizeOf4
  v4 := Tryz.zeroValue4
  t22 := Tryz.underlying45
  a22 := Tryz.isAgg45
  z22 := Tryz.sizeOf45
  v22 := Tryz.zeroValue45
}
theorem CloneUser_ok (l : List GUser) (hN : l.length ≤ 1099511627776) : Valid PP GG 201 [.d (.slc 2 (rUser l))] (.own 0 2 (rUser l)) [none] :=
  clone_valid clnUser ⟨Tryz.f201, Tryz.func201, by kernel_rfl, by kernel_rfl⟩ 2 32 (by kernel_rfl) (by kernel_rfl) (by kernel_rfl) (by kernel_rfl) (by omega) (by omega) Tryz.sizeOf84 _ (rUser_row l) (by rw [rUser_len]; exact hN)
def clnJob_ren : Go.Shelf.Ren := ⟨fun | 41 => 202 | n => n, fun | 22 => 48 | 23 => 121 | n => n, fun n => n⟩
theorem clnJob : Go.Proofs.SlLaysE0.n41 PP clnJob_ren := {
  mixed := by kernel_rfl
  f41 := ⟨"slices.Clone[[]loop.example/g00705/impl.Job,loop.example/g00705/impl.Job]", by decide, Tryz.func202.trans (congrArg some (by kernel_rfl))⟩
  t4 := Tryz.underlying4
  a4 := Tryz.isAgg4
  z4 := Tryz.sizeOf4
  v4 := Tryz.zeroValue4
  t22 := Tryz.underlying48
  a22 := Tryz.isAgg48
  z22 := Tryz.sizeOf48
  v22 := Tryz.zeroValue48
}
theorem CloneJob_ok (l : List GJob) (hN : l.length ≤ 1099511627776) : Valid PP GG 202 [.d (.slc 3 (rJob l))] (.own 0 3 (rJob l)) [none] :=
  clone_valid clnJob ⟨Tryz.f202, Tryz.func202, by kernel_rfl, by kernel_rfl⟩ 3 32 (by kernel_rfl) (by kernel_rfl) (by kernel_rfl) (by kernel_rfl) (by omega) (by omega) Tryz.sizeOf121 _ (rJob_row l) (by rw [rJob_len]; exact hN)
def clnOwned_ren : Go.Shelf.Ren := ⟨fun | 41 => 152 | n => n, fun | 22 => 51 | 23 => 108 | n => n, fun n => n⟩
theorem clnOwned : Go.Proofs.SlLaysE0.n41 PP clnOwned_ren := {
  mixed := by kernel_rfl
  f41 := ⟨"slices.Clone[[]loop.example/g00705/impl.Owned,loop.example/g00705/impl.Owned]", by decide, Tryz.func152.trans (congrArg some (by kernel_rfl))⟩
  t4 := Tryz.underlying4
  a4 := Tryz.isAgg4
  z4 := Tryz.sizeOf4
  v4 := Tryz.zeroValue4
  t22 := Tryz.underlying51
  a22 := Tryz.isAgg51
  z22 := Tryz.sizeOf51
  v22 := Tryz.zeroValue51
}
theorem CloneOwned_ok (l : List GOwned) (hN : l.length ≤ 1099511627776) : Valid PP GG 152 [.d (.slc 2 (rOwned l))] (.own 0 2 (rOwned l)) [none] :=
  clone_valid clnOwned ⟨Tryz.f152, Tryz.func152, by kernel_rfl, by kernel_rfl⟩ 2 24 (by kernel_rfl) (by kernel_rfl) (by kernel_rfl) (by kernel_rfl) (by omega) (by omega) Tryz.sizeOf108 _ (rOwned_row l) (by rw [rOwned_len]; exact hN)
theorem ints_get (l : List Int) (i : Nat) : (intsD l)[i]? = (l[i]?).map fun s => [.int .i64 s] := by simp [intsD]
theorem ints_len (l : List Int) : (intsD l).length = l.length := by simp [intsD]
theorem idxF_contains (x : Int) (a : List Int) : decide (0 ≤ idxF (fun y => y == x) a) = a.contains x := by
  rw [idxF_any, Bool.eq_iff_iff, List.contains_iff_mem, List.any_eq_true]
  constructor
  · rintro ⟨y, h1, h2⟩; exact (beq_iff_eq.1 h2) ▸ h1
  · intro h; exact ⟨x, h, beq_self_eq_true x⟩
theorem IndexInt_ok (a : List Int) (x : Int) (hsz : a.length ≤ 281474976710656) :
    Valid PP GG 142 [.d (.slc 1 (intsD a)), .d (.int .i64 x)] (.d (.int .i64 (idxF (fun y => y == x) a))) [none, none] := by
  refine cv Tryz.func142 [.d (.int .i64 (idxF (fun y => y == x) a))] ?_
  refine u_39 ?_
  refine W_loop (fun n st => ∃ i : Nat, n = a.length - i ∧ i ≤ a.length ∧ (∀ y, y ∈ a.take i → (y == x) = false) ∧
    st = ⟨[], [(0, .d (.slc 1 (intsD a))), (1, .d (.int .i64 x)), (7, .d (.int .i64 a.length)), (8, .d (.int .i64 i))], [], 0⟩) _ ⟨0, rfl, by omega, fun x hx => by simp at hx, ?_⟩ ?_
  · exact u_40
  rintro n st ⟨i, rfl, hi, hn, rfl⟩
  by_cases hlt : i < a.length
  · have ha := List.getElem?_eq_getElem hlt
    generalize a[i] = y at ha
    cases hx : (y == x) with
    | true =>
      have e := idxF_hit (p := fun y => y == x) ha hn hx
      have hx' : (x == y) = true := by rw [beq_iff_eq] at hx ⊢; exact hx.symm
      rw [e]
      exact u_41 (Y3 ha hx hx')
    | false =>
      have hn2 := take_miss (p := fun y => y == x) ha hn hx
      have hx' : (x == y) = false := by rw [beq_eq_false_iff_ne] at hx ⊢; exact fun e => hx e.symm
      repeat' (first | refine W_seq ?_ | refine W_skip ?_ | refine W_block ?_ | refine W_exit ?_ | refine pick_pos rfl ?_ | refine pick_neg rfl ?_ | ((first | refine W_regP fun K hK => ?_ | refine W_regPD fun K hK => ?_ | refine W_ret ?_); simp [Fin, ha, ints_get, hx, hx']) | (with_reducible refine hK _ ?_; clear hK K) | (with_reducible refine goL_split (fun h => ?_) (fun h => ?_) <;> first | (exfalso; simp at h; first | done | omega | contradiction) | ((try simp at h); simp [ha, ints_get, hx, hx'])) | with_reducible refine And.intro ?_ ?_ | with_reducible exact okay_rfl rfl | with_reducible assumption | (refine W_cond rfl (fun h => ?_) (fun h => ?_) <;> first | (exfalso; simp at h; first | done | omega | contradiction) | (exfalso; simp_all; done) | (try simp at h)) | omega)
      refine ⟨a.length - (i + 1), by omega, i + 1, rfl, hlt, hn2, ?_⟩
      refine u_42 ?_
      exact wrap_id (by omega) (by omega)
  · have hie : i = a.length := by omega
    subst hie
    rw [List.take_length] at hn
    rw [idxF_miss hn]
    exact u_29
theorem ContainsInt_ok (a : List Int) (x : Int) (hsz : a.length ≤ 281474976710656) : Valid PP GG 80 [.d (.slc 1 (intsD a)), .d (.int .i64 x)] (.d (.bool (a.contains x))) [none, none] := by
  refine cv Tryz.func80 [.d (.bool (a.contains x))] ?_
  have ci := IndexInt_ok (GG := GG) a x hsz
  have e := idxF_contains x a
  exact u_31 e (Z1 ci)
theorem l01Has_ok (a : List Int) (x : Int) (hsz : a.length ≤ 281474976710656) : Valid PP GG 77 [.d (.slc 1 (intsD a)), .d (.int .i64 x)] (.d (.bool (a.contains x))) [none, none] := by
  refine cv Tryz.func77 [.d (.bool (a.contains x))] ?_
  have hany := idxF_contains x a
  rw [idxF_any] at hany
  refine u_39 ?_
  refine W_loop (fun n st => ∃ i : Nat, n = a.length - i ∧ i ≤ a.length ∧ (∀ y, y ∈ a.take i → (y == x) = false) ∧
    st = ⟨[], [(0, .d (.slc 1 (intsD a))), (1, .d (.int .i64 x)), (5, .d (.int .i64 i))], [], 0⟩) _ ⟨0, rfl, by omega, fun x hx => by simp at hx, ?_⟩ ?_
  · exact u_40
  rintro n st ⟨i, rfl, hi, hn, rfl⟩
  by_cases hlt : i < a.length
  · have ha := List.getElem?_eq_getElem hlt
    generalize a[i] = y at ha
    cases hx : (y == x) with
    | true =>
      have e := (find_hit (p := fun y => y == x) ha hn hx).2
      rw [e] at hany
      rw [← hany]
      exact u_43 (Y2 ha hx)
    | false =>
      have hn2 := take_miss (p := fun y => y == x) ha hn hx
      repeat' (first | refine W_seq ?_ | refine W_skip ?_ | refine W_block ?_ | refine W_exit ?_ | refine pick_pos rfl ?_ | refine pick_neg rfl ?_ | ((first | refine W_regP fun K hK => ?_ | refine W_regPD fun K hK => ?_ | refine W_ret ?_); simp [Fin, ha, ints_get, ints_len, hx]) | (with_reducible refine hK _ ?_; clear hK K) | (with_reducible refine goL_split (fun h => ?_) (fun h => ?_) <;> first | (exfalso; simp at h; first | done | omega | contradiction) | ((try simp at h); simp [ha, ints_get, ints_len, hx])) | with_reducible refine And.intro ?_ ?_ | with_reducible exact okay_rfl rfl | with_reducible assumption | (refine W_cond rfl (fun h => ?_) (fun h => ?_) <;> first | (exfalso; simp at h; first | done | omega | contradiction) | (exfalso; simp_all; done) | (try simp at h)) | omega)
      refine ⟨a.length - (i + 1), by omega, i + 1, rfl, hlt, hn2, ?_⟩
      refine u_42 ?_
      exact wrap_id (by omega) (by omega)
  · have hie : i = a.length := by omega
    subst hie
    rw [List.take_length] at hn
    rw [(find_miss hn).2] at hany
    rw [← hany]
    exact u_38
theorem cloneToken_ok (t : GToken) (ht : fitT t) : Valid PP GG 141 [.agg t.c] (.agg t.o) [none] := by
  refine cv Tryz.func141 [.agg t.o] ?_
  have cc := CloneString_ok (GG := GG) t.fNames (by have := ht.1; omega)
  exact u_33 (Z1 cc)
theorem ind_rToken (l : List GToken) : ∀ row, row ∈ rToken l → ∀ d, d ∈ row → IndD 1 d := by
  intro row h d hd
  simp only [rToken, List.mem_map] at h
  obtain ⟨x, _, rfl⟩ := h
  simp only [GToken.row, List.mem_cons, List.not_mem_nil, or_false] at hd
  rcases hd with rfl | rfl | rfl | rfl | rfl | rfl | rfl <;> simp only [IndD]
  exact ind_strs x.fNames
theorem without_ok (a : List GToken) (g : FuncId) (caps : List (List D)) (p : GToken → Bool) (hf : fitF ⟨a⟩) (hp : ∀ x, x ∈ a → Valid PP GG g (.agg x.c :: caps.map .rp) (.d (.bool (p x))) [none]) :
    Valid PP GG 78 [.agg [.d (.slc 7 (rToken a))], .d (.fn g caps)] (.tup [.agg [.own 1 7 (rToken (wo p a).1)], .own 0 1 (intsD (wo p a).2)]) [none, none] := by
  refine cv Tryz.func78 [.agg [.own 1 7 (rToken (wo p a).1)], .own 0 1 (intsD (wo p a).2)] ?_
  obtain ⟨hl, ht⟩ := hf
  dsimp only at hl ht
  refine u_1 ?_
  refine u_1 ?_
  refine W_nilP 6 0 rfl rfl rfl ?_
  refine u_1 ?_
  refine W_nilV 7 rfl ?_
  refine u_30 ?_
  refine W_loop (fun n st => ∃ i : Nat, n = a.length - i ∧ i ≤ a.length ∧ ∃ v : Nat,
    st = ⟨[], [(1, .d (.fn g caps)), (4, .ptr 0 0), (6, .ptr 1 0), (7, .sl 2), (11, .d (.slc 7 (rToken a))), (12, .d (.int .i64 a.length)), (13, .d (.int .i64 i))],
      [(0, .box [.nil 1 7]), (1, .box [.sl 3]), (2, .arr 0 0 1 (intsD (wo p (a.take i)).2)), (3, .arr v 1 7 (rToken (wo p (a.take i)).1))], 4⟩) _ ⟨0, rfl, by omega, 0, ?_⟩ ?_
  · simp [gc, closeN, liveA, gcV, gcO, renA, renAs, renO, namesAs, namesA, namesO, posn, wo, rToken, intsD]
  rintro n st ⟨i, rfl, hi, v, rfl⟩
  by_cases hlt : i < a.length
  rotate_left
  · have hie : i = a.length := by omega
    subst hie
    rw [List.take_length]
    exact u_29
  have ha := List.getElem?_eq_getElem hlt
  have hm := List.getElem_mem hlt
  generalize a[i] = x at ha hm
  have cp := hp x hm
  have hw := wo_succ (p := p) ha
  have hwl := wo_len p (a.take i)
  rw [List.length_take] at hwl
  have hct := cloneToken_ok (GG := GG) x (ht x hm)
  have hir := ind_rToken (wo p (a.take i)).1
  generalize wo p (a.take i) = s at *
  obtain ⟨r, G⟩ := s
  dsimp only at hwl hir
  have cc := ContainsInt_ok (GG := GG) G x.fParent (by omega)
  have hig := ind_ints G
  unfold wstep at hw
  dsimp only at hw
  obtain ⟨xi, xp, xn, xm, xe, xl, xu⟩ := x
  dsimp only at cc hct hw
  generalize hcp : p ⟨xi, xp, xn, xm, xe, xl, xu⟩ = b at *
  generalize G.contains xp = c at *
  have hin := ind_strs xn
  cases b
  · cases c
    · rw [if_neg (by simp)] at hw
      repeat' (first | refine W_seq ?_ | refine W_skip ?_ | refine W_block ?_ | refine W_exit ?_ | refine pick_pos rfl ?_ | refine pick_neg rfl ?_ | ((first | refine W_regP fun K hK => ?_ | refine W_regPD fun K hK => ?_ | refine W_ret ?_ | with_reducible refine callQ (cp) ?_ | with_reducible refine callQ (cc) ?_ | with_reducible refine callQ (hct) ?_); simp [Fin, ha, limit, rToken_app]) | (with_reducible refine hK _ ?_; clear hK K) | (with_reducible refine goL_split (fun h => ?_) (fun h => ?_) <;> first | (exfalso; simp at h; first | done | omega | contradiction) | ((try simp at h); simp [ha, limit, rToken_app])) | with_reducible refine And.intro ?_ ?_ | with_reducible exact okay_rfl rfl | with_reducible assumption | (refine W_cond rfl (fun h => ?_) (fun h => ?_) <;> first | (exfalso; simp at h; first | done | omega | contradiction) | (exfalso; simp_all; done) | (try simp at h)) | omega)
      refine ⟨a.length - (i + 1), by omega, i + 1, rfl, hlt, 0, ?_⟩
      rw [hw]
      simp [gc, closeN, liveA, gcV, gcO, renA, renAs, renO, namesAs, namesA, namesO, posn, ints_len, rToken]
      exact wrap_id (by omega) (by omega)
    · rw [if_pos (by simp)] at hw
      refine u_45 ha (Z2 cp cc) ?_
      refine ⟨a.length - (i + 1), by omega, i + 1, rfl, hlt, 0, ?_⟩
      rw [hw]
      refine u_46 ?_
      exact wrap_id (by omega) (by omega)
  · rw [if_pos (by simp)] at hw
    refine u_45 ha (Z1 cp) ?_
    refine ⟨a.length - (i + 1), by omega, i + 1, rfl, hlt, 0, ?_⟩
    rw [hw]
    refine u_46 ?_
    exact wrap_id (by omega) (by omega)
theorem world_forest {w : GWorld} (h : worldB w = true) : forestB w.fForest = true := by
  unfold worldB at h; simp only [Bool.and_eq_true] at h; exact h.1.1.1.1.1.1.2
theorem world_marks {w : GWorld} (h : w.cost ≤ 4194304) : w.marksIn ≤ 1000000000 := by
  have e : w.cost = w.fForest.cost + w.fBook.cost + w.fFar.cost + w.fQueue.cost + (w.fOwned.length + sumBy GOwned.cost w.fOwned) := rfl
  have e1 : w.fForest.cost = w.fForest.fTokens.length + sumBy GToken.cost w.fForest.fTokens := rfl
  have e2 : w.fBook.cost = w.fBook.fLeases.length + sumBy GLease.cost w.fBook.fLeases := rfl
  have e3 : w.fFar.cost = w.fFar.fUsers.length + sumBy GUser.cost w.fFar.fUsers := rfl
  have e4 : w.fQueue.cost = w.fQueue.fJobs.length + sumBy GJob.cost w.fQueue.fJobs := rfl
  have h1 := sumBy_le GToken.marks_le w.fForest.fTokens
  have h2 := sumBy_le GLease.marks_le w.fBook.fLeases
  have h3 := sumBy_le GUser.marks_le w.fFar.fUsers
  have h4 := sumBy_le GJob.marks_le w.fQueue.fJobs
  have h5 := sumBy_le GOwned.marks_le w.fOwned
  show sumBy GToken.marks w.fForest.fTokens + sumBy GLease.marks w.fBook.fLeases + sumBy GUser.marks w.fFar.fUsers + sumBy GJob.marks w.fQueue.fJobs + sumBy GOwned.marks w.fOwned ≤ _
  omega
theorem rToken_succ {a : List GToken} {i : Nat} {x : GToken} (h : a[i]? = some x) : rToken (a.take (i + 1)) = rToken (a.take i) ++ [x.row] := by
  rw [List.take_add_one, h, rToken_app]; rfl
theorem rToken_take_len (a : List GToken) (i : Nat) : (rToken (a.take i)).length ≤ i := by rw [rToken_len, List.length_take]; omega
theorem rLease_succ {a : List GLease} {i : Nat} {x : GLease} (h : a[i]? = some x) : rLease (a.take (i + 1)) = rLease (a.take i) ++ [x.row] := by
  rw [List.take_add_one, h, rLease_app]; rfl
theorem rLease_take_len (a : List GLease) (i : Nat) : (rLease (a.take i)).length ≤ i := by rw [rLease_len, List.length_take]; omega
theorem rUser_succ {a : List GUser} {i : Nat} {x : GUser} (h : a[i]? = some x) : rUser (a.take (i + 1)) = rUser (a.take i) ++ [x.row] := by
  rw [List.take_add_one, h, rUser_app]; rfl
theorem rUser_take_len (a : List GUser) (i : Nat) : (rUser (a.take i)).length ≤ i := by rw [rUser_len, List.length_take]; omega
theorem rJob_succ {a : List GJob} {i : Nat} {x : GJob} (h : a[i]? = some x) : rJob (a.take (i + 1)) = rJob (a.take i) ++ [x.row] := by
  rw [List.take_add_one, h, rJob_app]; rfl
theorem rJob_take_len (a : List GJob) (i : Nat) : (rJob (a.take i)).length ≤ i := by rw [rJob_len, List.length_take]; omega
theorem rOwned_succ {a : List GOwned} {i : Nat} {x : GOwned} (h : a[i]? = some x) : rOwned (a.take (i + 1)) = rOwned (a.take i) ++ [x.row] := by
  rw [List.take_add_one, h, rOwned_app]; rfl
theorem rOwned_take_len (a : List GOwned) (i : Nat) : (rOwned (a.take i)).length ≤ i := by rw [rOwned_len, List.length_take]; omega
theorem ind_rLease (l : List GLease) : ∀ row, row ∈ rLease l → ∀ d, d ∈ row → IndD 0 d := by
  intro row h d hd
  simp only [rLease, List.mem_map] at h
  obtain ⟨x, _, rfl⟩ := h
  simp only [GLease.row, List.mem_cons, List.not_mem_nil, or_false] at hd
  rcases hd with rfl | rfl | rfl | rfl | rfl | rfl <;> trivial
theorem ind_rUser (l : List GUser) : ∀ row, row ∈ rUser l → ∀ d, d ∈ row → IndD 0 d := by
  intro row h d hd
  simp only [rUser, List.mem_map] at h
  obtain ⟨x, _, rfl⟩ := h
  simp only [GUser.row, List.mem_cons, List.not_mem_nil, or_false] at hd
  rcases hd with rfl | rfl <;> trivial
theorem ind_rJob (l : List GJob) : ∀ row, row ∈ rJob l → ∀ d, d ∈ row → IndD 0 d := by
  intro row h d hd
  simp only [rJob, List.mem_map] at h
  obtain ⟨x, _, rfl⟩ := h
  simp only [GJob.row, List.mem_cons, List.not_mem_nil, or_false] at hd
  rcases hd with rfl | rfl | rfl <;> trivial
theorem ind_rOwned (l : List GOwned) : ∀ row, row ∈ rOwned l → ∀ d, d ∈ row → IndD 0 d := by
  intro row h d hd
  simp only [rOwned, List.mem_map] at h
  obtain ⟨x, _, rfl⟩ := h
  simp only [GOwned.row, List.mem_cons, List.not_mem_nil, or_false] at hd
  rcases hd with rfl | rfl <;> trivial
theorem strsD_take_len (a : List (List UInt8)) (i : Nat) : (strsD (a.take i)).length ≤ i := by rw [strsD_len, List.length_take]; omega
theorem s_l08Texts_ok (a : List (List UInt8)) (hl : a.length ≤ 1048576) : Valid PP GG 199 [.d (.slc 1 (strsD a))] (.own 0 1 (strsD a)) [none] := by
  refine cv Tryz.func199 [.own 0 1 (strsD a)] ?_
  repeat' (first | refine W_seq ?_ | refine W_skip ?_ | refine W_block ?_ | refine W_exit ?_ | refine pick_pos rfl ?_ | refine pick_neg rfl ?_ | ((first | refine W_regP fun K hK => ?_ | refine W_regPD fun K hK => ?_ | refine W_ret ?_); simp [Fin, strsD_len]) | (with_reducible refine hK _ ?_; clear hK K) | (with_reducible refine goL_split (fun h => ?_) (fun h => ?_) <;> first | (exfalso; simp at h; first | done | omega | contradiction) | ((try simp at h); simp [strsD_len])) | with_reducible refine And.intro ?_ ?_ | with_reducible exact okay_rfl rfl | with_reducible assumption | (refine W_cond rfl (fun h => ?_) (fun h => ?_) <;> first | (exfalso; simp at h; first | done | omega | contradiction) | (exfalso; simp_all; done) | (try simp at h)) | omega)
  refine W_loop (fun n st => ∃ i : Nat, n = a.length - i ∧ i ≤ a.length ∧
    st = ⟨[], [(0, .d (.slc 1 (strsD a))), (3, .sl 0), (4, .d (.int .i64 i))], [(0, .arr 0 0 1 (strsD (a.take i)))], 1⟩) _ ⟨0, rfl, by omega, ?_⟩ ?_
  · simp [gc, closeN, liveA, gcV, gcO, renA, renAs, renO, namesAs, namesA, namesO, posn, strsD]
  rintro n st ⟨i, rfl, hi, rfl⟩
  by_cases hlt : i < a.length
  rotate_left
  · have hie : i = a.length := by omega
    subst hie
    rw [List.take_length]
    exact u_47
  have ha := List.getElem?_eq_getElem hlt
  generalize a[i] = x at ha
  have hsc := strsD_succ ha
  have hlen := strsD_take_len a i
  generalize strsD (a.take i) = L at *
  repeat' (first | refine W_seq ?_ | refine W_skip ?_ | refine W_block ?_ | refine W_exit ?_ | refine pick_pos rfl ?_ | refine pick_neg rfl ?_ | ((first | refine W_regP fun K hK => ?_ | refine W_regPD fun K hK => ?_ | refine W_ret ?_); simp [Fin, ha, strs_get, limit, strsD_len]) | (with_reducible refine hK _ ?_; clear hK K) | (with_reducible refine goL_split (fun h => ?_) (fun h => ?_) <;> first | (exfalso; simp at h; first | done | omega | contradiction) | ((try simp at h); simp [ha, strs_get, limit, strsD_len])) | with_reducible refine And.intro ?_ ?_ | with_reducible exact okay_rfl rfl | with_reducible assumption | (refine W_cond rfl (fun h => ?_) (fun h => ?_) <;> first | (exfalso; simp at h; first | done | omega | contradiction) | (exfalso; simp_all; done) | (try simp at h)) | omega)
  refine ⟨a.length - (i + 1), by omega, i + 1, rfl, hlt, ?_⟩
  rw [hsc]
  refine u_27 ?_
  exact wrap_id (by omega) (by omega)
theorem s_l08CopyToken_ok (t : GToken) (ht : fitT t) : Valid PP GG 147 [.agg t.c] (.agg t.o) [none] := by
  refine cv Tryz.func147 [.agg t.o] ?_
  have cc := s_l08Texts_ok (GG := GG) t.fNames ht.1
  exact u_33 (Z1 cc)
theorem s_l08Copy_ok (a : List GToken) (hf : fitF ⟨a⟩) : Valid PP GG 143 [.agg (GForest.mk a).c] (.agg (GForest.mk a).o) [none] := by
  refine cv Tryz.func143 [.agg (GForest.mk a).o] ?_
  refine u_30 ?_
  refine W_nilP 3 0 rfl rfl rfl ?_
  refine u_30 ?_
  refine W_loop (fun n st => ∃ i : Nat, n = a.length - i ∧ i ≤ a.length ∧
    st = ⟨[], [(1, .ptr 0 0), (2, .ptr 1 0), (3, .ptr 2 0), (4, .d (.int .i64 i))], [(0, .box [.d (.slc 7 (rToken a))]), (1, .box [.nil 1 7]), (2, .box [.sl 3]), (3, .arr 0 1 7 (rToken (a.take i)))], 4⟩) _ ⟨0, rfl, by omega, ?_⟩ ?_
  · exact u_48
  rintro n st ⟨i, rfl, hi, rfl⟩
  by_cases hlt : i < a.length
  rotate_left
  · have hie : i = a.length := by omega
    subst hie
    rw [List.take_length]
    exact u_29
  have ha := List.getElem?_eq_getElem hlt
  have hm := List.getElem_mem hlt
  generalize a[i] = x at ha hm
  have hsc := rToken_succ ha
  have hlen := rToken_take_len a i
  have hir := ind_rToken (a.take i)
  have ct := s_l08CopyToken_ok (GG := GG) x (hf.2 x hm)
  have hla : a.length ≤ 1048576 := hf.1
  generalize rToken (a.take i) = L at *
  refine u_50 ha (Z1 ct) ?_
  refine ⟨a.length - (i + 1), by omega, i + 1, rfl, hlt, ?_⟩
  rw [hsc]
  refine u_27 ?_
  exact wrap_id (by omega) (by omega)
theorem s_l09Copy_ok (a : List GLease) (hla : a.length ≤ 1048577) : Valid PP GG 144 [.agg (GBook.mk a).c] (.agg (GBook.mk a).o) [none] := by
  refine cv Tryz.func144 [.agg (GBook.mk a).o] ?_
  refine u_30 ?_
  refine W_nilP 3 0 rfl rfl rfl ?_
  refine u_30 ?_
  refine W_loop (fun n st => ∃ i : Nat, n = a.length - i ∧ i ≤ a.length ∧
    st = ⟨[], [(1, .ptr 0 0), (2, .ptr 1 0), (3, .ptr 2 0), (4, .d (.int .i64 i))], [(0, .box [.d (.slc 6 (rLease a))]), (1, .box [.nil 0 6]), (2, .box [.sl 3]), (3, .arr 0 0 6 (rLease (a.take i)))], 4⟩) _ ⟨0, rfl, by omega, ?_⟩ ?_
  · exact u_51
  rintro n st ⟨i, rfl, hi, rfl⟩
  by_cases hlt : i < a.length
  rotate_left
  · have hie : i = a.length := by omega
    subst hie
    rw [List.take_length]
    exact u_29
  have ha := List.getElem?_eq_getElem hlt
  have hm := List.getElem_mem hlt
  generalize a[i] = x at ha hm
  have hsc := rLease_succ ha
  have hlen := rLease_take_len a i
  have hir := ind_rLease (a.take i)
  generalize rLease (a.take i) = L at *
  refine u_53 ha ?_
  refine ⟨a.length - (i + 1), by omega, i + 1, rfl, hlt, ?_⟩
  rw [hsc]
  refine u_27 ?_
  exact wrap_id (by omega) (by omega)
theorem s_l11CopyQueue_ok (a : List GJob) (hla : a.length ≤ 1048577) : Valid PP GG 146 [.agg (GQueue.mk a).c] (.agg (GQueue.mk a).o) [none] := by
  refine cv Tryz.func146 [.agg (GQueue.mk a).o] ?_
  refine u_30 ?_
  refine W_nilP 3 0 rfl rfl rfl ?_
  refine u_30 ?_
  refine W_loop (fun n st => ∃ i : Nat, n = a.length - i ∧ i ≤ a.length ∧
    st = ⟨[], [(1, .ptr 0 0), (2, .ptr 1 0), (3, .ptr 2 0), (4, .d (.int .i64 i))], [(0, .box [.d (.slc 3 (rJob a))]), (1, .box [.nil 0 3]), (2, .box [.sl 3]), (3, .arr 0 0 3 (rJob (a.take i)))], 4⟩) _ ⟨0, rfl, by omega, ?_⟩ ?_
  · simp [gc, closeN, liveA, gcV, gcO, renA, renAs, renO, namesAs, namesA, namesO, posn, rJob]
  rintro n st ⟨i, rfl, hi, rfl⟩
  by_cases hlt : i < a.length
  rotate_left
  · have hie : i = a.length := by omega
    subst hie
    rw [List.take_length]
    exact u_29
  have ha := List.getElem?_eq_getElem hlt
  have hm := List.getElem_mem hlt
  generalize a[i] = x at ha hm
  have hsc := rJob_succ ha
  have hlen := rJob_take_len a i
  have hir := ind_rJob (a.take i)
  generalize rJob (a.take i) = L at *
  refine u_53 ha ?_
  refine ⟨a.length - (i + 1), by omega, i + 1, rfl, hlt, ?_⟩
  rw [hsc]
  refine u_27 ?_
  exact wrap_id (by omega) (by omega)
theorem s_l11Copy_ok (a : List GUser) (ff fm : Int) (hla : a.length ≤ 1048577) : Valid PP GG 145 [.agg (GFar.mk a ff fm).c] (.agg (GFar.mk a ff fm).o) [none] := by
  refine cv Tryz.func145 [.agg (GFar.mk a ff fm).o] ?_
  refine u_30 ?_
  refine W_nilP 3 0 rfl rfl rfl ?_
  refine u_30 ?_
  refine W_loop (fun n st => ∃ i : Nat, n = a.length - i ∧ i ≤ a.length ∧
    st = ⟨[], [(1, .ptr 0 0), (2, .ptr 1 0), (3, .ptr 2 0), (4, .d (.int .i64 i))], [(0, .box [.d (.slc 2 (rUser a)), .d (.int .i64 ff), .d (.int .i64 fm)]), (1, .box [.nil 0 2, .d (.int .i64 0), .d (.int .i64 0)]), (2, .box [.sl 3, .d (.int .i64 ff), .d (.int .i64 fm)]), (3, .arr 0 0 2 (rUser (a.take i)))], 4⟩) _ ⟨0, rfl, by omega, ?_⟩ ?_
  · exact u_54
  rintro n st ⟨i, rfl, hi, rfl⟩
  by_cases hlt : i < a.length
  rotate_left
  · have hie : i = a.length := by omega
    subst hie
    rw [List.take_length]
    exact u_29
  have ha := List.getElem?_eq_getElem hlt
  have hm := List.getElem_mem hlt
  generalize a[i] = x at ha hm
  have hsc := rUser_succ ha
  have hlen := rUser_take_len a i
  have hir := ind_rUser (a.take i)
  generalize rUser (a.take i) = L at *
  refine u_53 ha ?_
  refine ⟨a.length - (i + 1), by omega, i + 1, rfl, hlt, ?_⟩
  rw [hsc]
  refine u_27 ?_
  exact wrap_id (by omega) (by omega)
theorem s_l16Copy_ok (w : GWorld) (hf : fitW w) : Valid PP GG 81 [.agg w.c] (.agg w.o) [none] := by
  refine cv Tryz.func81 [.agg w.o] ?_
  obtain ⟨now, next, lost, ⟨tk⟩, ⟨ls⟩, ⟨us, ff, fm⟩, ⟨js⟩, a⟩ := w
  obtain ⟨hf1, hf2, hf3, hf4, hol, hon⟩ := hf
  dsimp only at hf1 hf2 hf3 hf4 hol
  have c1 := s_l08Copy_ok (GG := GG) tk hf1
  have c2 := s_l09Copy_ok (GG := GG) ls (by have := hf2.1; dsimp only at this; omega)
  have c3 := s_l11Copy_ok (GG := GG) us ff fm (by have := hf3.1; dsimp only at this; omega)
  have c4 := s_l11CopyQueue_ok (GG := GG) js (by have := hf4.1; dsimp only at this; omega)
  have hi1 := ind_rToken tk
  have hi2 := ind_rLease ls
  have hi3 := ind_rUser us
  have hi4 := ind_rJob js
  refine u_37 (Z4 c1 c2 c3 c4) ?_
  refine W_nilP 3 9 rfl rfl rfl ?_
  refine u_30 ?_
  refine W_loop (fun n st => ∃ i : Nat, n = a.length - i ∧ i ≤ a.length ∧
    st = ⟨[], [(1, .ptr 0 0), (2, .ptr 1 0), (3, .ptr 2 0), (4, .d (.int .i64 i))], [(0, .box [.d (.int .i64 now), .d (.int .i64 next), .d (.int .i64 lost), .d (.slc 7 (rToken tk)), .d (.slc 6 (rLease ls)), .d (.slc 2 (rUser us)), .d (.int .i64 ff), .d (.int .i64 fm), .d (.slc 3 (rJob js)), .d (.slc 2 (rOwned a))]),
      (1, .box [.d (.int .i64 0), .d (.int .i64 0), .d (.int .i64 0), .nil 1 7, .nil 0 6, .nil 0 2, .d (.int .i64 0), .d (.int .i64 0), .nil 0 3, .nil 0 2]),
      (2, .box [.d (.int .i64 now), .d (.int .i64 next), .d (.int .i64 lost), .sl 3, .sl 4, .sl 5, .d (.int .i64 ff), .d (.int .i64 fm), .sl 6, .sl 7]), (3, .arr 0 1 7 (rToken tk)), (4, .arr 0 0 6 (rLease ls)), (5, .arr 0 0 2 (rUser us)), (6, .arr 0 0 3 (rJob js)), (7, .arr 0 0 2 (rOwned (a.take i)))], 8⟩) _ ⟨0, rfl, by omega, ?_⟩ ?_
  · simp [gc, closeN, liveA, gcV, gcO, renA, renAs, renO, namesAs, namesA, namesO, posn, rOwned]
  rintro n st ⟨i, rfl, hi, rfl⟩
  by_cases hlt : i < a.length
  rotate_left
  · have hie : i = a.length := by omega
    subst hie
    rw [List.take_length]
    exact u_29
  have ha := List.getElem?_eq_getElem hlt
  generalize a[i] = x at ha
  have hsc := rOwned_succ ha
  have hlen := rOwned_take_len a i
  generalize rOwned (a.take i) = L at *
  refine u_53 ha ?_
  refine ⟨a.length - (i + 1), by omega, i + 1, rfl, hlt, ?_⟩
  rw [hsc]
  refine u_27 ?_
  exact wrap_id (by omega) (by omega)
theorem cloneForest_ok (a : List GToken) (hf : fitF ⟨a⟩) : Valid PP GG 148 [.agg (GForest.mk a).c] (.agg (GForest.mk a).o) [none] := by
  refine cv Tryz.func148 [.agg (GForest.mk a).o] ?_
  have hla : a.length ≤ 1048576 := hf.1
  refine u_1 ?_
  refine u_1 ?_
  refine W_nilP 3 0 rfl rfl rfl ?_
  refine u_30 ?_
  refine W_loop (fun n st => ∃ i : Nat, n = a.length - i ∧ i ≤ a.length ∧
    st = ⟨[], [(2, .ptr 0 0), (3, .ptr 1 0), (7, .d (.slc 7 (rToken a))), (8, .d (.int .i64 a.length)), (9, .d (.int .i64 i))], [(0, .box [.nil 1 7]), (1, .box [.sl 2]), (2, .arr 0 1 7 (rToken (a.take i)))], 3⟩) _ ⟨0, rfl, by omega, ?_⟩ ?_
  · exact u_48
  rintro n st ⟨i, rfl, hi, rfl⟩
  by_cases hlt : i < a.length
  rotate_left
  · have hie : i = a.length := by omega
    subst hie
    rw [List.take_length]
    exact u_29
  have ha := List.getElem?_eq_getElem hlt
  have hm := List.getElem_mem hlt
  generalize a[i] = x at ha hm
  have hsc := rToken_succ ha
  have hlen := rToken_take_len a i
  have hir := ind_rToken (a.take i)
  have ct := cloneToken_ok (GG := GG) x (hf.2 x hm)
  generalize rToken (a.take i) = L at *
  refine u_50 ha (Z1 ct) ?_
  refine ⟨a.length - (i + 1), by omega, i + 1, rfl, hlt, ?_⟩
  rw [hsc]
  refine u_27 ?_
  exact wrap_id (by omega) (by omega)
theorem cloneBook_ok (a : List GLease) (hla : a.length ≤ 1048577) : Valid PP GG 149 [.agg (GBook.mk a).c] (.agg (GBook.mk a).o) [none] := by
  refine cv Tryz.func149 [.agg (GBook.mk a).o] ?_
  have cc := CloneLease_ok (GG := GG) a (by omega)
  exact u_33 (Z1 cc)
theorem cloneQueue_ok (a : List GJob) (hla : a.length ≤ 1048577) : Valid PP GG 151 [.agg (GQueue.mk a).c] (.agg (GQueue.mk a).o) [none] := by
  refine cv Tryz.func151 [.agg (GQueue.mk a).o] ?_
  have cc := CloneJob_ok (GG := GG) a (by omega)
  exact u_33 (Z1 cc)
theorem cloneFar_ok (a : List GUser) (ff fm : Int) (hla : a.length ≤ 1048577) : Valid PP GG 150 [.agg (GFar.mk a ff fm).c] (.agg (GFar.mk a ff fm).o) [none] := by
  refine cv Tryz.func150 [.agg (GFar.mk a ff fm).o] ?_
  have cc := CloneUser_ok (GG := GG) a (by omega)
  exact u_33 (Z1 cc)
theorem cloneWorld_ok (w : GWorld) (hf : fitW w) : Valid PP GG 85 [.agg w.c] (.agg w.o) [none] := by
  refine cv Tryz.func85 [.agg w.o] ?_
  obtain ⟨now, next, lost, ⟨tk⟩, ⟨ls⟩, ⟨us, ff, fm⟩, ⟨js⟩, a⟩ := w
  obtain ⟨hf1, hf2, hf3, hf4, hol, hon⟩ := hf
  dsimp only at hf1 hf2 hf3 hf4 hol
  have c1 := cloneForest_ok (GG := GG) tk hf1
  have c2 := cloneBook_ok (GG := GG) ls (by have := hf2.1; dsimp only at this; omega)
  have c3 := cloneFar_ok (GG := GG) us ff fm (by have := hf3.1; dsimp only at this; omega)
  have c4 := cloneQueue_ok (GG := GG) js (by have := hf4.1; dsimp only at this; omega)
  have c5 := CloneOwned_ok (GG := GG) a (by omega)
  have hi1 := ind_rToken tk
  have hi2 := ind_rLease ls
  have hi3 := ind_rUser us
  have hi4 := ind_rJob js
  have hi5 := ind_rOwned a
  exact u_33 (Z5 c1 c2 c3 c4 c5)
def overB (e now : Int) : Bool := !decide (e = 0) && decide (e ≤ now)
theorem s_l08Over_ok (t : GToken) (now : Int) : Valid PP GG 83 [.agg t.c, .d (.int .i64 now)] (.d (.bool (overB t.fEnds now))) [none, none] := by
  refine cv Tryz.func83 [.d (.bool (overB t.fEnds now))] ?_
  have hr : overB t.fEnds now = (!decide (t.fEnds = 0) && decide (t.fEnds ≤ now)) := rfl
  have q : (t.fEnds != 0) = !decide (t.fEnds = 0) := rfl
  have hind := ind_strs t.fNames
  generalize overB t.fEnds now = r at *
  obtain ⟨t1, t2, t3, t4, e, t6, t7⟩ := t
  dsimp only at q hr
  cases h0 : decide (e = 0)
  · rw [h0] at hr q
    simp only [Bool.not_false, Bool.true_and] at hr q
    subst hr
    exact u_22 q
  · rw [h0] at hr q
    simp only [Bool.not_true, Bool.false_and] at hr q
    subst hr
    exact u_22 q
theorem isOver_ok (e now : Int) : Valid PP GG 153 [.d (.int .i64 e), .d (.int .i64 now)] (.d (.bool (overB e now))) [none, none] := by
  refine cv Tryz.func153 [.d (.bool (overB e now))] ?_
  have hr : overB e now = (!decide (e = 0) && decide (e ≤ now)) := rfl
  have q : (e != 0) = !decide (e = 0) := rfl
  generalize overB e now = r at *
  cases h0 : decide (e = 0)
  · rw [h0] at hr q
    simp only [Bool.not_false, Bool.true_and] at hr q
    subst hr
    exact u_22 q
  · rw [h0] at hr q
    simp only [Bool.not_true, Bool.false_and] at hr q
    subst hr
    exact u_22 q
theorem bl_irrefl (a : List UInt8) : Go.Op.bytesLess a a = false := by
  induction a with
  | nil => rfl
  | cons x a ih => simp [Go.Op.bytesLess, ih]
theorem bl_trans {a b c : List UInt8} : Go.Op.bytesLess a b = true → Go.Op.bytesLess b c = true → Go.Op.bytesLess a c = true := by
  induction a generalizing b c with
  | nil =>
    intro h1 h2
    cases b with
    | nil => simp [Go.Op.bytesLess] at h1
    | cons y b =>
      cases c with
      | nil => simp [Go.Op.bytesLess] at h2
      | cons z c => rfl
  | cons x a ih =>
    intro h1 h2
    cases b with
    | nil => simp [Go.Op.bytesLess] at h1
    | cons y b =>
      cases c with
      | nil => simp [Go.Op.bytesLess] at h2
      | cons z c =>
        simp only [Go.Op.bytesLess, Bool.or_eq_true, decide_eq_true_eq, Bool.and_eq_true, beq_iff_eq] at h1 h2 ⊢
        rcases h1 with h1 | ⟨rfl, h1⟩
        · rcases h2 with h2 | ⟨rfl, h2⟩
          · exact .inl (UInt8.lt_trans h1 h2)
          · exact .inl h1
        · rcases h2 with h2 | ⟨rfl, h2⟩
          · exact .inl h2
          · exact .inr ⟨rfl, ih h1 h2⟩
theorem bl_asymm {a b : List UInt8} (h : Go.Op.bytesLess a b = true) : Go.Op.bytesLess b a = false := by
  cases h2 : Go.Op.bytesLess b a with
  | false => rfl
  | true => have := bl_trans h h2; rw [bl_irrefl] at this; cases this
theorem cmp_cases (a b : List UInt8) : (Go.Op.bytesLess a b = true ∧ Lib.compareBytes a b = -1) ∨ (a = b ∧ Lib.compareBytes a b = 0) ∨ (Go.Op.bytesLess b a = true ∧ Lib.compareBytes a b = 1) := by
  induction a generalizing b with
  | nil =>
    cases b with
    | nil => exact .inr (.inl ⟨rfl, rfl⟩)
    | cons y b => exact .inl ⟨rfl, rfl⟩
  | cons x a ih =>
    cases b with
    | nil => exact .inr (.inr ⟨rfl, rfl⟩)
    | cons y b =>
      unfold Lib.compareBytes
      simp only [Go.Op.bytesLess, Bool.or_eq_true, decide_eq_true_eq, Bool.and_eq_true, beq_iff_eq]
      by_cases h1 : x < y
      · rw [if_pos h1]; exact .inl ⟨.inl h1, rfl⟩
      · rw [if_neg h1]
        by_cases h2 : y < x
        · rw [if_pos h2]; exact .inr (.inr ⟨.inl h2, rfl⟩)
        · rw [if_neg h2]
          have e : x = y := by
            have h1 : ¬ x.toNat < y.toNat := fun h => h1 (UInt8.lt_iff_toNat_lt.2 h)
            have h2 : ¬ y.toNat < x.toNat := fun h => h2 (UInt8.lt_iff_toNat_lt.2 h)
            exact UInt8.toNat_inj.1 (by omega)
          subst e
          rcases ih b with ⟨h3, h4⟩ | ⟨rfl, h4⟩ | ⟨h3, h4⟩
          · exact .inl ⟨.inr ⟨rfl, h3⟩, h4⟩
          · exact .inr (.inl ⟨rfl, h4⟩)
          · exact .inr (.inr ⟨.inr ⟨rfl, h3⟩, h4⟩)
theorem cmp_neg (a b : List UInt8) : decide (Lib.compareBytes a b < 0) = Go.Op.bytesLess a b := by
  rcases cmp_cases a b with ⟨h1, h2⟩ | ⟨rfl, h2⟩ | ⟨h1, h2⟩
  · rw [h2, h1]; rfl
  · rw [h2, bl_irrefl]; rfl
  · rw [h2, bl_asymm h1]; rfl
theorem cmp_zero (a b : List UInt8) : (Lib.compareBytes a b == 0) = (a == b) := by
  rcases cmp_cases a b with ⟨h1, h2⟩ | ⟨rfl, h2⟩ | ⟨h1, h2⟩
  · rw [h2]; symm; rw [show ((-1 : Int) == 0) = false from rfl, beq_eq_false_iff_ne]; rintro rfl; rw [bl_irrefl] at h1; cases h1
  · rw [h2]; simp
  · rw [h2]; symm; rw [show ((1 : Int) == 0) = false from rfl, beq_eq_false_iff_ne]; rintro rfl; rw [bl_irrefl] at h1; cases h1
theorem Compare_ok (a b : List UInt8) : Valid PP GG 232 [.d (.str a), .d (.str b)] (.d (.int .i64 (Lib.compareBytes a b))) [none, none] := by
  refine lib_new [.str a, .str b] ⟨Tryz.f232, Tryz.func232, by kernel_rfl, by kernel_rfl⟩ fun w Fz args hG hFz hl hA => ?_
  have e : args = #[.string ⟨a.toArray⟩, .string ⟨b.toArray⟩] := by
    refine args_eq (l := [.string ⟨a.toArray⟩, .string ⟨b.toArray⟩]) hl fun i v hv => ?_
    match i, hv with
    | 0, hv => cases hv; exact shr_str (hA 0 _ rfl)
    | 1, hv => cases hv; exact shr_str (hA 1 _ rfl)
  subst e
  refine (Go.Proofs.YtdckkojgnkoabaaGreatDoor.Tryz.strings_Compare ⟨a.toArray⟩ ⟨b.toArray⟩ w).mono ?_
  rintro e w' ⟨rfl, rfl⟩
  exact ⟨_, Fz, fun _ _ => False, rfl, ⟨rfl, rfl⟩, Nat.le_refl _, fun _ _ => rfl, fun _ _ h => h, fun b o h => ⟨.inl h, hFz b o h⟩, .d _ _ _ (.int _ _) fun _ _ h => h, fun _ _ h => h.elim⟩
def lessN {α : Type} (key : α → List UInt8) (s : List UInt8) (l : List α) : Nat := (l.filter fun x => Go.Op.bytesLess (key x) s).length
theorem lessN_eq {α : Type} {key : α → List UInt8} {s : List UInt8} {l : List α} {i : Nat} (hi : i ≤ l.length) (h1 : ∀ (m : Nat) x, m < i → l[m]? = some x → Go.Op.bytesLess (key x) s = true) (h2 : ∀ (m : Nat) x, i ≤ m → l[m]? = some x → Go.Op.bytesLess (key x) s = false) : lessN key s l = i := by
  unfold lessN
  conv => lhs; rw [← List.take_append_drop i l, List.filter_append, List.length_append]
  have e1 : (l.take i).filter (fun x => Go.Op.bytesLess (key x) s) = l.take i := by
    rw [List.filter_eq_self]
    intro x hx
    obtain ⟨m, hm⟩ := List.getElem?_of_mem hx
    have hml := (List.getElem?_eq_some_iff.1 hm).1
    rw [List.length_take] at hml
    rw [List.getElem?_take_of_lt (by omega)] at hm
    exact h1 m x (by omega) hm
  have e2 : (l.drop i).filter (fun x => Go.Op.bytesLess (key x) s) = [] := by
    rw [List.filter_eq_nil_iff]
    intro x hx
    obtain ⟨m, hm⟩ := List.getElem?_of_mem hx
    rw [List.getElem?_drop] at hm
    rw [h2 (i + m) x (by omega) hm]; simp
  rw [e1, e2, List.length_take]
  simp; omega
theorem far_inc {f : GFar} (h : farB f = true) : f.fUsers.Pairwise (fun y x => Go.Op.bytesLess y.fName x.fName = true) := by
  unfold farB at h
  simp only [Bool.and_eq_true] at h
  have h := h.2
  have hs : ∀ (i : Nat) x y, f.fUsers[i]? = some y → f.fUsers[i + 1]? = some x → Go.Op.bytesLess y.fName x.fName = true := by
    intro i x y hy hx
    have := okP_get h hx
    unfold farQ at this
    rw [Bool.and_eq_true, adj_succ _ hy] at this
    exact this.2
  rw [List.pairwise_iff_getElem]
  intro i j hi hj hij
  obtain ⟨d, rfl⟩ : ∃ d, j = i + 1 + d := ⟨j - i - 1, by omega⟩
  induction d with
  | zero => exact hs i _ _ (List.getElem?_eq_getElem hi) (List.getElem?_eq_getElem hj)
  | succ d ih =>
    have h1 := ih (by omega) (by omega)
    have h2 := hs (i + 1 + d) _ _ (List.getElem?_eq_getElem (show i + 1 + d < f.fUsers.length by omega)) (List.getElem?_eq_getElem hj)
    exact bl_trans h1 h2
theorem pw_get {α : Type} {R : α → α → Prop} {l : List α} (h : l.Pairwise R) {i j : Nat} {x y : α} (hij : i < j) (hx : l[i]? = some x) (hy : l[j]? = some y) : R x y := by
  rw [List.pairwise_iff_getElem] at h
  obtain ⟨h1, rfl⟩ := List.getElem?_eq_some_iff.1 hx
  obtain ⟨h2, rfl⟩ := List.getElem?_eq_some_iff.1 hy
  exact h i j h1 h2 hij
theorem mid_int {i j : Nat} (hij : i + j ≤ 9223372036854775807) : IntKind.i64.wrap ((IntKind.u64.wrap (IntKind.i64.wrap ((i : Int) + (j : Int)))).fdiv 2) = (((i + j) / 2 : Nat) : Int) := by
  have e1 : IntKind.i64.wrap ((i : Int) + (j : Int)) = ((i + j : Nat) : Int) := by rw [wrap_id (by omega) (by omega)]; omega
  have e2 : IntKind.u64.wrap ((i + j : Nat) : Int) = ((i + j : Nat) : Int) := by rw [IntKind.wrap_u64]; omega
  rw [e1, e2, Int.fdiv_eq_ediv_of_nonneg _ (by omega), wrap_id (by omega) (by omega)]
  omega
theorem userIndex_c1_ok (u : GUser) (s : List UInt8) : Valid PP GG 231 [.agg u.c, .d (.str s)] (.d (.int .i64 (Lib.compareBytes u.fName s))) [none, none] := by
  refine cv Tryz.func231 [.d (.int .i64 (Lib.compareBytes u.fName s))] ?_
  have cc := Compare_ok (GG := GG) u.fName s
  exact u_33 (Z1 cc)
theorem SearchUser_ok (a : List GUser) (s : List UInt8) (hl : a.length ≤ 1048576) (hs : a.Pairwise (fun y x => Go.Op.bytesLess y.fName x.fName = true)) :
    Valid PP GG 230 [.d (.slc 2 (rUser a)), .d (.str s), .d (.fn 231 [])] (.tup [.d (.int .i64 (lessN GUser.fName s a)), .d (.bool (a.any fun u => u.fName == s))]) [none, none, none] := by
  refine cv Tryz.func230 [.d (.int .i64 (lessN GUser.fName s a)), .d (.bool (a.any fun u => u.fName == s))] ?_
  refine u_30 ?_
  refine W_loop (fun n st => ∃ i j : Nat, n = j - i ∧ i ≤ j ∧ j ≤ a.length ∧ (∀ (m : Nat) x, m < i → a[m]? = some x → Go.Op.bytesLess x.fName s = true) ∧ (∀ (m : Nat) x, j ≤ m → a[m]? = some x → Go.Op.bytesLess x.fName s = false) ∧
    st = ⟨[], [(0, .d (.slc 2 (rUser a))), (1, .d (.str s)), (2, .d (.fn 231 [])), (8, .d (.int .i64 a.length)), (9, .d (.int .i64 i)), (10, .d (.int .i64 j))], [], 0⟩) _ ⟨0, a.length, rfl, by omega, Nat.le_refl _, fun m x h => by omega, fun m x h h2 => (by rw [List.getElem?_eq_none h] at h2; cases h2), ?_⟩ ?_
  · exact u_24
  rintro n st ⟨i, j, rfl, hij, hj, h1, h2, rfl⟩
  by_cases hlt : i < j
  · have hm := mid_int (i := i) (j := j) (by omega)
    obtain ⟨md, hh⟩ : ∃ md, (i + j) / 2 = md := ⟨_, rfl⟩
    rw [hh] at hm
    have hmx := List.getElem?_eq_getElem (show md < a.length by omega)
    generalize a[md]'_ = x at hmx
    have cc := userIndex_c1_ok (GG := GG) x s
    have hcn := cmp_neg x.fName s
    cases hb : Go.Op.bytesLess x.fName s with
    | true =>
      rw [hb] at hcn
      have hw : IntKind.i64.wrap ((md : Int) + 1) = ((md + 1 : Nat) : Int) := by rw [wrap_id (by omega) (by omega)]; omega
      refine u_32 (Y4 hlt hm hmx hcn) (Z1 cc) ?_
      refine ⟨j - (md + 1), by omega, md + 1, j, rfl, by omega, hj, fun m y hm2 hy => ?_, h2, ?_⟩
      · by_cases hmh : m = md
        · subst hmh; rw [hmx] at hy; cases hy; exact hb
        · exact bl_trans (pw_get hs (show m < md by omega) hy hmx) hb
      · exact u_34 hw
    | false =>
      rw [hb] at hcn
      refine u_32 (Y4 hlt hm hmx hcn) (Z1 cc) ?_
      refine ⟨md - i, by omega, i, md, rfl, by omega, by omega, h1, fun m y hm2 hy => ?_, ?_⟩
      · by_cases hmh : m = md
        · subst hmh; rw [hmx] at hy; cases hy; exact hb
        · cases hby : Go.Op.bytesLess y.fName s with
          | false => rfl
          | true => have := bl_trans (pw_get hs (show md < m by omega) hmx hy) hby; rw [hb] at this; cases this
      · exact u_24
  · have hije : i = j := by omega
    subst hije
    rw [lessN_eq hj h1 h2]
    by_cases hil : i < a.length
    · have ha := List.getElem?_eq_getElem hil
      generalize a[i] = x at ha
      have cc := userIndex_c1_ok (GG := GG) x s
      have hcz := cmp_zero x.fName s
      have hany : a.any (fun u => u.fName == s) = (x.fName == s) := by
        cases hx : (x.fName == s) with
        | true => exact List.any_eq_true.2 ⟨x, List.mem_of_getElem? ha, hx⟩
        | false =>
          rw [List.any_eq_false]
          intro y hy hys
          have hys : y.fName = s := by simpa using hys
          obtain ⟨m, hm⟩ := List.getElem?_of_mem hy
          rcases Nat.lt_trichotomy m i with hmi | rfl | hmi
          · have := h1 m y hmi hm; rw [hys, bl_irrefl] at this; cases this
          · rw [ha] at hm; cases hm; rw [hys, beq_self_eq_true] at hx; cases hx
          · have hxy := pw_get hs hmi ha hm
            rw [hys, h2 i x (Nat.le_refl _) ha] at hxy; cases hxy
      rw [hany]
      have hte := (List.getElem?_eq_some_iff.1 ha).2
      exact u_31 (Y3 hil hte hcz) (Z1 cc)
    · have hany : a.any (fun u => u.fName == s) = false := by
        rw [List.any_eq_false]
        intro y hy hys
        have hys : y.fName = s := by simpa using hys
        obtain ⟨m, hm⟩ := List.getElem?_of_mem hy
        have := h1 m y (by have := (List.getElem?_eq_some_iff.1 hm).1; omega) hm
        rw [hys, bl_irrefl] at this; cases this
      rw [hany]
      exact u_22 hil
theorem userIndex_ok (f : GFar) (s : List UInt8) (hl : f.fUsers.length ≤ 1048576) (hb : farB f = true) : Valid PP GG 216 [.agg f.c, .d (.str s)] (.tup [.d (.int .i64 (lessN GUser.fName s f.fUsers)), .d (.bool (f.fUsers.any fun u => u.fName == s))]) [none, none] := by
  refine cv Tryz.func216 [.d (.int .i64 (lessN GUser.fName s f.fUsers)), .d (.bool (f.fUsers.any fun u => u.fName == s))] ?_
  have cs := SearchUser_ok (GG := GG) f.fUsers s hl (far_inc hb)
  exact u_33 (Z1 cs)
def delUser_ren : Go.Shelf.Ren := ⟨fun | 45 => 225 | n => n, fun | 22 => 45 | 23 => 84 | n => n, fun n => n⟩
theorem delUser : Go.Proofs.SlLaysE0.n45 PP delUser_ren := {
  mixed := by kernel_rfl
  f45 := ⟨"slices.Delete[[]loop.example/g00705/impl.User,loop.example/g00705/impl.User]", by decide, Tryz.func225.trans (congrArg some (by kernel_rfl))⟩
  t0 := Tryz.underlying0
  a0 := Tryz.isAgg0
  z0 := Tryz.sizeOf0
  v0 := Tryz.zeroValue0
  t3 := Tryz.underlying3
  a3 := Tryz.isAgg3
  z3 := Tryz.sizeOf3
  v3 := Tryz.zeroValue3
  t4 := Tryz.underlying4
  a4 := Tryz.isAgg4
  z4 := Tryz.sizeOf4
  v4 := Tryz.zeroValue4
  t22 := Tryz.underlying45
  a22 := Tryz.isAgg45
  z22 := Tryz.sizeOf45
  v22 := Tryz.zeroValue45
}
theorem DeleteUser_ok (rows : List (List D)) (i j : Nat) (hij : i ≤ j) (hj : j ≤ rows.length) : Valid PP GG 225 [.own 0 2 rows, .d (.int .i64 i), .d (.int .i64 j)] (.own 0 2 (rows.take i ++ rows.drop j)) [none, none, none] :=
  delete_valid delUser ⟨Tryz.f225, Tryz.func225, by kernel_rfl, by kernel_rfl⟩ (by kernel_rfl) (by omega) i j hij hj
theorem rUser_del (a : List GUser) (i : Nat) : (rUser a).take i ++ (rUser a).drop (i + 1) = rUser (a.take i ++ a.drop (i + 1)) := by simp [rUser]
def delOwned_ren : Go.Shelf.Ren := ⟨fun | 45 => 166 | n => n, fun | 22 => 51 | 23 => 108 | n => n, fun n => n⟩
theorem delOwned : Go.Proofs.SlLaysE0.n45 PP delOwned_ren := {
  mixed := by kernel_rfl
  f45 := ⟨"slices.Delete[[]loop.example/g00705/impl.Owned,loop.example/g00705/impl.Owned]", by decide, Tryz.func166.trans (congrArg some (by kernel_rfl))⟩
  t0 := Tryz.underlying0
  a0 := Tryz.isAgg0
  z0 := Tryz.sizeOf0
  v0 := Tryz.zeroValue0
  t3 := Tryz.underlying3
  a3 := Tryz.isAgg3
  z3 := Tryz.sizeOf3
  v3 := Tryz.zeroValue3
  t4 := Tryz.underlying4
  a4 := Tryz.isAgg4
  z4 := Tryz.sizeOf4
  v4 := Tryz.zeroValue4
  t22 := Tryz.underlying51
  a22 := Tryz.isAgg51
  z22 := Tryz.sizeOf51
  v22 := Tryz.zeroValue51
}
theorem DeleteOwned_ok (rows : List (List D)) (i j : Nat) (hij : i ≤ j) (hj : j ≤ rows.length) : Valid PP GG 166 [.own 0 2 rows, .d (.int .i64 i), .d (.int .i64 j)] (.own 0 2 (rows.take i ++ rows.drop j)) [none, none, none] :=
  delete_valid delOwned ⟨Tryz.f166, Tryz.func166, by kernel_rfl, by kernel_rfl⟩ (by kernel_rfl) (by omega) i j hij hj
theorem rOwned_del (a : List GOwned) (i : Nat) : (rOwned a).take i ++ (rOwned a).drop (i + 1) = rOwned (a.take i ++ a.drop (i + 1)) := by simp [rOwned]
def dropF (f : GFar) (s : List UInt8) : GFar := if 0 < f.fFail then { f with fFail := f.fFail - 1 } else { f with fUsers := f.fUsers.filter fun u => !(u.fName == s) }
def dropC (f : GFar) : Int := if 0 < f.fFail then 2 else 0
theorem filter_keep {α : Type} {p : α → Bool} {l : List α} (h : ∀ x, x ∈ l → p x = true) : l.filter p = l := by
  rw [List.filter_eq_self]; exact h
theorem del_user {us : List GUser} {s : List UInt8} (hs : us.Pairwise (fun y x => Go.Op.bytesLess y.fName x.fName = true)) (h : us.any (fun u => u.fName == s) = true) :
    lessN GUser.fName s us < us.length ∧ us.take (lessN GUser.fName s us) ++ us.drop (lessN GUser.fName s us + 1) = us.filter fun u => !(u.fName == s) := by
  rw [List.any_eq_true] at h
  obtain ⟨x, hx, hxs⟩ := h
  have hxs : x.fName = s := by simpa using hxs
  obtain ⟨i, hi⟩ := List.getElem?_of_mem hx
  have hlt := (List.getElem?_eq_some_iff.1 hi).1
  have h1 : ∀ (m : Nat) y, m < i → us[m]? = some y → Go.Op.bytesLess y.fName s = true := fun m y hm hy => hxs ▸ pw_get hs hm hy hi
  have h2 : ∀ (m : Nat) y, i < m → us[m]? = some y → Go.Op.bytesLess s y.fName = true := fun m y hm hy => hxs ▸ pw_get hs hm hi hy
  have e : lessN GUser.fName s us = i := lessN_eq (by omega) h1 fun m y hm hy => by
    by_cases hmi : m = i
    · subst hmi; rw [hi] at hy; cases hy; rw [hxs, bl_irrefl]
    · exact bl_asymm (h2 m y (by omega) hy)
  rw [e]
  refine ⟨hlt, ?_⟩
  conv => rhs; rw [← List.take_append_drop i us, drop_get hi]
  rw [List.filter_append, List.filter_cons, hxs, beq_self_eq_true]
  simp only [Bool.not_true, Bool.false_eq_true, if_false]
  rw [filter_keep fun y hy => ?_, filter_keep fun y hy => ?_]
  · obtain ⟨m, hm⟩ := List.getElem?_of_mem hy
    rw [List.getElem?_drop] at hm
    have := h2 (i + 1 + m) y (by omega) hm
    cases hb : (y.fName == s) with
    | false => rfl
    | true => rw [beq_iff_eq] at hb; rw [hb, bl_irrefl] at this; cases this
  · obtain ⟨m, hm⟩ := List.getElem?_of_mem hy
    have hml := (List.getElem?_eq_some_iff.1 hm).1
    rw [List.length_take] at hml
    rw [List.getElem?_take_of_lt (by omega)] at hm
    have := h1 m y (by omega) hm
    cases hb : (y.fName == s) with
    | false => rfl
    | true => rw [beq_iff_eq] at hb; rw [hb, bl_irrefl] at this; cases this
theorem okP_of {α : Type} {q : List α → α → Bool} {l : List α} (h : ∀ (i : Nat) x, l[i]? = some x → q (l.take i) x = true) : okP q [] l = true := by
  have : ∀ n, n ≤ l.length → okP q [] (l.take n) = true := by
    intro n
    induction n with
    | zero => intro _; rfl
    | succ n ih =>
      intro hn
      have hx := List.getElem?_eq_getElem (show n < l.length by omega)
      rw [okP_step hx, ih (by omega), h n _ hx]; rfl
  have := this l.length (Nat.le_refl _)
  rwa [List.take_length] at this
theorem far_iff (f : GFar) : farB f = true ↔ f.fUsers.length ≤ 120 ∧ inB f.fFail 0 1000 = true ∧ inB f.fMade 0 1000000000 = true ∧ (∀ u, u ∈ f.fUsers → nameOk u.fName = true) ∧ f.fUsers.Pairwise (fun y x => Go.Op.bytesLess y.fName x.fName = true) := by
  constructor
  · intro h
    have hp := far_inc h
    unfold farB at h
    simp only [Bool.and_eq_true, decide_eq_true_eq] at h
    refine ⟨h.1.1.1, h.1.1.2, h.1.2, fun u hu => ?_, hp⟩
    obtain ⟨i, hi⟩ := List.getElem?_of_mem hu
    have := okP_get h.2 hi
    unfold farQ at this
    rw [Bool.and_eq_true] at this
    exact this.1
  · rintro ⟨h1, h2, h3, h4, h5⟩
    unfold farB
    rw [h2, h3, decide_eq_true h1]
    simp only [Bool.and_self, Bool.true_and]
    refine okP_of fun i x hx => ?_
    unfold farQ
    rw [h4 x (List.mem_of_getElem? hx), Bool.true_and]
    cases i with
    | zero => exact adj_zero _ _ _
    | succ j =>
      have hlt := (List.getElem?_eq_some_iff.1 hx).1
      have hy := List.getElem?_eq_getElem (show j < f.fUsers.length by omega)
      rw [adj_succ _ hy]
      exact pw_get h5 (Nat.lt_succ_self j) hy hx
theorem far_drop {f : GFar} (h : farB f = true) (s : List UInt8) : farB (dropF f s) = true := by
  rw [far_iff] at h ⊢
  obtain ⟨h1, h2, h3, h4, h5⟩ := h
  unfold dropF
  split
  · rename_i hp
    refine ⟨h1, ?_, h3, h4, h5⟩
    have := inB_true h2
    unfold inB; simp only [Bool.and_eq_true, decide_eq_true_eq]; omega
  · exact ⟨Nat.le_trans (List.length_filter_le _ _) h1, h2, h3, fun u hu => h4 u ((List.mem_filter.1 hu).1), h5.filter _⟩
theorem fit_drop {f : GFar} (h : fitFar f) (s : List UInt8) : fitFar (dropF f s) := by
  unfold dropF
  split
  · exact h
  · exact ⟨Nat.le_trans (List.length_filter_le _ _) h.1, fun u hu => h.2 u ((List.mem_filter.1 hu).1)⟩
theorem dropUser_ok (f : GFar) (s : List UInt8) (hf : fitFar f) (hb : farB f = true) : Valid PP GG 204 [.agg f.c, .d (.str s)] (.tup [.agg (dropF f s).o, .d (.int .i64 (dropC f))]) [none, none] := by
  refine cv Tryz.func204 [.agg (dropF f s).o, .d (.int .i64 (dropC f))] ?_
  have hD : dropF f s = if 0 < f.fFail then { f with fFail := f.fFail - 1 } else { f with fUsers := f.fUsers.filter fun u => !(u.fName == s) } := rfl
  have hC : dropC f = if 0 < f.fFail then 2 else 0 := rfl
  have ccp := cloneFar_ok (GG := GG) f.fUsers f.fFail f.fMade (by have := hf.1; omega)
  have cui := userIndex_ok (GG := GG) f s hf.1 hb
  have hi := far_iff f |>.1 hb
  have hdu := fun h => del_user (us := f.fUsers) (s := s) hi.2.2.2.2 h
  obtain ⟨a, ff, fm⟩ := f
  dsimp only at hD hC ccp cui hi hdu
  have hin := inB_true hi.2.1
  have hi3 := ind_rUser a
  generalize dropF ⟨a, ff, fm⟩ s = DF at *
  generalize dropC ⟨a, ff, fm⟩ = DC at *
  by_cases hff : 0 < ff
  · rw [if_pos hff] at hD hC
    subst hD hC
    have hw : IntKind.i64.wrap (ff - 1) = ff - 1 := wrap_id (by omega) (by omega)
    exact u_31 (Y2 hff hw) (Z1 ccp)
  · rw [if_neg hff] at hD hC
    subst hD hC
    cases hany : a.any (fun u => u.fName == s) with
    | false =>
      rw [hany] at cui
      have e : (a.filter fun u => !(u.fName == s)) = a := filter_keep fun u hu => by
        rw [List.any_eq_false] at hany
        have := hany u hu
        simpa using this
      rw [e]
      exact u_31 hff (Z2 ccp cui)
    | true =>
      rw [hany] at cui
      obtain ⟨hk, hde⟩ := hdu hany
      generalize lessN GUser.fName s a = k at *
      have cdl := DeleteUser_ok (GG := GG) (rUser a) k (k + 1) (by omega) (by rw [rUser_len]; omega)
      rw [rUser_del, hde] at cdl
      have hw : IntKind.i64.wrap ((k : Int) + 1) = ((k + 1 : Nat) : Int) := by rw [wrap_id (by omega) (by omega)]; omega
      rw [show ((k + 1 : Nat) : Int) = (k : Int) + 1 by omega] at cdl hw
      have hi4 := ind_rUser (a.filter fun u => !(u.fName == s))
      generalize (a.filter fun u => !(u.fName == s)) = b at *
      exact u_31 (Y2 hff hw) (Z3 ccp cui cdl)
theorem s_DropUser_ok [MaxL GG] (f : GFar) (s : List UInt8) (hf : fitFar f) (hb : farB f = true) : Valid PP GG 203 [.agg f.c, .d (.str s)] (.tup [.agg (dropF f s).o, .d (.int .i64 (dropC f))]) [none, none] := by
  refine cv Tryz.func203 [.agg (dropF f s).o, .d (.int .i64 (dropC f))] ?_
  have hD : dropF f s = if 0 < f.fFail then { f with fFail := f.fFail - 1 } else { f with fUsers := f.fUsers.filter fun u => !(u.fName == s) } := rfl
  have hC : dropC f = if 0 < f.fFail then 2 else 0 := rfl
  have ccp := s_l11Copy_ok (GG := GG) f.fUsers f.fFail f.fMade (by have := hf.1; omega)
  have cfo := s_FarOk_ok (GG := GG) f hf
  rw [hb] at cfo
  have hi := far_iff f |>.1 hb
  have hl := hf.1
  obtain ⟨a, ff, fm⟩ := f
  dsimp only at hD hC ccp cfo hi hl
  have hin := inB_true hi.2.1
  have hi3 := ind_rUser a
  generalize dropF ⟨a, ff, fm⟩ s = DF at *
  generalize dropC ⟨a, ff, fm⟩ = DC at *
  by_cases hff : 0 < ff
  · rw [if_pos hff] at hD hC
    subst hD hC
    have hw : IntKind.i64.wrap (ff - 1) = ff - 1 := wrap_id (by omega) (by omega)
    exact u_31 (Y2 hff hw) (Z2 cfo ccp)
  · rw [if_neg hff] at hD hC
    subst hD hC
    refine u_1 ?_
    refine u_14 (Z1 ccp) ?_
    refine W_seq (W_seq ?_)
    refine u_55 (Z1 cfo) ?_
    refine W_cond rfl (fun h => by simp at h) (fun h => W_skip ?_)
    refine W_seq (W_seq ?_)
    refine u_7 hff ?_
    refine W_cond rfl (fun h => by simp at h) (fun h => W_skip ?_)
    refine u_1 ?_
    refine W_nilP 6 0 rfl rfl rfl ?_
    refine u_30 ?_
    refine W_loop (fun n st => ∃ i : Nat, n = a.length - i ∧ i ≤ a.length ∧
      st = ⟨[], [(1, .d (.str s)), (2, .ptr 0 0), (4, .ptr 1 0), (6, .ptr 2 0), (7, .d (.int .i64 i))], [(0, .box [.d (.slc 2 (rUser a)), .d (.int .i64 ff), .d (.int .i64 fm)]), (1, .box [.nil 0 2, .d (.int .i64 0), .d (.int .i64 0)]), (2, .box [.sl 3, .d (.int .i64 ff), .d (.int .i64 fm)]), (3, .arr 0 0 2 (rUser ((a.take i).filter fun u => !(u.fName == s))))], 4⟩) _ ⟨0, rfl, by omega, ?_⟩ ?_
    · exact u_54
    rintro n st ⟨i, rfl, hi', rfl⟩
    by_cases hlt : i < a.length
    rotate_left
    · have hie : i = a.length := by omega
      subst hie
      rw [List.take_length]
      have hi4 := ind_rUser (a.filter fun u => !(u.fName == s))
      generalize (a.filter fun u => !(u.fName == s)) = b at *
      exact u_29
    have ha := List.getElem?_eq_getElem hlt
    generalize a[i] = x at ha
    have hsc := filter_succ (p := fun u : GUser => !(u.fName == s)) (f := GUser.row) ha
    have hlen := filter_take_len (fun u : GUser => !(u.fName == s)) GUser.row a i
    rw [show ∀ l : List GUser, (l.filter fun u => !(u.fName == s)).map GUser.row = rUser (l.filter fun u => !(u.fName == s)) from fun l => rfl] at hsc hlen
    rw [show ∀ l : List GUser, (l.filter fun u => !(u.fName == s)).map GUser.row = rUser (l.filter fun u => !(u.fName == s)) from fun l => rfl] at hsc
    generalize rUser ((a.take i).filter fun u => !(u.fName == s)) = L at *
    obtain ⟨xn, xp⟩ := x
    dsimp only at hsc
    cases hx : (xn == s) with
    | false =>
      rw [hx] at hsc
      simp only [Bool.not_false, if_true] at hsc
      refine u_53 (Y2 ha hx) ?_
      refine ⟨a.length - (i + 1), by omega, i + 1, rfl, hlt, ?_⟩
      rw [hsc]
      refine u_27 ?_
      exact wrap_id (by omega) (by omega)
    | true =>
      rw [hx] at hsc
      simp only [Bool.not_true, Bool.false_eq_true, if_false, List.append_nil] at hsc
      refine u_23 (Y2 ha hx) ?_
      refine ⟨a.length - (i + 1), by omega, i + 1, rfl, hlt, ?_⟩
      rw [hsc]
      refine u_27 ?_
      exact wrap_id (by omega) (by omega)
def dropOut (q : GQueue) (s : List UInt8) (now : Int) : GQueue := ⟨q.fJobs ++ [⟨s, now, 0⟩]⟩
def qHas (q : GQueue) (s : List UInt8) : Bool := q.fJobs.any fun t => t.fName == s
def qDropB (q : GQueue) (s : List UInt8) (now : Int) : Bool := qHas q s || queueB (dropOut q s now)
def qDropQ (q : GQueue) (s : List UInt8) (now : Int) : GQueue := if qHas q s then q else if queueB (dropOut q s now) then dropOut q s now else q
theorem fitQ_app {q : GQueue} {s : List UInt8} (now : Int) (h : queueB q = true) (hf : fitQ q) (hs : s.length ≤ 1048576) : fitQ (dropOut q s now) := by
  unfold queueB at h
  simp only [Bool.and_eq_true, decide_eq_true_eq] at h
  refine ⟨by unfold dropOut; simp; omega, fun t ht => ?_⟩
  rcases List.mem_append.1 ht with ht | ht
  · exact hf.2 t ht
  · simp at ht; subst ht; exact hs
theorem queueDrop_ok [MaxL GG] (q : GQueue) (s : List UInt8) (now : Int) (hf : fitQ q) (hs : s.length ≤ 1048576) (hb : queueB q = true) :
    Valid PP GG 165 [.agg q.c, .d (.str s), .d (.int .i64 now)] (.tup [.agg (qDropQ q s now).o, .d (.bool (qDropB q s now))]) [none, none, none] := by
  refine cv Tryz.func165 [.agg (qDropQ q s now).o, .d (.bool (qDropB q s now))] ?_
  have ccp := cloneQueue_ok (GG := GG) q.fJobs (by have := hf.1; omega)
  have ch := hasJob_ok (GG := GG) q s hf.1
  have cq := isQueue_ok (GG := GG) (dropOut q s now) (fitQ_app now hb hf hs)
  have hB : qDropB q s now = (qHas q s || queueB (dropOut q s now)) := rfl
  have hQ : qDropQ q s now = if qHas q s then q else if queueB (dropOut q s now) then dropOut q s now else q := rfl
  have hH : qHas q s = q.fJobs.any fun t => t.fName == s := rfl
  have hl := hf.1
  rw [← hH] at ch
  clear hH
  obtain ⟨a⟩ := q
  dsimp only at ccp ch hB hQ hl
  have hi1 := ind_rJob a
  have hro : rJob (dropOut ⟨a⟩ s now).fJobs = rJob a ++ [[.str s, .int .i64 now, .int .i64 0]] := by
    unfold dropOut; dsimp only; rw [rJob_app]; rfl
  dsimp only [GQueue.c] at cq
  rw [hro] at cq
  generalize qHas ⟨a⟩ s = H at *
  generalize hqo : queueB (dropOut ⟨a⟩ s now) = Q at *
  have hoq : (dropOut ⟨a⟩ s now).o = [.own 0 3 (rJob a ++ [[.str s, .int .i64 now, .int .i64 0]])] := by rw [← hro]
  generalize dropOut ⟨a⟩ s now = OQ at *
  generalize qDropB ⟨a⟩ s now = DB at *
  generalize qDropQ ⟨a⟩ s now = DQ at *
  cases H
  · simp only [Bool.false_or, Bool.false_eq_true, if_false] at hB hQ
    subst hB
    cases DB
    · simp only [Bool.false_eq_true, if_false] at hQ
      subst hQ
      exact u_56 (Z3 ccp ch cq)
    · simp only [if_true] at hQ
      subst hQ
      rw [hoq]
      exact u_56 (Z3 ccp ch cq)
  · simp only [Bool.true_or, if_true] at hB hQ
    subst hB hQ
    exact u_33 (Z2 ccp ch)
theorem s_QueueDrop_ok [MaxL GG] (q : GQueue) (s : List UInt8) (now : Int) (hf : fitQ q) (hs : s.length ≤ 1048576) (hb : queueB q = true) :
    Valid PP GG 159 [.agg q.c, .d (.str s), .d (.int .i64 now)] (.tup [.agg (qDropQ q s now).o, .d (.bool (qDropB q s now))]) [none, none, none] := by
  refine cv Tryz.func159 [.agg (qDropQ q s now).o, .d (.bool (qDropB q s now))] ?_
  have ccp := s_l11CopyQueue_ok (GG := GG) q.fJobs (by have := hf.1; omega)
  have cq0 := s_QueueOk_ok (GG := GG) q hf
  rw [hb] at cq0
  have cq := s_QueueOk_ok (GG := GG) (dropOut q s now) (fitQ_app now hb hf hs)
  have hB : qDropB q s now = (qHas q s || queueB (dropOut q s now)) := rfl
  have hQ : qDropQ q s now = if qHas q s then q else if queueB (dropOut q s now) then dropOut q s now else q := rfl
  have hH : qHas q s = q.fJobs.any fun t => t.fName == s := rfl
  have hl := hf.1
  obtain ⟨a⟩ := q
  dsimp only at ccp cq0 hB hQ hl hH
  have hi1 := ind_rJob a
  have hro : rJob (dropOut ⟨a⟩ s now).fJobs = rJob a ++ [[.str s, .int .i64 now, .int .i64 0]] := by
    unfold dropOut; dsimp only; rw [rJob_app]; rfl
  dsimp only [GQueue.c] at cq
  rw [hro] at cq
  generalize qHas ⟨a⟩ s = H at *
  generalize hqo : queueB (dropOut ⟨a⟩ s now) = Q at *
  have hoq : (dropOut ⟨a⟩ s now).o = [.own 0 3 (rJob a ++ [[.str s, .int .i64 now, .int .i64 0]])] := by rw [← hro]
  generalize dropOut ⟨a⟩ s now = OQ at *
  generalize qDropB ⟨a⟩ s now = DB at *
  generalize qDropQ ⟨a⟩ s now = DQ at *
  refine u_37 (Z2 ccp cq0) ?_
  refine W_loop (fun n st => ∃ i : Nat, n = a.length - i ∧ i ≤ a.length ∧ (∀ y, y ∈ a.take i → (y.fName == s) = false) ∧
    st = ⟨[], [(1, .d (.str s)), (2, .d (.int .i64 now)), (3, .ptr 0 0), (6, .ptr 1 0), (8, .ptr 2 0), (9, .d (.int .i64 i))], [(0, .box [.d (.slc 3 (rJob a))]), (1, .box [.nil 0 3]), (2, .box [.sl 3]), (3, .arr 0 0 3 (rJob a))], 4⟩) _ ⟨0, rfl, by omega, fun x hx => by simp at hx, ?_⟩ ?_
  · exact u_24
  rintro n st ⟨i, rfl, hi, hn, rfl⟩
  by_cases hlt : i < a.length
  · have ha := List.getElem?_eq_getElem hlt
    generalize a[i] = x at ha
    obtain ⟨xn, xa, xt⟩ := x
    cases hx : (xn == s) with
    | true =>
      have e := (find_hit (p := fun t : GJob => t.fName == s) ha hn hx).2
      rw [e] at hH
      subst hH
      simp only [Bool.true_or, if_true] at hB hQ
      subst hB hQ
      exact u_22 (Y2 ha hx)
    | false =>
      have hn2 := take_miss (p := fun t : GJob => t.fName == s) ha hn hx
      refine u_23 (Y2 ha hx) ?_
      refine ⟨a.length - (i + 1), by omega, i + 1, rfl, hlt, hn2, ?_⟩
      refine u_27 ?_
      exact wrap_id (by omega) (by omega)
  · have hie : i = a.length := by omega
    subst hie
    rw [List.take_length] at hn
    rw [(find_miss hn).2] at hH
    subst hH
    simp only [Bool.false_or, Bool.false_eq_true, if_false] at hB hQ
    subst hB
    cases DB
    · simp only [Bool.false_eq_true, if_false] at hQ
      subst hQ
      exact u_56 (Z2 ccp cq)
    · simp only [if_true] at hQ
      subst hQ
      rw [hoq]
      exact u_56 (Z2 ccp cq)
structure RQ where
  jobs : List GJob
  far : GFar
  done : List (List UInt8)
  failed : List (List UInt8)
def rqStep (now : Int) (s : RQ) (j : GJob) : RQ :=
  if now < j.fAt then { s with jobs := s.jobs ++ [j] }
  else if dropC s.far = 0 then { s with far := dropF s.far j.fName, done := s.done ++ [j.fName] }
  else if j.fTries + 1 = 6 then { s with far := dropF s.far j.fName, failed := s.failed ++ [j.fName] }
  else { s with jobs := s.jobs ++ [⟨j.fName, now + 2 ^ (j.fTries + 1).toNat, j.fTries + 1⟩], far := dropF s.far j.fName }
def rq (now : Int) (q : List GJob) (f : GFar) : RQ := q.foldl (rqStep now) ⟨[], f, [], []⟩
theorem rq_succ {now : Int} {q : List GJob} {f : GFar} {i : Nat} {j : GJob} (h : q[i]? = some j) : rq now (q.take (i + 1)) f = rqStep now (rq now (q.take i) f) j := by
  unfold rq; rw [List.take_add_one, h, List.foldl_append]; rfl
theorem rq_len (now : Int) (q : List GJob) (f : GFar) : (rq now q f).jobs.length ≤ q.length ∧ (rq now q f).done.length ≤ q.length ∧ (rq now q f).failed.length ≤ q.length := by
  induction q using snoc_ind with
  | h0 => exact ⟨Nat.le_refl _, Nat.le_refl _, Nat.le_refl _⟩
  | h1 l x ih =>
    have e : rq now (l ++ [x]) f = rqStep now (rq now l f) x := by unfold rq; rw [List.foldl_append]; rfl
    rw [e, List.length_append]
    simp only [List.length_cons, List.length_nil]
    unfold rqStep
    repeat' split
    all_goals (simp only [List.length_append, List.length_cons, List.length_nil]; omega)
theorem rq_far {now : Int} {f : GFar} (hb : farB f = true) (hf : fitFar f) (q : List GJob) : farB (rq now q f).far = true ∧ fitFar (rq now q f).far := by
  induction q using snoc_ind with
  | h0 => exact ⟨hb, hf⟩
  | h1 l x ih =>
    have e : rq now (l ++ [x]) f = rqStep now (rq now l f) x := by unfold rq; rw [List.foldl_append]; rfl
    rw [e]
    unfold rqStep
    repeat' split
    · exact ih
    all_goals exact ⟨far_drop ih.1 _, fit_drop ih.2 _⟩
theorem strsD_one (l : List (List UInt8)) (x : List UInt8) : strsD l ++ [[.str x]] = strsD (l ++ [x]) := by simp [strsD]
theorem rJob_one (l : List GJob) (x : GJob) : rJob l ++ [x.row] = rJob (l ++ [x]) := by simp [rJob]
theorem job_tries {q : GQueue} (h : queueB q = true) {i : Nat} {j : GJob} (hi : q.fJobs[i]? = some j) : 0 ≤ j.fTries ∧ j.fTries ≤ 5 := by
  unfold queueB at h
  rw [Bool.and_eq_true] at h
  have := okP_get h.2 hi
  unfold jobQ jobB at this
  simp only [Bool.and_eq_true] at this
  exact inB_true this.1.2
theorem shl_one {t : Int} (h1 : 1 ≤ t) (h2 : t ≤ 5) : IntKind.i64.wrap (1 * 2 ^ (min t.toNat 64)) = 2 ^ t.toNat ∧ 0 ≤ (2 : Int) ^ t.toNat ∧ (2 : Int) ^ t.toNat ≤ 32 := by
  obtain ⟨n, rfl⟩ : ∃ n : Nat, t = n := ⟨t.toNat, by omega⟩
  have : n = 1 ∨ n = 2 ∨ n = 3 ∨ n = 4 ∨ n = 5 := by omega
  rcases this with rfl | rfl | rfl | rfl | rfl <;> decide
end Go.Proofs.YtdckkojgnkoabaaGreatDoor.Ab
