/-
  A part of a proof about the given program; what is proved is said where each theorem stands.
-/
import Derived.Test.YtpbofdbleajagaaDoorFrameA
import Derived.Test.YtpbofdbleajagaaDoorFrameB
import Derived.Test.YtpbofdbleajagaaDoorFrameC
import Derived.Test.YtpbofdbleajagaaDoorFrameD
import Derived.Test.YtpbofdbleajagaaDoorFrameE
import Derived.Test.YtpbofdbleajagaaDoorShelf
import Derived.Test.YtpbofdbleajagaaDoorShelfB
import Derived.Test.YtpbofdbleajagaaDoorCodesM
import Derived.Test.YtpbofdbleajagaaDoorPartA
import Derived.Test.YtpbofdbleajagaaDoorPartB
import Derived.Test.YtpbofdbleajagaaDoorPartC
import Derived.Test.YtpbofdbleajagaaDoorPartD
import Derived.Test.YtpbofdbleajagaaDoorCodesP
namespace Go.Proofs
end Go.Proofs
set_option linter.unusedSimpArgs false
set_option linter.unusedVariables false
set_option maxRecDepth 100000
set_option maxHeartbeats 2000000
namespace Go.Proofs.YtpbofdbleajagaaDoor.Ab
open Go.Proofs
variable {GG : GV}

theorem ind_rWrap (l : List GWrap) : ∀ row, row ∈ rWrap l → ∀ d, d ∈ row → IndD 1 d := by
  intro row hr d hd
  simp only [rWrap, List.mem_map] at hr
  obtain ⟨x, _, rfl⟩ := hr
  simp only [GWrap.row, List.mem_cons, List.not_mem_nil, or_false] at hd
  rcases hd with rfl | rfl | rfl | rfl | rfl | rfl
  · trivial
  · trivial
  · trivial
  · trivial
  · exact ind_bytes x.fBox.fData
  · trivial

theorem rack_key {r : GRack} (h : rackOk r = true) : keyB r.fKey = true ∧ inB r.fNext 1 1000000000 = true := by
  simp only [rackOk, Bool.and_eq_true] at h; exact ⟨h.1.1.1, h.1.1.2⟩

def putOk (r : GRack) (kind plain : List UInt8) (now ttl : Int) : Bool := rackOk r && pathOk kind && decide (plain.length ≤ 2000) && inB now 0 1000000000 && inB ttl 1 1000000000 && decide (now + ttl ≤ 1000000000) && !(r.fNext == 1000000000)

def putDone (r : GRack) (kind plain : List UInt8) (now ttl : Int) : GRack := { fKey := r.fKey, fNext := r.fNext + 1, fWraps := r.fWraps ++ [{ fId := r.fNext, fEnds := now + ttl, fKind := kind, fBox := sealV r.fKey r.fNext plain }] }

def putR (r : GRack) (kind plain : List UInt8) (now ttl : Int) : GRack := if putOk r kind plain now ttl = true ∧ r.fWraps.length ≠ 60 then putDone r kind plain now ttl else r

def putI (r : GRack) (kind plain : List UInt8) (now ttl : Int) : Int := if putOk r kind plain now ttl = true ∧ r.fWraps.length ≠ 60 then r.fNext else 0

def putC (r : GRack) (kind plain : List UInt8) (now ttl : Int) : Int := if putOk r kind plain now ttl = true then (if r.fWraps.length = 60 then 5 else 0) else 1

theorem put_cases (r : GRack) (kind plain : List UInt8) (now ttl : Int) :
    (putOk r kind plain now ttl = false → putR r kind plain now ttl = r ∧ putI r kind plain now ttl = 0 ∧ putC r kind plain now ttl = 1) ∧
    (putOk r kind plain now ttl = true → r.fWraps.length = 60 → putR r kind plain now ttl = r ∧ putI r kind plain now ttl = 0 ∧ putC r kind plain now ttl = 5) ∧
    (putOk r kind plain now ttl = true → r.fWraps.length ≠ 60 → putR r kind plain now ttl = putDone r kind plain now ttl ∧ putI r kind plain now ttl = r.fNext ∧ putC r kind plain now ttl = 0) := by
  unfold putR putI putC
  refine ⟨fun h => ?_, fun h h2 => ?_, fun h h2 => ?_⟩
  · simp [h]
  · simp [h, h2]
  · simp [h, h2]

theorem put_ok {r : GRack} {kind plain : List UInt8} {now ttl s : Int} {p1 p2 p3 p4 p5 p6 p7 : Bool} (h1 : rackOk r = p1) (h2 : pathOk kind = p2) (h3 : decide (plain.length ≤ 2000) = p3) (h4 : inB now 0 1000000000 = p4) (h5 : inB ttl 1 1000000000 = p5)
    (hs : IntKind.i64.wrap (now + ttl) = s) (h6 : decide (s ≤ 1000000000) = p6) (h7 : (r.fNext == 1000000000) = !p7) : putOk r kind plain now ttl = (p1 && p2 && p3 && p4 && p5 && p6 && p7) ∧ (p4 = true → p5 = true → s = now + ttl) := by
  have hsv : p4 = true → p5 = true → s = now + ttl := by
    intro e4 e5
    have a := inB_true (h4.trans e4)
    have b := inB_true (h5.trans e5)
    rw [← hs, wrap_id (by omega) (by omega)]
  refine ⟨?_, hsv⟩
  unfold putOk
  rw [h1, h2, h3, h4, h5, h7]
  cases p4 with
  | false => simp
  | true =>
    cases p5 with
    | false => simp
    | true => rw [← h6, hsv rfl rfl]; simp

theorem put_cost (r : GRack) (kind plain : List UInt8) (now ttl : Int) : (putR r kind plain now ttl).cost ≤ r.cost + 1 + kind.length + plain.length := by
  unfold putR
  split
  · have h1 : (putDone r kind plain now ttl).cost = (r.fWraps ++ [({ fId := r.fNext, fEnds := now + ttl, fKind := kind, fBox := sealV r.fKey r.fNext plain } : GWrap)]).length + sumBy GWrap.cost (r.fWraps ++ [({ fId := r.fNext, fEnds := now + ttl, fKind := kind, fBox := sealV r.fKey r.fNext plain } : GWrap)]) := rfl
    have h2 : r.cost = r.fWraps.length + sumBy GWrap.cost r.fWraps := rfl
    have h3 : (GWrap.mk r.fNext (now + ttl) kind (sealV r.fKey r.fNext plain)).cost = kind.length + (mask r.fKey r.fNext plain).length := rfl
    rw [mask_len] at h3
    rw [h1, sumBy_append, List.length_append]
    simp only [sumBy, List.length_cons, List.length_nil]
    omega
  · omega

theorem next_key {x : Int} (h : inB x 1 1000000000 = true) : keyB x = true := by
  have := inB_true h
  unfold keyB inB
  simp
  omega

theorem s_PutWrap_ok (r : GRack) (kind plain : List UInt8) (now ttl : Int) (hc : r.cost ≤ 1048576) (hkl : kind.length ≤ 1048576) (hpl : plain.length ≤ 1048576) : Valid PP GG F_S_PutWrap [.agg r.c, .d (.str kind), .d (.slc 1 (bytesD plain)), .d (.int .i64 now), .d (.int .i64 ttl)] (.tup [.agg (putR r kind plain now ttl).o, .d (.int .i64 (putI r kind plain now ttl)), .d (.int .i64 (putC r kind plain now ttl))]) [none, none, none, none, none] := by
  refine v_S_PutWrap [.agg (putR r kind plain now ttl).o, .d (.int .i64 (putI r kind plain now ttl)), .d (.int .i64 (putC r kind plain now ttl))] rfl rfl ?_
  have cr := s_RackOk_ok (GG := GG) r hc
  have hpc := put_cases r kind plain now ttl
  have cp := s_PathOk_ok (GG := GG) kind hkl
  have c4 : Valid PP GG F_S_l01In [.d (.int .i64 now), .d (.int .i64 0), .d (.int .i64 1000000000)] (.d (.bool (inB now 0 1000000000))) [none, none, none] := l01In_ok _ _ _
  have c5 : Valid PP GG F_S_l01In [.d (.int .i64 ttl), .d (.int .i64 1), .d (.int .i64 1000000000)] (.d (.bool (inB ttl 1 1000000000))) [none, none, none] := l01In_ok _ _ _
  have cc := l14Copy_ok (GG := GG) r hc
  have hrk := rack_key (r := r)
  obtain ⟨s, hs⟩ : ∃ s, IntKind.i64.wrap (now + ttl) = s := ⟨_, rfl⟩
  obtain ⟨p1, e1⟩ : ∃ p, rackOk r = p := ⟨_, rfl⟩
  obtain ⟨p2, e2⟩ : ∃ p, pathOk kind = p := ⟨_, rfl⟩
  obtain ⟨p3, e3⟩ : ∃ p, decide (plain.length ≤ 2000) = p := ⟨_, rfl⟩
  obtain ⟨p4, e4⟩ : ∃ p, inB now 0 1000000000 = p := ⟨_, rfl⟩
  obtain ⟨p5, e5⟩ : ∃ p, inB ttl 1 1000000000 = p := ⟨_, rfl⟩
  obtain ⟨p6, e6⟩ : ∃ p, decide (s ≤ 1000000000) = p := ⟨_, rfl⟩
  obtain ⟨p7, e7⟩ : ∃ p, (r.fNext == 1000000000) = !p := ⟨!(r.fNext == 1000000000), by simp⟩
  have e3' : decide (2000 < (plain.length : Int)) = !p3 := by rw [← e3, ← decide_not]; exact decide_eq_decide.2 (by omega)
  have e6' : decide (1000000000 < s) = !p6 := by rw [← e6, ← decide_not]; exact decide_eq_decide.2 (by omega)
  obtain ⟨hok, hsv⟩ := put_ok (r := r) (kind := kind) (plain := plain) e1 e2 e3 e4 e5 hs e6 e7
  have hco : r.cost = r.fWraps.length + sumBy GWrap.cost r.fWraps := rfl
  rw [e2] at cp
  rw [e4] at c4
  rw [e5] at c5
  generalize putR r kind plain now ttl = g at hpc ⊢
  generalize putI r kind plain now ttl = vi at hpc ⊢
  generalize putC r kind plain now ttl = vc at hpc ⊢
  rw [e1] at cr
  refine W_seq (?_)
  apply W_regS
  · intro K hK
    simp
    repeat' (first | with_reducible exact hK | (with_reducible refine goL_split (fun _ => ?_) (fun _ => ?_) <;> simp) | with_reducible refine And.intro ?_ ?_ | with_reducible exact okay_rfl rfl | with_reducible assumption | omega)
  refine W_seq (W_seq (?_))
  refine W_regB 49 (!(p1 && p2 && p3 && p4 && p5 && p6 && p7)) (fun K hK => ?_) ?_
  · simp [e3', hs, e6', e7]
    repeat' (first | exact hK _ _ (by clear hK; first | omega | (exact decide_eq_false (by omega)) | (exact decide_eq_true (by omega)) | (exact (decide_eq_true (by omega)).symm) | (exact (decide_eq_false (by omega)).symm) | (exact decide_eq_decide.2 (by omega)) | (simp [*]; done) | (simp [*]; omega) | (simp_all; done) | (simp_all; omega) | (rw [Bool.eq_iff_iff]; simp at *; omega)) | (with_reducible refine callQ (cr) ?_; simp [e3', hs, e6', e7]) | (with_reducible refine callQ (cp) ?_; simp [e3', hs, e6', e7]) | (with_reducible refine callQ (c4) ?_; simp [e3', hs, e6', e7]) | (with_reducible refine callQ (c5) ?_; simp [e3', hs, e6', e7]) | (with_reducible refine goL_split (fun _ => ?_) (fun _ => ?_) <;> simp [e3', hs, e6', e7]) | with_reducible refine And.intro ?_ ?_ | with_reducible exact okay_rfl rfl | with_reducible assumption | omega)
  refine W_cond rfl (fun h => W_seq ?_) (fun h => W_skip ?_)
  · obtain ⟨rfl, rfl, rfl⟩ := hpc.1 (by rw [hok]; revert h; generalize (p1 && p2 && p3 && p4 && p5 && p6 && p7) = q; cases q <;> simp)
    apply W_regS
    · intro K hK
      simp
      repeat' (first | with_reducible exact hK | (with_reducible refine callQ (cc) ?_; simp) | (with_reducible refine goL_split (fun _ => ?_) (fun _ => ?_) <;> simp) | with_reducible refine And.intro ?_ ?_ | with_reducible exact okay_rfl rfl | with_reducible assumption | omega)
    refine W_ret ?_
    simp [Fin]
    all_goals omega
  rw [h]
  have hall : (p1 && p2 && p3 && p4 && p5 && p6 && p7) = true := by revert h; generalize (p1 && p2 && p3 && p4 && p5 && p6 && p7) = q; cases q <;> simp
  have hparts : p1 = true ∧ p3 = true ∧ p4 = true ∧ p5 = true := by revert hall; cases p1 <;> cases p3 <;> cases p4 <;> cases p5 <;> simp
  have hse := hsv hparts.2.2.1 hparts.2.2.2
  subst hse
  obtain ⟨kk, kn⟩ := hrk (by rw [e1]; exact hparts.1)
  have hpl2 : plain.length ≤ 2000 := of_decide_eq_true (e3.trans hparts.2.1)
  have hnr := inB_true kn
  have csl := s_SealBox_ok (GG := GG) r.fKey r.fNext plain kk (next_key kn) hpl2
  have hwn : IntKind.i64.wrap (r.fNext + 1) = r.fNext + 1 := wrap_id (by omega) (by omega)
  have hindp := ind_bytes (sealV r.fKey r.fNext plain).fData
  refine W_seq (W_seq (?_))
  obtain ⟨z, hz⟩ : ∃ z, ((r.fWraps.length : Int) == 60) = z := ⟨_, rfl⟩
  refine W_regB 55 (z) (fun K hK => ?_) ?_
  · simp [hz]
    repeat' (first | exact hK _ _ (by clear hK; first | omega | (exact decide_eq_false (by omega)) | (exact decide_eq_true (by omega)) | (exact (decide_eq_true (by omega)).symm) | (exact (decide_eq_false (by omega)).symm) | (exact decide_eq_decide.2 (by omega)) | (simp [*]; done) | (simp [*]; omega) | (simp_all; done) | (simp_all; omega) | (rw [Bool.eq_iff_iff]; simp at *; omega)) | (with_reducible refine goL_split (fun _ => ?_) (fun _ => ?_) <;> simp [hz]) | with_reducible refine And.intro ?_ ?_ | with_reducible exact okay_rfl rfl | with_reducible assumption | omega)
  refine W_cond rfl (fun h3 => W_seq ?_) (fun h3 => W_skip ?_)
  · obtain ⟨rfl, rfl, rfl⟩ := hpc.2.1 (by rw [hok]; exact hall) (by rw [h3] at hz; simp at hz; omega)
    apply W_regS
    · intro K hK
      simp
      repeat' (first | with_reducible exact hK | (with_reducible refine callQ (cc) ?_; simp) | (with_reducible refine goL_split (fun _ => ?_) (fun _ => ?_) <;> simp) | with_reducible refine And.intro ?_ ?_ | with_reducible exact okay_rfl rfl | with_reducible assumption | omega)
    refine W_ret ?_
    simp [Fin]
    all_goals omega
  obtain ⟨rfl, rfl, rfl⟩ := hpc.2.2 (by rw [hok]; exact hall) (by rw [h3] at hz; simp at hz; omega)
  simp only [putDone]
  generalize sealV r.fKey r.fNext plain = sb at csl hindp ⊢
  refine W_seq (?_)
  apply W_regS
  · intro K hK
    simp
    repeat' (first | with_reducible exact hK | (with_reducible refine callQ (cc) ?_; simp) | (with_reducible refine goL_split (fun _ => ?_) (fun _ => ?_) <;> simp) | with_reducible refine And.intro ?_ ?_ | with_reducible exact okay_rfl rfl | with_reducible assumption | omega)
  refine W_seq (?_)
  apply W_regS
  · intro K hK
    simp
    repeat' (first | with_reducible exact hK | (with_reducible refine callQ (csl) ?_; simp) | (with_reducible refine goL_split (fun _ => ?_) (fun _ => ?_) <;> simp) | with_reducible refine And.intro ?_ ?_ | with_reducible exact okay_rfl rfl | with_reducible assumption | omega)
  refine W_seq (?_)
  apply W_regS
  · intro K hK
    simp [hs, limit]
    repeat' (first | with_reducible exact hK | (with_reducible refine goL_split (fun _ => ?_) (fun _ => ?_) <;> simp [hs, limit]) | with_reducible refine And.intro ?_ ?_ | with_reducible exact okay_rfl rfl | with_reducible assumption | omega)
  refine W_seq (?_)
  apply W_regS
  · intro K hK
    simp [hwn]
    repeat' (first | with_reducible exact hK | (with_reducible refine goL_split (fun _ => ?_) (fun _ => ?_) <;> simp [hwn]) | with_reducible refine And.intro ?_ ?_ | with_reducible exact okay_rfl rfl | with_reducible assumption | omega)
  refine W_seq (?_)
  apply W_regD
  · intro K hK
    simp
    repeat' (first | with_reducible exact hK | (with_reducible refine goL_split (fun _ => ?_) (fun _ => ?_) <;> simp) | with_reducible refine And.intro ?_ ?_ | with_reducible exact okay_rfl rfl | with_reducible assumption | omega)
  refine W_ret ?_
  simp [Fin, rWrap_snoc]
  all_goals omega

theorem putWrap_ok [MaxL GG] (r : GRack) (kind plain : List UInt8) (now ttl : Int) (hc : r.cost ≤ 1048576) (hkl : kind.length ≤ 1048576) (hpl : plain.length ≤ 1048576) (hrok : rackOk r = true) : Valid PP GG F_I_putWrap [.agg r.c, .d (.str kind), .d (.slc 1 (bytesD plain)), .d (.int .i64 now), .d (.int .i64 ttl)] (.tup [.agg (putR r kind plain now ttl).o, .d (.int .i64 (putI r kind plain now ttl)), .d (.int .i64 (putC r kind plain now ttl))]) [none, none, none, none, none] := by
  refine v_I_putWrap [.agg (putR r kind plain now ttl).o, .d (.int .i64 (putI r kind plain now ttl)), .d (.int .i64 (putC r kind plain now ttl))] rfl rfl ?_
  have hpc := put_cases r kind plain now ttl
  have cp := isPath_ok (GG := GG) kind hkl
  have c4 : Valid PP GG F_I_within [.d (.int .i64 now), .d (.int .i64 0), .d (.int .i64 1000000000)] (.d (.bool (inB now 0 1000000000))) [none, none, none] := within_ok _ _ _
  have c5 : Valid PP GG F_I_within [.d (.int .i64 ttl), .d (.int .i64 1), .d (.int .i64 1000000000)] (.d (.bool (inB ttl 1 1000000000))) [none, none, none] := within_ok _ _ _
  have cc := cloneRack_ok (GG := GG) r hc
  have hrk := rack_key (r := r)
  obtain ⟨s, hs⟩ : ∃ s, IntKind.i64.wrap (now + ttl) = s := ⟨_, rfl⟩
  obtain ⟨p1, e1⟩ : ∃ p, rackOk r = p := ⟨_, rfl⟩
  obtain ⟨p2, e2⟩ : ∃ p, pathOk kind = p := ⟨_, rfl⟩
  obtain ⟨p3, e3⟩ : ∃ p, decide (plain.length ≤ 2000) = p := ⟨_, rfl⟩
  obtain ⟨p4, e4⟩ : ∃ p, inB now 0 1000000000 = p := ⟨_, rfl⟩
  obtain ⟨p5, e5⟩ : ∃ p, inB ttl 1 1000000000 = p := ⟨_, rfl⟩
  obtain ⟨p6, e6⟩ : ∃ p, decide (s ≤ 1000000000) = p := ⟨_, rfl⟩
  obtain ⟨p7, e7⟩ : ∃ p, (r.fNext == 1000000000) = !p := ⟨!(r.fNext == 1000000000), by simp⟩
  have e3' : decide (2000 < (plain.length : Int)) = !p3 := by rw [← e3, ← decide_not]; exact decide_eq_decide.2 (by omega)
  have e6' : decide (1000000000 < s) = !p6 := by rw [← e6, ← decide_not]; exact decide_eq_decide.2 (by omega)
  obtain ⟨hok, hsv⟩ := put_ok (r := r) (kind := kind) (plain := plain) e1 e2 e3 e4 e5 hs e6 e7
  have hco : r.cost = r.fWraps.length + sumBy GWrap.cost r.fWraps := rfl
  rw [e2] at cp
  rw [e4] at c4
  rw [e5] at c5
  generalize putR r kind plain now ttl = g at hpc ⊢
  generalize putI r kind plain now ttl = vi at hpc ⊢
  generalize putC r kind plain now ttl = vc at hpc ⊢
  have hp1 : p1 = true := e1.symm.trans hrok
  refine W_seq (?_)
  apply W_regS
  · intro K hK
    simp
    repeat' (first | with_reducible exact hK | (with_reducible refine goL_split (fun _ => ?_) (fun _ => ?_) <;> simp) | with_reducible refine And.intro ?_ ?_ | with_reducible exact okay_rfl rfl | with_reducible assumption | omega)
  refine W_seq (?_)
  apply W_regS
  · intro K hK
    simp
    repeat' (first | with_reducible exact hK | (with_reducible refine callQ (cc) ?_; simp) | (with_reducible refine goL_split (fun _ => ?_) (fun _ => ?_) <;> simp) | with_reducible refine And.intro ?_ ?_ | with_reducible exact okay_rfl rfl | with_reducible assumption | omega)
  refine W_seq (W_seq (?_))
  refine W_regB 44 (!(p2 && p3 && p4 && p5 && p6 && p7)) (fun K hK => ?_) ?_
  · simp [e3', hs, e6', e7]
    repeat' (first | exact hK _ _ (by clear hK; first | omega | (exact decide_eq_false (by omega)) | (exact decide_eq_true (by omega)) | (exact (decide_eq_true (by omega)).symm) | (exact (decide_eq_false (by omega)).symm) | (exact decide_eq_decide.2 (by omega)) | (simp [*]; done) | (simp [*]; omega) | (simp_all; done) | (simp_all; omega) | (rw [Bool.eq_iff_iff]; simp at *; omega)) | (with_reducible refine callQ (cp) ?_; simp [e3', hs, e6', e7]) | (with_reducible refine callQ (c4) ?_; simp [e3', hs, e6', e7]) | (with_reducible refine callQ (c5) ?_; simp [e3', hs, e6', e7]) | (with_reducible refine goL_split (fun _ => ?_) (fun _ => ?_) <;> simp [e3', hs, e6', e7]) | with_reducible refine And.intro ?_ ?_ | with_reducible exact okay_rfl rfl | with_reducible assumption | omega)
  have hq : (p1 && p2 && p3 && p4 && p5 && p6 && p7) = (p2 && p3 && p4 && p5 && p6 && p7) := by rw [hp1]; simp
  rw [← hq]
  refine W_cond rfl (fun h => W_seq ?_) (fun h => W_skip ?_)
  · obtain ⟨rfl, rfl, rfl⟩ := hpc.1 (by rw [hok]; revert h; generalize (p1 && p2 && p3 && p4 && p5 && p6 && p7) = q; cases q <;> simp)
    apply W_regS
    · intro K hK
      simp
      repeat' (first | with_reducible exact hK | (with_reducible refine goL_split (fun _ => ?_) (fun _ => ?_) <;> simp) | with_reducible refine And.intro ?_ ?_ | with_reducible exact okay_rfl rfl | with_reducible assumption | omega)
    refine W_ret ?_
    simp [Fin]
    all_goals omega
  rw [h]
  have hall : (p1 && p2 && p3 && p4 && p5 && p6 && p7) = true := by revert h; generalize (p1 && p2 && p3 && p4 && p5 && p6 && p7) = q; cases q <;> simp
  have hparts : p1 = true ∧ p3 = true ∧ p4 = true ∧ p5 = true := by revert hall; cases p1 <;> cases p3 <;> cases p4 <;> cases p5 <;> simp
  have hse := hsv hparts.2.2.1 hparts.2.2.2
  subst hse
  obtain ⟨kk, kn⟩ := hrk (by rw [e1]; exact hparts.1)
  have hpl2 : plain.length ≤ 2000 := of_decide_eq_true (e3.trans hparts.2.1)
  have hnr := inB_true kn
  have csl := sealBox_ok (GG := GG) r.fKey r.fNext plain kk (next_key kn) (by omega)
  have hwn : IntKind.i64.wrap (r.fNext + 1) = r.fNext + 1 := wrap_id (by omega) (by omega)
  have hindp := ind_bytes (sealV r.fKey r.fNext plain).fData
  refine W_seq (W_seq (?_))
  obtain ⟨z, hz⟩ : ∃ z, ((r.fWraps.length : Int) == 60) = z := ⟨_, rfl⟩
  refine W_regB 49 (z) (fun K hK => ?_) ?_
  · simp [hz]
    repeat' (first | exact hK _ _ (by clear hK; first | omega | (exact decide_eq_false (by omega)) | (exact decide_eq_true (by omega)) | (exact (decide_eq_true (by omega)).symm) | (exact (decide_eq_false (by omega)).symm) | (exact decide_eq_decide.2 (by omega)) | (simp [*]; done) | (simp [*]; omega) | (simp_all; done) | (simp_all; omega) | (rw [Bool.eq_iff_iff]; simp at *; omega)) | (with_reducible refine goL_split (fun _ => ?_) (fun _ => ?_) <;> simp [hz]) | with_reducible refine And.intro ?_ ?_ | with_reducible exact okay_rfl rfl | with_reducible assumption | omega)
  refine W_cond rfl (fun h3 => W_seq ?_) (fun h3 => W_skip ?_)
  · obtain ⟨rfl, rfl, rfl⟩ := hpc.2.1 (by rw [hok]; exact hall) (by rw [h3] at hz; simp at hz; omega)
    apply W_regS
    · intro K hK
      simp
      repeat' (first | with_reducible exact hK | (with_reducible refine goL_split (fun _ => ?_) (fun _ => ?_) <;> simp) | with_reducible refine And.intro ?_ ?_ | with_reducible exact okay_rfl rfl | with_reducible assumption | omega)
    refine W_ret ?_
    simp [Fin]
    all_goals omega
  obtain ⟨rfl, rfl, rfl⟩ := hpc.2.2 (by rw [hok]; exact hall) (by rw [h3] at hz; simp at hz; omega)
  simp only [putDone]
  generalize sealV r.fKey r.fNext plain = sb at csl hindp ⊢
  refine W_seq (?_)
  apply W_regD
  · intro K hK
    simp [hs, limit]
    repeat' (first | with_reducible exact hK | (with_reducible refine callQ (csl) ?_; simp [hs, limit]) | (with_reducible refine goL_split (fun _ => ?_) (fun _ => ?_) <;> simp [hs, limit]) | with_reducible refine And.intro ?_ ?_ | with_reducible exact okay_rfl rfl | with_reducible assumption | omega)
  refine W_seq (?_)
  apply W_regS
  · intro K hK
    simp [hwn]
    repeat' (first | with_reducible exact hK | (with_reducible refine goL_split (fun _ => ?_) (fun _ => ?_) <;> simp [hwn]) | with_reducible refine And.intro ?_ ?_ | with_reducible exact okay_rfl rfl | with_reducible assumption | omega)
  refine W_seq (?_)
  apply W_regD
  · intro K hK
    simp
    repeat' (first | with_reducible exact hK | (with_reducible refine goL_split (fun _ => ?_) (fun _ => ?_) <;> simp) | with_reducible refine And.intro ?_ ?_ | with_reducible exact okay_rfl rfl | with_reducible assumption | omega)
  refine W_ret ?_
  simp [Fin, rWrap_snoc]
  all_goals omega

theorem i_PutWrap_ok [MaxL GG] (r : GRack) (kind plain : List UInt8) (now ttl : Int) (hc : r.cost ≤ 1048576) (hkl : kind.length ≤ 1048576) (hpl : plain.length ≤ 1048576) : Valid PP GG F_I_PutWrap [.agg r.c, .d (.str kind), .d (.slc 1 (bytesD plain)), .d (.int .i64 now), .d (.int .i64 ttl)] (.tup [.agg (putR r kind plain now ttl).o, .d (.int .i64 (putI r kind plain now ttl)), .d (.int .i64 (putC r kind plain now ttl))]) [none, none, none, none, none] := by
  refine v_I_PutWrap [.agg (putR r kind plain now ttl).o, .d (.int .i64 (putI r kind plain now ttl)), .d (.int .i64 (putC r kind plain now ttl))] rfl rfl ?_
  have cr := isRack_ok (GG := GG) r hc
  have cc := cloneRack_ok (GG := GG) r hc
  have hpc := put_cases r kind plain now ttl
  have hop : rackOk r = false → putOk r kind plain now ttl = false := fun h => by unfold putOk; rw [h]; rfl
  have cw := putWrap_ok (GG := GG) r kind plain now ttl hc hkl hpl
  have hind := ind_rWrap (putR r kind plain now ttl).fWraps
  generalize rackOk r = b at cr hop cw
  generalize putR r kind plain now ttl = g at hpc cw hind ⊢
  generalize putI r kind plain now ttl = vi at hpc cw ⊢
  generalize putC r kind plain now ttl = vc at hpc cw ⊢
  refine W_seq (?_)
  apply W_regS
  · intro K hK
    simp
    repeat' (first | with_reducible exact hK | (with_reducible refine goL_split (fun _ => ?_) (fun _ => ?_) <;> simp) | with_reducible refine And.intro ?_ ?_ | with_reducible exact okay_rfl rfl | with_reducible assumption | omega)
  refine W_seq (W_seq (?_))
  apply W_regS
  · intro K hK
    simp
    repeat' (first | with_reducible exact hK | (with_reducible refine callQ (cr) ?_; simp) | (with_reducible refine goL_split (fun _ => ?_) (fun _ => ?_) <;> simp) | with_reducible refine And.intro ?_ ?_ | with_reducible exact okay_rfl rfl | with_reducible assumption | omega)
  refine W_cond rfl (fun h => W_seq ?_) (fun h => W_skip ?_)
  · simp at h
    obtain ⟨rfl, rfl, rfl⟩ := hpc.1 (hop h)
    apply W_regS
    · intro K hK
      simp
      repeat' (first | with_reducible exact hK | (with_reducible refine callQ (cc) ?_; simp) | (with_reducible refine goL_split (fun _ => ?_) (fun _ => ?_) <;> simp) | with_reducible refine And.intro ?_ ?_ | with_reducible exact okay_rfl rfl | with_reducible assumption | omega)
    refine W_ret ?_
    simp [Fin]
    all_goals omega
  simp at h
  refine W_seq (?_)
  apply W_regS
  · intro K hK
    simp
    repeat' (first | with_reducible exact hK | (with_reducible refine callQ (cw h) ?_; simp) | (with_reducible refine goL_split (fun _ => ?_) (fun _ => ?_) <;> simp) | with_reducible refine And.intro ?_ ?_ | with_reducible exact okay_rfl rfl | with_reducible assumption | omega)
  refine W_ret ?_
  simp [Fin]
  all_goals omega

theorem fits_five {P : Program} {t u v x y : TypeId} {dss : List (List D)} (h : Fits2 P [t, u, v, x, y] dss) : ∃ a b c d e, dss = [a, b, c, d, e] ∧ Typ P 12 t a ∧ Typ P 12 u b ∧ Typ P 12 v c ∧ Typ P 12 x d ∧ Typ P 12 y e := by
  match dss, h with
  | [a, b, c, d, e], h => exact ⟨a, b, c, d, e, rfl, h.1, h.2.1, h.2.2.1, h.2.2.2.1, h.2.2.2.2.1⟩

theorem law_PutWrap [MaxL GG] (r : GRack) (kind plain : List UInt8) (now ttl : Int) (hok : r.ok) (hkm : kind.length ≤ maxLen) (hpm : plain.length ≤ maxLen) : Valid PP GG F_L_FnExactPutWrap [.agg r.c, .d (.str kind), .d (.slc 1 (bytesD plain)), .d (.int .i64 now), .d (.int .i64 ttl)] (.d (.bool true)) [none, none, none, none, none] := by
  refine v_L_FnExactPutWrap [.d (.bool true)] rfl rfl ?_
  refine W_seq (?_)
  apply W_regS
  · intro K hK
    simp
    repeat' (first | with_reducible exact hK | (with_reducible refine goL_split (fun _ => ?_) (fun _ => ?_) <;> simp) | with_reducible refine And.intro ?_ ?_ | with_reducible exact okay_rfl rfl | with_reducible assumption | omega)
  refine W_seq (?_)
  refine W_seq (?_)
  apply W_regS
  · intro K hK
    simp
    repeat' (first | with_reducible exact hK | (with_reducible refine goL_split (fun _ => ?_) (fun _ => ?_) <;> simp) | with_reducible refine And.intro ?_ ?_ | with_reducible exact okay_rfl rfl | with_reducible assumption | omega)
  refine W_cond rfl (fun h => W_seq ?_) (fun h => W_skip ?_)
  · apply W_regS
    · intro K hK
      simp
      repeat' (first | with_reducible exact hK | (with_reducible refine goL_split (fun _ => ?_) (fun _ => ?_) <;> simp) | with_reducible refine And.intro ?_ ?_ | with_reducible exact okay_rfl rfl | with_reducible assumption | omega)
    refine W_ret ?_
    simp [Fin]
    all_goals omega
  simp at h
  have hkl : kind.length ≤ 1048576 := by omega
  refine W_seq (?_)
  refine W_seq (?_)
  apply W_regS
  · intro K hK
    simp
    repeat' (first | with_reducible exact hK | (with_reducible refine goL_split (fun _ => ?_) (fun _ => ?_) <;> simp) | with_reducible refine And.intro ?_ ?_ | with_reducible exact okay_rfl rfl | with_reducible assumption | omega)
  refine W_cond rfl (fun h => W_seq ?_) (fun h => W_skip ?_)
  · apply W_regS
    · intro K hK
      simp
      repeat' (first | with_reducible exact hK | (with_reducible refine goL_split (fun _ => ?_) (fun _ => ?_) <;> simp) | with_reducible refine And.intro ?_ ?_ | with_reducible exact okay_rfl rfl | with_reducible assumption | omega)
    refine W_ret ?_
    simp [Fin]
    all_goals omega
  simp at h
  have hpl : plain.length ≤ 1048576 := by omega
  refine W_seq (?_)
  apply W_regS
  · intro K hK
    simp
    repeat' (first | with_reducible exact hK | (with_reducible refine goL_split (fun _ => ?_) (fun _ => ?_) <;> simp) | with_reducible refine And.intro ?_ ?_ | with_reducible exact okay_rfl rfl | with_reducible assumption | omega)
  refine W_seq (?_)
  apply W_regS
  · intro K hK
    simp
    repeat' (first | with_reducible exact hK | (with_reducible refine callQ (szRack_g r 1048576 hok ⟨by omega, by omega⟩) ?_; simp) | (with_reducible refine goL_split (fun _ => ?_) (fun _ => ?_) <;> simp) | with_reducible refine And.intro ?_ ?_ | with_reducible exact okay_rfl rfl | with_reducible assumption | omega)
  refine W_seq (?_)
  refine W_seq (?_)
  apply W_regS
  · intro K hK
    simp
    repeat' (first | with_reducible exact hK | (with_reducible refine goL_split (fun _ => ?_) (fun _ => ?_) <;> simp) | with_reducible refine And.intro ?_ ?_ | with_reducible exact okay_rfl rfl | with_reducible assumption | omega)
  refine W_cond rfl (fun h => W_seq ?_) (fun h => W_skip ?_)
  · apply W_regS
    · intro K hK
      simp
      repeat' (first | with_reducible exact hK | (with_reducible refine goL_split (fun _ => ?_) (fun _ => ?_) <;> simp) | with_reducible refine And.intro ?_ ?_ | with_reducible exact okay_rfl rfl | with_reducible assumption | omega)
    refine W_ret ?_
    simp [Fin]
    all_goals omega
  simp at h
  have hcost : r.cost ≤ 1048576 := by unfold leftR at h; split at h <;> omega
  have ct := toRack_g (GG := GG) r (by omega)
  have cex := eqRack_g (GG := GG) r r (by omega) (by omega)
  rw [decide_eq_true rfl] at cex
  have hmr : r.marksIn ≤ 200000000 := by
    have hco : r.cost = r.fWraps.length + sumBy GWrap.cost r.fWraps := rfl
    have := sumBy_le GWrap.marks_le r.fWraps
    show sumBy GWrap.marks r.fWraps ≤ _
    omega
  have ck := markRack_g (GG := GG) r 1 (by omega) ⟨by omega, by omega⟩
  have cs := s_PutWrap_ok (GG := GG) r kind plain now ttl hcost hkl hpl
  have ci := i_PutWrap_ok (GG := GG) r kind plain now ttl hcost hkl hpl
  have hgc := put_cost r kind plain now ttl
  generalize putR r kind plain now ttl = g at cs ci hgc
  generalize putI r kind plain now ttl = vi at cs ci
  generalize putC r kind plain now ttl = vc at cs ci
  have ce := eqRack_g (GG := GG) g g (by omega) (by omega)
  rw [decide_eq_true rfl] at ce
  have hind := ind_rWrap g.fWraps
  have hmg : g.marksIn ≤ 400000000 := by
    have hco : g.cost = g.fWraps.length + sumBy GWrap.cost g.fWraps := rfl
    have := sumBy_le GWrap.marks_le g.fWraps
    show sumBy GWrap.marks g.fWraps ≤ _
    omega
  have cm := markRack_g (GG := GG) g 1 (by omega) ⟨by omega, by omega⟩
  have ch := heldRack_g (GG := GG) g 1 (by omega) ⟨by omega, by omega⟩
  simp only [GRack.markIn] at ck cm ch
  have ctb := toByteS_ok (GG := GG) plain (by omega)
  have ceb := eqByteS_ok (GG := GG) plain plain (by omega)
  rw [beq_self_eq_true] at ceb
  have hindb := ind_bytes plain
  have cmb := markByteS_ok (GG := GG) (bytesD plain) (1 + (r.marksIn : Nat)) (by simp [bytesD]) (by simp; omega) (by omega)
  simp only [bytesD_len] at cmb
  refine W_seq (?_)
  apply W_regS
  · intro K hK
    simp
    repeat' (first | with_reducible exact hK | (with_reducible refine callQ (ct) ?_; simp) | (with_reducible refine callQ (ctb) ?_; simp) | (with_reducible refine callQ (cs) ?_; simp) | (with_reducible refine goL_split (fun _ => ?_) (fun _ => ?_) <;> simp) | with_reducible refine And.intro ?_ ?_ | with_reducible exact okay_rfl rfl | with_reducible assumption | omega)
  refine W_seq (?_)
  apply W_regS
  · intro K hK
    simp
    repeat' (first | with_reducible exact hK | (with_reducible refine callQ (ct) ?_; simp) | (with_reducible refine goL_split (fun _ => ?_) (fun _ => ?_) <;> simp) | with_reducible refine And.intro ?_ ?_ | with_reducible exact okay_rfl rfl | with_reducible assumption | omega)
  refine W_seq (?_)
  apply W_regS
  · intro K hK
    simp
    repeat' (first | with_reducible exact hK | (with_reducible refine callQ (ctb) ?_; simp) | (with_reducible refine goL_split (fun _ => ?_) (fun _ => ?_) <;> simp) | with_reducible refine And.intro ?_ ?_ | with_reducible exact okay_rfl rfl | with_reducible assumption | omega)
  refine W_seq (?_)
  apply W_regS
  · intro K hK
    simp
    repeat' (first | with_reducible exact hK | (with_reducible refine callQ (ci) ?_; simp) | (with_reducible refine goL_split (fun _ => ?_) (fun _ => ?_) <;> simp) | with_reducible refine And.intro ?_ ?_ | with_reducible exact okay_rfl rfl | with_reducible assumption | omega)
  refine W_seq (?_)
  refine W_seq (?_)
  refine W_regB 76 (false) (fun K hK => ?_) ?_
  · simp
    repeat' (first | exact hK _ _ (by clear hK; first | omega | (exact decide_eq_false (by omega)) | (exact decide_eq_true (by omega)) | (exact (decide_eq_true (by omega)).symm) | (exact (decide_eq_false (by omega)).symm) | (exact decide_eq_decide.2 (by omega)) | (simp [*]; done) | (simp [*]; omega) | (simp_all; done) | (simp_all; omega) | (rw [Bool.eq_iff_iff]; simp at *; omega)) | (with_reducible refine callQ (ce) ?_; simp) | (with_reducible refine callQ (cex) ?_; simp) | (with_reducible refine goL_split (fun _ => ?_) (fun _ => ?_) <;> simp) | with_reducible refine And.intro ?_ ?_ | with_reducible exact okay_rfl rfl | with_reducible assumption | omega)
  refine W_cond rfl (fun h => ?_) (fun h => W_skip ?_)
  · first | (cases h; done) | (simp at h; done) | (simp at h; omega)
  refine W_seq (?_)
  refine W_seq (?_)
  apply W_regD
  · intro K hK
    simp
    repeat' (first | with_reducible exact hK | (with_reducible refine callQ (ct) ?_; simp) | (with_reducible refine callQ (ce) ?_; simp) | (with_reducible refine callQ (cex) ?_; simp) | (with_reducible refine goL_split (fun _ => ?_) (fun _ => ?_) <;> simp) | with_reducible refine And.intro ?_ ?_ | with_reducible exact okay_rfl rfl | with_reducible assumption | omega)
  refine W_cond rfl (fun h => ?_) (fun h => W_skip ?_)
  · first | (cases h; done) | (simp at h; done) | (simp at h; omega)
  refine W_seq (?_)
  refine W_seq (?_)
  apply W_regS
  · intro K hK
    simp
    repeat' (first | with_reducible exact hK | (with_reducible refine callQ (ctb) ?_; simp) | (with_reducible refine callQ (ceb) ?_; simp) | (with_reducible refine goL_split (fun _ => ?_) (fun _ => ?_) <;> simp) | with_reducible refine And.intro ?_ ?_ | with_reducible exact okay_rfl rfl | with_reducible assumption | omega)
  refine W_cond rfl (fun h => ?_) (fun h => W_skip ?_)
  · first | (cases h; done) | (simp at h; done) | (simp at h; omega)
  refine W_seq (?_)
  apply W_regS
  · intro K hK
    simp
    repeat' (first | with_reducible exact hK | (with_reducible refine goL_split (fun _ => ?_) (fun _ => ?_) <;> simp) | with_reducible refine And.intro ?_ ?_ | with_reducible exact okay_rfl rfl | with_reducible assumption | omega)
  refine W_seq (?_)
  apply W_regS
  · intro K hK
    simp
    repeat' (first | with_reducible exact hK | (with_reducible refine callQ (ck) ?_; simp) | (with_reducible refine callQ (cm) ?_; simp) | (with_reducible refine goL_split (fun _ => ?_) (fun _ => ?_) <;> simp) | with_reducible refine And.intro ?_ ?_ | with_reducible exact okay_rfl rfl | with_reducible assumption | omega)
  refine W_seq (?_)
  apply W_regS
  · intro K hK
    simp
    repeat' (first | with_reducible exact hK | (with_reducible refine callQ (cmb) ?_; simp) | (with_reducible refine goL_split (fun _ => ?_) (fun _ => ?_) <;> simp) | with_reducible refine And.intro ?_ ?_ | with_reducible exact okay_rfl rfl | with_reducible assumption | omega)
  refine W_seq (?_)
  refine W_seq (?_)
  refine W_regB 110 (false) (fun K hK => ?_) ?_
  · simp
    repeat' (first | exact hK _ _ (by clear hK; first | omega | (exact decide_eq_false (by omega)) | (exact decide_eq_true (by omega)) | (exact (decide_eq_true (by omega)).symm) | (exact (decide_eq_false (by omega)).symm) | (exact decide_eq_decide.2 (by omega)) | (simp [*]; done) | (simp [*]; omega) | (simp_all; done) | (simp_all; omega) | (rw [Bool.eq_iff_iff]; simp at *; omega)) | (with_reducible refine callQ (ce) ?_; simp) | (with_reducible refine callQ (cex) ?_; simp) | (with_reducible refine goL_split (fun _ => ?_) (fun _ => ?_) <;> simp) | with_reducible refine And.intro ?_ ?_ | with_reducible exact okay_rfl rfl | with_reducible assumption | omega)
  refine W_cond rfl (fun h => ?_) (fun h => W_skip ?_)
  · first | (cases h; done) | (simp at h; done) | (simp at h; omega)
  refine W_seq (?_)
  apply W_regS
  · intro K hK
    simp
    repeat' (first | with_reducible exact hK | (with_reducible refine goL_split (fun _ => ?_) (fun _ => ?_) <;> simp) | with_reducible refine And.intro ?_ ?_ | with_reducible exact okay_rfl rfl | with_reducible assumption | omega)
  refine W_seq (?_)
  apply W_regS
  · intro K hK
    simp
    repeat' (first | with_reducible exact hK | (with_reducible refine callQ (ck) ?_; simp) | (with_reducible refine callQ (cm) ?_; simp) | (with_reducible refine goL_split (fun _ => ?_) (fun _ => ?_) <;> simp) | with_reducible refine And.intro ?_ ?_ | with_reducible exact okay_rfl rfl | with_reducible assumption | omega)
  refine W_seq (?_)
  apply W_regS
  · intro K hK
    simp
    repeat' (first | with_reducible exact hK | (with_reducible refine goL_split (fun _ => ?_) (fun _ => ?_) <;> simp) | with_reducible refine And.intro ?_ ?_ | with_reducible exact okay_rfl rfl | with_reducible assumption | omega)
  refine W_seq (?_)
  apply W_regS
  · intro K hK
    simp
    repeat' (first | with_reducible exact hK | (with_reducible refine callQ (ch) ?_; simp) | (with_reducible refine goL_split (fun _ => ?_) (fun _ => ?_) <;> simp) | with_reducible refine And.intro ?_ ?_ | with_reducible exact okay_rfl rfl | with_reducible assumption | omega)
  refine W_seq (?_)
  refine W_seq (?_)
  refine W_regB 118 (false) (fun K hK => ?_) ?_
  · simp
    repeat' (first | exact hK _ _ (by clear hK; first | omega | (exact decide_eq_false (by omega)) | (exact decide_eq_true (by omega)) | (exact (decide_eq_true (by omega)).symm) | (exact (decide_eq_false (by omega)).symm) | (exact decide_eq_decide.2 (by omega)) | (simp [*]; done) | (simp [*]; omega) | (simp_all; done) | (simp_all; omega) | (rw [Bool.eq_iff_iff]; simp at *; omega)) | (with_reducible refine goL_split (fun _ => ?_) (fun _ => ?_) <;> simp) | with_reducible refine And.intro ?_ ?_ | with_reducible exact okay_rfl rfl | with_reducible assumption | omega)
  refine W_cond rfl (fun h => ?_) (fun h => W_skip ?_)
  · first | (cases h; done) | (simp at h; done) | (simp at h; omega)
  refine W_seq (?_)
  refine W_seq (?_)
  refine W_regB 121 (false) (fun K hK => ?_) ?_
  · simp
    repeat' (first | exact hK _ _ (by clear hK; first | omega | (exact decide_eq_false (by omega)) | (exact decide_eq_true (by omega)) | (exact (decide_eq_true (by omega)).symm) | (exact (decide_eq_false (by omega)).symm) | (exact decide_eq_decide.2 (by omega)) | (simp [*]; done) | (simp [*]; omega) | (simp_all; done) | (simp_all; omega) | (rw [Bool.eq_iff_iff]; simp at *; omega)) | (with_reducible refine goL_split (fun _ => ?_) (fun _ => ?_) <;> simp) | with_reducible refine And.intro ?_ ?_ | with_reducible exact okay_rfl rfl | with_reducible assumption | omega)
  refine W_cond rfl (fun h => ?_) (fun h => W_skip ?_)
  · first | (cases h; done) | (simp at h; done) | (simp at h; omega)
  refine W_seq (?_)
  apply W_regS
  · intro K hK
    simp
    repeat' (first | with_reducible exact hK | (with_reducible refine callQ (ct) ?_; simp) | (with_reducible refine callQ (ctb) ?_; simp) | (with_reducible refine callQ (ci) ?_; simp) | (with_reducible refine goL_split (fun _ => ?_) (fun _ => ?_) <;> simp) | with_reducible refine And.intro ?_ ?_ | with_reducible exact okay_rfl rfl | with_reducible assumption | omega)
  refine W_seq (?_)
  refine W_seq (?_)
  refine W_regB 147 (false) (fun K hK => ?_) ?_
  · simp
    repeat' (first | exact hK _ _ (by clear hK; first | omega | (exact decide_eq_false (by omega)) | (exact decide_eq_true (by omega)) | (exact (decide_eq_true (by omega)).symm) | (exact (decide_eq_false (by omega)).symm) | (exact decide_eq_decide.2 (by omega)) | (simp [*]; done) | (simp [*]; omega) | (simp_all; done) | (simp_all; omega) | (rw [Bool.eq_iff_iff]; simp at *; omega)) | (with_reducible refine callQ (ce) ?_; simp) | (with_reducible refine callQ (cex) ?_; simp) | (with_reducible refine goL_split (fun _ => ?_) (fun _ => ?_) <;> simp) | with_reducible refine And.intro ?_ ?_ | with_reducible exact okay_rfl rfl | with_reducible assumption | omega)
  refine W_cond rfl (fun h => ?_) (fun h => W_skip ?_)
  · first | (cases h; done) | (simp at h; done) | (simp at h; omega)
  refine W_seq (?_)
  apply W_regS
  · intro K hK
    simp
    repeat' (first | with_reducible exact hK | (with_reducible refine goL_split (fun _ => ?_) (fun _ => ?_) <;> simp) | with_reducible refine And.intro ?_ ?_ | with_reducible exact okay_rfl rfl | with_reducible assumption | omega)
  refine W_seq (?_)
  apply W_regS
  · intro K hK
    simp
    repeat' (first | with_reducible exact hK | (with_reducible refine callQ (ch) ?_; simp) | (with_reducible refine goL_split (fun _ => ?_) (fun _ => ?_) <;> simp) | with_reducible refine And.intro ?_ ?_ | with_reducible exact okay_rfl rfl | with_reducible assumption | omega)
  refine W_seq (?_)
  refine W_seq (?_)
  refine W_regB 152 (false) (fun K hK => ?_) ?_
  · simp
    repeat' (first | exact hK _ _ (by clear hK; first | omega | (exact decide_eq_false (by omega)) | (exact decide_eq_true (by omega)) | (exact (decide_eq_true (by omega)).symm) | (exact (decide_eq_false (by omega)).symm) | (exact decide_eq_decide.2 (by omega)) | (simp [*]; done) | (simp [*]; omega) | (simp_all; done) | (simp_all; omega) | (rw [Bool.eq_iff_iff]; simp at *; omega)) | (with_reducible refine goL_split (fun _ => ?_) (fun _ => ?_) <;> simp) | with_reducible refine And.intro ?_ ?_ | with_reducible exact okay_rfl rfl | with_reducible assumption | omega)
  refine W_cond rfl (fun h => ?_) (fun h => W_skip ?_)
  · first | (cases h; done) | (simp at h; done) | (simp at h; omega)
  refine W_seq (?_)
  refine W_seq (?_)
  refine W_regB 155 (false) (fun K hK => ?_) ?_
  · simp
    repeat' (first | exact hK _ _ (by clear hK; first | omega | (exact decide_eq_false (by omega)) | (exact decide_eq_true (by omega)) | (exact (decide_eq_true (by omega)).symm) | (exact (decide_eq_false (by omega)).symm) | (exact decide_eq_decide.2 (by omega)) | (simp [*]; done) | (simp [*]; omega) | (simp_all; done) | (simp_all; omega) | (rw [Bool.eq_iff_iff]; simp at *; omega)) | (with_reducible refine goL_split (fun _ => ?_) (fun _ => ?_) <;> simp) | with_reducible refine And.intro ?_ ?_ | with_reducible exact okay_rfl rfl | with_reducible assumption | omega)
  refine W_cond rfl (fun h => ?_) (fun h => W_skip ?_)
  · first | (cases h; done) | (simp at h; done) | (simp at h; omega)
  refine W_seq (?_)
  apply W_regS
  · intro K hK
    simp
    repeat' (first | with_reducible exact hK | (with_reducible refine goL_split (fun _ => ?_) (fun _ => ?_) <;> simp) | with_reducible refine And.intro ?_ ?_ | with_reducible exact okay_rfl rfl | with_reducible assumption | omega)
  refine W_ret ?_
  simp [Fin]
  all_goals omega

end Go.Proofs.YtpbofdbleajagaaDoor.Ab

