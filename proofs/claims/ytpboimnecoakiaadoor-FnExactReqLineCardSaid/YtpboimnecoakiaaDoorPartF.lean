/-
  A part of a proof about the given program; what is proved is said where each theorem stands.
-/
import Derived.Test.YtpboimnecoakiaaDoorFrameA
import Derived.Test.YtpboimnecoakiaaDoorFrameB
import Derived.Test.YtpboimnecoakiaaDoorFrameC
import Derived.Test.YtpboimnecoakiaaDoorFrameD
import Derived.Test.YtpboimnecoakiaaDoorFrameE
import Derived.Test.YtpboimnecoakiaaDoorShelf
import Derived.Test.YtpboimnecoakiaaDoorCodesP
import Derived.Test.YtpboimnecoakiaaDoorPartA
import Derived.Test.YtpboimnecoakiaaDoorPartB
import Derived.Test.YtpboimnecoakiaaDoorPartC
import Derived.Test.YtpboimnecoakiaaDoorPartD
import Derived.Test.YtpboimnecoakiaaDoorPartE
namespace Go.Proofs
end Go.Proofs
set_option linter.unusedSimpArgs false
set_option linter.unusedVariables false
set_option maxRecDepth 100000
set_option maxHeartbeats 2000000
namespace Go.Proofs.YtpboimnecoakiaaDoor.Ab
open Go.Proofs
variable {GG : GV}

/-- What is left of an allowance. -/
def leftR (c : Nat) (l : Int) : Int := if (c : Int) ≤ l then l - c else -1

theorem leftR_yes {c : Nat} {l : Int} (h : (c : Int) ≤ l) : leftR c l = l - c := if_pos h

theorem leftR_no {c : Nat} {l : Int} (h : l < c) : leftR c l = -1 := if_neg (by omega)

theorem szReq_g (x : GReq) (l : Int) (hx : x.ok) (h0 : 0 ≤ l ∧ l ≤ 1048576) : Valid PP GG F_L_szReq [.agg x.c, .d (.int .i64 l)] (.d (.int .i64 (leftR x.cost l))) [none, none] := by
  refine v_L_szReq [.d (.int .i64 (leftR x.cost l))] rfl rfl ?_
  have hco : x.cost = x.fName.length + x.fPath.length + x.fData.length := rfl
  unfold GReq.ok maxLen at hx
  obtain ⟨okKind0, okToken0, okName0, okPath0, okData0, okNum0⟩ := hx
  generalize x.cost = co at hco
  refine W_seq (?_)
  apply W_regS
  · intro K hK
    simp
    repeat' (first | with_reducible exact hK | (with_reducible refine goL_split (fun _ => ?_) (fun _ => ?_) <;> simp) | with_reducible refine And.intro ?_ ?_ | with_reducible exact okay_rfl rfl | with_reducible assumption | omega)
  obtain ⟨l1, el1⟩ : ∃ z : Int, l - x.fName.length = z := ⟨_, rfl⟩
  have wl1 : IntKind.i64.wrap (l - x.fName.length) = l1 := by rw [wrap_id (by omega) (by omega)]; exact el1
  refine W_seq (?_)
  apply W_regS
  · intro K hK
    simp [wl1]
    repeat' (first | with_reducible exact hK | (with_reducible refine goL_split (fun _ => ?_) (fun _ => ?_) <;> simp [wl1]) | with_reducible refine And.intro ?_ ?_ | with_reducible exact okay_rfl rfl | with_reducible assumption | omega)
  refine W_seq (W_seq (?_))
  apply W_regS
  · intro K hK
    simp
    repeat' (first | with_reducible exact hK | (with_reducible refine goL_split (fun _ => ?_) (fun _ => ?_) <;> simp) | with_reducible refine And.intro ?_ ?_ | with_reducible exact okay_rfl rfl | with_reducible assumption | omega)
  refine W_cond rfl (fun hh0 => W_seq ?_) (fun hh0 => W_skip ?_)
  · apply W_regS
    · intro K hK
      simp
      repeat' (first | with_reducible exact hK | (with_reducible refine goL_split (fun _ => ?_) (fun _ => ?_) <;> simp) | with_reducible refine And.intro ?_ ?_ | with_reducible exact okay_rfl rfl | with_reducible assumption | omega)
    simp at hh0
    have : leftR co l = -1 := leftR_no (by omega)
    refine W_ret ?_
    simp [Fin, this]
    all_goals omega
  simp at hh0
  obtain ⟨l2, el2⟩ : ∃ z : Int, l1 - x.fPath.length = z := ⟨_, rfl⟩
  have wl2 : IntKind.i64.wrap (l1 - x.fPath.length) = l2 := by rw [wrap_id (by omega) (by omega)]; exact el2
  refine W_seq (?_)
  apply W_regS
  · intro K hK
    simp [wl2]
    repeat' (first | with_reducible exact hK | (with_reducible refine goL_split (fun _ => ?_) (fun _ => ?_) <;> simp [wl2]) | with_reducible refine And.intro ?_ ?_ | with_reducible exact okay_rfl rfl | with_reducible assumption | omega)
  refine W_seq (W_seq (?_))
  apply W_regS
  · intro K hK
    simp
    repeat' (first | with_reducible exact hK | (with_reducible refine goL_split (fun _ => ?_) (fun _ => ?_) <;> simp) | with_reducible refine And.intro ?_ ?_ | with_reducible exact okay_rfl rfl | with_reducible assumption | omega)
  refine W_cond rfl (fun hh1 => W_seq ?_) (fun hh1 => W_skip ?_)
  · apply W_regS
    · intro K hK
      simp
      repeat' (first | with_reducible exact hK | (with_reducible refine goL_split (fun _ => ?_) (fun _ => ?_) <;> simp) | with_reducible refine And.intro ?_ ?_ | with_reducible exact okay_rfl rfl | with_reducible assumption | omega)
    simp at hh1
    have : leftR co l = -1 := leftR_no (by omega)
    refine W_ret ?_
    simp [Fin, this]
    all_goals omega
  simp at hh1
  obtain ⟨l3, el3⟩ : ∃ z : Int, l2 - x.fData.length = z := ⟨_, rfl⟩
  have wl3 : IntKind.i64.wrap (l2 - x.fData.length) = l3 := by rw [wrap_id (by omega) (by omega)]; exact el3
  refine W_seq (?_)
  apply W_regS
  · intro K hK
    simp [wl3]
    repeat' (first | with_reducible exact hK | (with_reducible refine goL_split (fun _ => ?_) (fun _ => ?_) <;> simp [wl3]) | with_reducible refine And.intro ?_ ?_ | with_reducible exact okay_rfl rfl | with_reducible assumption | omega)
  refine W_seq (W_seq (?_))
  apply W_regS
  · intro K hK
    simp
    repeat' (first | with_reducible exact hK | (with_reducible refine goL_split (fun _ => ?_) (fun _ => ?_) <;> simp) | with_reducible refine And.intro ?_ ?_ | with_reducible exact okay_rfl rfl | with_reducible assumption | omega)
  refine W_cond rfl (fun hh2 => W_seq ?_) (fun hh2 => W_skip ?_)
  · apply W_regS
    · intro K hK
      simp
      repeat' (first | with_reducible exact hK | (with_reducible refine goL_split (fun _ => ?_) (fun _ => ?_) <;> simp) | with_reducible refine And.intro ?_ ?_ | with_reducible exact okay_rfl rfl | with_reducible assumption | omega)
    simp at hh2
    have : leftR co l = -1 := leftR_no (by omega)
    refine W_ret ?_
    simp [Fin, this]
    all_goals omega
  simp at hh2
  refine W_seq (?_)
  apply W_regS
  · intro K hK
    simp
    repeat' (first | with_reducible exact hK | (with_reducible refine goL_split (fun _ => ?_) (fun _ => ?_) <;> simp) | with_reducible refine And.intro ?_ ?_ | with_reducible exact okay_rfl rfl | with_reducible assumption | omega)
  have : leftR co l = l3 := by rw [leftR_yes (by omega)]; omega
  refine W_ret ?_
  simp [Fin, this]
  all_goals omega

theorem toReq_g (x : GReq) (hx : x.cost ≤ 1099511627776) : Valid PP GG F_L_toReq [.agg x.c] (.agg x.o) [none] := by
  refine v_L_toReq [.agg x.o] rfl rfl ?_
  have hco : x.cost = x.fName.length + x.fPath.length + x.fData.length := rfl
  refine W_seq (?_)
  apply W_regS
  · intro K hK
    simp
    repeat' (first | with_reducible exact hK | (with_reducible refine goL_split (fun _ => ?_) (fun _ => ?_) <;> simp) | with_reducible refine And.intro ?_ ?_ | with_reducible exact okay_rfl rfl | with_reducible assumption | omega)
  refine W_seq (?_)
  apply W_regS
  · intro K hK
    simp
    repeat' (first | with_reducible exact hK | (with_reducible refine goL_split (fun _ => ?_) (fun _ => ?_) <;> simp) | with_reducible refine And.intro ?_ ?_ | with_reducible exact okay_rfl rfl | with_reducible assumption | omega)
  refine W_seq (?_)
  apply W_regS
  · intro K hK
    simp
    repeat' (first | with_reducible exact hK | (with_reducible refine goL_split (fun _ => ?_) (fun _ => ?_) <;> simp) | with_reducible refine And.intro ?_ ?_ | with_reducible exact okay_rfl rfl | with_reducible assumption | omega)
  refine W_seq (?_)
  apply W_regS
  · intro K hK
    simp
    repeat' (first | with_reducible exact hK | (with_reducible refine goL_split (fun _ => ?_) (fun _ => ?_) <;> simp) | with_reducible refine And.intro ?_ ?_ | with_reducible exact okay_rfl rfl | with_reducible assumption | omega)
  refine W_seq (?_)
  apply W_regS
  · intro K hK
    simp
    repeat' (first | with_reducible exact hK | (with_reducible refine goL_split (fun _ => ?_) (fun _ => ?_) <;> simp) | with_reducible refine And.intro ?_ ?_ | with_reducible exact okay_rfl rfl | with_reducible assumption | omega)
  refine W_seq (?_)
  apply W_regS
  · intro K hK
    simp
    repeat' (first | with_reducible exact hK | (with_reducible refine goL_split (fun _ => ?_) (fun _ => ?_) <;> simp) | with_reducible refine And.intro ?_ ?_ | with_reducible exact okay_rfl rfl | with_reducible assumption | omega)
  refine W_seq (?_)
  apply W_regS
  · intro K hK
    simp
    repeat' (first | with_reducible exact hK | (with_reducible refine goL_split (fun _ => ?_) (fun _ => ?_) <;> simp) | with_reducible refine And.intro ?_ ?_ | with_reducible exact okay_rfl rfl | with_reducible assumption | omega)
  refine W_seq (?_)
  apply W_regS
  · intro K hK
    simp
    repeat' (first | with_reducible exact hK | (with_reducible refine goL_split (fun _ => ?_) (fun _ => ?_) <;> simp) | with_reducible refine And.intro ?_ ?_ | with_reducible exact okay_rfl rfl | with_reducible assumption | omega)
  refine W_seq (?_)
  apply W_regS
  · intro K hK
    simp
    repeat' (first | with_reducible exact hK | (with_reducible refine goL_split (fun _ => ?_) (fun _ => ?_) <;> simp) | with_reducible refine And.intro ?_ ?_ | with_reducible exact okay_rfl rfl | with_reducible assumption | omega)
  refine W_ret ?_
  simp [Fin]
  all_goals omega

theorem typ_GReq {k : Nat} {ds : List D} (h : Typ Tryd.prog (k + 2) 67 ds) : ∃ x : GReq, ds = x.row ∧ x.ok := by
  obtain ⟨hl, hf⟩ := typ_struct Tryd.underlying67 h
  rw [show Tryd.prog.cellsOf 67 = 6 by kernel_rfl] at hl
  match ds, hl, hf with
  | [a0, a1, a2, a3, a4, a5], _, hf =>
    obtain ⟨x0, e0, i0⟩ := typ_int (ds := [a0]) Tryd.underlying3 (typ_field hf 0 rfl (n := 1) (by kernel_rfl))
    obtain ⟨x1, e1, i1⟩ := typ_int (ds := [a1]) Tryd.underlying3 (typ_field hf 1 rfl (n := 1) (by kernel_rfl))
    obtain ⟨x2, e2, i2⟩ := typ_str (ds := [a2]) Tryd.underlying9 (typ_field hf 2 rfl (n := 1) (by kernel_rfl))
    obtain ⟨x3, e3, i3⟩ := typ_str (ds := [a3]) Tryd.underlying9 (typ_field hf 3 rfl (n := 1) (by kernel_rfl))
    obtain ⟨x4, e4, i4⟩ := typ_str (ds := [a4]) Tryd.underlying9 (typ_field hf 4 rfl (n := 1) (by kernel_rfl))
    obtain ⟨x5, e5, i5⟩ := typ_int (ds := [a5]) Tryd.underlying3 (typ_field hf 5 rfl (n := 1) (by kernel_rfl))
    cases e0; cases e1; cases e2; cases e3; cases e4; cases e5
    exact ⟨{ fKind := x0, fToken := x1, fName := x2, fPath := x3, fData := x4, fNum := x5 }, rfl, ⟨i0, i1, i2, i3, i4, i5⟩⟩

theorem unF_cons {p q : List UInt8} {ps : List (List UInt8)} : unF (p :: q :: ps) = swp 32 61 p ++ 59 :: unF (q :: ps) := by simp [unF]

theorem unF_cut (b : List UInt8) : unF (cutAt 10 b) = swp 32 61 (swp 10 59 b) := by
  induction b with
  | nil => rfl
  | cons c b ih =>
    obtain ⟨p, ps, hp⟩ := cutAt_ne 10 b
    rw [hp] at ih
    unfold cutAt
    rw [hp]
    by_cases h : c = 10
    · subst h
      rw [if_pos rfl, unF_cons, ih]
      simp [swp]
    · rw [if_neg h]
      have : unF (headCons c (p :: ps)) = (if c = 32 then 61 else c) :: unF (p :: ps) := by simp [headCons, unF, swp]
      rw [this, ih]
      simp [swp, h]

theorem cut_snoc (b : List UInt8) : cutAt 10 (b ++ [10]) = cutAt 10 b ++ [[]] := by
  induction b with
  | nil => rfl
  | cons c b ih =>
    obtain ⟨p, ps, hp⟩ := cutAt_ne 10 b
    simp only [List.cons_append, cutAt]
    rw [ih, hp]
    by_cases h : c = 10
    · rw [if_pos h, if_pos h]; rfl
    · rw [if_neg h, if_neg h]; rfl

theorem trim_snoc (b : List UInt8) : Lib.trimSuffix (b ++ [10]) [10] = b := by simp [Lib.trimSuffix, Lib.hasSuffix]

def goodR (r : GReq) : Prop := fitS r ∧ (r.fKind = 0 → r.fData = [] ∨ ∃ b, r.fData = b ++ [10])

theorem line_same {r : GReq} (h : goodR r) : lineI r = lineS r := by
  obtain ⟨_, h0⟩ := h
  obtain ⟨kd, tk, nm, pa, da, nu⟩ := r
  dsimp only at h0
  by_cases hk : 0 ≤ kd ∧ kd ≤ 15
  · obtain ⟨k, rfl⟩ : ∃ k : Nat, kd = k := ⟨kd.toNat, by omega⟩
    have hk : k ≤ 15 := by omega
    have hz : k = 0 ∨ k = 1 ∨ k = 2 ∨ k = 3 ∨ k = 4 ∨ k = 5 ∨ k = 6 ∨ k = 7 ∨ k = 8 ∨ k = 9 ∨ k = 10 ∨ k = 11 ∨ k = 12 ∨ k = 13 ∨ k = 14 ∨ k = 15 := by omega
    rcases hz with rfl | rfl | rfl | rfl | rfl | rfl | rfl | rfl | rfl | rfl | rfl | rfl | rfl | rfl | rfl | rfl
    · rcases h0 rfl with rfl | ⟨b, rfl⟩
      · simp [lineI, lineS, formsL, verbsL, shortV, lineF, verbF, headF, wordI, wordS, unrul, optW]
      · have hu : unrul (b ++ [10]) = swp 32 61 (swp 10 59 b) := by
          unfold unrul
          rw [if_neg (by simp), cut_snoc, List.dropLast_concat, unF_cut]
        simp [lineI, lineS, formsL, verbsL, shortV, lineF, verbF, headF, wordI, wordS, hu, trim_snoc]
    all_goals simp [lineI, lineS, formsL, verbsL, shortV, lineF, verbF, headF, wordI, wordS]
  · have h1 : (decide (0 ≤ kd) && decide (kd ≤ 15)) = false := by rw [Bool.eq_false_iff]; simp; omega
    have h2 : (decide (11 ≤ kd) && decide (kd ≤ 15)) = false := by rw [Bool.eq_false_iff]; simp; omega
    have h3 : (decide (0 ≤ kd) && decide (kd ≤ 10)) = false := by rw [Bool.eq_false_iff]; simp; omega
    unfold lineI lineS
    dsimp only
    rw [h1, h2, h3, if_neg (show ¬ kd = 14 by omega)]
    simp

theorem fixP_len {p : List UInt8} (h : ¬ lastP p p.length < 0) : (fixP p).length = p.length + 1 := by
  rcases lastP_range p p.length (Nat.le_refl _) with e | ⟨j, e, hj, _⟩
  · omega
  · unfold fixP
    rw [e]
    simp
    omega

theorem fixP_end (p : List UInt8) : ∃ b, fixP p = b ++ [10] := ⟨_, rfl⟩

def sumC : List (List UInt8) → Nat
  | [] => 0
  | p :: r => p.length + 1 + sumC r

theorem sumC_cut (c : UInt8) (s : List UInt8) : sumC (cutAt c s) = s.length + 1 := by
  induction s with
  | nil => rfl
  | cons b s ih =>
    obtain ⟨p, ps, hp⟩ := cutAt_ne c s
    unfold cutAt
    rw [hp] at ih ⊢
    split
    · simp only [sumC, List.length_cons, List.length_nil] at ih ⊢; omega
    · simp only [headCons, sumC, List.length_cons] at ih ⊢; omega

theorem polP_len2 : ∀ {l : List (List UInt8)} {d : List UInt8}, polP l = some d → d.length = sumC l ∧ (l ≠ [] → ∃ b, d = b ++ [10]) := by
  intro l
  induction l with
  | nil => intro d h; simp only [polP] at h; cases h; exact ⟨rfl, fun h => (h rfl).elim⟩
  | cons p r ih =>
    intro d h
    simp only [polP] at h
    split at h
    · cases h
    · rename_i hp
      obtain ⟨e, he, rfl⟩ := Option.map_eq_some_iff.1 h
      obtain ⟨h1, h2⟩ := ih he
      refine ⟨by rw [List.length_append, fixP_len hp, h1]; simp only [sumC], fun _ => ?_⟩
      by_cases hr : r = []
      · subst hr
        simp only [polP] at he
        cases he
        obtain ⟨b, hb⟩ := fixP_end p
        exact ⟨b, by simp [hb]⟩
      · obtain ⟨b, rfl⟩ := h2 hr
        exact ⟨fixP p ++ b, by simp⟩

theorem word_len {w : List UInt8} (h : wordB w = true) : w.length ≤ 100 := by
  unfold wordB inB at h
  simp only [Bool.and_eq_true, decide_eq_true_eq] at h
  omega

def goodK (k : Int) (r : GReq) : Prop := fitS r ∧ r.fKind = k ∧ (k = 0 → r.fData = [] ∨ ∃ b, r.fData = b ++ [10])

theorem takeW_good {k : Int} {c : UInt8} {r r' : GReq} {w : List UInt8} (h : takeW k c r w = some r') (hr : goodK k r) : goodK k r' := by
  have hw := word_len (take_word h)
  obtain ⟨⟨h1, h2, h3⟩, h4, h5⟩ := hr
  unfold takeW at h
  split at h
  · cases hn : numW w with
    | none => rw [hn] at h; cases h
    | some n => rw [hn] at h; cases h; exact ⟨⟨h1, h2, h3⟩, h4, h5⟩
  split at h
  · cases h
  split at h
  · cases h; exact ⟨⟨h1, hw, h3⟩, h4, h5⟩
  split at h
  · cases h; exact ⟨⟨hw, h2, h3⟩, h4, h5⟩
  split at h
  · cases h; exact ⟨⟨h1, h2, h3⟩, h4, h5⟩
  split at h
  · cases h; exact ⟨⟨h1, hw, h3⟩, h4, h5⟩
  split at h
  · cases hp : polP (cutAt 59 w) with
    | none => rw [hp] at h; cases h
    | some d =>
      rw [hp] at h; cases h
      obtain ⟨e1, e2⟩ := polP_len2 hp
      rw [sumC_cut] at e1
      obtain ⟨p, ps, hps⟩ := cutAt_ne 59 w
      exact ⟨⟨h1, h2, by show d.length ≤ _; omega⟩, h4, fun _ => .inr (e2 (by rw [hps]; simp))⟩
  · rename_i hk
    cases h; exact ⟨⟨h1, h2, by show w.length ≤ _; omega⟩, h4, fun e => (hk e).elim⟩

theorem takeAll_good {k : Int} : ∀ (cs : List UInt8) (ws : List (List UInt8)) (r r' : GReq), takeAll k r cs ws = some r' → goodK k r → goodK k r' := by
  intro cs
  induction cs with
  | nil => intro ws r r' h hr; cases ws <;> (simp only [takeAll] at h; cases h; exact hr)
  | cons c cs ih =>
    intro ws r r' h hr
    cases ws with
    | nil => simp only [takeAll] at h; cases h; exact hr
    | cons w ws =>
      simp only [takeAll] at h
      cases ht : takeW k c r w with
      | none => rw [ht] at h; cases h
      | some q => rw [ht] at h; exact ih ws q r' h (takeW_good ht hr)

theorem desk_good {l : List UInt8} {r : GReq} (h : deskW l = some r) : goodR r := by
  unfold deskW at h
  split at h
  · cases h
  · unfold deskU at h
    dsimp only at h
    split at h
    · cases h
    · obtain ⟨h1, h2, h3⟩ := takeAll_good _ _ _ _ h ⟨⟨by simp, by simp, by simp⟩, rfl, fun _ => .inl rfl⟩
      exact ⟨h1, fun e => h3 (by rw [← h2, e])⟩

theorem line_law (r : GReq) : outL (deskW (lineI r)) r (lineI r) = outL (backS r) r (lineS r) ∧ decide (deskW (lineI r) = some r) = decide (backS r = some r) := by
  by_cases hg : goodR r
  · have e := line_same hg
    unfold backS
    rw [if_pos hg.1, desk_spec, e]
    exact ⟨rfl, rfl⟩
  · have h1 : ¬ deskW (lineI r) = some r := fun h => hg (desk_good h)
    have h2 : ¬ backS r = some r := by
      unfold backS
      split
      · rw [desk_spec]; exact fun h => hg (desk_good h)
      · simp
    unfold outL
    rw [if_neg h1, if_neg h2, decide_eq_false h1, decide_eq_false h2]
    exact ⟨rfl, rfl⟩

theorem law_ReqLine [P10 GG] [ESyn GG] [ERng GG] [MaxL GG] (r : GReq) (hr : r.ok) : Valid PP GG F_L_FnExactReqLine [.agg r.c] (.d (.bool true)) [none] := by
  refine v_L_FnExactReqLine [.d (.bool true)] rfl rfl ?_
  have cz := szReq_g (GG := GG) r 1048576 hr (by omega)
  by_cases hl : (r.cost : Int) ≤ 1048576
  · have hlr : leftR r.cost 1048576 = 1048576 - r.cost := if_pos hl
    rw [hlr] at cz
    have hneg : decide ((1048576 : Int) - r.cost < 0) = false := decide_eq_false (by omega)
    have hco : r.cost = r.fName.length + r.fPath.length + r.fData.length := rfl
    have ct := toReq_g (GG := GG) r (by omega)
    have hm : reqM r := ⟨hr.2.1, hr.2.2.2.2.2, by omega, by omega, by omega⟩
    have cs := s_ReqLine_ok (GG := GG) r hm
    have ci := i_ReqLine_ok (GG := GG) r hm
    obtain ⟨e1, e2⟩ := line_law r
    rw [e1, e2] at ci
    generalize outL (backS r) r (lineS r) = l at *
    generalize decide (backS r = some r) = b at *
    repeat' (first | refine W_seq ?_ | refine W_skip ?_ | refine W_block ?_ | (refine W_exit ?_; first | refine pick_pos rfl ?_ | (refine pick_neg rfl ?_; first | refine pick_pos rfl ?_ | (refine pick_neg rfl ?_; refine pick_pos rfl ?_))) | (refine W_regP fun K hK => ?_; simp [hneg]) | (refine W_regPD fun K hK => ?_; simp [hneg]) | (with_reducible refine hK _ ?_; clear hK K) | (with_reducible refine callQ (cz) ?_; simp [hneg]) | (with_reducible refine callQ (ct) ?_; simp [hneg]) | (with_reducible refine callQ (cs) ?_; simp [hneg]) | (with_reducible refine callQ (ci) ?_; simp [hneg]) | (with_reducible refine goL_split (fun h => ?_) (fun h => ?_) <;> first | (exfalso; simp at h; done) | (exfalso; simp at h; omega) | (exfalso; simp at h; contradiction) | ((try simp at h); simp [hneg])) | with_reducible refine And.intro ?_ ?_ | with_reducible exact okay_rfl rfl | with_reducible assumption | (refine W_cond rfl (fun h => ?_) (fun h => ?_) <;> first | (exfalso; simp at h; done) | (exfalso; simp at h; omega) | (exfalso; simp at h; contradiction) | (exfalso; simp_all; done) | (try simp at h)) | (refine W_ret ?_; simp [Fin, hneg]) | omega)
  · have hlr : leftR r.cost 1048576 = -1 := if_neg hl
    rw [hlr] at cz
    repeat' (first | refine W_seq ?_ | refine W_skip ?_ | refine W_block ?_ | (refine W_exit ?_; first | refine pick_pos rfl ?_ | (refine pick_neg rfl ?_; first | refine pick_pos rfl ?_ | (refine pick_neg rfl ?_; refine pick_pos rfl ?_))) | (refine W_regP fun K hK => ?_; simp) | (refine W_regPD fun K hK => ?_; simp) | (with_reducible refine hK _ ?_; clear hK K) | (with_reducible refine callQ (cz) ?_; simp) | (with_reducible refine goL_split (fun h => ?_) (fun h => ?_) <;> first | (exfalso; simp at h; done) | (exfalso; simp at h; omega) | (exfalso; simp at h; contradiction) | ((try simp at h); simp)) | with_reducible refine And.intro ?_ ?_ | with_reducible exact okay_rfl rfl | with_reducible assumption | (refine W_cond rfl (fun h => ?_) (fun h => ?_) <;> first | (exfalso; simp at h; done) | (exfalso; simp at h; omega) | (exfalso; simp at h; contradiction) | (exfalso; simp_all; done) | (try simp at h)) | (refine W_ret ?_; simp [Fin]) | omega)

end Go.Proofs.YtpboimnecoakiaaDoor.Ab

