/-
  A part of a proof about the given program; what is proved is said where each theorem stands.
-/
import Derived.Test.YtpboimnecoakiaaDoorFrameA
import Derived.Test.YtpboimnecoakiaaDoorFrameB
import Derived.Test.YtpboimnecoakiaaDoorFrameC
import Derived.Test.YtpboimnecoakiaaDoorFrameD
import Derived.Test.YtpboimnecoakiaaDoorFrameE
import Derived.Test.YtpboimnecoakiaaDoorShelf
import Derived.Test.YtpboimnecoakiaaDoorCodesP
import Derived.Test.YtpboimnecoakiaaDoorPartA
import Derived.Test.YtpboimnecoakiaaDoorPartB
namespace Go.Proofs
end Go.Proofs
set_option linter.unusedSimpArgs false
set_option linter.unusedVariables false
set_option maxRecDepth 100000
set_option maxHeartbeats 2000000
namespace Go.Proofs.YtpboimnecoakiaaDoor.Ab
open Go.Proofs
variable {GG : GV}

theorem num_word {w : List UInt8} {n : Int} (h : numW w = some n) : wordB w = true := by
  obtain ⟨h1, h2, h3, _⟩ := num_of h
  have hd : ∀ b, b ∈ dsOf w → visB b = true := by
    intro b hb
    obtain ⟨i, hi⟩ := List.getElem?_of_mem hb
    obtain ⟨d, hd⟩ := Lib.digit_of_decFrom _ _ _ h3 i b hi
    obtain ⟨e1, e2, _⟩ := Lib.digitVal_eq hd
    unfold visB
    simp only [Bool.and_eq_true, decide_eq_true_eq]
    omega
  have hall : (∀ b, b ∈ w → visB b = true) ∧ w.length ≤ (dsOf w).length + 1 ∧ 1 ≤ w.length := by
    cases w with
    | nil => simp [dsOf] at h1
    | cons c r =>
      simp only [dsOf] at hd h1 ⊢
      split at hd
      · rename_i hc
        rw [if_pos hc]
        refine ⟨fun b hb => ?_, by simp, by simp⟩
        rcases List.mem_cons.1 hb with rfl | hb
        · unfold visB; simp only [Bool.and_eq_true, decide_eq_true_eq]; omega
        · exact hd b hb
      · rename_i hc
        rw [if_neg hc]
        exact ⟨hd, by simp, by simp⟩
  unfold wordB
  rw [List.all_eq_true.2 hall.1]
  unfold inB
  simp only [Bool.true_and, Bool.and_eq_true, decide_eq_true_eq]
  omega

theorem take_word {k : Int} {c : UInt8} {r r' : GReq} {w : List UInt8} (h : takeW k c r w = some r') : wordB w = true := by
  unfold takeW at h
  split at h
  · cases hn : numW w with
    | none => rw [hn] at h; cases h
    | some n => exact num_word hn
  · split at h
    · cases h
    · rename_i hb; simpa using hb

def relC (c c' : UInt8) : Prop := (c = 110 ∧ c' = 110) ∨ (c = 112 ∧ c' = 112) ∨ (c = 109 ∧ c' = 119) ∨ (c = 113 ∧ c' = 113) ∨ (c = 100 ∧ c' = 111)

def relL : List UInt8 → List UInt8 → Prop
  | [], [] => True
  | c :: cs, d :: ds => relC c d ∧ relL cs ds
  | _, _ => False

theorem take_step {k : Int} (hk : ¬ k = 0) {c c' : UInt8} (hc : relC c c') (r : GReq) {w : List UInt8} (hw : wordB w = true) : takeW k c r w = stepS c' r w := by
  unfold takeW stepS
  rcases hc with ⟨rfl, rfl⟩ | ⟨rfl, rfl⟩ | ⟨rfl, rfl⟩ | ⟨rfl, rfl⟩ | ⟨rfl, rfl⟩ <;> first | (simp [hw, hk]; done) | (simp [hw, hk]; cases numW w <;> rfl)

theorem take_fold {k : Int} (hk : ¬ k = 0) : ∀ (cs ds : List UInt8) (ws : List (List UInt8)) (r : GReq), relL cs ds → ws.length = cs.length →
    takeAll k r cs ws = if ws.all wordB = false then none else foldS r ds ws := by
  intro cs
  induction cs with
  | nil =>
    intro ds ws r hr hl
    cases ds with
    | nil =>
      cases ws with
      | nil => rfl
      | cons w ws => simp at hl
    | cons d ds => exact hr.elim
  | cons c cs ih =>
    intro ds ws r hr hl
    cases ds with
    | nil => exact hr.elim
    | cons d ds =>
      cases ws with
      | nil => simp at hl
      | cons w ws =>
        simp only [takeAll]
        by_cases hb : wordB w = true
        rotate_left
        · have hb : wordB w = false := by simpa using hb
          have : takeW k c r w = none := by
            cases ht : takeW k c r w with
            | none => rfl
            | some q => rw [take_word ht] at hb; cases hb
          rw [this, if_pos (by simp [hb])]
        · have hall : (w :: ws).all wordB = ws.all wordB := by simp [hb]
          rw [take_step hk hr.1 r hb, hall]
          simp only [foldS]
          cases stepS d r w with
          | none => simp
          | some q => exact ih ds ws q hr.2 (by simpa using hl)

theorem take_zero (t : Int) (x y : List UInt8) : takeAll 0 ⟨0, t, [], [], [], 0⟩ [109, 100] [x, y] = if [x, y].all wordB = false then none else endS 0 [[], [], x, y] (foldS ⟨0, t, [], [], [], 0⟩ [119, 111] [x, y]) := by
  cases hx : wordB x <;> cases hy : wordB y <;> simp [takeAll, takeW, foldS, stepS, endS, rulW, hx, hy]
  by_cases hd : y = [46]
  · simp [hd]
  · simp [hd]
    cases polP (cutAt 59 y) <;> rfl

theorem token_forms : (formsL.drop 11).all (fun f => !f.tok) = true ∧ (formsL.take 11).all (fun f => f.tok) = true ∧ (formsL.take 11).map (fun f => (f.word, f.rest.length)) = verbsL.map (fun v => (v.1, v.2.length)) ∧
    ∀ i : _root_.Fin 11, ∃ f v, formsL[i.1]? = some f ∧ verbsL[i.1]? = some v ∧ f.kind = i.1 ∧ f.word = v.1 ∧ wordB v.1 = true ∧ f.rest.length = v.2.length ∧ relL f.rest v.2 ∧ (i.1 = 0 → f.rest = [109, 100] ∧ v.2 = [119, 111]) := by
  refine ⟨rfl, rfl, rfl, fun i => ⟨formsL[i.1]'(by simp [formsL]; omega), verbsL[i.1]'(by simp [verbsL]), List.getElem?_eq_getElem _, List.getElem?_eq_getElem _, ?_⟩⟩
  match i with
  | ⟨0, _⟩ | ⟨1, _⟩ | ⟨2, _⟩ | ⟨3, _⟩ | ⟨4, _⟩ | ⟨5, _⟩ | ⟨6, _⟩ | ⟨7, _⟩ | ⟨8, _⟩ | ⟨9, _⟩ | ⟨10, _⟩ => exact ⟨rfl, rfl, rfl, rfl, by simp [relL, relC, formsL, verbsL], by simp [formsL, verbsL]⟩

theorem find_take {α : Type} {p : α → Bool} {l : List α} {n : Nat} (h : ∀ x, x ∈ l.drop n → p x = false) : l.find? p = (l.take n).find? p := by
  conv => lhs; rw [← List.take_append_drop n l, List.find?_append]
  have : (l.drop n).find? p = none := by rw [List.find?_eq_none]; intro x hx; rw [h x hx]; simp
  rw [this]; simp

theorem findIdx_map {α β : Type} (f : α → β) (q : β → Bool) (l : List α) : (l.map f).findIdx? q = l.findIdx? (fun x => q (f x)) := by
  induction l with
  | nil => rfl
  | cons x l ih => simp only [List.map_cons, List.findIdx?_cons, ih]

theorem find_of_idx {α : Type} {p : α → Bool} {l : List α} : l.find? p = (l.findIdx? p).bind fun i => l[i]? := by
  induction l with
  | nil => rfl
  | cons x l ih =>
    simp only [List.find?_cons, List.findIdx?_cons]
    cases p x with
    | true => simp
    | false => simp only [ih]; cases l.findIdx? p <;> simp

theorem desk_token (a b : List UInt8) (args : List (List UInt8)) (t : Int) (ha : wordB a = true) : deskU (b :: args) (some t) = if (a :: b :: args).all wordB = false then none else sp3 (a :: b :: args) t := by
  obtain ⟨h1, h2, h3, h4⟩ := token_forms
  unfold deskU sp3
  simp only [Option.isSome_some]
  have e1 : formsL.find? (matchF (b :: args) true) = (formsL.take 11).find? (matchF (b :: args) true) := find_take fun f hf => by
    have := List.all_eq_true.1 h1 f hf
    unfold matchF
    cases hft : f.tok with
    | true => rw [hft] at this; cases this
    | false => simp
  have e2 : (formsL.take 11).findIdx? (matchF (b :: args) true) = verbsL.findIdx? (matchV (a :: b :: args)) := by
    have k1 : (formsL.take 11).findIdx? (matchF (b :: args) true) = (formsL.take 11).findIdx? (fun f => (fun q : List UInt8 × Nat => b == q.1 && decide (args.length = q.2)) (f.word, f.rest.length)) := by
      have : ∀ l : List Form, l.all (fun f => f.tok) = true → l.findIdx? (matchF (b :: args) true) = l.findIdx? (fun f => b == f.word && decide (args.length = f.rest.length)) := by
        intro l
        induction l with
        | nil => intro _; rfl
        | cons f l ih =>
          intro hl
          simp only [List.all_cons, Bool.and_eq_true] at hl
          simp only [List.findIdx?_cons, ih hl.2]
          have : matchF (b :: args) true f = (b == f.word && decide (args.length = f.rest.length)) := by
            unfold matchF
            rw [hl.1]
            simp only [List.length_cons, List.head?_cons, Nat.add_right_cancel_iff, beq_self_eq_true, Bool.and_true]
            rw [Bool.and_comm]
            congr 1
          rw [this]
      exact this _ h2
    refine k1.trans ((findIdx_map (fun f : Form => (f.word, f.rest.length)) (fun q : List UInt8 × Nat => b == q.1 && decide (args.length = q.2)) _).symm.trans ?_)
    rw [h3, findIdx_map]
    congr 1
    funext v
    unfold matchV
    simp only [List.getD_cons_succ, List.getD_cons_zero, List.length_cons]
    congr 1
    exact decide_eq_decide.2 (by omega)
  rw [e1, find_of_idx, e2]
  cases hi : verbsL.findIdx? (matchV (a :: b :: args)) with
  | none => simp
  | some k =>
    obtain ⟨hk, hm, _⟩ := List.findIdx?_eq_some_iff_getElem.1 hi
    have hk11 : k < 11 := hk
    obtain ⟨f, v, hf, hv, ek, ew, hvb, el, hrel, h0⟩ := h4 ⟨k, hk11⟩
    simp only at hf hv ek h0
    have hft : (formsL.take 11)[k]? = some f := by rw [List.getElem?_take, if_pos hk11]; exact hf
    have hm : matchV (a :: b :: args) v = true := by
      have hve := hv
      rw [List.getElem?_eq_getElem hk] at hve
      rw [← Option.some.inj hve]; exact hm
    unfold matchV at hm
    simp only [List.getD_cons_succ, List.getD_cons_zero, List.length_cons, Bool.and_eq_true, beq_iff_eq, decide_eq_true_eq] at hm
    obtain ⟨rfl, hlen⟩ := hm
    have hlen : args.length = f.rest.length := by omega
    simp only [Option.bind_some, hft, hv, Option.getD_some, List.drop_succ_cons, List.drop_zero, List.all_cons, ha, hvb, Bool.true_and]
    by_cases hk0 : k = 0
    · subst hk0
      obtain ⟨r1, r2⟩ := h0 rfl
      rw [ek, r1, r2]
      rw [r1] at hlen
      match args, hlen with
      | [x, y], _ =>
        have := take_zero t x y
        simp only [endS, List.getD_cons_succ, List.getD_cons_zero] at this ⊢
        exact this
    · rw [ek, take_fold (by omega) f.rest v.2 args _ hrel hlen]
      congr 1
      unfold endS
      cases foldS ⟨(k : Int), t, [], [], [], 0⟩ v.2 args with
      | none => rfl
      | some r => simp [hk0]

theorem short_num : ∀ v, v ∈ shortV → numW v = none := by
  intro v hv
  simp only [shortV, List.mem_cons, List.not_mem_nil, or_false] at hv
  rcases hv with rfl | rfl | rfl | rfl | rfl <;> rfl

theorem sync_num : numW [115, 121, 110, 99] = none := rfl

theorem shortI_some {ws : List (List UInt8)} {k : Nat} (h : shortI ws = some k) : ∃ a b, ws = [a, b] ∧ shortV[k]? = some a := by
  unfold shortI at h
  split at h
  · rename_i hl
    match ws, hl with
    | [a, b], _ =>
      obtain ⟨h1, h2, _⟩ := List.findIdx?_eq_some_iff_getElem.1 h
      simp only [List.getD_cons_zero, beq_iff_eq] at h2
      exact ⟨a, b, rfl, by rw [List.getElem?_eq_getElem h1, ← h2]⟩
  · cases h

/-- No number ahead: the lines without a token. -/
theorem desk_plain (a : List UInt8) (args : List (List UInt8)) (hn : numW a = none) : deskU (a :: args) none = if (a :: args).all wordB = false then none else sp1 (a :: args) := by
  have e0 : deskU (a :: args) none = match (formsL.drop 11).find? (matchF (a :: args) false) with | none => none | some f => takeAll f.kind ⟨f.kind, 0, [], [], [], 0⟩ f.rest args := by
    unfold deskU
    simp only [Option.isSome_none, Option.getD_none, List.drop_succ_cons, List.drop_zero]
    congr 1
    conv => lhs; rw [← List.take_append_drop 11 formsL, List.find?_append]
    have : (formsL.take 11).find? (matchF (a :: args) false) = none := by
      rw [List.find?_eq_none]
      intro f hf
      have := List.all_eq_true.1 token_forms.2.1 f hf
      simp [matchF, this]
    rw [this]; simp
  have e2 : sp2 (a :: args) = none := by unfold sp2; split <;> simp [hn]
  have e1 : formsL.drop 11 = [⟨[111, 112, 101, 110], 11, false, [110]⟩, ⟨[116, 105, 109, 101], 12, false, [110]⟩, ⟨[102, 97, 114], 13, false, [110]⟩, ⟨[115, 121, 110, 99], 14, false, []⟩, ⟨[99, 114, 97, 115, 104], 15, false, [110]⟩] := rfl
  rw [e0, e1]
  match args with
  | [] =>
    have hs : shortI [a] = none := rfl
    unfold sp1
    by_cases ha : a = [115, 121, 110, 99]
    · subst ha; rfl
    · simp [matchF, hs, e2, ha]
  | [b] =>
    have hsy : ¬ [a, b] = [[115, 121, 110, 99]] := by simp
    unfold sp1
    rw [if_neg hsy]
    have hsi : shortI [a, b] = shortV.findIdx? (fun v => a == v) := rfl
    rw [hsi]
    have hb : ∀ k : Int, takeAll k ⟨k, 0, [], [], [], 0⟩ [110] [b] = match numW b with | some n => some ⟨k, 0, [], [], [], n⟩ | none => none := by
      intro k
      simp only [takeAll, takeW, if_true]
      cases numW b <;> rfl
    have hbw : ∀ n, numW b = some n → wordB b = true := fun n h => num_word h
    have fin : ∀ k : Int, wordB a = true → (match numW b with | some n => some (GReq.mk k 0 [] [] [] n) | none => none) = if [a, b].all wordB = false then none else (match numW b with | some n => some (GReq.mk k 0 [] [] [] n) | none => none) := by
      intro k hwa
      cases hnb : numW b with
      | none => simp
      | some n => rw [if_neg (by simp [hwa, hbw n hnb])]
    by_cases h1 : a = [111, 112, 101, 110]
    · subst h1
      refine Eq.trans (?_ : _ = takeAll 11 ⟨11, 0, [], [], [], 0⟩ [110] [b]) ((hb 11).trans (fin 11 rfl))
      rfl
    by_cases h2 : a = [116, 105, 109, 101]
    · subst h2
      refine Eq.trans (?_ : _ = takeAll 12 ⟨12, 0, [], [], [], 0⟩ [110] [b]) ((hb 12).trans (fin 12 rfl))
      rfl
    by_cases h3 : a = [102, 97, 114]
    · subst h3
      refine Eq.trans (?_ : _ = takeAll 13 ⟨13, 0, [], [], [], 0⟩ [110] [b]) ((hb 13).trans (fin 13 rfl))
      rfl
    by_cases h4 : a = []
    · subst h4; simp [matchF, wordB, inB]
    by_cases h5 : a = [99, 114, 97, 115, 104]
    · subst h5
      refine Eq.trans (?_ : _ = takeAll 15 ⟨15, 0, [], [], [], 0⟩ [110] [b]) ((hb 15).trans (fin 15 rfl))
      rfl
    have hfi : shortV.findIdx? (fun v => a == v) = none := findIdx_miss fun v hv => by
      simp only [shortV, List.mem_cons, List.not_mem_nil, or_false] at hv
      rcases hv with rfl | rfl | rfl | rfl | rfl <;> simpa using (by assumption)
    rw [hfi]
    simp [matchF, h1, h2, h3, h5, e2]
  | b :: c :: r =>
    have hs : shortI (a :: b :: c :: r) = none := by simp [shortI]
    unfold sp1
    simp [matchF, hs, e2]

theorem desk_spec (line : List UInt8) : specW line = deskW line := by
  unfold specW deskW
  split
  · rfl
  · obtain ⟨a, args, e⟩ := cutAt_ne 32 line
    rw [e]
    simp only [List.headD_cons]
    cases hn : numW a with
    | none =>
      simp only [Option.isSome_none, usOf, Bool.false_eq_true, if_false]
      exact (desk_plain a args hn).symm
    | some t =>
      simp only [Option.isSome_some, usOf, if_true, List.drop_succ_cons, List.drop_zero]
      have h1 : ¬ (a :: args) = [[115, 121, 110, 99]] := by
        intro e
        cases e
        rw [sync_num] at hn; cases hn
      have h2 : shortI (a :: args) = none := by
        cases hs : shortI (a :: args) with
        | none => rfl
        | some k =>
          obtain ⟨x, y, e1, e2⟩ := shortI_some hs
          cases e1
          rw [short_num _ (List.mem_of_getElem? e2)] at hn; cases hn
      have h3 : sp1 (a :: args) = sp2 (a :: args) := by unfold sp1; rw [if_neg h1, h2]
      cases args with
      | nil =>
        have : deskU [] (some t) = none := by
          unfold deskU
          have : formsL.find? (matchF [] true) = none := by rw [List.find?_eq_none]; intro f _; simp [matchF]
          simp only [Option.isSome_some, this]
        rw [this, h3]
        simp [sp2]
      | cons b args =>
        rw [desk_token a b args t (num_word hn), h3]
        have : sp2 (a :: b :: args) = sp3 (a :: b :: args) t := by unfold sp2; rw [if_neg (by simp)]; simp only [List.getD_cons_zero, hn]
        rw [this]

end Go.Proofs.YtpboimnecoakiaaDoor.Ab


namespace Go.Proofs
end Go.Proofs
set_option linter.unusedSimpArgs false
set_option linter.unusedVariables false
set_option maxRecDepth 100000
set_option maxHeartbeats 2000000
namespace Go.Proofs.YtpboimnecoakiaaDoor.Ab
open Go.Proofs
variable {GG : GV}

theorem eqReq_g (x y : GReq) (hx : x.cost ≤ 1099511627776) (hy : y.cost ≤ 1099511627776) : Valid PP GG F_L_eqReq [.agg x.c, .agg y.c] (.d (.bool (decide (x = y)))) [none, none] := by
  refine v_L_eqReq [.d (.bool (decide (x = y)))] rfl rfl ?_
  have hcx : x.cost = x.fName.length + x.fPath.length + x.fData.length := rfl
  have hcy : y.cost = y.fName.length + y.fPath.length + y.fData.length := rfl
  refine W_seq (?_)
  apply W_regS
  · intro K hK
    simp
    repeat' (first | with_reducible exact hK | (with_reducible refine goL_split (fun _ => ?_) (fun _ => ?_) <;> simp) | with_reducible refine And.intro ?_ ?_ | with_reducible exact okay_rfl rfl | with_reducible assumption | omega)
  refine W_seq (W_seq (?_))
  apply W_regS
  · intro K hK
    simp
    repeat' (first | with_reducible exact hK | (with_reducible refine goL_split (fun _ => ?_) (fun _ => ?_) <;> simp) | with_reducible refine And.intro ?_ ?_ | with_reducible exact okay_rfl rfl | with_reducible assumption | omega)
  refine W_cond rfl (fun h => W_seq ?_) (fun h0 => W_skip ?_)
  · apply W_regS
    · intro K hK
      simp
      repeat' (first | with_reducible exact hK | (with_reducible refine goL_split (fun _ => ?_) (fun _ => ?_) <;> simp) | with_reducible refine And.intro ?_ ?_ | with_reducible exact okay_rfl rfl | with_reducible assumption | omega)
    have : decide (x = y) = false := by rw [decide_eq_false_iff_not]; intro e; rw [e] at h; simp at h
    refine W_ret ?_
    simp [Fin, this]
    all_goals omega
  refine W_seq (W_seq (?_))
  apply W_regS
  · intro K hK
    simp
    repeat' (first | with_reducible exact hK | (with_reducible refine goL_split (fun _ => ?_) (fun _ => ?_) <;> simp) | with_reducible refine And.intro ?_ ?_ | with_reducible exact okay_rfl rfl | with_reducible assumption | omega)
  refine W_cond rfl (fun h => W_seq ?_) (fun h1 => W_skip ?_)
  · apply W_regS
    · intro K hK
      simp
      repeat' (first | with_reducible exact hK | (with_reducible refine goL_split (fun _ => ?_) (fun _ => ?_) <;> simp) | with_reducible refine And.intro ?_ ?_ | with_reducible exact okay_rfl rfl | with_reducible assumption | omega)
    have : decide (x = y) = false := by rw [decide_eq_false_iff_not]; intro e; rw [e] at h; simp at h
    refine W_ret ?_
    simp [Fin, this]
    all_goals omega
  refine W_seq (W_seq (?_))
  apply W_regS
  · intro K hK
    simp
    repeat' (first | with_reducible exact hK | (with_reducible refine goL_split (fun _ => ?_) (fun _ => ?_) <;> simp) | with_reducible refine And.intro ?_ ?_ | with_reducible exact okay_rfl rfl | with_reducible assumption | omega)
  refine W_cond rfl (fun h => W_seq ?_) (fun h2 => W_skip ?_)
  · apply W_regS
    · intro K hK
      simp
      repeat' (first | with_reducible exact hK | (with_reducible refine goL_split (fun _ => ?_) (fun _ => ?_) <;> simp) | with_reducible refine And.intro ?_ ?_ | with_reducible exact okay_rfl rfl | with_reducible assumption | omega)
    have : decide (x = y) = false := by rw [decide_eq_false_iff_not]; intro e; rw [e] at h; simp at h
    refine W_ret ?_
    simp [Fin, this]
    all_goals omega
  refine W_seq (W_seq (?_))
  apply W_regS
  · intro K hK
    simp
    repeat' (first | with_reducible exact hK | (with_reducible refine goL_split (fun _ => ?_) (fun _ => ?_) <;> simp) | with_reducible refine And.intro ?_ ?_ | with_reducible exact okay_rfl rfl | with_reducible assumption | omega)
  refine W_cond rfl (fun h => W_seq ?_) (fun h3 => W_skip ?_)
  · apply W_regS
    · intro K hK
      simp
      repeat' (first | with_reducible exact hK | (with_reducible refine goL_split (fun _ => ?_) (fun _ => ?_) <;> simp) | with_reducible refine And.intro ?_ ?_ | with_reducible exact okay_rfl rfl | with_reducible assumption | omega)
    have : decide (x = y) = false := by rw [decide_eq_false_iff_not]; intro e; rw [e] at h; simp at h
    refine W_ret ?_
    simp [Fin, this]
    all_goals omega
  refine W_seq (W_seq (?_))
  apply W_regS
  · intro K hK
    simp
    repeat' (first | with_reducible exact hK | (with_reducible refine goL_split (fun _ => ?_) (fun _ => ?_) <;> simp) | with_reducible refine And.intro ?_ ?_ | with_reducible exact okay_rfl rfl | with_reducible assumption | omega)
  refine W_cond rfl (fun h => W_seq ?_) (fun h4 => W_skip ?_)
  · apply W_regS
    · intro K hK
      simp
      repeat' (first | with_reducible exact hK | (with_reducible refine goL_split (fun _ => ?_) (fun _ => ?_) <;> simp) | with_reducible refine And.intro ?_ ?_ | with_reducible exact okay_rfl rfl | with_reducible assumption | omega)
    have : decide (x = y) = false := by rw [decide_eq_false_iff_not]; intro e; rw [e] at h; simp at h
    refine W_ret ?_
    simp [Fin, this]
    all_goals omega
  refine W_seq (W_seq (?_))
  apply W_regS
  · intro K hK
    simp
    repeat' (first | with_reducible exact hK | (with_reducible refine goL_split (fun _ => ?_) (fun _ => ?_) <;> simp) | with_reducible refine And.intro ?_ ?_ | with_reducible exact okay_rfl rfl | with_reducible assumption | omega)
  refine W_cond rfl (fun h => W_seq ?_) (fun h5 => W_skip ?_)
  · apply W_regS
    · intro K hK
      simp
      repeat' (first | with_reducible exact hK | (with_reducible refine goL_split (fun _ => ?_) (fun _ => ?_) <;> simp) | with_reducible refine And.intro ?_ ?_ | with_reducible exact okay_rfl rfl | with_reducible assumption | omega)
    have : decide (x = y) = false := by rw [decide_eq_false_iff_not]; intro e; rw [e] at h; simp at h
    refine W_ret ?_
    simp [Fin, this]
    all_goals omega
  refine W_seq (?_)
  apply W_regS
  · intro K hK
    simp
    repeat' (first | with_reducible exact hK | (with_reducible refine goL_split (fun _ => ?_) (fun _ => ?_) <;> simp) | with_reducible refine And.intro ?_ ?_ | with_reducible exact okay_rfl rfl | with_reducible assumption | omega)
  have : decide (x = y) = true := by
    rw [decide_eq_true_iff]
    cases x; cases y
    simp at h0 h1 h2 h3 h4 h5
    simp_all
  refine W_ret ?_
  simp [Fin, this]
  all_goals omega

def reqB (r : GReq) : Prop := r.fName.length ≤ 70000 ∧ r.fPath.length ≤ 70000 ∧ r.fData.length ≤ 70000

theorem takeW_reqB {k : Int} {c : UInt8} {r r' : GReq} {w : List UInt8} (h : takeW k c r w = some r') (hw : w.length ≤ 250) (hr : reqB r) : reqB r' := by
  obtain ⟨h1, h2, h3⟩ := hr
  unfold takeW at h
  split at h
  · cases hn : numW w with
    | none => rw [hn] at h; cases h
    | some n => rw [hn] at h; cases h; exact ⟨h1, h2, h3⟩
  split at h
  · cases h
  split at h
  · cases h; exact ⟨h1, by show w.length ≤ _; omega, h3⟩
  split at h
  · cases h; exact ⟨by show w.length ≤ _; omega, h2, h3⟩
  split at h
  · cases h; exact ⟨h1, h2, h3⟩
  split at h
  · cases h; exact ⟨h1, by show w.length ≤ _; omega, h3⟩
  split at h
  · cases hp : polP (cutAt 59 w) with
    | none => rw [hp] at h; cases h
    | some d =>
      rw [hp] at h; cases h
      have := polP_len (m := w.length) hp fun p hp => cutAt_mem w hp
      have h4 := cutAt_len 59 w
      have h5 : (cutAt 59 w).length * (w.length + 2) ≤ 251 * 252 := Nat.mul_le_mul (by omega) (by omega)
      exact ⟨h1, h2, by show d.length ≤ _; omega⟩
  · cases h; exact ⟨h1, h2, by show w.length ≤ _; omega⟩

theorem takeAll_reqB {k : Int} : ∀ (cs : List UInt8) (ws : List (List UInt8)) (r r' : GReq), takeAll k r cs ws = some r' → (∀ w, w ∈ ws → w.length ≤ 250) → reqB r → reqB r' := by
  intro cs
  induction cs with
  | nil => intro ws r r' h _ hr; cases ws <;> (simp only [takeAll] at h; cases h; exact hr)
  | cons c cs ih =>
    intro ws r r' h hw hr
    cases ws with
    | nil => simp only [takeAll] at h; cases h; exact hr
    | cons w ws =>
      simp only [takeAll] at h
      cases ht : takeW k c r w with
      | none => rw [ht] at h; cases h
      | some q => rw [ht] at h; exact ih ws q r' h (fun v hv => hw v (by simp [hv])) (takeW_reqB ht (hw w (by simp)) hr)

theorem deskW_reqB (line : List UInt8) : reqB ((deskW line).getD zReq) := by
  have hz : reqB zReq := ⟨by simp [zReq], by simp [zReq], by simp [zReq]⟩
  cases hd : deskW line with
  | none => exact hz
  | some r =>
    unfold deskW at hd
    split at hd
    · cases hd
    · rename_i hl
      unfold deskU at hd
      dsimp only at hd
      split at hd
      · cases hd
      · refine takeAll_reqB _ _ _ _ hd (fun w hw => ?_) ⟨by simp, by simp, by simp⟩
        have hw := List.mem_of_mem_drop hw
        have : w ∈ cutAt 32 line := by
          unfold usOf at hw
          split at hw
          · exact List.mem_of_mem_drop hw
          · exact hw
        have := cutAt_mem line this
        omega

theorem i_ParseReq_ok [P10 GG] [ESyn GG] [ERng GG] [MaxL GG] (line : List UInt8) (hline : line.length ≤ 1048576) : Valid PP GG F_I_ParseReq [.d (.str line)] (.tup [.agg ((deskW line).getD zReq).o, .d (.bool (deskW line).isSome)]) [none] := by
  refine v_I_ParseReq [.agg ((deskW line).getD zReq).o, .d (.bool (deskW line).isSome)] rfl rfl ?_
  have cp := parseReq_ok (GG := GG) line hline
  generalize (deskW line).getD zReq = r at cp ⊢
  generalize (deskW line).isSome = b at cp ⊢
  repeat' (first | refine W_seq ?_ | refine W_skip ?_ | refine W_block ?_ | (refine W_exit ?_; first | refine pick_pos rfl ?_ | (refine pick_neg rfl ?_; first | refine pick_pos rfl ?_ | (refine pick_neg rfl ?_; refine pick_pos rfl ?_))) | (refine W_regP fun K hK => ?_; simp) | (refine W_regPD fun K hK => ?_; simp) | (with_reducible refine hK _ ?_; clear hK K) | (with_reducible refine callQ (cp) ?_; simp) | (with_reducible refine goL_split (fun h => ?_) (fun h => ?_) <;> first | (exfalso; simp at h; done) | (exfalso; simp at h; omega) | (exfalso; simp at h; contradiction) | ((try simp at h); simp)) | with_reducible refine And.intro ?_ ?_ | with_reducible exact okay_rfl rfl | with_reducible assumption | (refine W_cond rfl (fun h => ?_) (fun h => ?_) <;> first | (exfalso; simp at h; done) | (exfalso; simp at h; omega) | (exfalso; simp at h; contradiction) | (exfalso; simp_all; done) | (try simp at h)) | (refine W_ret ?_; simp [Fin]) | omega)

theorem law_ParseReq [P10 GG] [ESyn GG] [ERng GG] [MaxL GG] (line : List UInt8) : Valid PP GG F_L_FnExactParseReq [.d (.str line)] (.d (.bool true)) [none] := by
  refine v_L_FnExactParseReq [.d (.bool true)] rfl rfl ?_
  by_cases hl : line.length ≤ 1048576
  · have cs := s_ParseReq_ok (GG := GG) line hl
    have ci := i_ParseReq_ok (GG := GG) line hl
    rw [desk_spec] at cs
    obtain ⟨h1, h2, h3⟩ := deskW_reqB line
    generalize (deskW line).getD zReq = r at *
    generalize (deskW line).isSome = b at *
    have hco : r.cost = r.fName.length + r.fPath.length + r.fData.length := rfl
    have ce := eqReq_g (GG := GG) r r (by omega) (by omega)
    rw [decide_eq_true rfl] at ce
    repeat' (first | refine W_seq ?_ | refine W_skip ?_ | refine W_block ?_ | (refine W_exit ?_; first | refine pick_pos rfl ?_ | (refine pick_neg rfl ?_; first | refine pick_pos rfl ?_ | (refine pick_neg rfl ?_; refine pick_pos rfl ?_))) | (refine W_regP fun K hK => ?_; simp) | (refine W_regPD fun K hK => ?_; simp) | (with_reducible refine hK _ ?_; clear hK K) | (with_reducible refine callQ (cs) ?_; simp) | (with_reducible refine callQ (ci) ?_; simp) | (with_reducible refine callQ (ce) ?_; simp) | (with_reducible refine goL_split (fun h => ?_) (fun h => ?_) <;> first | (exfalso; simp at h; done) | (exfalso; simp at h; omega) | (exfalso; simp at h; contradiction) | ((try simp at h); simp)) | with_reducible refine And.intro ?_ ?_ | with_reducible exact okay_rfl rfl | with_reducible assumption | (refine W_cond rfl (fun h => ?_) (fun h => ?_) <;> first | (exfalso; simp at h; done) | (exfalso; simp at h; omega) | (exfalso; simp at h; contradiction) | (exfalso; simp_all; done) | (try simp at h)) | (refine W_ret ?_; simp [Fin]) | omega)
  · have hl2 : decide (1048576 < (line.length : Int)) = true := decide_eq_true (by omega)
    repeat' (first | refine W_seq ?_ | refine W_skip ?_ | refine W_block ?_ | (refine W_exit ?_; first | refine pick_pos rfl ?_ | (refine pick_neg rfl ?_; first | refine pick_pos rfl ?_ | (refine pick_neg rfl ?_; refine pick_pos rfl ?_))) | (refine W_regP fun K hK => ?_; simp [hl2]) | (refine W_regPD fun K hK => ?_; simp [hl2]) | (with_reducible refine hK _ ?_; clear hK K) | (with_reducible refine goL_split (fun h => ?_) (fun h => ?_) <;> first | (exfalso; simp at h; done) | (exfalso; simp at h; omega) | (exfalso; simp at h; contradiction) | ((try simp at h); simp [hl2])) | with_reducible refine And.intro ?_ ?_ | with_reducible exact okay_rfl rfl | with_reducible assumption | (refine W_cond rfl (fun h => ?_) (fun h => ?_) <;> first | (exfalso; simp at h; done) | (exfalso; simp at h; omega) | (exfalso; simp at h; contradiction) | (exfalso; simp_all; done) | (try simp at h)) | (refine W_ret ?_; simp [Fin, hl2]) | omega)

end Go.Proofs.YtpboimnecoakiaaDoor.Ab

