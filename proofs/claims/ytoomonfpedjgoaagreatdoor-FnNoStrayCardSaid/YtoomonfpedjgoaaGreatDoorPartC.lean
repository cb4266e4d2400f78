/-
  A part of a proof about the given program; what is proved is said where each theorem stands.
-/
import Derived.Test.YtoomonfpedjgoaaGreatDoorFrameA
import Derived.Test.YtoomonfpedjgoaaGreatDoorFrameB
import Derived.Test.YtoomonfpedjgoaaGreatDoorFrameC
import Derived.Test.YtoomonfpedjgoaaGreatDoorFrameD
import Derived.Test.YtoomonfpedjgoaaGreatDoorFrameE
import Derived.Test.YtoomonfpedjgoaaGreatDoorHead
import Derived.Test.YtoomonfpedjgoaaGreatDoorShelf
import Derived.Test.YtoomonfpedjgoaaGreatDoorPartA
import Derived.Test.YtoomonfpedjgoaaGreatDoorPartB
namespace Go.Proofs
end Go.Proofs
set_option linter.unusedSimpArgs false
set_option linter.unusedVariables false
set_option maxRecDepth 100000
set_option maxHeartbeats 2000000
namespace Go.Proofs.YtoomonfpedjgoaaGreatDoor.Ab
open Go.Proofs
variable {GG : GV}
theorem del_user {us : List GUser} {s : List UInt8} (hs : us.Pairwise (fun y x => Go.Op.bytesLess y.fName x.fName = true)) (h : us.any (fun u => u.fName == s) = true) :
    lessN GUser.fName s us < us.length ∧ us.take (lessN GUser.fName s us) ++ us.drop (lessN GUser.fName s us + 1) = us.filter fun u => !(u.fName == s) := by
  rw [List.any_eq_true] at h
  obtain ⟨x, hx, hxs⟩ := h
  have hxs : x.fName = s := by simpa using hxs
  obtain ⟨i, hi⟩ := List.getElem?_of_mem hx
  have hlt := (List.getElem?_eq_some_iff.1 hi).1
  have h1 : ∀ (m : Nat) y, m < i → us[m]? = some y → Go.Op.bytesLess y.fName s = true := fun m y hm hy => hxs ▸ pw_get hs hm hy hi
  have h2 : ∀ (m : Nat) y, i < m → us[m]? = some y → Go.Op.bytesLess s y.fName = true := fun m y hm hy => hxs ▸ pw_get hs hm hi hy
  have e : lessN GUser.fName s us = i := lessN_eq (by omega) h1 fun m y hm hy => by
    by_cases hmi : m = i
    · subst hmi; rw [hi] at hy; cases hy; rw [hxs, bl_irrefl]
    · exact bl_asymm (h2 m y (by omega) hy)
  rw [e]
  refine ⟨hlt, ?_⟩
  conv => rhs; rw [← List.take_append_drop i us, drop_get hi]
  rw [List.filter_append, List.filter_cons, hxs, beq_self_eq_true]
  simp only [Bool.not_true, Bool.false_eq_true, if_false]
  rw [filter_keep fun y hy => ?_, filter_keep fun y hy => ?_]
  · obtain ⟨m, hm⟩ := List.getElem?_of_mem hy
    rw [List.getElem?_drop] at hm
    have := h2 (i + 1 + m) y (by omega) hm
    cases hb : (y.fName == s) with
    | false => rfl
    | true => rw [beq_iff_eq] at hb; rw [hb, bl_irrefl] at this; cases this
  · obtain ⟨m, hm⟩ := List.getElem?_of_mem hy
    have hml := (List.getElem?_eq_some_iff.1 hm).1
    rw [List.length_take] at hml
    rw [List.getElem?_take_of_lt (by omega)] at hm
    have := h1 m y (by omega) hm
    cases hb : (y.fName == s) with
    | false => rfl
    | true => rw [beq_iff_eq] at hb; rw [hb, bl_irrefl] at this; cases this
theorem okP_of {α : Type} {q : List α → α → Bool} {l : List α} (h : ∀ (i : Nat) x, l[i]? = some x → q (l.take i) x = true) : okP q [] l = true := by
  have : ∀ n, n ≤ l.length → okP q [] (l.take n) = true := by
    intro n
    induction n with
    | zero => intro _; rfl
    | succ n ih =>
      intro hn
      have hx := List.getElem?_eq_getElem (show n < l.length by omega)
      rw [okP_step hx, ih (by omega), h n _ hx]; rfl
  have := this l.length (Nat.le_refl _)
  rwa [List.take_length] at this
theorem far_iff (f : GFar) : farB f = true ↔ f.fUsers.length ≤ 120 ∧ inB f.fFail 0 1000 = true ∧ inB f.fMade 0 1000000000 = true ∧ (∀ u, u ∈ f.fUsers → nameOk u.fName = true) ∧ f.fUsers.Pairwise (fun y x => Go.Op.bytesLess y.fName x.fName = true) := by
  constructor
  · intro h
    have hp := far_inc h
    unfold farB at h
    simp only [Bool.and_eq_true, decide_eq_true_eq] at h
    refine ⟨h.1.1.1, h.1.1.2, h.1.2, fun u hu => ?_, hp⟩
    obtain ⟨i, hi⟩ := List.getElem?_of_mem hu
    have := okP_get h.2 hi
    unfold farQ at this
    rw [Bool.and_eq_true] at this
    exact this.1
  · rintro ⟨h1, h2, h3, h4, h5⟩
    unfold farB
    rw [h2, h3, decide_eq_true h1]
    simp only [Bool.and_self, Bool.true_and]
    refine okP_of fun i x hx => ?_
    unfold farQ
    rw [h4 x (List.mem_of_getElem? hx), Bool.true_and]
    cases i with
    | zero => exact adj_zero _ _ _
    | succ j =>
      have hlt := (List.getElem?_eq_some_iff.1 hx).1
      have hy := List.getElem?_eq_getElem (show j < f.fUsers.length by omega)
      rw [adj_succ _ hy]
      exact pw_get h5 (Nat.lt_succ_self j) hy hx
theorem far_drop {f : GFar} (h : farB f = true) (s : List UInt8) : farB (dropF f s) = true := by
  rw [far_iff] at h ⊢
  obtain ⟨h1, h2, h3, h4, h5⟩ := h
  unfold dropF
  split
  · rename_i hp
    refine ⟨h1, ?_, h3, h4, h5⟩
    have := inB_true h2
    unfold inB; simp only [Bool.and_eq_true, decide_eq_true_eq]; omega
  · exact ⟨Nat.le_trans (List.length_filter_le _ _) h1, h2, h3, fun u hu => h4 u ((List.mem_filter.1 hu).1), h5.filter _⟩
theorem fit_drop {f : GFar} (h : fitFar f) (s : List UInt8) : fitFar (dropF f s) := by
  unfold dropF
  split
  · exact h
  · exact ⟨Nat.le_trans (List.length_filter_le _ _) h.1, fun u hu => h.2 u ((List.mem_filter.1 hu).1)⟩
theorem dropUser_ok (f : GFar) (s : List UInt8) (hf : fitFar f) (hb : farB f = true) : Valid PP GG 150 [.agg f.c, .d (.str s)] (.tup [.agg (dropF f s).o, .d (.int .i64 (dropC f))]) [none, none] := by
  refine cv Tryz.func150 [.agg (dropF f s).o, .d (.int .i64 (dropC f))] ?_
  have hD : dropF f s = if 0 < f.fFail then { f with fFail := f.fFail - 1 } else { f with fUsers := f.fUsers.filter fun u => !(u.fName == s) } := rfl
  have hC : dropC f = if 0 < f.fFail then 2 else 0 := rfl
  have ccp := cloneFar_ok (GG := GG) f.fUsers f.fFail f.fMade (by have := hf.1; omega)
  have cui := userIndex_ok (GG := GG) f s hf.1 hb
  have hi := far_iff f |>.1 hb
  have hdu := fun h => del_user (us := f.fUsers) (s := s) hi.2.2.2.2 h
  obtain ⟨a, ff, fm⟩ := f
  dsimp only at hD hC ccp cui hi hdu
  have hin := inB_true hi.2.1
  have hi3 := ind_rUser a
  generalize dropF ⟨a, ff, fm⟩ s = DF at *
  generalize dropC ⟨a, ff, fm⟩ = DC at *
  by_cases hff : 0 < ff
  · rw [if_pos hff] at hD hC
    subst hD hC
    have hw : IntKind.i64.wrap (ff - 1) = ff - 1 := wrap_id (by omega) (by omega)
    exact u_24 (Y2 hff hw) (Z1 ccp)
  · rw [if_neg hff] at hD hC
    subst hD hC
    cases hany : a.any (fun u => u.fName == s) with
    | false =>
      rw [hany] at cui
      have e : (a.filter fun u => !(u.fName == s)) = a := filter_keep fun u hu => by
        rw [List.any_eq_false] at hany
        have := hany u hu
        simpa using this
      rw [e]
      exact u_24 hff (Z2 ccp cui)
    | true =>
      rw [hany] at cui
      obtain ⟨hk, hde⟩ := hdu hany
      generalize lessN GUser.fName s a = k at *
      have cdl := DeleteUser_ok (GG := GG) (rUser a) k (k + 1) (by omega) (by rw [rUser_len]; omega)
      rw [rUser_del, hde] at cdl
      have hw : IntKind.i64.wrap ((k : Int) + 1) = ((k + 1 : Nat) : Int) := by rw [wrap_id (by omega) (by omega)]; omega
      rw [show ((k + 1 : Nat) : Int) = (k : Int) + 1 by omega] at cdl hw
      have hi4 := ind_rUser (a.filter fun u => !(u.fName == s))
      generalize (a.filter fun u => !(u.fName == s)) = b at *
      exact u_24 (Y2 hff hw) (Z3 ccp cui cdl)
def dropOut (q : GQueue) (s : List UInt8) (now : Int) : GQueue := ⟨q.fJobs ++ [⟨s, now, 0⟩]⟩
def qHas (q : GQueue) (s : List UInt8) : Bool := q.fJobs.any fun t => t.fName == s
def qDropB (q : GQueue) (s : List UInt8) (now : Int) : Bool := qHas q s || queueB (dropOut q s now)
def qDropQ (q : GQueue) (s : List UInt8) (now : Int) : GQueue := if qHas q s then q else if queueB (dropOut q s now) then dropOut q s now else q
theorem fitQ_app {q : GQueue} {s : List UInt8} (now : Int) (h : queueB q = true) (hf : fitQ q) (hs : s.length ≤ 1048576) : fitQ (dropOut q s now) := by
  unfold queueB at h
  simp only [Bool.and_eq_true, decide_eq_true_eq] at h
  refine ⟨by unfold dropOut; simp; omega, fun t ht => ?_⟩
  rcases List.mem_append.1 ht with ht | ht
  · exact hf.2 t ht
  · simp at ht; subst ht; exact hs
theorem queueDrop_ok [MaxL GG] (q : GQueue) (s : List UInt8) (now : Int) (hf : fitQ q) (hs : s.length ≤ 1048576) (hb : queueB q = true) :
    Valid PP GG 109 [.agg q.c, .d (.str s), .d (.int .i64 now)] (.tup [.agg (qDropQ q s now).o, .d (.bool (qDropB q s now))]) [none, none, none] := by
  refine cv Tryz.func109 [.agg (qDropQ q s now).o, .d (.bool (qDropB q s now))] ?_
  have ccp := cloneQueue_ok (GG := GG) q.fJobs (by have := hf.1; omega)
  have ch := hasJob_ok (GG := GG) q s hf.1
  have cq := isQueue_ok (GG := GG) (dropOut q s now) (fitQ_app now hb hf hs)
  have hB : qDropB q s now = (qHas q s || queueB (dropOut q s now)) := rfl
  have hQ : qDropQ q s now = if qHas q s then q else if queueB (dropOut q s now) then dropOut q s now else q := rfl
  have hH : qHas q s = q.fJobs.any fun t => t.fName == s := rfl
  have hl := hf.1
  rw [← hH] at ch
  clear hH
  obtain ⟨a⟩ := q
  dsimp only at ccp ch hB hQ hl
  have hi1 := ind_rJob a
  have hro : rJob (dropOut ⟨a⟩ s now).fJobs = rJob a ++ [[.str s, .int .i64 now, .int .i64 0]] := by
    unfold dropOut; dsimp only; rw [rJob_app]; rfl
  dsimp only [GQueue.c] at cq
  rw [hro] at cq
  generalize qHas ⟨a⟩ s = H at *
  generalize hqo : queueB (dropOut ⟨a⟩ s now) = Q at *
  have hoq : (dropOut ⟨a⟩ s now).o = [.own 0 3 (rJob a ++ [[.str s, .int .i64 now, .int .i64 0]])] := by rw [← hro]
  generalize dropOut ⟨a⟩ s now = OQ at *
  generalize qDropB ⟨a⟩ s now = DB at *
  generalize qDropQ ⟨a⟩ s now = DQ at *
  cases H
  · simp only [Bool.false_or, Bool.false_eq_true, if_false] at hB hQ
    subst hB
    cases DB
    · simp only [Bool.false_eq_true, if_false] at hQ
      subst hQ
      exact u_43 (Z3 ccp ch cq)
    · simp only [if_true] at hQ
      subst hQ
      rw [hoq]
      exact u_43 (Z3 ccp ch cq)
  · simp only [Bool.true_or, if_true] at hB hQ
    subst hB hQ
    exact u_26 (Z2 ccp ch)
structure RQ where
  jobs : List GJob
  far : GFar
  done : List (List UInt8)
  failed : List (List UInt8)
def rqStep (now : Int) (s : RQ) (j : GJob) : RQ :=
  if now < j.fAt then { s with jobs := s.jobs ++ [j] }
  else if dropC s.far = 0 then { s with far := dropF s.far j.fName, done := s.done ++ [j.fName] }
  else if j.fTries + 1 = 6 then { s with far := dropF s.far j.fName, failed := s.failed ++ [j.fName] }
  else { s with jobs := s.jobs ++ [⟨j.fName, now + 2 ^ (j.fTries + 1).toNat, j.fTries + 1⟩], far := dropF s.far j.fName }
def rq (now : Int) (q : List GJob) (f : GFar) : RQ := q.foldl (rqStep now) ⟨[], f, [], []⟩
theorem rq_succ {now : Int} {q : List GJob} {f : GFar} {i : Nat} {j : GJob} (h : q[i]? = some j) : rq now (q.take (i + 1)) f = rqStep now (rq now (q.take i) f) j := by
  unfold rq; rw [List.take_add_one, h, List.foldl_append]; rfl
theorem rq_len (now : Int) (q : List GJob) (f : GFar) : (rq now q f).jobs.length ≤ q.length ∧ (rq now q f).done.length ≤ q.length ∧ (rq now q f).failed.length ≤ q.length := by
  induction q using snoc_ind with
  | h0 => exact ⟨Nat.le_refl _, Nat.le_refl _, Nat.le_refl _⟩
  | h1 l x ih =>
    have e : rq now (l ++ [x]) f = rqStep now (rq now l f) x := by unfold rq; rw [List.foldl_append]; rfl
    rw [e, List.length_append]
    simp only [List.length_cons, List.length_nil]
    unfold rqStep
    repeat' split
    all_goals (simp only [List.length_append, List.length_cons, List.length_nil]; omega)
theorem rq_far {now : Int} {f : GFar} (hb : farB f = true) (hf : fitFar f) (q : List GJob) : farB (rq now q f).far = true ∧ fitFar (rq now q f).far := by
  induction q using snoc_ind with
  | h0 => exact ⟨hb, hf⟩
  | h1 l x ih =>
    have e : rq now (l ++ [x]) f = rqStep now (rq now l f) x := by unfold rq; rw [List.foldl_append]; rfl
    rw [e]
    unfold rqStep
    repeat' split
    · exact ih
    all_goals exact ⟨far_drop ih.1 _, fit_drop ih.2 _⟩
theorem strsD_one (l : List (List UInt8)) (x : List UInt8) : strsD l ++ [[.str x]] = strsD (l ++ [x]) := by simp [strsD]
theorem rJob_one (l : List GJob) (x : GJob) : rJob l ++ [x.row] = rJob (l ++ [x]) := by simp [rJob]
theorem job_tries {q : GQueue} (h : queueB q = true) {i : Nat} {j : GJob} (hi : q.fJobs[i]? = some j) : 0 ≤ j.fTries ∧ j.fTries ≤ 5 := by
  unfold queueB at h
  rw [Bool.and_eq_true] at h
  have := okP_get h.2 hi
  unfold jobQ jobB at this
  simp only [Bool.and_eq_true] at this
  exact inB_true this.1.2
theorem shl_one {t : Int} (h1 : 1 ≤ t) (h2 : t ≤ 5) : IntKind.i64.wrap (1 * 2 ^ (min t.toNat 64)) = 2 ^ t.toNat ∧ 0 ≤ (2 : Int) ^ t.toNat ∧ (2 : Int) ^ t.toNat ≤ 32 := by
  obtain ⟨n, rfl⟩ : ∃ n : Nat, t = n := ⟨t.toNat, by omega⟩
  have : n = 1 ∨ n = 2 ∨ n = 3 ∨ n = 4 ∨ n = 5 := by omega
  rcases this with rfl | rfl | rfl | rfl | rfl <;> decide
theorem runQueue_ok (q : GQueue) (f : GFar) (now : Int) (hq : fitQ q) (hf : fitFar f) (hqb : queueB q = true) (hfb : farB f = true) (hnow : 0 ≤ now ∧ now ≤ 1000000000) :
    Valid PP GG 111 [.agg q.c, .agg f.c, .d (.int .i64 now)] (.tup [.agg (GQueue.mk (rq now q.fJobs f).jobs).o, .agg (rq now q.fJobs f).far.o, .own 0 1 (strsD (rq now q.fJobs f).done), .own 0 1 (strsD (rq now q.fJobs f).failed)]) [none, none, none] := by
  refine cv Tryz.func111 [.agg (GQueue.mk (rq now q.fJobs f).jobs).o, .agg (rq now q.fJobs f).far.o, .own 0 1 (strsD (rq now q.fJobs f).done), .own 0 1 (strsD (rq now q.fJobs f).failed)] ?_
  have ccp := cloneFar_ok (GG := GG) f.fUsers f.fFail f.fMade (by have := hf.1; omega)
  have hfa := fun l => rq_far (now := now) hfb hf l
  have htr := fun (i : Nat) (j : GJob) h => job_tries (q := q) hqb (i := i) (j := j) h
  have hl := hq.1
  have hi3 := ind_rUser f.fUsers
  obtain ⟨a⟩ := q
  obtain ⟨us, ff, fm⟩ := f
  dsimp only at ccp htr hl hi3
  refine u_1 ?_
  refine u_1 ?_
  refine W_nilP 10 0 rfl rfl rfl ?_
  refine u_1 ?_
  refine W_nilV 11 rfl ?_
  refine W_nilV 12 rfl ?_
  refine u_30 (Z1 ccp) ?_
  refine W_loop (fun n st => ∃ i : Nat, n = a.length - i ∧ i ≤ a.length ∧
    st = ⟨[], [(2, .d (.int .i64 now)), (4, .ptr 0 0), (6, .ptr 1 0), (7, .ptr 2 0), (10, .ptr 3 0), (11, .sl 4), (12, .sl 5), (20, .d (.slc 3 (rJob a))), (21, .d (.int .i64 a.length)), (22, .d (.int .i64 i))],
      [(0, .box [.sl 6, .d (.int .i64 (rq now (a.take i) ⟨us, ff, fm⟩).far.fFail), .d (.int .i64 (rq now (a.take i) ⟨us, ff, fm⟩).far.fMade)]), (1, .box [.nil 0 3]), (2, .box [.nil 0 2, .d (.int .i64 0), .d (.int .i64 0)]), (3, .box [.sl 7]),
       (4, .arr 0 0 1 (strsD (rq now (a.take i) ⟨us, ff, fm⟩).done)), (5, .arr 0 0 1 (strsD (rq now (a.take i) ⟨us, ff, fm⟩).failed)), (6, .arr 0 0 2 (rUser (rq now (a.take i) ⟨us, ff, fm⟩).far.fUsers)), (7, .arr 0 0 3 (rJob (rq now (a.take i) ⟨us, ff, fm⟩).jobs))], 8⟩) _ ⟨0, rfl, by omega, ?_⟩ ?_
  · simp [gc, closeN, liveA, gcV, gcO, renA, renAs, renO, namesAs, namesA, namesO, posn, rq, strsD, rJob]
  rintro n st ⟨i, rfl, hi, rfl⟩
  by_cases hlt : i < a.length
  rotate_left
  · have hie : i = a.length := by omega
    subst hie
    rw [List.take_length]
    exact u_21
  have ha := List.getElem?_eq_getElem hlt
  generalize a[i] = x at ha
  have hsu := rq_succ (now := now) (f := ⟨us, ff, fm⟩) ha
  have hlen := rq_len now (a.take i) ⟨us, ff, fm⟩
  rw [List.length_take] at hlen
  obtain ⟨hfb2, hff2⟩ := hfa (a.take i)
  have ht := htr i x ha
  generalize rq now (a.take i) ⟨us, ff, fm⟩ = R at *
  obtain ⟨rj, rf, rd, rl⟩ := R
  dsimp only at hlen hfb2 hff2
  have cd := dropUser_ok (GG := GG) rf x.fName hff2 hfb2
  unfold rqStep at hsu
  dsimp only at hsu
  obtain ⟨xn, xa, xt⟩ := x
  dsimp only at cd hsu ht
  have hi4 := ind_rUser (dropF rf xn).fUsers
  have hdc : dropC rf = 0 ∨ dropC rf = 2 := by unfold dropC; split <;> simp
  have hi5 := ind_rUser rf.fUsers
  have hl1 : (strsD rd).length ≤ i := by rw [strsD_len]; omega
  have hl2 : (strsD rl).length ≤ i := by rw [strsD_len]; omega
  have hl3 : (rJob rj).length ≤ i := by rw [rJob_len]; omega
  by_cases hat : now < xa
  · rw [if_pos hat] at hsu
    refine u_45 (Y2 ha hat) ?_
    refine ⟨a.length - (i + 1), by omega, i + 1, rfl, hlt, ?_⟩
    rw [hsu]
    refine u_46 ?_
    exact wrap_id (by omega) (by omega)
  · rw [if_neg hat] at hsu
    generalize dropC rf = DC at *
    generalize dropF rf xn = DF at *
    obtain ⟨du, df, dm⟩ := DF
    obtain ⟨ru, rff, rfm⟩ := rf
    dsimp only at hi4 hi5
    rcases hdc with rfl | rfl
    · rw [if_pos rfl] at hsu
      refine u_42 (Y2 ha hat) (Z1 cd) ?_
      refine ⟨a.length - (i + 1), by omega, i + 1, rfl, hlt, ?_⟩
      rw [hsu]
      refine u_47 ?_
      exact wrap_id (by omega) (by omega)
    · rw [if_neg (by omega)] at hsu
      have hw1 : IntKind.i64.wrap (xt + 1) = xt + 1 := wrap_id (by omega) (by omega)
      by_cases h6 : xt + 1 = 6
      · rw [if_pos h6] at hsu
        have hq6 : (xt + 1 == 6) = true := by simpa using h6
        refine u_42 (Y4 ha hat hw1 hq6) (Z1 cd) ?_
        refine ⟨a.length - (i + 1), by omega, i + 1, rfl, hlt, ?_⟩
        rw [hsu]
        refine u_47 ?_
        exact wrap_id (by omega) (by omega)
      · rw [if_neg h6] at hsu
        have hq6 : (xt + 1 == 6) = false := by simpa using h6
        obtain ⟨hs1, hs2, hs3⟩ := shl_one (t := xt + 1) (by omega) (by omega)
        have hw2 : IntKind.i64.wrap (now + 2 ^ (xt + 1).toNat) = now + 2 ^ (xt + 1).toNat := wrap_id (by omega) (by omega)
        have hnn : 0 ≤ xt + 1 := by omega
        repeat' (first | refine W_seq ?_ | refine W_skip ?_ | refine W_block ?_ | refine W_exit ?_ | refine pick_pos rfl ?_ | refine pick_neg rfl ?_ | ((first | refine W_regP fun K hK => ?_ | refine W_regPD fun K hK => ?_ | refine W_ret ?_ | with_reducible refine callQ (cd) ?_); simp [Fin, ha, hat, limit, hw1, hq6, shBin_shl, hnn, hs1, hw2]) | (with_reducible refine hK _ ?_; clear hK K) | (with_reducible refine goL_split (fun h => ?_) (fun h => ?_) <;> first | (exfalso; simp at h; first | done | omega | contradiction) | ((try simp at h); simp [ha, hat, limit, hw1, hq6, shBin_shl, hnn, hs1, hw2])) | with_reducible refine And.intro ?_ ?_ | with_reducible exact okay_rfl rfl | with_reducible assumption | (refine W_cond rfl (fun h => ?_) (fun h => ?_) <;> first | (exfalso; simp at h; first | done | omega | contradiction) | (exfalso; simp_all; done) | (try simp at h)) | omega)
        refine ⟨a.length - (i + 1), by omega, i + 1, rfl, hlt, ?_⟩
        rw [hsu]
        refine u_46 ?_
        refine ⟨wrap_id (by omega) (by omega), ?_⟩
        rw [Nat.min_eq_left (by omega), wrap_id (n := 2 ^ (xt + 1).toNat) (by omega) (by omega)]
        exact hw2
def loseW (w : GWorld) (n : Int) : GWorld := { w with fLost := if 1000000000 < w.fLost + n then 1000000000 else w.fLost + n }
def letHit (w : GWorld) (o : GOwned) : GWorld :=
  if qDropB w.fQueue o.fName w.fNow then { w with fQueue := qDropQ w.fQueue o.fName w.fNow } else loseW { w with fQueue := qDropQ w.fQueue o.fName w.fNow } 1
def letStep (id : Int) (s : GWorld × List GOwned) (o : GOwned) : GWorld × List GOwned :=
  if o.fLease = id then (letHit s.1 o, s.2) else (s.1, s.2 ++ [o])
def letFold (w : GWorld) (id : Int) (os : List GOwned) : GWorld × List GOwned := os.foldl (letStep id) (w, [])
def letOne (w : GWorld) (l : GLease) : GWorld := { (letFold w l.fId w.fOwned).1 with fOwned := (letFold w l.fId w.fOwned).2 }
def letAll (w : GWorld) (ls : List GLease) : GWorld := ls.foldl letOne w
def letRun (w : GWorld) : RQ := rq w.fNow w.fQueue.fJobs w.fFar
def letGo (w : GWorld) (ls : List GLease) : GWorld :=
  loseW { letAll w ls with fQueue := ⟨(letRun (letAll w ls)).jobs⟩, fFar := (letRun (letAll w ls)).far } (letRun (letAll w ls)).failed.length
structure LetOk (w : GWorld) : Prop where
  now : 0 ≤ w.fNow ∧ w.fNow ≤ 1000000000
  lost : 0 ≤ w.fLost ∧ w.fLost ≤ 1000000000
  qb : queueB w.fQueue = true
  qf : fitQ w.fQueue
  fb : farB w.fFar = true
  ff : fitFar w.fFar
  ol : w.fOwned.length ≤ 1048576
  on : ∀ o, o ∈ w.fOwned → o.fName.length ≤ 1048576
theorem qDrop_ok {q : GQueue} {s : List UInt8} (now : Int) (h : queueB q = true) (hf : fitQ q) (hs : s.length ≤ 1048576) : queueB (qDropQ q s now) = true ∧ fitQ (qDropQ q s now) := by
  unfold qDropQ
  split
  · exact ⟨h, hf⟩
  · split
    · next h2 => exact ⟨h2, fitQ_app now h hf hs⟩
    · exact ⟨h, hf⟩
theorem lose_ok {w : GWorld} {n : Int} (h : LetOk w) (hn : 0 ≤ n) : LetOk (loseW w n) := by
  obtain ⟨h1, h2, h3, h4, h5, h6, h7, h8⟩ := h
  refine ⟨h1, ?_, h3, h4, h5, h6, h7, h8⟩
  unfold loseW
  dsimp only
  split <;> omega
theorem hit_ok {w : GWorld} {o : GOwned} (h : LetOk w) (ho : o.fName.length ≤ 1048576) : LetOk (letHit w o) := by
  have hq := qDrop_ok w.fNow h.qb h.qf ho
  have h' : LetOk { w with fQueue := qDropQ w.fQueue o.fName w.fNow } := ⟨h.now, h.lost, hq.1, hq.2, h.fb, h.ff, h.ol, h.on⟩
  unfold letHit
  split
  · exact h'
  · exact lose_ok h' (by omega)
theorem letFold_snoc (w : GWorld) (id : Int) (l : List GOwned) (x : GOwned) : letFold w id (l ++ [x]) = letStep id (letFold w id l) x := by
  unfold letFold; rw [List.foldl_append]; rfl
theorem letFold_ok {w : GWorld} (id : Int) (h : LetOk w) (os : List GOwned) (ho : ∀ o, o ∈ os → o.fName.length ≤ 1048576) : LetOk (letFold w id os).1 ∧ (letFold w id os).2.length ≤ os.length ∧ ∀ o, o ∈ (letFold w id os).2 → o ∈ os := by
  induction os using snoc_ind with
  | h0 => exact ⟨h, Nat.le_refl _, fun o ho => ho⟩
  | h1 l x ih =>
    obtain ⟨i1, i2, i3⟩ := ih fun o h => ho o (List.mem_append_left _ h)
    rw [letFold_snoc, List.length_append]
    unfold letStep
    split
    · exact ⟨hit_ok i1 (ho x (by simp)), by simp; omega, fun o h => List.mem_append_left _ (i3 o h)⟩
    · refine ⟨i1, by simp; omega, fun o h => ?_⟩
      rcases List.mem_append.1 h with h | h
      · exact List.mem_append_left _ (i3 o h)
      · exact List.mem_append_right _ h
theorem letOne_ok {w : GWorld} (l : GLease) (h : LetOk w) : LetOk (letOne w l) := by
  obtain ⟨h1, h2, h3⟩ := letFold_ok l.fId h w.fOwned h.on
  exact ⟨h1.now, h1.lost, h1.qb, h1.qf, h1.fb, h1.ff, by unfold letOne; dsimp only; have := h.ol; omega, fun o ho => h.on o (h3 o ho)⟩
theorem letAll_ok {w : GWorld} (h : LetOk w) (ls : List GLease) : LetOk (letAll w ls) := by
  unfold letAll
  induction ls generalizing w with
  | nil => exact h
  | cons l r ih => exact ih (letOne_ok l h)
theorem letAll_succ {w : GWorld} {ls : List GLease} {i : Nat} {l : GLease} (h : ls[i]? = some l) : letAll w (ls.take (i + 1)) = letOne (letAll w (ls.take i)) l := by
  unfold letAll; rw [List.take_add_one, h, List.foldl_append]; rfl
def dropL (b : GBook) (id : Int) : GBook := ⟨b.fLeases.filter fun l => !(decide (l.fId = id))⟩
theorem letFold_skip {id : Int} {os : List GOwned} (h : ∀ o, o ∈ os → o.fLease ≠ id) (v : GWorld) (r : List GOwned) : os.foldl (letStep id) (v, r) = (v, r ++ os) := by
  induction os generalizing r with
  | nil => rw [List.append_nil]; rfl
  | cons a t ih =>
    rw [List.foldl_cons]
    have : letStep id (v, r) a = (v, r ++ [a]) := by unfold letStep; rw [if_neg (h a (by simp))]
    rw [this, ih (fun o ho => h o (by simp [ho])), List.append_assoc]
    rfl
theorem letOne_miss {w : GWorld} {l : GLease} (h : ∀ o, o ∈ w.fOwned → o.fLease ≠ l.fId) : letOne w l = w := by
  unfold letOne letFold
  rw [letFold_skip h]
  rfl
def ownInc (w : GWorld) : Prop := w.fOwned.Pairwise (fun y x => y.fLease < x.fLease)
theorem own_split {os : List GOwned} (inc : os.Pairwise (fun y x => y.fLease < x.fLease)) {i : Nat} {o : GOwned} (hi : os[i]? = some o) : (∀ y, y ∈ os.take i → y.fLease < o.fLease) ∧ (∀ y, y ∈ os.drop (i + 1) → o.fLease < y.fLease) ∧ os = os.take i ++ o :: os.drop (i + 1) := by
  obtain ⟨h1, rfl⟩ := List.getElem?_eq_some_iff.1 hi
  have e : os = os.take i ++ os[i] :: os.drop (i + 1) := by rw [← List.drop_eq_getElem_cons h1, List.take_append_drop]
  have inc2 := inc
  rw [e, List.pairwise_append, List.pairwise_cons] at inc2
  exact ⟨fun y hy => inc2.2.2 y hy _ (List.mem_cons_self ..), fun y hy => inc2.2.1.1 y hy, e⟩
theorem letOne_hit {w : GWorld} {l : GLease} {i : Nat} {o : GOwned} (inc : ownInc w) (hi : w.fOwned[i]? = some o) (ho : o.fLease = l.fId) : letOne w l = { letHit w o with fOwned := w.fOwned.take i ++ w.fOwned.drop (i + 1) } := by
  obtain ⟨h1, h2, h3⟩ := own_split inc hi
  have e : letFold w l.fId w.fOwned = (letHit w o, w.fOwned.take i ++ w.fOwned.drop (i + 1)) := by
    have e1 : (w.fOwned.take i).foldl (letStep l.fId) (w, []) = (w, w.fOwned.take i) := letFold_skip (fun y hy => by have := h1 y hy; omega) w []
    have e2 := letFold_skip (id := l.fId) (os := w.fOwned.drop (i + 1)) (fun y hy => by have := h2 y hy; omega) (letHit w o) (w.fOwned.take i)
    have e3 : letStep l.fId (w, w.fOwned.take i) o = (letHit w o, w.fOwned.take i) := by unfold letStep; rw [if_pos ho]
    have e4 : letFold w l.fId w.fOwned = (w.fOwned.take i ++ o :: w.fOwned.drop (i + 1)).foldl (letStep l.fId) (w, []) := by rw [← h3]; rfl
    rw [e4, List.foldl_append, e1, List.foldl_cons, e3, e2]
  unfold letOne
  rw [e]
theorem letOne_inc {w : GWorld} (l : GLease) (inc : ownInc w) : ownInc (letOne w l) := by
  by_cases hm : ∃ (j : Nat) (o : GOwned), w.fOwned[j]? = some o ∧ o.fLease = l.fId
  · obtain ⟨j, o, hj, ho⟩ := hm
    rw [letOne_hit inc hj ho]
    unfold ownInc at inc ⊢
    dsimp only
    refine List.Pairwise.sublist ?_ inc
    obtain ⟨-, -, h3⟩ := own_split inc hj
    conv => rhs; rw [h3]
    exact List.Sublist.append_left (List.sublist_cons_self _ _) _
  · rw [letOne_miss]
    · exact inc
    · intro o ho e
      obtain ⟨j, hj, rfl⟩ := List.mem_iff_getElem.1 ho
      exact hm ⟨j, _, List.getElem?_eq_getElem hj, e⟩
theorem letAll_inc {w : GWorld} (inc : ownInc w) (ls : List GLease) : ownInc (letAll w ls) := by
  unfold letAll
  induction ls generalizing w with
  | nil => exact inc
  | cons l r ih => exact ih (letOne_inc l inc)
theorem release_c1_ok (t : GOwned) (l : GLease) : Valid PP GG 108 [.agg t.c, .rp l.row] (.d (.bool (decide (t.fLease = l.fId)))) [none] := by
  refine cv Tryz.func108 [.d (.bool (decide (t.fLease = l.fId)))] ?_
  refine u_23 ?_
  rfl
abbrev reVs (ls : List GLease) (i : Nat) : List (Nat × A) := [(0, .ptr 0 0), (15, .d (.slc 6 (rLease ls))), (16, .d (.int .i64 ls.length)), (17, .d (.int .i64 i))]
abbrev reOs (W : GWorld) : List (Nat × O) := [(0, .box [.d (.int .i64 W.fNow), .d (.int .i64 W.fNext), .d (.int .i64 W.fLost), .sl 1, .sl 2, .sl 3, .d (.int .i64 W.fFar.fFail), .d (.int .i64 W.fFar.fMade), .sl 4, .sl 5]), (1, .arr 0 1 7 (rToken W.fForest.fTokens)), (2, .arr 0 0 6 (rLease W.fBook.fLeases)), (3, .arr 0 0 2 (rUser W.fFar.fUsers)), (4, .arr 0 0 3 (rJob W.fQueue.fJobs)), (5, .arr 0 0 2 (rOwned W.fOwned))]
theorem release_ok [MaxL GG] (w : GWorld) (ls : List GLease) (h : LetOk w) (inc : ownInc w) (hls : ls.length ≤ 1048576) :
    Valid PP GG 58 [.box w.o, .d (.slc 6 (rLease ls))] (.tup [.own 0 1 (strsD (letRun (letAll w ls)).done), .own 0 1 (strsD (letRun (letAll w ls)).failed)]) [some (.box (letGo w ls).o), none] := by
  refine cv Tryz.func58 [.own 0 1 (strsD (letRun (letAll w ls)).done), .own 0 1 (strsD (letRun (letAll w ls)).failed)] ?_
  refine u_23 ?_
  refine W_loop (fun n st => ∃ i : Nat, n = ls.length - i ∧ i ≤ ls.length ∧ st = ⟨[], reVs ls i, reOs (letAll w (ls.take i)), 6⟩) _ ⟨0, rfl, by omega, ?_⟩ ?_
  · obtain ⟨a, b, c, ⟨tk⟩, ⟨bk⟩, ⟨us, ff, fm⟩, ⟨jb⟩, ow⟩ := w
    simp [gc, closeN, liveA, gcV, gcO, renA, renAs, renO, namesAs, namesA, namesO, posn, letAll]
  rintro n st ⟨i, rfl, hi, rfl⟩
  by_cases hlt : i < ls.length
  · have hli := List.getElem?_eq_getElem hlt
    generalize ls[i] = l at hli
    have hsu := letAll_succ (w := w) hli
    have hW := letAll_ok h (ls.take i)
    have hinc := letAll_inc inc (ls.take i)
    generalize letAll w (ls.take i) = W at *
    have hol := hW.ol
    have cix := IndexFuncOwned_ok (GG := GG) W.fOwned 108 [l.row] (fun t => decide (t.fLease = l.fId)) (by omega) fun x _ => release_c1_ok x l
    have hi5 := ind_rOwned W.fOwned
    by_cases hm : ∃ (j : Nat) (o : GOwned), W.fOwned[j]? = some o ∧ o.fLease = l.fId
    · obtain ⟨j, o, hj, ho⟩ := hm
      obtain ⟨hs1, hs2, hs3⟩ := own_split hinc hj
      rw [idxF_hit hj (fun y hy => by have := hs1 y hy; exact decide_eq_false (by omega)) (decide_eq_true ho)] at cix
      rw [letOne_hit hinc hj ho] at hsu
      clear hs1 hs2 hs3
      have hjl := (List.getElem?_eq_some_iff.1 hj).1
      have hon := hW.on o (List.mem_of_getElem? hj)
      have cqd := queueDrop_ok (GG := GG) W.fQueue o.fName W.fNow hW.qf hon hW.qb
      have cdl := DeleteOwned_ok (GG := GG) (rOwned W.fOwned) j (j + 1) (by omega) (by rw [rOwned_len]; omega)
      rw [rOwned_del] at cdl
      have hw : IntKind.i64.wrap ((j : Int) + 1) = (j : Int) + 1 := wrap_id (by omega) (by omega)
      rw [show ((j + 1 : Nat) : Int) = (j : Int) + 1 by omega] at cdl
      have hlo := hW.lost
      have hi6 := ind_rOwned (W.fOwned.take j ++ W.fOwned.drop (j + 1))
      generalize W.fOwned.take j ++ W.fOwned.drop (j + 1) = os' at *
      unfold letHit at hsu
      obtain ⟨on, ol⟩ := o
      obtain ⟨Vn, Vx, Vl, ⟨Vf⟩, ⟨Vb⟩, ⟨Vu, Vfl, Vfm⟩, ⟨Vq⟩, Vo⟩ := W
      dsimp only at *
      have hi1 := ind_rToken Vf
      have hi2 := ind_rLease Vb
      have hi3 := ind_rUser Vu
      generalize qDropB ⟨Vq⟩ ol Vn = DB at *
      generalize qDropQ ⟨Vq⟩ ol Vn = DQ at *
      obtain ⟨dj⟩ := DQ
      have hi4 := ind_rJob dj
      cases DB
      · simp only [Bool.false_eq_true, if_false] at hsu
        have hw2 : IntKind.i64.wrap (Vl + 1) = Vl + 1 := wrap_id (by omega) (by omega)
        refine u_25 (Y4 hli hj hw hw2) (Z3 cix cqd cdl) ?_
        refine ⟨ls.length - (i + 1), by omega, i + 1, rfl, hlt, ?_⟩
        rw [hsu]
        simp [gc, closeN, liveA, gcV, gcO, renA, renAs, renO, namesAs, namesA, namesO, posn, loseW]
        exact wrap_id (by omega) (by omega)
      · simp only [if_true] at hsu
        refine u_25 (Y3 hli hj hw) (Z3 cix cqd cdl) ?_
        refine ⟨ls.length - (i + 1), by omega, i + 1, rfl, hlt, ?_⟩
        rw [hsu]
        refine u_19 ?_
        exact wrap_id (by omega) (by omega)
    · have hno : ∀ o, o ∈ W.fOwned → o.fLease ≠ l.fId := by
        intro o ho e
        obtain ⟨j, hj, rfl⟩ := List.mem_iff_getElem.1 ho
        exact hm ⟨j, _, List.getElem?_eq_getElem hj, e⟩
      rw [idxF_miss (fun o ho => decide_eq_false (hno o ho))] at cix
      rw [letOne_miss hno] at hsu
      refine u_25 hli (Z1 cix) ?_
      refine ⟨ls.length - (i + 1), by omega, i + 1, rfl, hlt, ?_⟩
      rw [hsu]
      refine u_19 ?_
      exact wrap_id (by omega) (by omega)
  · have hie : i = ls.length := by omega
    subst hie
    rw [List.take_length]
    have hW := letAll_ok h ls
    have hgo : letGo w ls = { letAll w ls with fQueue := ⟨(letRun (letAll w ls)).jobs⟩, fFar := (letRun (letAll w ls)).far, fLost := if 1000000000 < (letAll w ls).fLost + (letRun (letAll w ls)).failed.length then 1000000000 else (letAll w ls).fLost + (letRun (letAll w ls)).failed.length } := rfl
    have cru := runQueue_ok (GG := GG) (letAll w ls).fQueue (letAll w ls).fFar (letAll w ls).fNow hW.qf hW.ff hW.qb hW.fb hW.now
    have hlr : letRun (letAll w ls) = rq (letAll w ls).fNow (letAll w ls).fQueue.fJobs (letAll w ls).fFar := rfl
    have hln := (rq_len (letAll w ls).fNow (letAll w ls).fQueue.fJobs (letAll w ls).fFar).2.2
    have hql := hW.qf.1
    have hlo := hW.lost
    rw [← hlr] at cru hln
    generalize letAll w ls = W at *
    generalize letRun W = R at *
    obtain ⟨rj, ⟨ru, rfl', rfm⟩, rd, rf⟩ := R
    obtain ⟨Wn, Wx, Wl, ⟨Wf⟩, ⟨Wb⟩, ⟨Wu, Wfl, Wfm⟩, ⟨Wq⟩, Wo⟩ := W
    dsimp only at *
    have hi1 := ind_rToken Wf
    have hi2 := ind_rLease Wb
    have hi3 := ind_rUser ru
    have hi4 := ind_rJob rj
    have hi5 := ind_rOwned Wo
    have hj6 := ind_strs rd
    have hj7 := ind_strs rf
    have hw : IntKind.i64.wrap (Wl + rf.length) = Wl + rf.length := wrap_id (by omega) (by omega)
    have hsl := strsD_len rf
    clear hlr
    by_cases hc : 1000000000 < Wl + rf.length
    · rw [if_pos hc] at hgo
      rw [hgo]
      clear hgo
      exact u_24 (Y3 hw hc hsl) (Z1 cru)
    · rw [if_neg hc] at hgo
      rw [hgo]
      clear hgo
      exact u_24 (Y3 hw hc hsl) (Z1 cru)
theorem inc_split {α : Type} {key : α → Int} {os : List α} (inc : os.Pairwise (fun y x => key y < key x)) {i : Nat} {o : α} (hi : os[i]? = some o) : (∀ y, y ∈ os.take i → key y < key o) ∧ (∀ y, y ∈ os.drop (i + 1) → key o < key y) ∧ os = os.take i ++ o :: os.drop (i + 1) := by
  obtain ⟨h1, rfl⟩ := List.getElem?_eq_some_iff.1 hi
  have e : os = os.take i ++ os[i] :: os.drop (i + 1) := by rw [← List.drop_eq_getElem_cons h1, List.take_append_drop]
  have inc2 := inc
  rw [e, List.pairwise_append, List.pairwise_cons] at inc2
  exact ⟨fun y hy => inc2.2.2 y hy _ (List.mem_cons_self ..), fun y hy => inc2.2.1.1 y hy, e⟩
theorem filter_cut {α : Type} {key : α → Int} {l : List α} (inc : l.Pairwise (fun y x => key y < key x)) {i : Nat} {x : α} {id : Int} (hi : l[i]? = some x) (hx : key x = id) : (l.filter fun y => !(decide (key y = id))) = l.take i ++ l.drop (i + 1) := by
  obtain ⟨h1, h2, h3⟩ := inc_split inc hi
  have e1 : ((l.take i).filter fun y => !(decide (key y = id))) = l.take i := by
    rw [List.filter_eq_self]; intro y hy; have := h1 y hy; simp; omega
  have e2 : ((l.drop (i + 1)).filter fun y => !(decide (key y = id))) = l.drop (i + 1) := by
    rw [List.filter_eq_self]; intro y hy; have := h2 y hy; simp; omega
  have e3 : (l.filter fun y => !(decide (key y = id))) = ((l.take i ++ x :: l.drop (i + 1)).filter fun y => !(decide (key y = id))) := by rw [← h3]
  rw [e3, List.filter_append, List.filter_cons, e1, e2, if_neg (by simp [hx])]
theorem letOk_of {w : GWorld} (hf : fitW w) (hb : worldB w = true) (b : GBook) : LetOk { w with fBook := b } ∧ ownInc { w with fBook := b } ∧ bookB w.fBook = true := by
  unfold worldB at hb
  simp only [Bool.and_eq_true] at hb
  obtain ⟨⟨⟨⟨⟨⟨⟨⟨⟨h1, h2⟩, h3⟩, h4⟩, h5⟩, h6⟩, h7⟩, h8⟩, h9⟩, h10⟩ := hb
  obtain ⟨f1, f2, f3, f4, f5, f6⟩ := hf
  exact ⟨⟨inB_true h1, inB_true h3, h7, f4, h6, f3, f5, f6⟩, own_inc h10, h5⟩
def cutB (w : GWorld) (id : Int) : Bool := worldB w && hasLease w.fBook id
def cutL (w : GWorld) (id : Int) : GLease := (w.fBook.fLeases.find? fun l => decide (l.fId = id)).getD zLease
def cutW (w : GWorld) (id : Int) : GWorld := if cutB w id then letGo { w with fBook := dropL w.fBook id } [cutL w id] else w
theorem i_CutLease_ok [MaxL GG] (w : GWorld) (id : Int) (hf : fitW w) :
    Valid PP GG 18 [.agg w.c, .d (.int .i64 id)] (.tup [.agg (cutW w id).o, .d (.bool (cutB w id))]) [none, none] := by
  refine cv Tryz.func18 [.agg (cutW w id).o, .d (.bool (cutB w id))] ?_
  have cw := isWorld_ok (GG := GG) w hf
  have ccp := cloneWorld_ok (GG := GG) w hf
  have cix := leaseIndex_ok (GG := GG) w.fBook id hf.2.1.1
  have hW : cutW w id = if cutB w id then letGo { w with fBook := dropL w.fBook id } [cutL w id] else w := rfl
  have hB : cutB w id = (worldB w && hasLease w.fBook id) := rfl
  have hi1 := ind_rToken w.fForest.fTokens
  have hi2 := ind_rLease w.fBook.fLeases
  have hi3 := ind_rUser w.fFar.fUsers
  have hi4 := ind_rJob w.fQueue.fJobs
  have hi5 := ind_rOwned w.fOwned
  have hno := idxF_none (fun t : GLease => decide (t.fId = id)) w.fBook.fLeases
  cases hWB : worldB w with
  | false =>
    rw [hWB, Bool.false_and] at hB
    rw [hB] at hW ⊢
    simp only [Bool.false_eq_true, if_false] at hW
    rw [hW]
    rw [hWB] at cw
    clear hW hB hno
    exact u_26 (Z3 cix cw ccp)
  | true =>
    obtain ⟨hL, hI, hbb⟩ := letOk_of hf hWB (dropL w.fBook id)
    rw [hWB, Bool.true_and] at hB
    rw [hWB] at cw
    cases hH : hasLease w.fBook id with
    | false =>
      rw [hH] at hB
      rw [hB] at hW ⊢
      simp only [Bool.false_eq_true, if_false] at hW
      rw [hW]
      have hH2 : w.fBook.fLeases.any (fun t => decide (t.fId = id)) = false := hH
      rw [hH2] at hno
      have hix := of_decide_eq_true hno
      clear hW hB hL hI hno
      generalize idxF (fun t : GLease => decide (t.fId = id)) w.fBook.fLeases = k at *
      exact u_24 hix (Z3 cix cw ccp)
    | true =>
      rw [hH] at hB
      rw [hB] at hW ⊢
      simp only [if_true] at hW
      have hH2 : w.fBook.fLeases.any (fun t => decide (t.fId = id)) = true := hH
      obtain ⟨x, hx, hxi⟩ := List.any_eq_true.1 hH2
      obtain ⟨j, hj, rfl⟩ := List.mem_iff_getElem.1 hx
      have hxi2 := of_decide_eq_true hxi
      have hgj := List.getElem?_eq_getElem hj
      generalize w.fBook.fLeases[j] = x at *
      have hlt := inc_split (key := GLease.fId) (book_inc hbb) hgj
      have hpre : ∀ y, y ∈ w.fBook.fLeases.take j → decide (y.fId = id) = false := fun y hy => by have := hlt.1 y hy; exact decide_eq_false (by omega)
      rw [idxF_hit hgj hpre hxi] at cix
      have hF : cutL w id = x := by unfold cutL; rw [(find_hit hgj hpre hxi).1]; rfl
      have hDL : dropL w.fBook id = ⟨w.fBook.fLeases.take j ++ w.fBook.fLeases.drop (j + 1)⟩ := by unfold dropL; rw [filter_cut (book_inc hbb) hgj hxi2]
      rw [hF, hDL] at hW
      rw [hDL] at hL hI
      have cre := release_ok (GG := GG) { w with fBook := ⟨w.fBook.fLeases.take j ++ w.fBook.fLeases.drop (j + 1)⟩ } [x] hL hI (by simp)
      rw [← hW, show rLease [x] = [x.row] from rfl] at cre
      have hbl := hf.2.1.1
      have cdl := DeleteLease_ok (GG := GG) (rLease w.fBook.fLeases) j (j + 1) (by omega) (by rw [rLease_len]; omega)
      rw [rLease_del] at cdl
      have hw : IntKind.i64.wrap ((j : Int) + 1) = (j : Int) + 1 := wrap_id (by omega) (by omega)
      rw [show ((j + 1 : Nat) : Int) = (j : Int) + 1 by omega] at cdl
      clear hW hB hF hL hI hlt hDL hpre hno hx
      generalize letRun (letAll { w with fBook := ⟨w.fBook.fLeases.take j ++ w.fBook.fLeases.drop (j + 1)⟩ } [x]) = R at *
      generalize cutW w id = Z at *
      generalize w.fBook.fLeases.take j ++ w.fBook.fLeases.drop (j + 1) = dl at *
      obtain ⟨f1, f2, f3, f4, f5, f6⟩ := x
      obtain ⟨Zn, Zx, Zl, ⟨Zf⟩, ⟨Zb⟩, ⟨Zu, Zfl, Zfm⟩, ⟨Zq⟩, Zo⟩ := Z
      have hi6 := ind_rLease dl
      have hj1 := ind_rToken Zf
      have hj2 := ind_rLease Zb
      have hj3 := ind_rUser Zu
      have hj4 := ind_rJob Zq
      have hj5 := ind_rOwned Zo
      have hj6 := ind_strs R.done
      have hj7 := ind_strs R.failed
      repeat' (first | refine W_seq ?_ | refine W_skip ?_ | refine W_block ?_ | refine W_exit ?_ | refine pick_pos rfl ?_ | refine pick_neg rfl ?_ | ((first | refine W_regP fun K hK => ?_ | refine W_regPD fun K hK => ?_ | refine W_ret ?_ | with_reducible refine callQ (cix) ?_ | with_reducible refine callQ (cw) ?_ | with_reducible refine callQ (ccp) ?_ | with_reducible refine callQ (cdl) ?_ | with_reducible refine callQ (cre) ?_); simp [Fin, litA, hgj, hw]) | (with_reducible refine hK _ ?_; clear hK K) | (with_reducible refine goL_split (fun h => ?_) (fun h => ?_) <;> first | (exfalso; simp at h; first | done | omega | contradiction) | ((try simp at h); simp [litA, hgj, hw])) | with_reducible refine And.intro ?_ ?_ | with_reducible exact okay_rfl rfl | with_reducible assumption | (refine W_cond rfl (fun h => ?_) (fun h => ?_) <;> first | (exfalso; simp at h; first | done | omega | contradiction) | (exfalso; simp_all; done) | (try simp at h)) | omega)
def lessF (f : GForest) (g : List Int) : GForest := ⟨f.fTokens.filter fun t => !g.contains t.fId⟩
def keepL (b : GBook) (g : List Int) : GBook := ⟨b.fLeases.filter fun l => !g.contains l.fToken⟩
def goneL (b : GBook) (g : List Int) : List GLease := b.fLeases.filter fun l => g.contains l.fToken
theorem dropLeases_ok (a : List GLease) (g : FuncId) (caps : List (List D)) (p : GLease → Bool) (hl : a.length ≤ 1048576) (hp : ∀ x, x ∈ a → Valid PP GG g (.agg x.c :: caps.map .rp) (.d (.bool (p x))) [none]) :
    Valid PP GG 127 [.agg [.d (.slc 6 (rLease a))], .d (.fn g caps)] (.tup [.agg [.own 0 6 (rLease (a.filter fun l => !p l))], .own 0 6 (rLease (a.filter p))]) [none, none] := by
  refine cv Tryz.func127 [.agg [.own 0 6 (rLease (a.filter fun l => !p l))], .own 0 6 (rLease (a.filter p))] ?_
  refine u_1 ?_
  refine u_1 ?_
  refine W_nilP 6 0 rfl rfl rfl ?_
  refine u_1 ?_
  refine W_nilV 7 rfl ?_
  refine u_23 ?_
  refine W_loop (fun n st => ∃ i : Nat, n = a.length - i ∧ i ≤ a.length ∧
    st = ⟨[], [(1, .d (.fn g caps)), (4, .ptr 0 0), (6, .ptr 1 0), (7, .sl 2), (11, .d (.slc 6 (rLease a))), (12, .d (.int .i64 a.length)), (13, .d (.int .i64 i))],
      [(0, .box [.nil 0 6]), (1, .box [.sl 3]), (2, .arr 0 0 6 (rLease ((a.take i).filter p))), (3, .arr 0 0 6 (rLease ((a.take i).filter fun l => !p l)))], 4⟩) _ ⟨0, rfl, by omega, ?_⟩ ?_
  · simp [gc, closeN, liveA, gcV, gcO, renA, renAs, renO, namesAs, namesA, namesO, posn, rLease]
  rintro n st ⟨i, rfl, hi, rfl⟩
  by_cases hlt : i < a.length
  rotate_left
  · have hie : i = a.length := by omega
    subst hie
    rw [List.take_length]
    have hi4 := ind_rLease (a.filter p)
    have hi5 := ind_rLease (a.filter fun l => !p l)
    generalize (a.filter p) = b1 at *
    generalize (a.filter fun l => !p l) = b2 at *
    exact u_21
  have ha := List.getElem?_eq_getElem hlt
  have hm := List.getElem_mem hlt
  generalize a[i] = x at ha hm
  have cp := hp x hm
  have hsc := filter_succ (p := p) (f := GLease.row) ha
  have hlen := filter_take_len p GLease.row a i
  rw [show ∀ l : List GLease, (l.filter p).map GLease.row = rLease (l.filter p) from fun l => rfl] at hsc hlen
  rw [show ∀ l : List GLease, (l.filter p).map GLease.row = rLease (l.filter p) from fun l => rfl] at hsc
  have hsc2 := filter_succ (p := fun l : GLease => !p l) (f := GLease.row) ha
  have hlen2 := filter_take_len (fun l : GLease => !p l) GLease.row a i
  rw [show ∀ l : List GLease, (l.filter fun l => !p l).map GLease.row = rLease (l.filter fun l => !p l) from fun l => rfl] at hsc2 hlen2
  rw [show ∀ l : List GLease, (l.filter fun l => !p l).map GLease.row = rLease (l.filter fun l => !p l) from fun l => rfl] at hsc2
  generalize rLease ((a.take i).filter p) = L at *
  generalize rLease ((a.take i).filter fun l => !p l) = L2 at *
  generalize hcp : p x = c at *
  obtain ⟨x1, x2, x3, x4, x5, x6⟩ := x
  cases c with
  | true =>
    simp only [hcp, if_true] at hsc
    simp only [hcp, Bool.not_true, Bool.false_eq_true, if_false, List.append_nil] at hsc2
    refine u_42 ha (Z1 cp) ?_
    refine ⟨a.length - (i + 1), by omega, i + 1, rfl, hlt, ?_⟩
    rw [hsc, hsc2]
    refine u_19 ?_
    exact wrap_id (by omega) (by omega)
  | false =>
    simp only [hcp, Bool.not_false, if_true] at hsc2
    simp only [hcp, Bool.false_eq_true, if_false, List.append_nil] at hsc
    refine u_42 ha (Z1 cp) ?_
    refine ⟨a.length - (i + 1), by omega, i + 1, rfl, hlt, ?_⟩
    rw [hsc, hsc2]
    refine u_19 ?_
    exact wrap_id (by omega) (by omega)
theorem dropOfTokens_c1_ok (l : GLease) (g : List Int) (hg : g.length ≤ 1048576) : Valid PP GG 128 [.agg l.c, .rp [.slc 1 (intsD g)]] (.d (.bool (g.contains l.fToken))) [none] := by
  refine cv Tryz.func128 [.d (.bool (g.contains l.fToken))] ?_
  have cc := ContainsInt_ok (GG := GG) g l.fToken (by omega)
  exact u_26 (Z1 cc)
theorem dropOfTokens_ok (w : GWorld) (g : List Int) (hl : w.fBook.fLeases.length ≤ 1048576) (hg : g.length ≤ 1048576) :
    Valid PP GG 79 [.box w.o, .d (.slc 1 (intsD g))] (.own 0 6 (rLease (goneL w.fBook g))) [some (.box { w with fBook := keepL w.fBook g }.o), none] := by
  refine cv Tryz.func79 [.own 0 6 (rLease (goneL w.fBook g))] ?_
  have cd := dropLeases_ok (GG := GG) w.fBook.fLeases 128 [[.slc 1 (intsD g)]] (fun l => g.contains l.fToken) hl fun x _ => dropOfTokens_c1_ok x g hg
  rw [show (w.fBook.fLeases.filter fun l => g.contains l.fToken) = goneL w.fBook g from rfl] at cd
  have hK : keepL w.fBook g = ⟨w.fBook.fLeases.filter fun l => !g.contains l.fToken⟩ := rfl
  rw [hK]
  clear hK
  have hi1 := ind_rToken w.fForest.fTokens
  have hi2 := ind_rLease w.fBook.fLeases
  have hi3 := ind_rUser w.fFar.fUsers
  have hi4 := ind_rJob w.fQueue.fJobs
  have hi5 := ind_rOwned w.fOwned
  have hi6 := ind_rLease (goneL w.fBook g)
  have hi7 := ind_rLease (w.fBook.fLeases.filter fun l => !g.contains l.fToken)
  generalize goneL w.fBook g = GL at *
  generalize (w.fBook.fLeases.filter fun l => !g.contains l.fToken) = KL at *
  exact u_26 (Z1 cd)
def ctB (w : GWorld) (id : Int) : Bool := worldB w && hasTok w.fForest id
def ctG (w : GWorld) (id : Int) : List Int := if worldB w then goneT w.fForest id else []
def ctX (w : GWorld) (g : List Int) : GWorld := { w with fForest := lessF w.fForest g, fBook := keepL w.fBook g }
def ctW (w : GWorld) (id : Int) : GWorld := if ctB w id then letGo (ctX w (goneT w.fForest id)) (goneL w.fBook (goneT w.fForest id)) else w
theorem letOk_of2 {w : GWorld} (hf : fitW w) (hb : worldB w = true) (f : GForest) (b : GBook) : LetOk { w with fForest := f, fBook := b } ∧ ownInc { w with fForest := f, fBook := b } ∧ bookB w.fBook = true := by
  obtain ⟨hL, hI, hbb⟩ := letOk_of hf hb b
  obtain ⟨a1, a2, a3, a4, a5, a6, a7, a8⟩ := hL
  exact ⟨⟨a1, a2, a3, a4, a5, a6, a7, a8⟩, hI, hbb⟩
theorem goneT_none {f : GForest} {id : Int} (h : hasTok f id = false) : goneT f id = [] := by
  unfold goneT
  split
  · rw [wo_none]
    intro t ht
    unfold hasTok at h
    rw [List.any_eq_false] at h
    simpa using h t ht
  · rfl
theorem goneT_len2 {f : GForest} (id : Int) (hb : forestB f = true) : (goneT f id).length ≤ 120 := by
  have h1 := goneT_len f id
  unfold forestB at hb
  simp only [Bool.and_eq_true, decide_eq_true_eq] at hb
  omega
theorem goneL_len (b : GBook) (g : List Int) : (goneL b g).length ≤ b.fLeases.length := List.length_filter_le _ _
theorem cutToken_c1_ok (t : GToken) (id : Int) : Valid PP GG 114 [.agg t.c, .rp [.int .i64 id]] (.d (.bool (decide (t.fId = id)))) [none] := by
  refine cv Tryz.func114 [.d (.bool (decide (t.fId = id)))] ?_
  have hind := ind_strs t.fNames
  have hq : (t.fId == id) = decide (t.fId = id) := rfl
  exact u_14 hq
theorem cutToken_ok [MaxL GG] (w : GWorld) (id : Int) (hf : fitW w) (hWB : worldB w = true) (hH : hasTok w.fForest id = true) :
    Valid PP GG 60 [.agg w.c, .d (.int .i64 id)] (.tup [.agg (ctW w id).o, .own 0 1 (intsD (ctG w id))]) [none, none] := by
  refine cv Tryz.func60 [.agg (ctW w id).o, .own 0 1 (intsD (ctG w id))] ?_
  have ccp := cloneWorld_ok (GG := GG) w hf
  have hW : ctW w id = if ctB w id then letGo (ctX w (goneT w.fForest id)) (goneL w.fBook (goneT w.fForest id)) else w := rfl
  have hB : ctB w id = (worldB w && hasTok w.fForest id) := rfl
  have hG : ctG w id = if worldB w then goneT w.fForest id else [] := rfl
  rw [hWB, Bool.true_and, hH] at hB
  rw [hB, if_pos rfl] at hW
  rw [hWB, if_pos rfl] at hG
  have hfb := world_forest hWB
  have hg2 := goneT_len2 id hfb
  have hT : goneT w.fForest id = (wo (fun t => decide (t.fId = id)) w.fForest.fTokens).2 := by unfold goneT; rw [if_pos hfb]
  have hR := (forest_wo hfb (fun t => decide (t.fId = id))).rest
  rw [← hT] at hR
  have cwo := without_ok (GG := GG) w.fForest.fTokens 114 [[.int .i64 id]] (fun t => decide (t.fId = id)) hf.1 fun t _ => cutToken_c1_ok t id
  rw [← hT, hR] at cwo
  rw [hG]
  clear hG hB hT hR
  generalize goneT w.fForest id = G at *
  have hig := ind_ints G
  obtain ⟨hL, hI, hbb⟩ := letOk_of2 hf hWB (lessF w.fForest G) (keepL w.fBook G)
  have cdr := dropOfTokens_ok (GG := GG) { w with fForest := lessF w.fForest G } G hf.2.1.1 (by omega)
  dsimp only at cdr
  have hgll := goneL_len w.fBook G
  have hbl := hf.2.1.1
  have cre := release_ok (GG := GG) { w with fForest := lessF w.fForest G, fBook := keepL w.fBook G } (goneL w.fBook G) hL hI (by omega)
  rw [show letGo { w with fForest := lessF w.fForest G, fBook := keepL w.fBook G } (goneL w.fBook G) = ctW w id from hW.symm] at cre
  rw [show (w.fForest.fTokens.filter fun t => !G.contains t.fId) = (lessF w.fForest G).fTokens from rfl] at cwo
  clear hW hL hI
  generalize letRun (letAll { w with fForest := lessF w.fForest G, fBook := keepL w.fBook G } (goneL w.fBook G)) = R at *
  generalize ctW w id = Z at *
  generalize goneL w.fBook G = GL at *
  generalize keepL w.fBook G = KB at *
  generalize lessF w.fForest G = LF at *
  obtain ⟨lf⟩ := LF
  obtain ⟨kb⟩ := KB
  obtain ⟨Zn, Zx, Zl, ⟨Zf⟩, ⟨Zb⟩, ⟨Zu, Zfl, Zfm⟩, ⟨Zq⟩, Zo⟩ := Z
  have hi1 := ind_rToken w.fForest.fTokens
  have hi2 := ind_rLease w.fBook.fLeases
  have hi3 := ind_rUser w.fFar.fUsers
  have hi4 := ind_rJob w.fQueue.fJobs
  have hi5 := ind_rOwned w.fOwned
  have hi6 := ind_rLease kb
  have hi7 := ind_rToken lf
  have hi8 := ind_rLease GL
  have hj1 := ind_rToken Zf
  have hj2 := ind_rLease Zb
  have hj3 := ind_rUser Zu
  have hj4 := ind_rJob Zq
  have hj5 := ind_rOwned Zo
  have hj6 := ind_strs R.done
  have hj7 := ind_strs R.failed
  exact u_26 (Z4 ccp cwo cdr cre)
theorem i_CutToken_ok [MaxL GG] (w : GWorld) (id : Int) (hf : fitW w) :
    Valid PP GG 19 [.agg w.c, .d (.int .i64 id)] (.tup [.agg (ctW w id).o, .own 0 1 (intsD (ctG w id))]) [none, none] := by
  refine cv Tryz.func19 [.agg (ctW w id).o, .own 0 1 (intsD (ctG w id))] ?_
  have cw := isWorld_ok (GG := GG) w hf
  have ccp := cloneWorld_ok (GG := GG) w hf
  have cix := tokenIndex_ok (GG := GG) w.fForest id hf.1.1
  have cct := cutToken_ok (GG := GG) w id hf
  have hno := idxF_none (fun t : GToken => decide (t.fId = id)) w.fForest.fTokens
  rw [show w.fForest.fTokens.any (fun t => decide (t.fId = id)) = hasTok w.fForest id from rfl] at hno
  have hW : ctW w id = if ctB w id then letGo (ctX w (goneT w.fForest id)) (goneL w.fBook (goneT w.fForest id)) else w := rfl
  have hB : ctB w id = (worldB w && hasTok w.fForest id) := rfl
  have hG : ctG w id = if worldB w then goneT w.fForest id else [] := rfl
  have hi1 := ind_rToken w.fForest.fTokens
  have hi2 := ind_rLease w.fBook.fLeases
  have hi3 := ind_rUser w.fFar.fUsers
  have hi4 := ind_rJob w.fQueue.fJobs
  have hi5 := ind_rOwned w.fOwned
  cases hWB : worldB w with
  | false =>
    rw [hWB, Bool.false_and] at hB
    rw [hB] at hW
    rw [hWB] at hG
    simp only [Bool.false_eq_true, if_false] at hW hG
    rw [hW, hG]
    rw [hWB] at cw
    clear hW hB hG hno cct
    repeat' (first | refine W_seq ?_ | refine W_skip ?_ | refine W_block ?_ | refine W_exit ?_ | refine pick_pos rfl ?_ | refine pick_neg rfl ?_ | ((first | refine W_regP fun K hK => ?_ | refine W_regPD fun K hK => ?_ | refine W_ret ?_ | with_reducible refine callQ (cix) ?_ | with_reducible refine callQ (cw) ?_ | with_reducible refine callQ (ccp) ?_); simp [Fin, intsD]) | (with_reducible refine hK _ ?_; clear hK K) | (with_reducible refine goL_split (fun h => ?_) (fun h => ?_) <;> first | (exfalso; simp at h; first | done | omega | contradiction) | ((try simp at h); simp [intsD])) | with_reducible refine And.intro ?_ ?_ | with_reducible exact okay_rfl rfl | with_reducible assumption | (refine W_cond rfl (fun h => ?_) (fun h => ?_) <;> first | (exfalso; simp at h; first | done | omega | contradiction) | (exfalso; simp_all; done) | (try simp at h)) | omega)
  | true =>
    rw [hWB] at cw
    cases hH : hasTok w.fForest id with
    | false =>
      rw [hWB, hH] at hB
      rw [hWB, if_pos rfl, goneT_none hH] at hG
      rw [hB] at hW
      simp only [Bool.and_false, Bool.false_eq_true, if_false] at hW
      rw [hW, hG]
      rw [hH] at hno
      have hix := of_decide_eq_true hno
      clear hW hB hG hno cct
      generalize idxF (fun t : GToken => decide (t.fId = id)) w.fForest.fTokens = k at *
      repeat' (first | refine W_seq ?_ | refine W_skip ?_ | refine W_block ?_ | refine W_exit ?_ | refine pick_pos rfl ?_ | refine pick_neg rfl ?_ | ((first | refine W_regP fun K hK => ?_ | refine W_regPD fun K hK => ?_ | refine W_ret ?_ | with_reducible refine callQ (cix) ?_ | with_reducible refine callQ (cw) ?_ | with_reducible refine callQ (ccp) ?_); simp [Fin, hix, intsD]) | (with_reducible refine hK _ ?_; clear hK K) | (with_reducible refine goL_split (fun h => ?_) (fun h => ?_) <;> first | (exfalso; simp at h; first | done | omega | contradiction) | ((try simp at h); simp [hix, intsD])) | with_reducible refine And.intro ?_ ?_ | with_reducible exact okay_rfl rfl | with_reducible assumption | (refine W_cond rfl (fun h => ?_) (fun h => ?_) <;> first | (exfalso; simp at h; first | done | omega | contradiction) | (exfalso; simp_all; done) | (try simp at h)) | omega)
    | true =>
      have cct := cct hWB hH
      rw [hH] at hno
      have hix := of_decide_eq_false hno
      clear hW hB hG hno
      generalize idxF (fun t : GToken => decide (t.fId = id)) w.fForest.fTokens = k at *
      generalize ctW w id = Z at *
      generalize ctG w id = G at *
      obtain ⟨Zn, Zx, Zl, ⟨Zf⟩, ⟨Zb⟩, ⟨Zu, Zfl, Zfm⟩, ⟨Zq⟩, Zo⟩ := Z
      have hig := ind_ints G
      have hj1 := ind_rToken Zf
      have hj2 := ind_rLease Zb
      have hj3 := ind_rUser Zu
      have hj4 := ind_rJob Zq
      have hj5 := ind_rOwned Zo
      exact u_24 hix (Z4 cix cw ccp cct)
theorem big_ok (code : List UInt8) (h : code.length ≤ maxLen) : Valid PP GG 5 [.d (.slc 1 (bytesD code))] (.d (.bool (decide (1048576 < code.length)))) [none] := by
  refine cv Tryz.func5 [.d (.bool (decide (1048576 < code.length)))] ?_
  have hbl := bytesD_len code
  have hd : decide ((1048576 : Int) < (code.length : Nat)) = decide (1048576 < code.length) := decide_eq_decide.2 (by omega)
  exact u_14 (Y2 hbl hd)
def atV (code : List UInt8) (i : Nat) : Int := if i < code.length then ((code.getD i 0).toNat : Nat) else ((i * 13 + code.length * 5) % 256 : Nat)
theorem atV_rng (code : List UInt8) (i : Nat) : 0 ≤ atV code i ∧ atV code i ≤ 255 := by
  unfold atV
  split
  · have := (code.getD i 0).toNat_lt; omega
  · omega
theorem at_ok (code : List UInt8) (i : Nat) (h : code.length ≤ 1048577) (hi : i ≤ 1000) : Valid PP GG 20 [.d (.slc 1 (bytesD code)), .d (.int .i64 i)] (.d (.int .i64 (atV code i))) [none, none] := by
  refine cv Tryz.func20 [.d (.int .i64 (atV code i))] ?_
  have hbl := bytesD_len code
  by_cases hlt : i < code.length
  · have hg := List.getElem?_eq_getElem hlt
    have hv : atV code i = ((code[i].toNat : Nat) : Int) := by unfold atV; rw [if_pos hlt, List.getD_eq_getElem?_getD, hg]; rfl
    rw [hv]
    generalize code[i] = x at hg
    have hx := x.toNat_lt
    have hw : IntKind.i64.wrap (x.toNat : Nat) = (x.toNat : Nat) := wrap_id (by omega) (by omega)
    exact u_14 (Y3 hbl hg hw)
  · have hv : atV code i = ((i * 13 + code.length * 5) % 256 : Nat) := by unfold atV; rw [if_neg hlt]
    rw [hv]
    have hw1 : IntKind.i64.wrap ((i : Int) * 13) = (i : Int) * 13 := wrap_id (by omega) (by omega)
    have hw2 : IntKind.i64.wrap ((code.length : Int) * 5) = (code.length : Int) * 5 := wrap_id (by omega) (by omega)
    have hw3 : IntKind.i64.wrap ((i : Int) * 13 + (code.length : Int) * 5) = (i : Int) * 13 + (code.length : Int) * 5 := wrap_id (by omega) (by omega)
    have hm : Int.tmod ((i : Int) * 13 + (code.length : Int) * 5) 256 = (((i * 13 + code.length * 5) % 256 : Nat) : Int) := by
      rw [show (i : Int) * 13 + (code.length : Int) * 5 = ((i * 13 + code.length * 5 : Nat) : Int) by omega]
      rfl
    exact u_14 (Y5 hbl hw1 hw2 hw3 hm)
structure GRole where
  fName : List UInt8
  fPrefix : List UInt8
  fTtl : Int
  fLimit : Int
  deriving DecidableEq
@[simp] abbrev GRole.row (x : GRole) : List D := [.str x.fName, .str x.fPrefix, .int .i64 x.fTtl, .int .i64 x.fLimit]
@[simp] abbrev GRole.c (x : GRole) : List C := [.d (.str x.fName), .d (.str x.fPrefix), .d (.int .i64 x.fTtl), .d (.int .i64 x.fLimit)]
@[simp] abbrev GRole.o (x : GRole) : List C := [.d (.str x.fName), .d (.str x.fPrefix), .d (.int .i64 x.fTtl), .d (.int .i64 x.fLimit)]
def GRole.cost (x : GRole) : Nat := x.fName.length + x.fPrefix.length
def GRole.ok (x : GRole) : Prop := x.fName.length ≤ maxLen ∧ x.fPrefix.length ≤ maxLen ∧ int64 x.fTtl ∧ int64 x.fLimit
def roleB (r : GRole) : Bool := nameOk r.fName && nameOk r.fPrefix && decide (r.fPrefix.length ≤ 6) && inB r.fLimit 1 1000000 && inB r.fTtl 1 r.fLimit
theorem isRole_ok [MaxL GG] (r : GRole) (h1 : r.fName.length ≤ 1048576) (h2 : r.fPrefix.length ≤ 1048576) : Valid PP GG 99 [.agg r.c] (.d (.bool (roleB r))) [none] := by
  refine cv Tryz.func99 [.d (.bool (roleB r))] ?_
  have c1 := isName_ok (GG := GG) r.fName (by omega)
  have c2 := isName_ok (GG := GG) r.fPrefix (by omega)
  have c3 : Valid PP GG 34 [.d (.int .i64 r.fLimit), .d (.int .i64 1), .d (.int .i64 1000000)] (.d (.bool (inB r.fLimit 1 1000000))) [none, none, none] := within_ok _ _ _
  have c4 : Valid PP GG 34 [.d (.int .i64 r.fTtl), .d (.int .i64 1), .d (.int .i64 r.fLimit)] (.d (.bool (inB r.fTtl 1 r.fLimit))) [none, none, none] := within_ok _ _ _
  obtain ⟨t, ht⟩ : ∃ t, roleB r = t := ⟨_, rfl⟩
  rw [ht]
  unfold roleB at ht
  have hd : decide ((r.fPrefix.length : Int) ≤ 6) = decide (r.fPrefix.length ≤ 6) := decide_eq_decide.2 (by omega)
  generalize nameOk r.fName = a at *
  generalize nameOk r.fPrefix = b at *
  generalize decide (r.fPrefix.length ≤ 6) = d at *
  generalize inB r.fLimit 1 1000000 = x at *
  generalize inB r.fTtl 1 r.fLimit = y at *
  subst ht
  cases a
  · exact u_26 (Z1 c1)
  cases b
  · exact u_26 (Z2 c1 c2)
  cases d
  · exact u_24 hd (Z2 c1 c2)
  cases x
  · exact u_24 hd (Z3 c1 c2 c3)
  · exact u_24 hd (Z4 c1 c2 c3 c4)
def insUser_ren : Go.Shelf.Ren := ⟨fun | 22 => 147 | 29 => 174 | 30 => 175 | n => n, fun | 24 => 30 | 9 => 59 | n => n, fun n => n⟩
theorem insUser : InsL PP insUser_ren 2 32 (.agg #[.string ⟨#[]⟩, .string ⟨#[]⟩]) := {
  mixed := by kernel_rfl
  f22 := ⟨"slices.Insert[[]loop.example/g00705/impl.User,loop.example/g00705/impl.User]", by decide, Tryz.func147.trans (congrArg some (by kernel_rfl))⟩
  f29 := fun args w => run_callFunc_extern Tryz.func174 (by kernel_rfl) (by kernel_rfl) (by kernel_rfl) (e := Extern.SlicesOverlaps.overlaps #[30, 30] #[4]) (by kernel_rfl) args w
  t0 := Tryz.underlying0
  a0 := Tryz.isAgg0
  z0 := Tryz.sizeOf0
  v0 := Tryz.zeroValue0
  t3 := Tryz.underlying3
  a3 := Tryz.isAgg3
  z3 := Tryz.sizeOf3
  v3 := Tryz.zeroValue3
  t4 := Tryz.underlying4
  a4 := Tryz.isAgg4
  z4 := Tryz.sizeOf4
  v4 := Tryz.zeroValue4
  t24 := Tryz.underlying30
  a24 := Tryz.isAgg30
  z24 := Tryz.sizeOf30
  v24 := Tryz.zeroValue30
  i9 := by kernel_rfl
  hsz := by omega
  hzs := rfl
  hz1 := rfl
}
theorem InsertUser_ok (a : List GUser) (u : GUser) (i : Nat) (hi : i ≤ a.length) (hl : a.length ≤ 1048576) : Valid PP GG 147 [.own 0 2 (rUser a), .d (.int .i64 i), .own 0 2 [u.row]] (.own 0 2 (rUser (a.take i ++ u :: a.drop i))) [none, none, none] := by
  have h := insert_valid (G := GG) insUser ⟨Tryz.f147, Tryz.func147, by kernel_rfl, by kernel_rfl⟩ (k := 0) (rows := rUser a) (row := u.row) i (by rw [rUser_len]; exact hi) (by rw [rUser_len]; omega) (by rw [rUser_len]; omega)
  rw [show (rUser a).take i ++ u.row :: (rUser a).drop i = rUser (a.take i ++ u :: a.drop i) by simp [rUser]] at h
  exact h
theorem Repeat_ok (s : List UInt8) (c : Nat) (hc : s.length * c ≤ 1048576) (hc2 : c ≤ 1048576) : Valid PP GG 190 [.d (.str s), .d (.int .i64 c)] (.d (.str (Lib.repeatL s c))) [none, none] := by
  refine lib_new [.str s, .int .i64 c] ⟨Tryz.f190, Tryz.func190, by kernel_rfl, by kernel_rfl⟩ fun w Fz args hG hFz hl hA => ?_
  have e : args = #[.string ⟨s.toArray⟩, .int .i64 c] := by
    refine args_eq (l := [.string ⟨s.toArray⟩, .int .i64 c]) hl fun i v hv => ?_
    match i, hv with
    | 0, hv => cases hv; exact shr_str (hA 0 _ rfl)
    | 1, hv => cases hv; exact shr_int (hA 1 _ rfl)
  subst e
  refine (Go.Proofs.YtoomonfpedjgoaaGreatDoor.Tryz.strings_Repeat ⟨s.toArray⟩ c w (by omega) (by show s.toArray.size * c ≤ _; simp; omega)).mono ?_
  rintro e w' ⟨rfl, hb⟩
  exact ⟨_, Fz, fun _ _ => False, rfl, ⟨hb.os, hb.output⟩, hb.size, fun b h => hb.block b h, fun _ _ h => h, fun b o h => ⟨.inl h, Nat.lt_of_lt_of_le (hFz b o h) hb.size⟩, .d _ _ _ (.str _) fun _ _ h => h, fun _ _ h => h.elim⟩
def decB (m : Nat) (i : Nat) : UInt8 := UInt8.ofNat (48 + m / 10 ^ i % 10)
def six (m : Nat) : List UInt8 := [decB m 5, decB m 4, decB m 3, decB m 2, decB m 1, decB m 0]
theorem decDigits_step {u : Nat} (h : ¬ u < 10) : Lib.decDigits u = Lib.decDigits (u / 10) ++ [UInt8.ofNat (48 + u % 10)] := by
  rw [Lib.decDigits, dif_neg h]
theorem six_mod (n : Nat) : six n = six (n % 1000000) := by
  have h : ∀ i, i < 6 → decB n i = decB (n % 1000000) i := by
    intro i hi
    unfold decB
    have : n / 10 ^ i % 10 = n % 1000000 / 10 ^ i % 10 := by
      match i, hi with
      | 0, _ => simp only [Nat.pow_zero]; omega
      | 1, _ => simp only [Nat.reducePow]; omega
      | 2, _ => simp only [Nat.reducePow]; omega
      | 3, _ => simp only [Nat.reducePow]; omega
      | 4, _ => simp only [Nat.reducePow]; omega
      | 5, _ => simp only [Nat.reducePow]; omega
    rw [this]
  unfold six
  rw [h 0 (by omega), h 1 (by omega), h 2 (by omega), h 3 (by omega), h 4 (by omega), h 5 (by omega)]
theorem decB_eq {m i q : Nat} (h : m / 10 ^ i % 10 = q) : decB m i = UInt8.ofNat (48 + q) := by unfold decB; rw [h]
theorem six_itoa (n : Nat) : Lib.repeatL [48] (6 - (Lib.itoa ((n % 1000000 : Nat) : Int)).length) ++ Lib.itoa ((n % 1000000 : Nat) : Int) = six n ∧ 1 ≤ (Lib.itoa ((n % 1000000 : Nat) : Int)).length ∧ (Lib.itoa ((n % 1000000 : Nat) : Int)).length ≤ 6 := by
  rw [six_mod]
  have hm : n % 1000000 < 1000000 := Nat.mod_lt _ (by omega)
  generalize n % 1000000 = m at hm
  rw [Lib.itoa_nonneg]
  have p1 : ∀ u, u / 10 = u / 10 ^ 1 := fun _ => rfl
  by_cases h1 : m < 10
  · rw [Lib.decDigits_one h1]
    have e0 := decB_eq (m := m) (i := 0) (q := m) (by simp only [Nat.pow_zero]; omega)
    have e1 := decB_eq (m := m) (i := 1) (q := 0) (by simp only [Nat.reducePow]; omega)
    have e2 := decB_eq (m := m) (i := 2) (q := 0) (by simp only [Nat.reducePow]; omega)
    have e3 := decB_eq (m := m) (i := 3) (q := 0) (by simp only [Nat.reducePow]; omega)
    have e4 := decB_eq (m := m) (i := 4) (q := 0) (by simp only [Nat.reducePow]; omega)
    have e5 := decB_eq (m := m) (i := 5) (q := 0) (by simp only [Nat.reducePow]; omega)
    refine ⟨?_, by simp, by simp⟩
    unfold six; rw [e0, e1, e2, e3, e4, e5]; rfl
  have s1 := decDigits_step h1
  have e0 := decB_eq (m := m) (i := 0) (q := m % 10) (by simp only [Nat.pow_zero]; omega)
  by_cases h2 : m < 100
  · rw [s1, Lib.decDigits_one (by omega)]
    have e1 := decB_eq (m := m) (i := 1) (q := m / 10) (by simp only [Nat.reducePow]; omega)
    have e2 := decB_eq (m := m) (i := 2) (q := 0) (by simp only [Nat.reducePow]; omega)
    have e3 := decB_eq (m := m) (i := 3) (q := 0) (by simp only [Nat.reducePow]; omega)
    have e4 := decB_eq (m := m) (i := 4) (q := 0) (by simp only [Nat.reducePow]; omega)
    have e5 := decB_eq (m := m) (i := 5) (q := 0) (by simp only [Nat.reducePow]; omega)
    refine ⟨?_, by simp, by simp⟩
    unfold six; rw [e0, e1, e2, e3, e4, e5]; rfl
  have s2 := decDigits_step (u := m / 10) (by omega)
  have e1 := decB_eq (m := m) (i := 1) (q := m / 10 % 10) (by simp only [Nat.reducePow])
  by_cases h3 : m < 1000
  · rw [s1, s2, Lib.decDigits_one (by omega)]
    have e2 := decB_eq (m := m) (i := 2) (q := m / 10 / 10) (by simp only [Nat.reducePow]; omega)
    have e3 := decB_eq (m := m) (i := 3) (q := 0) (by simp only [Nat.reducePow]; omega)
    have e4 := decB_eq (m := m) (i := 4) (q := 0) (by simp only [Nat.reducePow]; omega)
    have e5 := decB_eq (m := m) (i := 5) (q := 0) (by simp only [Nat.reducePow]; omega)
    refine ⟨?_, by simp, by simp⟩
    unfold six; rw [e0, e1, e2, e3, e4, e5]; rfl
  have s3 := decDigits_step (u := m / 10 / 10) (by omega)
  have e2 := decB_eq (m := m) (i := 2) (q := m / 10 / 10 % 10) (by simp only [Nat.reducePow]; omega)
  by_cases h4 : m < 10000
  · rw [s1, s2, s3, Lib.decDigits_one (by omega)]
    have e3 := decB_eq (m := m) (i := 3) (q := m / 10 / 10 / 10) (by simp only [Nat.reducePow]; omega)
    have e4 := decB_eq (m := m) (i := 4) (q := 0) (by simp only [Nat.reducePow]; omega)
    have e5 := decB_eq (m := m) (i := 5) (q := 0) (by simp only [Nat.reducePow]; omega)
    refine ⟨?_, by simp, by simp⟩
    unfold six; rw [e0, e1, e2, e3, e4, e5]; rfl
  have s4 := decDigits_step (u := m / 10 / 10 / 10) (by omega)
  have e3 := decB_eq (m := m) (i := 3) (q := m / 10 / 10 / 10 % 10) (by simp only [Nat.reducePow]; omega)
  by_cases h5 : m < 100000
  · rw [s1, s2, s3, s4, Lib.decDigits_one (by omega)]
    have e4 := decB_eq (m := m) (i := 4) (q := m / 10 / 10 / 10 / 10) (by simp only [Nat.reducePow]; omega)
    have e5 := decB_eq (m := m) (i := 5) (q := 0) (by simp only [Nat.reducePow]; omega)
    refine ⟨?_, by simp, by simp⟩
    unfold six; rw [e0, e1, e2, e3, e4, e5]; rfl
  have s5 := decDigits_step (u := m / 10 / 10 / 10 / 10) (by omega)
  have e4 := decB_eq (m := m) (i := 4) (q := m / 10 / 10 / 10 / 10 % 10) (by simp only [Nat.reducePow]; omega)
  rw [s1, s2, s3, s4, s5, Lib.decDigits_one (by omega)]
  have e5 := decB_eq (m := m) (i := 5) (q := m / 10 / 10 / 10 / 10 / 10) (by simp only [Nat.reducePow]; omega)
  refine ⟨?_, by simp, by simp⟩
  unfold six; rw [e0, e1, e2, e3, e4, e5]; rfl
def uName (r : GRole) (n : Int) : List UInt8 := r.fPrefix ++ six n.toNat
theorem remM (q : Nat) : intBin .rem .i64 (q : Int) 1000000 = some (.int .i64 ((q % 1000000 : Nat) : Int)) := by
  rw [intBin_rem _ _ _ (by omega), Int.tmod_eq_emod_of_nonneg (by omega)]; rfl
theorem sixDigits_ok [P10 GG] (m : Nat) (hm : m ≤ 1000000000) : Valid PP GG 167 [.d (.int .i64 m)] (.d (.str (six m))) [none] := by
  refine cv Tryz.func167 [.d (.str (six m))] ?_
  obtain ⟨h1, h2, h3⟩ := six_itoa m
  have f1 := remM m
  have c1 := Itoa_ok (GG := GG) ((m % 1000000 : Nat) : Int) (by have : m % 1000000 ≤ m := Nat.mod_le _ _; unfold int64; omega)
  generalize Lib.itoa ((m % 1000000 : Nat) : Int) = s at *
  have c2 := Repeat_ok (GG := GG) [48] (6 - s.length) (by simp; omega) (by omega)
  have f2 : IntKind.i64.wrap (6 - (s.length : Int)) = ((6 - s.length : Nat) : Int) := by rw [wrap_id (by omega) (by omega)]; omega
  have hl : (Lib.repeatL [48] (6 - s.length)).length = 6 - s.length := by rw [Lib.repeatL_length]; simp
  generalize Lib.repeatL [48] (6 - s.length) = z at *
  generalize ((6 - s.length : Nat) : Int) = q at *
  generalize ((m % 1000000 : Nat) : Int) = p at *
  rw [← h1]
  repeat' (first | refine W_seq ?_ | refine W_skip ?_ | refine W_block ?_ | refine W_exit ?_ | refine pick_pos rfl ?_ | refine pick_neg rfl ?_ | ((first | refine W_regP fun K hK => ?_ | refine W_regPD fun K hK => ?_ | refine W_ret ?_ | with_reducible refine callQ (c1) ?_ | with_reducible refine callQ (c2) ?_); simp [Fin, f1, f2, maxStr]) | (with_reducible refine hK _ ?_; clear hK K) | (with_reducible refine goL_split (fun h => ?_) (fun h => ?_) <;> first | (exfalso; simp at h; first | done | omega | contradiction) | ((try simp at h); simp [f1, f2, maxStr])) | with_reducible refine And.intro ?_ ?_ | with_reducible exact okay_rfl rfl | with_reducible assumption | (refine W_cond rfl (fun h => ?_) (fun h => ?_) <;> first | (exfalso; simp at h; first | done | omega | contradiction) | (exfalso; simp_all; done) | (try simp at h)) | omega)
theorem userName_ok [P10 GG] (r : GRole) (n : Int) (h2 : r.fPrefix.length ≤ 1048576) (h0 : 0 ≤ n) (hn : n ≤ 1000000000) : Valid PP GG 144 [.agg r.c, .d (.int .i64 n)] (.d (.str (uName r n))) [none, none] := by
  refine cv Tryz.func144 [.d (.str (uName r n))] ?_
  obtain ⟨m, rfl⟩ : ∃ m : Nat, n = m := ⟨n.toNat, by omega⟩
  have c1 := sixDigits_ok (GG := GG) m (by omega)
  have hU : uName r m = r.fPrefix ++ six m := rfl
  have hl : (six m).length = 6 := rfl
  generalize six m = s at *
  rw [hU]
  repeat' (first | refine W_seq ?_ | refine W_skip ?_ | refine W_block ?_ | refine W_exit ?_ | refine pick_pos rfl ?_ | refine pick_neg rfl ?_ | ((first | refine W_regP fun K hK => ?_ | refine W_regPD fun K hK => ?_ | refine W_ret ?_ | with_reducible refine callQ (c1) ?_); simp [Fin, maxStr]) | (with_reducible refine hK _ ?_; clear hK K) | (with_reducible refine goL_split (fun h => ?_) (fun h => ?_) <;> first | (exfalso; simp at h; first | done | omega | contradiction) | ((try simp at h); simp [maxStr])) | with_reducible refine And.intro ?_ ?_ | with_reducible exact okay_rfl rfl | with_reducible assumption | (refine W_cond rfl (fun h => ?_) (fun h => ?_) <;> first | (exfalso; simp at h; first | done | omega | contradiction) | (exfalso; simp_all; done) | (try simp at h)) | omega)
def uPass (key : Int) (name : List UInt8) : List UInt8 := Lib.itoa (digN (wide key ++ name))
theorem userPass_ok [P10 GG] (key : Int) (name : List UInt8) (hk : keyB key = true) (hl : name.length ≤ 1048576) : Valid PP GG 146 [.d (.int .i64 key), .d (.str name)] (.d (.str (uPass key name))) [none, none] := by
  refine cv Tryz.func146 [.d (.str (uPass key name))] ?_
  have c3 := i_putWide_ok (GG := GG) key hk
  have hwl := wide_len key
  have hU : uPass key name = Lib.itoa (digN (wide key ++ name)) := rfl
  generalize wide key = wk at *
  have happ : bytesD (wk ++ name) = bytesD wk ++ bytesD name := by simp [bytesD]
  have c5 := digest_ok (GG := GG) (wk ++ name) (by rw [List.length_append]; omega)
  have hd : int64 (digN (wk ++ name)) := by have := digN_range (wk ++ name); unfold int64; omega
  generalize digN (wk ++ name) = q at *
  have c6 := Itoa_ok (GG := GG) q hd
  rw [hU]
  rw [happ] at c5
  exact u_43 (Z3 c3 c5 c6)
theorem lessN_split {α : Type} {key : α → List UInt8} (s : List UInt8) : ∀ {l : List α}, l.Pairwise (fun y x => Go.Op.bytesLess (key y) (key x) = true) →
    lessN key s l ≤ l.length ∧ (∀ (m : Nat) x, m < lessN key s l → l[m]? = some x → Go.Op.bytesLess (key x) s = true) ∧ (∀ (m : Nat) x, lessN key s l ≤ m → l[m]? = some x → Go.Op.bytesLess (key x) s = false) := by
  intro l
  induction l with
  | nil => intro _; exact ⟨Nat.le_refl _, fun m x h => by simp [lessN] at h, fun m x _ h => by simp at h⟩
  | cons a t ih =>
    intro h
    rw [List.pairwise_cons] at h
    obtain ⟨i1, i2, i3⟩ := ih h.2
    cases ha : Go.Op.bytesLess (key a) s with
    | true =>
      have e : lessN key s (a :: t) = lessN key s t + 1 := by simp [lessN, ha]
      rw [e]
      refine ⟨by simpa using i1, fun m x hm hx => ?_, fun m x hm hx => ?_⟩
      · cases m with
        | zero => simp at hx; subst hx; exact ha
        | succ m => exact i2 m x (by omega) (by simpa using hx)
      · cases m with
        | zero => omega
        | succ m => exact i3 m x (by omega) (by simpa using hx)
    | false =>
      have hall : ∀ x, x ∈ t → Go.Op.bytesLess (key x) s = false := fun x hx => by
        cases hb : Go.Op.bytesLess (key x) s with
        | false => rfl
        | true => have := bl_trans (h.1 x hx) hb; rw [ha] at this; cases this
      have e : lessN key s (a :: t) = 0 := by
        have : t.filter (fun x => Go.Op.bytesLess (key x) s) = [] := by rw [List.filter_eq_nil_iff]; intro x hx; rw [hall x hx]; simp
        simp [lessN, ha, this]
      rw [e]
      refine ⟨by omega, fun m x hm => by omega, fun m x _ hx => ?_⟩
      cases m with
      | zero => simp at hx; subst hx; exact ha
      | succ m => exact hall x (List.mem_of_getElem? (by simpa using hx))
def zUser : GUser := ⟨[], []⟩
def muC (f : GFar) (r : GRole) (key : Int) : Int := if (roleB r && keyB key && !decide (f.fMade = 1000000000)) = false then 1 else if 0 < f.fFail then 2 else if (f.fUsers.any fun u => u.fName == uName r (f.fMade + 1)) = true then 3 else if f.fUsers.length = 120 then 4 else 0
def muN (f : GFar) (r : GRole) (key : Int) : GUser := ⟨uName r (f.fMade + 1), uPass key (uName r (f.fMade + 1))⟩
def muU (f : GFar) (r : GRole) (key : Int) : GUser := if muC f r key = 0 then muN f r key else zUser
def putUs (l : List GUser) (u : GUser) : List GUser := l.take (lessN GUser.fName u.fName l) ++ u :: l.drop (lessN GUser.fName u.fName l)
def muF (f : GFar) (r : GRole) (key : Int) : GFar :=
  if muC f r key = 2 then { f with fFail := f.fFail - 1 } else if muC f r key = 3 then { f with fMade := f.fMade + 1 } else if muC f r key = 0 then ⟨putUs f.fUsers (muN f r key), f.fFail, f.fMade + 1⟩ else f
theorem decB_name (m i : Nat) : nameB (decB m i) = true := by
  unfold nameB decB
  have h : (UInt8.ofNat (48 + m / 10 ^ i % 10)).toNat = 48 + m / 10 ^ i % 10 := by rw [UInt8.toNat_ofNat']; omega
  rw [h, decide_eq_true_iff]
  omega
theorem uName_ok {r : GRole} (h : roleB r = true) (n : Int) : nameOk (uName r n) = true ∧ (uName r n).length ≤ 12 := by
  unfold roleB at h
  simp only [Bool.and_eq_true, decide_eq_true_eq] at h
  obtain ⟨⟨⟨⟨-, hp⟩, hl⟩, -⟩, -⟩ := h
  unfold nameOk at hp ⊢
  simp only [Bool.and_eq_true, decide_eq_true_eq] at hp ⊢
  have hlen : (uName r n).length = r.fPrefix.length + 6 := by simp [uName, six]
  refine ⟨⟨by omega, ?_⟩, by omega⟩
  unfold uName six
  rw [List.all_append, hp.2]
  simp [decB_name]
theorem makeUser_ok [MaxL GG] [P10 GG] (f : GFar) (r : GRole) (key : Int) (hf : fitFar f) (hb : farB f = true) (h1 : r.fName.length ≤ 1048576) (h2 : r.fPrefix.length ≤ 1048576) :
    Valid PP GG 101 [.agg f.c, .agg r.c, .d (.int .i64 key)] (.tup [.agg (muF f r key).o, .agg (muU f r key).o, .d (.int .i64 (muC f r key))]) [none, none, none] := by
  refine cv Tryz.func101 [.agg (muF f r key).o, .agg (muU f r key).o, .d (.int .i64 (muC f r key))] ?_
  obtain ⟨q1, q2, q3, q4, q5⟩ := (far_iff f).1 hb
  have hff := inB_true q2
  have hfm := inB_true q3
  have cro := isRole_ok (GG := GG) r h1 h2
  have cke := isKey_ok (GG := GG) key
  have hun := fun h => uName_ok (r := r) h (f.fMade + 1)
  have cui := userIndex_ok (GG := GG) f (uName r (f.fMade + 1)) hf.1 hb
  have hsp := (lessN_split (key := GUser.fName) (uName r (f.fMade + 1)) q5).1
  have cun := userName_ok (GG := GG) r (f.fMade + 1) h2 (by omega)
  have cup := fun h h' => userPass_ok (GG := GG) key (uName r (f.fMade + 1)) h h'
  have cin := InsertUser_ok (GG := GG) f.fUsers (muN f r key) (lessN GUser.fName (uName r (f.fMade + 1)) f.fUsers) hsp hf.1
  have hC : muC f r key = if (roleB r && keyB key && !decide (f.fMade = 1000000000)) = false then 1 else if 0 < f.fFail then 2 else if (f.fUsers.any fun u => u.fName == uName r (f.fMade + 1)) = true then 3 else if f.fUsers.length = 120 then 4 else 0 := rfl
  have hN : muN f r key = ⟨uName r (f.fMade + 1), uPass key (uName r (f.fMade + 1))⟩ := rfl
  have hU : muU f r key = if muC f r key = 0 then muN f r key else zUser := rfl
  have hF : muF f r key = if muC f r key = 2 then { f with fFail := f.fFail - 1 } else if muC f r key = 3 then { f with fMade := f.fMade + 1 } else if muC f r key = 0 then ⟨putUs f.fUsers (muN f r key), f.fFail, f.fMade + 1⟩ else f := rfl
  have hP : f.fUsers.take (lessN GUser.fName (uName r (f.fMade + 1)) f.fUsers) ++ muN f r key :: f.fUsers.drop (lessN GUser.fName (uName r (f.fMade + 1)) f.fUsers) = putUs f.fUsers (muN f r key) := rfl
  rw [hP] at cin
  clear hP hsp
  generalize muF f r key = F at *
  generalize muU f r key = U at *
  generalize muC f r key = CC at *
  generalize muN f r key = NN at *
  generalize uName r (f.fMade + 1) = nm at *
  generalize uPass key nm = pw at *
  obtain ⟨us, ff, fm⟩ := f
  have ccp := cloneFar_ok (GG := GG) us ff fm (by have := hf.1; dsimp only at this; omega)
  dsimp only at *
  have hnl := fun h => (hun h).2
  generalize putUs us NN = PU at *
  generalize lessN GUser.fName nm us = k at *
  generalize roleB r = R at *
  generalize keyB key = KB at *
  have hi3 := ind_rUser us
  have hi4 := ind_rUser PU
  obtain ⟨r1, r2, r3, r4⟩ := r
  cases R
  · simp only [Bool.false_and, if_true] at hC
    subst hC
    simp only [Int.reduceEq, if_false] at hU hF
    subst hU hF
    exact u_48 (Z2 cro ccp)
  cases KB
  · simp only [Bool.and_false, Bool.false_and, if_true] at hC
    subst hC
    simp only [Int.reduceEq, if_false] at hU hF
    subst hU hF
    exact u_48 (Z3 cro ccp cke)
  by_cases hmx : fm = 1000000000
  · rw [decide_eq_true hmx] at hC
    simp only [Bool.not_true, Bool.and_false, if_true] at hC
    subst hC
    simp only [Int.reduceEq, if_false] at hU hF
    subst hU hF hmx
    exact u_48 (Z3 cro ccp cke)
  rw [decide_eq_false hmx] at hC
  simp only [Bool.not_false, Bool.and_self, Bool.true_eq_false, if_false] at hC
  have hmx2 : (fm == 1000000000) = false := by simpa using hmx
  by_cases hfp : 0 < ff
  · rw [if_pos hfp] at hC
    subst hC
    simp only [Int.reduceEq, if_false, if_true] at hU hF
    subst hU hF
    have hw : IntKind.i64.wrap (ff - 1) = ff - 1 := wrap_id (by omega) (by omega)
    exact u_49 (Y2 hmx2 hw) (Z3 cro ccp cke)
  rw [if_neg hfp] at hC
  have cun := cun (by omega)
  have cup := cup rfl (by have := hnl rfl; omega)
  have hw1 : IntKind.i64.wrap (fm + 1) = fm + 1 := wrap_id (by omega) (by omega)
  by_cases hex : (us.any fun u => u.fName == nm) = true
  · rw [if_pos hex] at hC
    rw [hex] at cui
    subst hC
    simp only [Int.reduceEq, if_false, if_true] at hU hF
    subst hU hF
    exact u_49 (Y2 hmx2 hw1) (Z5 cro ccp cke cun cui)
  rw [if_neg hex] at hC
  have hex2 : (us.any fun u => u.fName == nm) = false := by simpa using hex
  rw [hex2] at cui
  by_cases hfull : us.length = 120
  · rw [if_pos hfull] at hC
    subst hC
    simp only [Int.reduceEq, if_false, if_true] at hU hF
    subst hU hF
    exact u_49 (Y3 hmx2 hw1 hfull) (Z5 cro ccp cke cun cui)
  rw [if_neg hfull] at hC
  subst hC
  simp only [Int.reduceEq, if_false, if_true] at hU hF
  subst hU hF hN
  have hfull2 : ((us.length : Int) == 120) = false := by simp; omega
  exact u_49 (Y3 hmx2 hw1 hfull2) (Z7 cro ccp cke cun cui cup cin)
def guOk (w : GWorld) (tok : Int) (r : GRole) (key : Int) (path : List UInt8) : Bool := roleB r && keyB key && grantB w tok path r.fTtl r.fLimit && !decide (w.fFar.fMade = 1000000000)
def guC (w : GWorld) (tok : Int) (r : GRole) (key : Int) (path : List UInt8) : Int := if guOk w tok r key path = false then 1 else if muC w.fFar r key = 0 then 0 else 2
def guU (w : GWorld) (tok : Int) (r : GRole) (key : Int) (path : List UInt8) : GUser := if guC w tok r key path = 0 then muU w.fFar r key else zUser
def guI (w : GWorld) (tok : Int) (r : GRole) (key : Int) (path : List UInt8) : Int := if guC w tok r key path = 0 then w.fNext else 0
def guW (w : GWorld) (tok : Int) (r : GRole) (key : Int) (path : List UInt8) : GWorld :=
  if guC w tok r key path = 1 then w else if guC w tok r key path = 2 then { w with fFar := muF w.fFar r key } else { grantW w tok path r.fTtl r.fLimit with fFar := muF w.fFar r key, fOwned := w.fOwned ++ [⟨w.fNext, (muU w.fFar r key).fName⟩] }
theorem world_far {w : GWorld} (h : worldB w = true) : farB w.fFar = true := by
  unfold worldB at h; simp only [Bool.and_eq_true] at h; exact h.1.1.1.1.2
theorem grant_is {w : GWorld} {tok : Int} {path : List UInt8} {ttl limit : Int} : (grantB w tok path ttl limit = false ∧ grantI w tok path ttl limit = 0 ∧ grantW w tok path ttl limit = w) ∨
    (worldB w = true ∧ grantB w tok path ttl limit = true ∧ grantI w tok path ttl limit = w.fNext ∧ 1 ≤ w.fNext ∧ grantW w tok path ttl limit = { w with fBook := ⟨w.fBook.fLeases ++ [newL w tok path ttl limit]⟩, fNext := w.fNext + 1 }) := by
  cases h : grantB w tok path ttl limit with
  | false => exact .inl ⟨rfl, by unfold grantI; rw [h]; rfl, by unfold grantW; rw [h]; rfl⟩
  | true =>
    have hw : worldB w = true := by unfold grantB at h; simp only [Bool.and_eq_true] at h; exact h.1.1
    exact .inr ⟨hw, rfl, by unfold grantI; rw [h]; rfl, (world_nums hw).2.1.1, by unfold grantW; rw [h]; rfl⟩
theorem grantUser_ok [MaxL GG] [P10 GG] (w : GWorld) (tok : Int) (r : GRole) (key : Int) (path : List UInt8) (hf : fitW w) (hwb : worldB w = true) (hp : path.length ≤ 1048576) (h1 : r.fName.length ≤ 1048576) (h2 : r.fPrefix.length ≤ 1048576) :
    Valid PP GG 49 [.agg w.c, .d (.int .i64 tok), .agg r.c, .d (.int .i64 key), .d (.str path)] (.tup [.agg (guW w tok r key path).o, .agg (guU w tok r key path).o, .d (.int .i64 (guI w tok r key path)), .d (.int .i64 (guC w tok r key path))]) [none, none, none, none, none] := by
  refine cv Tryz.func49 [.agg (guW w tok r key path).o, .agg (guU w tok r key path).o, .d (.int .i64 (guI w tok r key path)), .d (.int .i64 (guC w tok r key path))] ?_
  have cro := isRole_ok (GG := GG) r h1 h2
  have cke := isKey_ok (GG := GG) key
  have ccp := cloneWorld_ok (GG := GG) w hf
  have cgl := grantLease_ok (GG := GG) w tok path r.fTtl r.fLimit hf hp hwb
  have cmu := makeUser_ok (GG := GG) w.fFar r key hf.2.2.1 (world_far hwb) h1 h2
  have hK : guOk w tok r key path = (roleB r && keyB key && grantB w tok path r.fTtl r.fLimit && !decide (w.fFar.fMade = 1000000000)) := rfl
  have hC : guC w tok r key path = if guOk w tok r key path = false then 1 else if muC w.fFar r key = 0 then 0 else 2 := rfl
  have hU : guU w tok r key path = if guC w tok r key path = 0 then muU w.fFar r key else zUser := rfl
  have hI : guI w tok r key path = if guC w tok r key path = 0 then w.fNext else 0 := rfl
  have hW : guW w tok r key path = if guC w tok r key path = 1 then w else if guC w tok r key path = 2 then { w with fFar := muF w.fFar r key } else { grantW w tok path r.fTtl r.fLimit with fFar := muF w.fFar r key, fOwned := w.fOwned ++ [⟨w.fNext, (muU w.fFar r key).fName⟩] } := rfl
  have hol := hf.2.2.2.2.1
  have hgi := grant_is (w := w) (tok := tok) (path := path) (ttl := r.fTtl) (limit := r.fLimit)
  generalize guW w tok r key path = W at *
  generalize guU w tok r key path = U at *
  generalize guI w tok r key path = I at *
  generalize guC w tok r key path = CC at *
  generalize guOk w tok r key path = OK at *
  generalize muF w.fFar r key = F at *
  generalize muU w.fFar r key = MU at *
  generalize muC w.fFar r key = MC at *
  generalize newL w tok path r.fTtl r.fLimit = NL at *
  generalize grantW w tok path r.fTtl r.fLimit = GW at *
  generalize grantI w tok path r.fTtl r.fLimit = GI at *
  generalize grantB w tok path r.fTtl r.fLimit = GB at *
  obtain ⟨now, next, lost, ⟨tk⟩, ⟨ls⟩, ⟨us, ff, fm⟩, ⟨js⟩, ow⟩ := w
  obtain ⟨r1, r2, r3, r4⟩ := r
  generalize roleB ⟨r1, r2, r3, r4⟩ = R at *
  generalize keyB key = KB at *
  dsimp only at *
  have hi1 := ind_rToken tk
  have hi2 := ind_rLease ls
  have hi3 := ind_rUser us
  have hi4 := ind_rJob js
  have hi5 := ind_rOwned ow
  cases R
  · simp only [Bool.false_and] at hK
    subst hK
    simp only [if_true] at hC
    subst hC
    simp only [Int.reduceEq, if_false, if_true] at hU hI hW
    subst hU hI hW
    exact u_48 (Z2 cro ccp)
  cases KB
  · simp only [Bool.and_false, Bool.false_and] at hK
    subst hK
    simp only [if_true] at hC
    subst hC
    simp only [Int.reduceEq, if_false, if_true] at hU hI hW
    subst hU hI hW
    exact u_48 (Z3 cro cke ccp)
  by_cases hmx : fm = 1000000000
  · rw [decide_eq_true hmx] at hK
    simp only [Bool.not_true, Bool.and_false] at hK
    subst hK
    simp only [if_true] at hC
    subst hC
    simp only [Int.reduceEq, if_false, if_true] at hU hI hW
    subst hU hI hW hmx
    exact u_48 (Z3 cro cke ccp)
  have hmx2 : (fm == 1000000000) = false := by simpa using hmx
  rw [decide_eq_false hmx] at hK
  rcases hgi with ⟨rfl, rfl, rfl⟩ | ⟨-, rfl, e1, hnx, rfl⟩
  · simp only [Bool.and_false, Bool.false_and] at hK
    subst hK
    simp only [if_true] at hC
    subst hC
    simp only [Int.reduceEq, if_false, if_true] at hU hI hW
    subst hU hI hW
    exact u_49 hmx2 (Z4 cro cke ccp cgl)
  rw [e1] at cgl
  clear e1
  have hnz : (next == 0) = false := by simp; omega
  simp only [Bool.not_false, Bool.and_self] at hK
  subst hK
  simp only [Bool.true_eq_false, if_false] at hC
  have hi6 := ind_rLease (ls ++ [NL])
  obtain ⟨fu, f1, f2⟩ := F
  have hi7 := ind_rUser fu
  obtain ⟨mn, mp⟩ := MU
  by_cases hmc : MC = 0
  · rw [if_pos hmc] at hC
    subst hC hmc
    simp only [Int.reduceEq, if_false, if_true] at hU hI hW
    subst hU hW
    rw [hI]
    clear hI
    have hrl := rOwned_len ow
    refine u_42 (Y2 hnz hmx2) (Z5 cro cke ccp cgl cmu) ?_
    rw [rOwned_app]; rfl
  · rw [if_neg hmc] at hC
    subst hC
    simp only [Int.reduceEq, if_false, if_true] at hU hI hW
    subst hU hI hW
    have hmc2 : (MC == 0) = false := by simpa using hmc
    exact u_49 (Y3 hnz hmx2 hmc2) (Z5 cro cke ccp cgl cmu)
theorem gu_bad {w : GWorld} {tok : Int} {r : GRole} {key : Int} {path : List UInt8} (h : worldB w = false) : guW w tok r key path = w ∧ guU w tok r key path = zUser ∧ guI w tok r key path = 0 ∧ guC w tok r key path = 1 := by
  have hg : grantB w tok path r.fTtl r.fLimit = false := by unfold grantB; rw [h]; rfl
  have hk : guOk w tok r key path = false := by unfold guOk; rw [hg]; simp
  have hc : guC w tok r key path = 1 := by unfold guC; rw [hk]; rfl
  unfold guW guU guI
  rw [hc]
  exact ⟨rfl, rfl, rfl, rfl⟩
theorem i_GrantUser_ok [MaxL GG] [P10 GG] (w : GWorld) (tok : Int) (r : GRole) (key : Int) (path : List UInt8) (hf : fitW w) (hp : path.length ≤ 1048576) (h1 : r.fName.length ≤ 1048576) (h2 : r.fPrefix.length ≤ 1048576) :
    Valid PP GG 13 [.agg w.c, .d (.int .i64 tok), .agg r.c, .d (.int .i64 key), .d (.str path)] (.tup [.agg (guW w tok r key path).o, .agg (guU w tok r key path).o, .d (.int .i64 (guI w tok r key path)), .d (.int .i64 (guC w tok r key path))]) [none, none, none, none, none] := by
  refine cv Tryz.func13 [.agg (guW w tok r key path).o, .agg (guU w tok r key path).o, .d (.int .i64 (guI w tok r key path)), .d (.int .i64 (guC w tok r key path))] ?_
  have cw := isWorld_ok (GG := GG) w hf
  have ccp := cloneWorld_ok (GG := GG) w hf
  have cgu := fun h => grantUser_ok (GG := GG) w tok r key path hf h hp h1 h2
  have hbad := fun h => gu_bad (w := w) (tok := tok) (r := r) (key := key) (path := path) h
  generalize guW w tok r key path = W at *
  generalize guU w tok r key path = U at *
  generalize guI w tok r key path = I at *
  generalize guC w tok r key path = CC at *
  have hi1 := ind_rToken W.fForest.fTokens
  have hi2 := ind_rLease W.fBook.fLeases
  have hi3 := ind_rUser W.fFar.fUsers
  have hi4 := ind_rJob W.fQueue.fJobs
  have hi5 := ind_rOwned W.fOwned
  cases h : worldB w with
  | false =>
    rw [h] at cw
    obtain ⟨rfl, rfl, rfl, rfl⟩ := hbad h
    exact u_48 (Z2 cw ccp)
  | true =>
    rw [h] at cw
    have cgu := cgu h
    exact u_26 (Z2 cw cgu)
def sw2 {α : Type} (a : List α) (i j : Nat) : List α := match a[i]?, a[j]? with | some x, some y => (a.set i y).set j x | _, _ => a
def swR {α : Type} (a b : Nat) : Nat → Nat → List α → List α
  | 0, _, l => l
  | k + 1, i, l => swR a b k (i + 1) (sw2 l (a + i) (b + i))
def insJ {α : Type} (lt : α → α → Bool) (a : Nat) : Nat → List α → List α
  | 0, l => l
  | j + 1, l => if a < j + 1 then (match l[j + 1]?, l[j]? with | some x, some y => if lt x y then insJ lt a j (sw2 l (j + 1) j) else l | _, _ => l) else l
def insO {α : Type} (lt : α → α → Bool) (a : Nat) : Nat → Nat → List α → List α
  | 0, _, l => l
  | k + 1, i, l => insO lt a k (i + 1) (insJ lt a i l)
def insS {α : Type} (lt : α → α → Bool) (a b : Nat) (l : List α) : List α := insO lt a (b - (a + 1)) (a + 1) l
def rotG {α : Type} (m : Nat) : Nat → Nat → Nat → List α → List α
  | 0, _, _, l => l
  | k + 1, i, j, l => if i = j then swR (m - i) m i 0 l else if j < i then rotG m k (i - j) j (swR (m - i) m j 0 l) else rotG m k i (j - i) (swR (m - i) (m + j - i) i 0 l)
def rot {α : Type} (a m b : Nat) (l : List α) : List α := rotG m (b - a) (m - a) (b - m) l
def bsG (f : Nat → Bool) : Nat → Nat → Nat → Nat
  | 0, i, _ => i
  | k + 1, i, j => if i < j then (if f ((i + j) / 2) then bsG f k ((i + j) / 2 + 1) j else bsG f k i ((i + j) / 2)) else i
def bs (f : Nat → Bool) (i j : Nat) : Nat := bsG f (j - i) i j
def ltA {α : Type} (lt : α → α → Bool) (l : List α) (i j : Nat) : Bool := match l[i]?, l[j]? with | some x, some y => lt x y | _, _ => false
def upS {α : Type} : Nat → Nat → List α → List α
  | 0, _, l => l
  | k + 1, i, l => upS k (i + 1) (sw2 l i (i + 1))
def dnS {α : Type} : Nat → Nat → List α → List α
  | 0, _, l => l
  | k + 1, i, l => dnS k (i - 1) (sw2 l i (i - 1))
def symS {α : Type} (lt : α → α → Bool) (a m b : Nat) (l : List α) : Nat :=
  if (a + b) / 2 < m then bs (fun c => !ltA lt l ((a + b) / 2 + m - 1 - c) c) ((a + b) / 2 + m - b) ((a + b) / 2) else bs (fun c => !ltA lt l ((a + b) / 2 + m - 1 - c) c) a m
def symC {α : Type} (p : Prop) [Decidable p] (f : List α → List α) (l : List α) : List α := if p then f l else l
def symR {α : Type} (f : Nat → Nat → Nat → List α → List α) (a m b s : Nat) (l : List α) : List α :=
  symC ((a + b) / 2 < (a + b) / 2 + m - s ∧ (a + b) / 2 + m - s < b) (f ((a + b) / 2) ((a + b) / 2 + m - s) b) (symC (a < s ∧ s < (a + b) / 2) (f a s ((a + b) / 2)) (symC (s < m ∧ m < (a + b) / 2 + m - s) (rot s m ((a + b) / 2 + m - s)) l))
def symM {α : Type} (lt : α → α → Bool) : Nat → Nat → Nat → Nat → List α → List α
  | 0, _, _, _, l => l
  | k + 1, a, m, b, l =>
    if m - a = 1 then upS (bs (fun h => ltA lt l h a) m b - 1 - a) a l
    else if b - m = 1 then dnS (m - bs (fun h => !ltA lt l m h) a m) m l
    else symR (symM lt k) a m b (symS lt a m b l) l
def stIns {α : Type} (lt : α → α → Bool) (n : Nat) : Nat → Nat → List α → List α
  | 0, a, l => insS lt a n l
  | k + 1, a, l => if a + 20 ≤ n then stIns lt n k (a + 20) (insS lt a (a + 20) l) else insS lt a n l
def stMrg {α : Type} (lt : α → α → Bool) (n s : Nat) : Nat → Nat → List α → List α
  | 0, _, l => l
  | k + 1, a, l => if a + 2 * s ≤ n then stMrg lt n s k (a + 2 * s) (symM lt (2 * s) a (a + s) (a + 2 * s) l) else if a + s < n then symM lt (n - a) a (a + s) n l else l
def stGo {α : Type} (lt : α → α → Bool) (n : Nat) : Nat → Nat → List α → List α
  | 0, _, l => l
  | k + 1, s, l => if s < n then stGo lt n k (2 * s) (stMrg lt n s n 0 l) else l
def stable {α : Type} (lt : α → α → Bool) (l : List α) : List α := stGo lt l.length l.length 20 (stIns lt l.length l.length 0 l)
theorem sw2_len {α : Type} (l : List α) (i j : Nat) : (sw2 l i j).length = l.length := by unfold sw2; split <;> simp
theorem swR_len {α : Type} (a b : Nat) : ∀ (k i : Nat) (l : List α), (swR a b k i l).length = l.length
  | 0, _, l => rfl
  | k + 1, i, l => by rw [swR, swR_len a b k, sw2_len]
theorem insJ_len {α : Type} (lt : α → α → Bool) (a : Nat) : ∀ (j : Nat) (l : List α), (insJ lt a j l).length = l.length
  | 0, l => rfl
  | j + 1, l => by
    rw [insJ]
    split
    · split
      · split
        · rw [insJ_len lt a j, sw2_len]
        · rfl
      · rfl
    · rfl
theorem insO_len {α : Type} (lt : α → α → Bool) (a : Nat) : ∀ (k i : Nat) (l : List α), (insO lt a k i l).length = l.length
  | 0, _, l => rfl
  | k + 1, i, l => by rw [insO, insO_len lt a k, insJ_len]
theorem insS_len {α : Type} (lt : α → α → Bool) (a b : Nat) (l : List α) : (insS lt a b l).length = l.length := insO_len lt a _ _ l
theorem rotG_len {α : Type} (m : Nat) : ∀ (k i j : Nat) (l : List α), (rotG m k i j l).length = l.length
  | 0, _, _, l => rfl
  | k + 1, i, j, l => by
    rw [rotG]
    split
    · rw [swR_len]
    · split
      · rw [rotG_len m k, swR_len]
      · rw [rotG_len m k, swR_len]
theorem rot_len {α : Type} (a m b : Nat) (l : List α) : (rot a m b l).length = l.length := rotG_len m _ _ _ l
theorem upS_len {α : Type} : ∀ (k i : Nat) (l : List α), (upS k i l).length = l.length
  | 0, _, l => rfl
  | k + 1, i, l => by rw [upS, upS_len k, sw2_len]
theorem dnS_len {α : Type} : ∀ (k i : Nat) (l : List α), (dnS k i l).length = l.length
  | 0, _, l => rfl
  | k + 1, i, l => by rw [dnS, dnS_len k, sw2_len]
theorem symC_len {α : Type} (p : Prop) [Decidable p] (f : List α → List α) (l : List α) (h : ∀ l, (f l).length = l.length) : (symC p f l).length = l.length := by
  unfold symC; split
  · exact h l
  · rfl
theorem symM_len {α : Type} (lt : α → α → Bool) : ∀ (k a m b : Nat) (l : List α), (symM lt k a m b l).length = l.length
  | 0, _, _, _, l => rfl
  | k + 1, a, m, b, l => by
    rw [symM]
    split
    · rw [upS_len]
    split
    · rw [dnS_len]
    rw [symR, symC_len _ _ _ (symM_len lt k _ _ _), symC_len _ _ _ (symM_len lt k _ _ _), symC_len _ _ _ (rot_len _ _ _)]
theorem stIns_len {α : Type} (lt : α → α → Bool) (n : Nat) : ∀ (k a : Nat) (l : List α), (stIns lt n k a l).length = l.length
  | 0, a, l => by rw [stIns, insS_len]
  | k + 1, a, l => by
    rw [stIns]; split
    · rw [stIns_len lt n k, insS_len]
    · rw [insS_len]
theorem stMrg_len {α : Type} (lt : α → α → Bool) (n s : Nat) : ∀ (k a : Nat) (l : List α), (stMrg lt n s k a l).length = l.length
  | 0, _, l => rfl
  | k + 1, a, l => by
    rw [stMrg]; split
    · rw [stMrg_len lt n s k, symM_len]
    · split
      · rw [symM_len]
      · rfl
theorem stGo_len {α : Type} (lt : α → α → Bool) (n : Nat) : ∀ (k s : Nat) (l : List α), (stGo lt n k s l).length = l.length
  | 0, _, l => rfl
  | k + 1, s, l => by
    rw [stGo]; split
    · rw [stGo_len lt n k, stMrg_len]
    · rfl
theorem sw2_at {α : Type} (Q U V : List α) (x y : α) : sw2 (Q ++ x :: (U ++ y :: V)) Q.length (Q.length + (U.length + 1)) = Q ++ y :: (U ++ x :: V) := by
  unfold sw2
  have h1 : (Q ++ x :: (U ++ y :: V))[Q.length]? = some x := by simp
  have h2 : (Q ++ x :: (U ++ y :: V))[Q.length + (U.length + 1)]? = some y := by
    rw [List.getElem?_append_right (by omega)]; simp
  rw [h1, h2]; simp only []
  rw [List.set_append_right _ _ (Nat.le_refl _), List.set_append_right _ _ (by omega)]
  simp
theorem sw2_up {α : Type} (Q V : List α) (x y : α) : sw2 (Q ++ x :: y :: V) Q.length (Q.length + 1) = Q ++ y :: x :: V := by
  have := sw2_at Q [] V x y; simpa using this
theorem sw2_dn {α : Type} (Q V : List α) (x y : α) : sw2 (Q ++ x :: y :: V) (Q.length + 1) Q.length = Q ++ y :: x :: V := by
  unfold sw2
  have h1 : (Q ++ x :: y :: V)[Q.length]? = some x := by simp
  have h2 : (Q ++ x :: y :: V)[Q.length + 1]? = some y := by
    rw [List.getElem?_append_right (by omega)]; simp
  rw [h1, h2]; simp only []
  rw [List.set_append_right _ _ (by omega), List.set_append_right _ _ (by omega)]
  simp
theorem swR_at {α : Type} (a b : Nat) : ∀ (X Y Q N S : List α) (i : Nat), X.length = Y.length → a + i = Q.length → b + i = Q.length + X.length + N.length →
    swR a b X.length i (Q ++ (X ++ (N ++ (Y ++ S)))) = Q ++ (Y ++ (N ++ (X ++ S)))
  | [], [], Q, N, S, i, _, _, _ => rfl
  | x :: X, y :: Y, Q, N, S, i, h, ha, hb => by
    simp only [List.length_cons] at h hb ⊢
    rw [swR]
    have e : sw2 (Q ++ (x :: X ++ (N ++ (y :: Y ++ S)))) (a + i) (b + i) = (Q ++ [y]) ++ (X ++ ((N ++ [x]) ++ (Y ++ S))) := by
      have := sw2_at Q (X ++ N) (Y ++ S) x y
      rw [ha, hb]
      have e2 : Q.length + (X.length + 1) + N.length = Q.length + ((X ++ N).length + 1) := by simp <;> omega
      rw [e2]
      simpa using this
    rw [e, swR_at a b X Y (Q ++ [y]) (N ++ [x]) S (i + 1) (by omega) (by simp <;> omega) (by simp <;> omega)]
    simp
theorem swR_mid {α : Type} (X N Y Q S : List α) (h : X.length = Y.length) : swR Q.length (Q.length + X.length + N.length) X.length 0 (Q ++ (X ++ (N ++ (Y ++ S)))) = Q ++ (Y ++ (N ++ (X ++ S))) :=
  swR_at _ _ X Y Q N S 0 h rfl rfl
theorem split_at {α : Type} (l : List α) (n : Nat) (h : n ≤ l.length) : ∃ A B, l = A ++ B ∧ A.length = n := ⟨l.take n, l.drop n, by simp, by simp <;> omega⟩
theorem rotG_at {α : Type} : ∀ (k : Nat) (P A B S : List α), A.length + B.length ≤ k → 0 < A.length → 0 < B.length → rotG (P.length + A.length) k A.length B.length (P ++ (A ++ (B ++ S))) = P ++ (B ++ (A ++ S))
  | 0, P, A, B, S, h, h1, _ => by omega
  | k + 1, P, A, B, S, h, h1, h2 => by
    rw [rotG]
    split
    · rename_i e
      have := swR_mid A [] B P S e
      simpa using this
    · split
      · rename_i hne hlt
        obtain ⟨A1, A2, rfl, hl⟩ := split_at A B.length (by omega)
        have hs := swR_mid A1 A2 B P S hl
        simp only [List.length_append] at hne hlt h h1 ⊢
        rw [show P.length + (A1.length + A2.length) - (A1.length + A2.length) = P.length by omega]
        have e1 : swR P.length (P.length + (A1.length + A2.length)) B.length 0 (P ++ (A1 ++ A2 ++ (B ++ S))) = (P ++ B) ++ (A2 ++ (A1 ++ S)) := by
          rw [← hl, show P.length + (A1.length + A2.length) = P.length + A1.length + A2.length by omega]; simpa using hs
        rw [e1]
        have := rotG_at k (P ++ B) A2 A1 S (by omega) (by omega) (by omega)
        simp only [List.length_append] at this
        rw [show P.length + B.length + A2.length = P.length + (A1.length + A2.length) by omega, ] at this
        rw [show A1.length + A2.length - B.length = A2.length by omega, ← hl]
        rw [this]; simp
      · rename_i hne hlt
        obtain ⟨B1, B2, rfl, hl⟩ := split_at B (B.length - A.length) (by omega)
        simp only [List.length_append] at hne hlt h h2 hl ⊢
        have hs := swR_mid A B1 B2 P S (by omega)
        rw [show P.length + A.length - A.length = P.length by omega, show P.length + A.length + (B1.length + B2.length) - A.length = P.length + A.length + B1.length by omega]
        have e1 : swR P.length (P.length + A.length + B1.length) A.length 0 (P ++ (A ++ (B1 ++ B2 ++ S))) = P ++ (B2 ++ (B1 ++ (A ++ S))) := by simpa using hs
        rw [e1]
        have := rotG_at k P B2 B1 (A ++ S) (by omega) (by omega) (by omega)
        rw [show A.length = B2.length by omega, show B1.length + B2.length - B2.length = B1.length by omega, this]; simp
theorem rot_at {α : Type} (P A B S : List α) (h1 : 0 < A.length) (h2 : 0 < B.length) : rot P.length (P.length + A.length) (P.length + A.length + B.length) (P ++ (A ++ (B ++ S))) = P ++ (B ++ (A ++ S)) := by
  unfold rot
  have := rotG_at (A.length + B.length) P A B S (Nat.le_refl _) h1 h2
  rw [show P.length + A.length + B.length - P.length = A.length + B.length by omega, show P.length + A.length - P.length = A.length by omega, show P.length + A.length + B.length - (P.length + A.length) = B.length by omega]
  exact this
theorem upS_at {α : Type} : ∀ (B P S : List α) (x : α), upS B.length P.length (P ++ x :: (B ++ S)) = P ++ (B ++ x :: S)
  | [], P, S, x => rfl
  | y :: B, P, S, x => by
    simp only [List.length_cons]
    rw [upS, List.cons_append, sw2_up]
    have := upS_at B (P ++ [y]) S x
    simpa using this
theorem dnS_at {α : Type} : ∀ (n : Nat) (B P S : List α) (x : α), B.length = n → dnS B.length (P.length + B.length) (P ++ (B ++ x :: S)) = P ++ x :: (B ++ S)
  | 0, B, P, S, x, h => by cases B with | nil => rfl | cons y B => simp at h
  | n + 1, B, P, S, x, h => by
    obtain ⟨B', y, rfl⟩ : ∃ B' y, B = B' ++ [y] := ⟨B.dropLast, B.getLast (by intro e; simp [e] at h), (List.dropLast_concat_getLast _).symm⟩
    simp only [List.length_append, List.length_singleton] at h ⊢
    rw [dnS]
    have := sw2_dn (P ++ B') S y x
    have e : sw2 (P ++ (B' ++ [y] ++ x :: S)) (P.length + (B'.length + 1)) (P.length + (B'.length + 1) - 1) = P ++ (B' ++ x :: (y :: S)) := by
      rw [show P.length + (B'.length + 1) - 1 = (P ++ B').length by simp <;> omega, show P.length + (B'.length + 1) = (P ++ B').length + 1 by simp <;> omega]
      simpa using this
    rw [e, show P.length + (B'.length + 1) - 1 = P.length + B'.length by omega, dnS_at n B' P (y :: S) x (by omega)]
    simp
theorem bsG_spec (f : Nat → Bool) (i0 j0 : Nat) : ∀ (k i j : Nat), j - i ≤ k → i ≤ j → i0 ≤ i → j ≤ j0 → (i = i0 ∨ f (i - 1) = true) → (j = j0 ∨ f j = false) →
    i0 ≤ bsG f k i j ∧ bsG f k i j ≤ j0 ∧ (bsG f k i j = i0 ∨ (i0 < bsG f k i j ∧ f (bsG f k i j - 1) = true)) ∧ (bsG f k i j = j0 ∨ f (bsG f k i j) = false)
  | 0, i, j, h1, h2, h3, h4, h5, h6 => by
    have : i = j := by omega
    subst this
    simp only [bsG]
    exact ⟨h3, h4, by by_cases e : i = i0 <;> simp [e] <;> rcases h5 with h5 | h5 <;> first | exact absurd h5 e | exact ⟨by omega, h5⟩, h6⟩
  | k + 1, i, j, h1, h2, h3, h4, h5, h6 => by
    rw [bsG]
    split
    · split
      · rename_i hf
        exact bsG_spec f i0 j0 k _ j (by omega) (by omega) (by omega) h4 (Or.inr (by simpa using hf)) h6
      · rename_i hf
        exact bsG_spec f i0 j0 k i _ (by omega) (by omega) h3 (by omega) h5 (Or.inr (by simpa using hf))
    · have : i = j := by omega
      subst this
      exact ⟨h3, h4, by by_cases e : i = i0 <;> simp [e] <;> rcases h5 with h5 | h5 <;> first | exact absurd h5 e | exact ⟨by omega, h5⟩, h6⟩
theorem bs_spec (f : Nat → Bool) (i j : Nat) (h : i ≤ j) : i ≤ bs f i j ∧ bs f i j ≤ j ∧ (bs f i j = i ∨ (i < bs f i j ∧ f (bs f i j - 1) = true)) ∧ (bs f i j = j ∨ f (bs f i j) = false) :=
  bsG_spec f i j (j - i) i j (Nat.le_refl _) h (Nat.le_refl _) (Nat.le_refl _) (Or.inl rfl) (Or.inl rfl)
def TB {α : Type} (lt : α → α → Bool) (R : α → α → Prop) (u x : α) : Prop := (lt x u = true → R x u) ∧ (lt x u = false → R u x)
theorem ltA_app {α : Type} (lt : α → α → Bool) {l : List α} {i j : Nat} {x y : α} (h1 : l[i]? = some x) (h2 : l[j]? = some y) : ltA lt l i j = lt x y := by unfold ltA; rw [h1, h2]
theorem app_at {α : Type} (P S : List α) (x : α) : (P ++ x :: S)[P.length]? = some x := by simp
theorem insJ_at {α : Type} {lt : α → α → Bool} {R : α → α → Prop} (htr : ∀ a b c : α, R a b → R b c → R a c) : ∀ (n : Nat) (P U V : List α) (x : α), U.length = n → U.Pairwise R → (∀ u, u ∈ U → TB lt R u x) →
    ∃ W, insJ lt P.length (P.length + U.length) (P ++ (U ++ x :: V)) = P ++ (W ++ V) ∧ W.Perm (U ++ [x]) ∧ W.Pairwise R
  | 0, P, U, V, x, hn, _, _ => by
    have : U = [] := List.length_eq_zero_iff.1 hn
    subst this
    refine ⟨[x], ?_, List.Perm.refl _, List.pairwise_singleton _ _⟩
    have : insJ lt P.length P.length (P ++ x :: V) = P ++ x :: V := by
      cases hP : P.length with
      | zero => rfl
      | succ k => rw [insJ, if_neg (by omega)]
    simpa using this
  | n + 1, P, U, V, x, hn, hs, ht => by
    obtain ⟨U', y, rfl⟩ : ∃ U' y, U = U' ++ [y] := ⟨U.dropLast, U.getLast (by intro e; simp [e] at hn), (List.dropLast_concat_getLast _).symm⟩
    simp only [List.length_append, List.length_singleton] at hn ⊢
    have ty := ht y (by simp)
    rw [show P.length + (U'.length + 1) = (P.length + U'.length) + 1 by omega, insJ, if_pos (by omega)]
    have e1 : (P ++ (U' ++ [y] ++ x :: V))[P.length + U'.length + 1]? = some x := by
      have := app_at (P ++ (U' ++ [y])) V x
      rw [show (P ++ (U' ++ [y])).length = P.length + U'.length + 1 by simp <;> omega] at this
      simpa using this
    have e2 : (P ++ (U' ++ [y] ++ x :: V))[P.length + U'.length]? = some y := by
      have := app_at (P ++ U') (x :: V) y
      rw [show (P ++ U').length = P.length + U'.length by simp] at this
      simp
    rw [e1, e2]; simp only []
    have hs' := List.pairwise_append.1 hs
    split
    · rename_i hlt
      have e3 : sw2 (P ++ (U' ++ [y] ++ x :: V)) (P.length + U'.length + 1) (P.length + U'.length) = P ++ (U' ++ x :: (y :: V)) := by
        have := sw2_dn (P ++ U') V y x
        rw [show (P ++ U').length = P.length + U'.length by simp] at this
        simpa using this
      rw [e3]
      obtain ⟨W, hW, hp, hw⟩ := insJ_at htr n P U' (y :: V) x (by omega) hs'.1 fun u hu => ht u (by simp [hu])
      refine ⟨W ++ [y], by rw [hW]; simp, ?_, ?_⟩
      · have : (U' ++ [y] ++ [x]).Perm (U' ++ [x] ++ [y]) := by
          simp only [List.append_assoc]; exact List.Perm.append_left _ (List.Perm.swap _ _ _)
        exact (List.Perm.append_right [y] hp).trans this.symm
      · refine List.pairwise_append.2 ⟨hw, List.pairwise_singleton _ _, fun a ha b hb => ?_⟩
        simp at hb; subst hb
        have := hp.mem_iff.1 ha
        simp at this
        rcases this with h | h
        · exact hs'.2.2 a h b (by simp)
        · subst h; exact ty.1 hlt
    · rename_i hlt
      refine ⟨U' ++ [y] ++ [x], by simp, List.Perm.refl _, ?_⟩
      refine List.pairwise_append.2 ⟨hs, List.pairwise_singleton _ _, fun a ha b hb => ?_⟩
      simp at hb; subst hb
      have hyx := ty.2 (by simpa using hlt)
      simp at ha
      rcases ha with h | h
      · exact htr _ _ _ (hs'.2.2 a h y (by simp)) hyx
      · subst h; exact hyx
theorem insO_at {α : Type} {lt : α → α → Bool} {R : α → α → Prop} (htr : ∀ a b c : α, R a b → R b c → R a c) : ∀ (X P U V : List α), U.Pairwise R → (∀ u, u ∈ U → ∀ x, x ∈ X → TB lt R u x) → X.Pairwise (TB lt R) →
    ∃ W, insO lt P.length X.length (P.length + U.length) (P ++ (U ++ (X ++ V))) = P ++ (W ++ V) ∧ W.Perm (U ++ X) ∧ W.Pairwise R
  | [], P, U, V, hs, _, _ => ⟨U, rfl, by simp, hs⟩
  | x :: X, P, U, V, hs, ht, hx => by
    simp only [List.length_cons]
    obtain ⟨W, hW, hp, hw⟩ := insJ_at htr U.length P U (X ++ V) x rfl hs fun u hu => ht u hu x (by simp)
    have hx' := List.pairwise_cons.1 hx
    obtain ⟨W2, hW2, hp2, hw2⟩ := insO_at htr X P W V hw (fun u hu y hy => by
      have := hp.mem_iff.1 hu
      simp at this
      rcases this with h | h
      · exact ht u h y (by simp [hy])
      · subst h; exact hx'.1 y hy) hx'.2
    have hl : W.length = U.length + 1 := by simpa using hp.length_eq
    refine ⟨W2, ?_, ?_, hw2⟩
    · rw [insO, List.cons_append, hW, ← hW2, hl, Nat.add_assoc]
    · refine hp2.trans ?_
      have := List.Perm.append_right X hp
      simpa using this
theorem insS_at {α : Type} {lt : α → α → Bool} {R : α → α → Prop} (htr : ∀ a b c : α, R a b → R b c → R a c) (P X V : List α) (hx : X.Pairwise (TB lt R)) : ∃ W, insS lt P.length (P.length + X.length) (P ++ (X ++ V)) = P ++ (W ++ V) ∧ W.Perm X ∧ W.Pairwise R := by
  cases X with
  | nil =>
    refine ⟨[], ?_, List.Perm.refl _, List.Pairwise.nil⟩
    unfold insS
    rw [show P.length + ([] : List α).length - (P.length + 1) = 0 by simp <;> omega]
    rfl
  | cons x X =>
    have hx' := List.pairwise_cons.1 hx
    obtain ⟨W, hW, hp, hw⟩ := insO_at htr X P [x] V (List.pairwise_singleton _ _) (fun u hu y hy => by simp at hu; subst hu; exact hx'.1 y hy) hx'.2
    refine ⟨W, ?_, by simpa using hp, hw⟩
    unfold insS
    rw [show P.length + (x :: X).length - (P.length + 1) = X.length by simp <;> omega]
    simpa using hW
def SMk {α : Type} (lt : α → α → Bool) (R : α → α → Prop) (k : Nat) : Prop := ∀ P A B S : List α, A.length + B.length ≤ k → 0 < A.length → 0 < B.length → A.Pairwise R → B.Pairwise R → (∀ x, x ∈ A → ∀ y, y ∈ B → TB lt R x y) →
  ∃ C, symM lt k P.length (P.length + A.length) (P.length + A.length + B.length) (P ++ (A ++ (B ++ S))) = P ++ (C ++ S) ∧ C.Perm (A ++ B) ∧ C.Pairwise R
theorem sm_maybe {α : Type} {lt : α → α → Bool} {R : α → α → Prop} {k : Nat} (ih : SMk lt R k) {a m b : Nat} (P A B S : List α) (ha : a = P.length) (hm : m = P.length + A.length) (hb : b = P.length + A.length + B.length) (h : A.length + B.length ≤ k) (h1 : A.Pairwise R) (h2 : B.Pairwise R) (h3 : ∀ x, x ∈ A → ∀ y, y ∈ B → TB lt R x y) {p : Prop} [Decidable p] (hp : p ↔ (0 < A.length ∧ 0 < B.length)) :
    ∃ C, symC p (symM lt k a m b) (P ++ (A ++ (B ++ S))) = P ++ (C ++ S) ∧ C.Perm (A ++ B) ∧ C.Pairwise R := by
  unfold symC
  by_cases hc : p
  · rw [if_pos hc, ha, hm, hb]
    exact ih P A B S h (hp.1 hc).1 (hp.1 hc).2 h1 h2 h3
  · rw [if_neg hc]
    refine ⟨A ++ B, by simp, List.Perm.refl _, ?_⟩
    have : A = [] ∨ B = [] := by
      by_cases e : A.length = 0
      · exact Or.inl (List.length_eq_zero_iff.1 e)
      · exact Or.inr (List.length_eq_zero_iff.1 (by by_cases e2 : B.length = 0; exact e2; exact absurd (hp.2 ⟨by omega, by omega⟩) hc))
    rcases this with h | h
    · subst h; simpa using h2
    · subst h; simpa using h1
theorem rot_maybe {α : Type} {s m e : Nat} (Q A B S : List α) (hs : s = Q.length) (hm : m = Q.length + A.length) (he : e = Q.length + A.length + B.length) : symC (s < m ∧ m < e) (rot s m e) (Q ++ (A ++ (B ++ S))) = Q ++ (B ++ (A ++ S)) := by
  unfold symC
  by_cases hc : s < m ∧ m < e
  · rw [if_pos hc, hs, hm, he]; exact rot_at Q A B S (by omega) (by omega)
  · rw [if_neg hc]
    by_cases e : A.length = 0
    · rw [List.length_eq_zero_iff.1 e]; simp
    · have : B = [] := List.length_eq_zero_iff.1 (by omega)
      subst this; simp
theorem last_of {α : Type} {l : List α} (h : 0 < l.length) : ∃ l' x, l = l' ++ [x] := ⟨l.dropLast, l.getLast (by intro e; simp [e] at h), (List.dropLast_concat_getLast _).symm⟩
theorem head_of {α : Type} {l : List α} (h : 0 < l.length) : ∃ x l', l = x :: l' := by cases l with | nil => simp at h | cons x l' => exact ⟨x, l', rfl⟩
theorem le_last {α : Type} {R : α → α → Prop} (htr : ∀ a b c : α, R a b → R b c → R a c) {l : List α} {u x z : α} (hs : (l ++ [u]).Pairwise R) (hx : x ∈ l ++ [u]) (h : R u z) : R x z := by
  simp at hx
  rcases hx with hx | hx
  · exact htr _ _ _ ((List.pairwise_append.1 hs).2.2 x hx u (by simp)) h
  · subst hx; exact h
theorem ge_head {α : Type} {R : α → α → Prop} (htr : ∀ a b c : α, R a b → R b c → R a c) {l : List α} {v y z : α} (hs : (v :: l).Pairwise R) (hy : y ∈ v :: l) (h : R z v) : R z y := by
  simp at hy
  rcases hy with hy | hy
  · subst hy; exact h
  · exact htr _ _ _ h ((List.pairwise_cons.1 hs).1 y hy)
theorem cross {α : Type} {R : α → α → Prop} (htr : ∀ a b c : α, R a b → R b c → R a c) {A B : List α} (hA : A.Pairwise R) (hB : B.Pairwise R) (h : ∀ A' u v B', A = A' ++ [u] → B = v :: B' → R u v) : ∀ x, x ∈ A → ∀ y, y ∈ B → R x y := by
  intro x hx y hy
  obtain ⟨A', u, rfl⟩ := last_of (List.length_pos_of_mem hx)
  obtain ⟨v, B', rfl⟩ := head_of (List.length_pos_of_mem hy)
  exact ge_head htr hB hy (le_last htr hA hx (h A' u v B' rfl rfl))
theorem at_last {α : Type} (P A S : List α) (u : α) (i : Nat) (h : i = P.length + A.length) : (P ++ (A ++ [u] ++ S))[i]? = some u := by
  subst h
  simp
theorem at_head {α : Type} (P A S : List α) (v : α) (i : Nat) (h : i = P.length + A.length) : (P ++ (A ++ (v :: S)))[i]? = some v := by
  subst h
  simp
theorem symM_one {α : Type} {lt : α → α → Bool} {R : α → α → Prop} (htr : ∀ a b c : α, R a b → R b c → R a c) {k : Nat} (P B S : List α) (x : α) (hB : 0 < B.length) (h2 : B.Pairwise R) (h3 : ∀ y, y ∈ B → TB lt R x y) :
    ∃ C, symM lt (k + 1) P.length (P.length + 1) (P.length + 1 + B.length) (P ++ ([x] ++ (B ++ S))) = P ++ (C ++ S) ∧ C.Perm ([x] ++ B) ∧ C.Pairwise R := by
  rw [symM, if_pos (by omega)]
  generalize hl : P ++ ([x] ++ (B ++ S)) = l
  have hsp := bs_spec (fun h => ltA lt l h P.length) (P.length + 1) (P.length + 1 + B.length) (by omega)
  generalize bs (fun h => ltA lt l h P.length) (P.length + 1) (P.length + 1 + B.length) = s at hsp
  obtain ⟨g1, g2, g3, g4⟩ := hsp
  obtain ⟨B1, B2, rfl, hlen⟩ := split_at B (s - (P.length + 1)) (by omega)
  have hp := List.pairwise_append.1 h2
  have hx0 : l[P.length]? = some x := by rw [← hl]; simp
  have k1 : ∀ y, y ∈ B1 → R y x := fun y hy => by
    obtain ⟨B', u, rfl⟩ := last_of (List.length_pos_of_mem hy)
    refine le_last htr hp.1 hy ?_
    have e : l[s - 1]? = some u := by rw [← hl]; have := at_last (P ++ [x]) B' (B2 ++ S) u (s - 1) (by simp at hlen ⊢; omega); simpa using this
    have := g3.resolve_left (by simp at hlen; omega)
    have := this.2
    simp only [ltA_app lt e hx0] at this
    exact (h3 u (by simp)).1 this
  have k2 : ∀ y, y ∈ B2 → R x y := fun y hy => by
    obtain ⟨v, B', rfl⟩ := head_of (List.length_pos_of_mem hy)
    refine ge_head htr hp.2.1 hy ?_
    have e : l[s]? = some v := by rw [← hl]; have := at_head (P ++ [x]) B1 (B' ++ S) v s (by simp; omega); simpa using this
    have := g4.resolve_left (by simp; omega)
    simp only [ltA_app lt e hx0] at this
    exact (h3 v (by simp)).2 this
  refine ⟨B1 ++ x :: B2, ?_, ?_, ?_⟩
  · rw [show s - 1 - P.length = B1.length by omega, ← hl]
    have := upS_at B1 P (B2 ++ S) x
    simpa using this
  · simp
  · refine List.pairwise_append.2 ⟨hp.1, List.pairwise_cons.2 ⟨k2, hp.2.1⟩, fun a ha b hb => ?_⟩
    simp at hb
    rcases hb with hb | hb
    · subst hb; exact k1 a ha
    · exact hp.2.2 a ha b hb
theorem symM_last {α : Type} {lt : α → α → Bool} {R : α → α → Prop} (htr : ∀ a b c : α, R a b → R b c → R a c) {k : Nat} (P A S : List α) (y : α) (hA : 1 < A.length) (h1 : A.Pairwise R) (h3 : ∀ x, x ∈ A → TB lt R x y) :
    ∃ C, symM lt (k + 1) P.length (P.length + A.length) (P.length + A.length + 1) (P ++ (A ++ ([y] ++ S))) = P ++ (C ++ S) ∧ C.Perm (A ++ [y]) ∧ C.Pairwise R := by
  rw [symM, if_neg (by omega), if_pos (by omega)]
  generalize hl : P ++ (A ++ ([y] ++ S)) = l
  have hsp := bs_spec (fun h => !ltA lt l (P.length + A.length) h) P.length (P.length + A.length) (by omega)
  generalize bs (fun h => !ltA lt l (P.length + A.length) h) P.length (P.length + A.length) = s at hsp
  obtain ⟨g1, g2, g3, g4⟩ := hsp
  have hy0 : l[P.length + A.length]? = some y := by rw [← hl]; exact at_head P A S y _ rfl
  generalize hm : P.length + A.length = m at *
  obtain ⟨A1, A2, rfl, hlen⟩ := split_at A (s - P.length) (by omega)
  have hp := List.pairwise_append.1 h1
  simp only [List.length_append] at hm
  have k1 : ∀ x, x ∈ A1 → R x y := fun x hx => by
    obtain ⟨B', u, rfl⟩ := last_of (List.length_pos_of_mem hx)
    refine le_last htr hp.1 hx ?_
    have e : l[s - 1]? = some u := by rw [← hl]; have := at_last P B' (A2 ++ ([y] ++ S)) u (s - 1) (by simp at hlen; omega); simpa using this
    have := (g3.resolve_left (by simp at hlen; omega)).2
    simp only [ltA_app lt hy0 e] at this
    exact (h3 u (by simp)).2 (by simpa using this)
  have k2 : ∀ x, x ∈ A2 → R y x := fun x hx => by
    obtain ⟨v, B', rfl⟩ := head_of (List.length_pos_of_mem hx)
    refine ge_head htr hp.2.1 hx ?_
    have e : l[s]? = some v := by rw [← hl]; have := at_head P A1 (B' ++ ([y] ++ S)) v s (by omega); simpa using this
    have := g4.resolve_left (by simp at hm; omega)
    simp only [ltA_app lt hy0 e] at this
    exact (h3 v (by simp)).1 (by simpa using this)
  refine ⟨A1 ++ y :: A2, ?_, ?_, ?_⟩
  · rw [← hl, show m - s = A2.length by omega]
    have := dnS_at A2.length A2 (P ++ A1) S y rfl
    rw [show (P ++ A1).length + A2.length = m by simp; omega] at this
    simpa using this
  · have := (List.perm_append_comm (l₁ := A2) (l₂ := [y]))
    have := List.Perm.append_left A1 this
    simpa using this.symm
  · refine List.pairwise_append.2 ⟨hp.1, List.pairwise_cons.2 ⟨k2, hp.2.1⟩, fun a ha b hb => ?_⟩
    simp at hb
    rcases hb with hb | hb
    · subst hb; exact k1 a ha
    · exact hp.2.2 a ha b hb
theorem symM_cut {α : Type} {lt : α → α → Bool} (a m b : Nat) (l : List α) (h1 : a < m) (h2 : m < b) : a ≤ symS lt a m b l ∧ symS lt a m b l ≤ m ∧ symS lt a m b l ≤ (a + b) / 2 ∧ (a + b) / 2 + m - b ≤ symS lt a m b l ∧
    (symS lt a m b l = a ∨ (a + b) / 2 + m - symS lt a m b l = b ∨ (a < symS lt a m b l ∧ ltA lt l ((a + b) / 2 + m - symS lt a m b l) (symS lt a m b l - 1) = false)) ∧
    (symS lt a m b l = m ∨ (a + b) / 2 + m - symS lt a m b l = m ∨ ltA lt l ((a + b) / 2 + m - symS lt a m b l - 1) (symS lt a m b l) = true) := by
  unfold symS
  by_cases hc : (a + b) / 2 < m
  · rw [if_pos hc]
    have hsp := bs_spec (fun c => !ltA lt l ((a + b) / 2 + m - 1 - c) c) ((a + b) / 2 + m - b) ((a + b) / 2) (by omega)
    generalize bs (fun c => !ltA lt l ((a + b) / 2 + m - 1 - c) c) ((a + b) / 2 + m - b) ((a + b) / 2) = s at hsp
    obtain ⟨g1, g2, g3, g4⟩ := hsp
    refine ⟨by omega, by omega, g2, g1, ?_, ?_⟩
    · rcases g3 with g3 | ⟨g3, g5⟩
      · exact Or.inr (Or.inl (by omega))
      · refine Or.inr (Or.inr ⟨by omega, ?_⟩)
        rw [show (a + b) / 2 + m - 1 - (s - 1) = (a + b) / 2 + m - s by omega] at g5
        simpa using g5
    · rcases g4 with g4 | g4
      · exact Or.inr (Or.inl (by omega))
      · refine Or.inr (Or.inr ?_)
        rw [show (a + b) / 2 + m - 1 - s = (a + b) / 2 + m - s - 1 by omega] at g4
        simpa using g4
  · rw [if_neg hc]
    have hsp := bs_spec (fun c => !ltA lt l ((a + b) / 2 + m - 1 - c) c) a m (by omega)
    generalize bs (fun c => !ltA lt l ((a + b) / 2 + m - 1 - c) c) a m = s at hsp
    obtain ⟨g1, g2, g3, g4⟩ := hsp
    refine ⟨by omega, by omega, by omega, by omega, ?_, ?_⟩
    · rcases g3 with g3 | ⟨g3, g5⟩
      · exact Or.inl g3
      · refine Or.inr (Or.inr ⟨by omega, ?_⟩)
        rw [show (a + b) / 2 + m - 1 - (s - 1) = (a + b) / 2 + m - s by omega] at g5
        simpa using g5
    · rcases g4 with g4 | g4
      · exact Or.inl g4
      · refine Or.inr (Or.inr ?_)
        rw [show (a + b) / 2 + m - 1 - s = (a + b) / 2 + m - s - 1 by omega] at g4
        simpa using g4
set_option maxHeartbeats 2000000 in
theorem symM_at {α : Type} {lt : α → α → Bool} {R : α → α → Prop} (htr : ∀ a b c : α, R a b → R b c → R a c) : ∀ k, SMk lt R k
  | 0 => fun P A B S h h1 _ _ _ _ => by omega
  | k + 1 => fun P A B S h hA hB h1 h2 h3 => by
    by_cases c1 : A.length = 1
    · obtain ⟨x, rfl⟩ := List.length_eq_one_iff.1 c1
      exact symM_one htr P B S x hB h2 fun y hy => h3 x (by simp) y hy
    by_cases c2 : B.length = 1
    · obtain ⟨y, rfl⟩ := List.length_eq_one_iff.1 c2
      exact symM_last htr P A S y (by omega) h1 fun x hx => h3 x hx y (by simp)
    have ih : SMk lt R k := symM_at htr k
    rw [symM, if_neg (by omega), if_neg (by omega)]
    have hcut := symM_cut (lt := lt) P.length (P.length + A.length) (P.length + A.length + B.length) (P ++ (A ++ (B ++ S))) (by omega) (by omega)
    unfold symR
    generalize symS lt P.length (P.length + A.length) (P.length + A.length + B.length) (P ++ (A ++ (B ++ S))) = s at hcut ⊢
    obtain ⟨g1, g2, g3, g4, g5, g6⟩ := hcut
    generalize hmid : (P.length + (P.length + A.length + B.length)) / 2 = mid at *
    generalize he : mid + (P.length + A.length) - s = e at *
    obtain ⟨A1, A2, rfl, hA1⟩ := split_at A (s - P.length) (by omega)
    obtain ⟨B1, B2, rfl, hB1⟩ := split_at B (e - (P.length + (A1 ++ A2).length)) (by omega)
    simp only [List.length_append] at *
    have pA := List.pairwise_append.1 h1
    have pB := List.pairwise_append.1 h2
    have x1 : ∀ x, x ∈ A1 → ∀ y, y ∈ B2 → R x y := cross htr pA.1 pB.2.1 fun A' u v B' ea eb => by
      subst ea; subst eb
      simp only [List.length_append, List.length_cons, List.length_nil] at *
      have := (g5.resolve_left (by omega)).resolve_left (by omega)
      have e1 : (P ++ (A' ++ [u] ++ A2 ++ (B1 ++ v :: B' ++ S)))[s - 1]? = some u := by have := at_last P A' (A2 ++ (B1 ++ v :: B' ++ S)) u (s - 1) (by omega); simpa using this
      have e2 : (P ++ (A' ++ [u] ++ A2 ++ (B1 ++ v :: B' ++ S)))[e]? = some v := by have := at_head (P ++ (A' ++ [u] ++ A2)) B1 (B' ++ S) v e (by simp; omega); simpa using this
      rw [ltA_app lt e2 e1] at this
      exact (h3 u (by simp) v (by simp)).2 this.2
    have x2 : ∀ y, y ∈ B1 → ∀ x, x ∈ A2 → R y x := cross htr pB.1 pA.2.1 fun B' v u A' eb ea => by
      subst ea; subst eb
      simp only [List.length_append, List.length_cons, List.length_nil] at *
      have := (g6.resolve_left (by omega)).resolve_left (by omega)
      have e1 : (P ++ (A1 ++ u :: A' ++ (B' ++ [v] ++ B2 ++ S)))[s]? = some u := by have := at_head P A1 (A' ++ (B' ++ [v] ++ B2 ++ S)) u s (by omega); simpa using this
      have e2 : (P ++ (A1 ++ u :: A' ++ (B' ++ [v] ++ B2 ++ S)))[e - 1]? = some v := by have := at_last (P ++ (A1 ++ u :: A')) B' (B2 ++ S) v (e - 1) (by simp; omega); simpa using this
      rw [ltA_app lt e2 e1] at this
      exact (h3 u (by simp) v (by simp)).1 this
    have r1 := rot_maybe (s := s) (m := P.length + (A1.length + A2.length)) (e := e) (P ++ A1) A2 B1 (B2 ++ S) (by simp; omega) (by simp; omega) (by simp; omega)
    have e0 : P ++ (A1 ++ A2 ++ (B1 ++ B2 ++ S)) = P ++ A1 ++ (A2 ++ (B1 ++ (B2 ++ S))) := by simp
    rw [e0, r1]
    obtain ⟨C1, hC1, pC1, sC1⟩ := sm_maybe ih (a := P.length) (m := s) (b := mid) (p := P.length < s ∧ s < mid) P A1 B1 (A2 ++ (B2 ++ S)) rfl (by omega) (by omega) (by omega) pA.1 pB.1 (fun x hx y hy => h3 x (by simp [hx]) y (by simp [hy])) (by constructor <;> intro h <;> omega)
    have e1 : P ++ A1 ++ (B1 ++ (A2 ++ (B2 ++ S))) = P ++ (A1 ++ (B1 ++ (A2 ++ (B2 ++ S)))) := by simp
    rw [e1, hC1]
    have lC1 := pC1.length_eq
    simp only [List.length_append] at lC1
    obtain ⟨C2, hC2, pC2, sC2⟩ := sm_maybe ih (a := mid) (m := e) (b := P.length + (A1.length + A2.length) + (B1.length + B2.length)) (p := mid < e ∧ e < P.length + (A1.length + A2.length) + (B1.length + B2.length)) (P ++ C1) A2 B2 S (by simp; omega) (by simp; omega) (by simp; omega) (by omega) pA.2.1 pB.2.1 (fun x hx y hy => h3 x (by simp [hx]) y (by simp [hy])) (by constructor <;> intro h <;> omega)
    have e2 : P ++ (C1 ++ (A2 ++ (B2 ++ S))) = P ++ C1 ++ (A2 ++ (B2 ++ S)) := by simp
    rw [e2, hC2]
    refine ⟨C1 ++ C2, by simp, ?_, ?_⟩
    · refine (pC1.append pC2).trans ?_
      simp only [List.append_assoc]
      refine List.Perm.append_left A1 ?_
      rw [← List.append_assoc, ← List.append_assoc]
      exact List.Perm.append_right B2 List.perm_append_comm
    · refine List.pairwise_append.2 ⟨sC1, sC2, fun x hx y hy => ?_⟩
      have mx := pC1.mem_iff.1 hx
      have my := pC2.mem_iff.1 hy
      simp at mx my
      rcases mx with mx | mx <;> rcases my with my | my
      · exact pA.2.2 x mx y my
      · exact x1 x mx y my
      · exact x2 x mx y my
      · exact pB.2.2 x mx y my
inductive Blks {α : Type} (lt : α → α → Bool) (R : α → α → Prop) (s : Nat) : List α → Prop
  | last (X : List α) : X.length ≤ s → X.Pairwise R → Blks lt R s X
  | cons (X Y : List α) : X.length = s → X.Pairwise R → (∀ x, x ∈ X → ∀ y, y ∈ Y → TB lt R x y) → Blks lt R s Y → Blks lt R s (X ++ Y)
theorem blks_le {α : Type} {lt : α → α → Bool} {R : α → α → Prop} {s : Nat} {Z : List α} (h : Blks lt R s Z) (hl : Z.length ≤ s) : Z.Pairwise R := by
  cases h with
  | last _ _ h2 => exact h2
  | cons X Y h1 h2 h3 h4 =>
    simp only [List.length_append] at hl
    have : Y = [] := List.length_eq_zero_iff.1 (by omega)
    subst this; simpa using h2
theorem blks_gt {α : Type} {lt : α → α → Bool} {R : α → α → Prop} {s : Nat} {Z : List α} (h : Blks lt R s Z) (hl : s < Z.length) : ∃ X Y, Z = X ++ Y ∧ X.length = s ∧ X.Pairwise R ∧ (∀ x, x ∈ X → ∀ y, y ∈ Y → TB lt R x y) ∧ Blks lt R s Y := by
  cases h with
  | last _ h1 _ => omega
  | cons X Y h1 h2 h3 h4 => exact ⟨X, Y, rfl, h1, h2, h3, h4⟩
theorem blks_ge {α : Type} {lt : α → α → Bool} {R : α → α → Prop} {s : Nat} {Z : List α} (h : Blks lt R s Z) (hl : s ≤ Z.length) : ∃ X Y, Z = X ++ Y ∧ X.length = s ∧ X.Pairwise R ∧ (∀ x, x ∈ X → ∀ y, y ∈ Y → TB lt R x y) ∧ Blks lt R s Y := by
  cases h with
  | last _ h1 h2 => exact ⟨Z, [], by simp, by omega, h2, fun x _ y hy => by simp at hy, .last [] (by simp) List.Pairwise.nil⟩
  | cons X Y h1 h2 h3 h4 => exact ⟨X, Y, rfl, h1, h2, h3, h4⟩
theorem stIns_at {α : Type} {lt : α → α → Bool} {R : α → α → Prop} (htr : ∀ a b c : α, R a b → R b c → R a c) : ∀ (k : Nat) (P X : List α), X.length ≤ k → X.Pairwise (TB lt R) → ∃ Y, stIns lt (P.length + X.length) k P.length (P ++ X) = P ++ Y ∧ Y.Perm X ∧ Blks lt R 20 Y
  | 0, P, X, h, hx => by
    obtain ⟨W, hW, hp, hw⟩ := insS_at htr P X [] hx
    simp only [List.append_nil] at hW
    exact ⟨W, hW, hp, .last W (by rw [hp.length_eq]; omega) hw⟩
  | k + 1, P, X, h, hx => by
    rw [stIns]
    split
    · obtain ⟨X1, X2, rfl, hl⟩ := split_at X 20 (by omega)
      have hp := List.pairwise_append.1 hx
      obtain ⟨W, hW, hpm, hw⟩ := insS_at htr P X1 X2 hp.1
      rw [hl] at hW
      rw [hW]
      have hwl := hpm.length_eq
      obtain ⟨Y, hY, hpY, hb⟩ := stIns_at htr k (P ++ W) X2 (by simp only [List.length_append] at h; omega) hp.2.1
      refine ⟨W ++ Y, ?_, hpm.append hpY, .cons W Y (by omega) hw (fun x hx y hy => hp.2.2 x (hpm.mem_iff.1 hx) y (hpY.mem_iff.1 hy)) hb⟩
      simp only [List.length_append] at hY ⊢
      rw [show P.length + (X1.length + X2.length) = P.length + W.length + X2.length by omega, show P.length + 20 = P.length + W.length by omega, ← List.append_assoc, hY]
      simp
    · obtain ⟨W, hW, hp, hw⟩ := insS_at htr P X [] hx
      simp only [List.append_nil] at hW
      exact ⟨W, hW, hp, .last W (by rw [hp.length_eq]; omega) hw⟩
theorem stMrg_at {α : Type} {lt : α → α → Bool} {R : α → α → Prop} (htr : ∀ a b c : α, R a b → R b c → R a c) (s : Nat) (hs : 0 < s) : ∀ (k : Nat) (P Z : List α), Z.length ≤ k → Blks lt R s Z → ∃ Y, stMrg lt (P.length + Z.length) s k P.length (P ++ Z) = P ++ Y ∧ Y.Perm Z ∧ Blks lt R (2 * s) Y
  | 0, P, Z, h, hb => by
    have : Z = [] := List.length_eq_zero_iff.1 (by omega)
    subst this
    exact ⟨[], rfl, List.Perm.refl _, .last [] (by simp) List.Pairwise.nil⟩
  | k + 1, P, Z, h, hb => by
    rw [stMrg]
    split
    · rename_i hc
      obtain ⟨X1, Y1, rfl, l1, s1, t1, b1⟩ := blks_gt hb (by omega)
      simp only [List.length_append] at h hc ⊢
      obtain ⟨X2, Z2, rfl, l2, s2, t2, b2⟩ := blks_ge b1 (by omega)
      simp only [List.length_append] at h hc ⊢
      obtain ⟨C, hC, pC, sC⟩ := symM_at htr (2 * s) P X1 X2 Z2 (by omega) (by omega) (by omega) s1 s2 (fun x hx y hy => t1 x hx y (by simp [hy]))
      have lC := pC.length_eq
      simp only [List.length_append] at lC
      rw [l1, l2, show P.length + s + s = P.length + 2 * s by omega] at hC
      rw [hC]
      obtain ⟨Y, hY, pY, bY⟩ := stMrg_at htr s hs k (P ++ C) Z2 (by omega) b2
      refine ⟨C ++ Y, ?_, ?_, .cons C Y (by omega) sC (fun x hx y hy => ?_) bY⟩
      · simp only [List.length_append] at hY
        rw [show P.length + (X1.length + (X2.length + Z2.length)) = P.length + C.length + Z2.length by omega, show P.length + 2 * s = P.length + C.length by omega, ← List.append_assoc, hY]
        simp
      · have := pC.append pY
        simpa using this
      · have hx := pC.mem_iff.1 hx
        have hy := pY.mem_iff.1 hy
        rcases List.mem_append.1 hx with hx | hx
        · exact t1 x hx y (by simp [hy])
        · exact t2 x hx y hy
    · split
      · rename_i hc hd
        obtain ⟨X1, Y1, rfl, l1, s1, t1, b1⟩ := blks_gt hb (by omega)
        simp only [List.length_append] at h hc hd ⊢
        have s2 := blks_le b1 (by omega)
        obtain ⟨C, hC, pC, sC⟩ := symM_at htr (P.length + (X1.length + Y1.length) - P.length) P X1 Y1 [] (by omega) (by omega) (by omega) s1 s2 t1
        have lC := pC.length_eq
        simp only [List.length_append] at lC
        rw [l1] at hC
        simp only [List.append_nil] at hC
        refine ⟨C, ?_, pC, .last C (by omega) sC⟩
        rw [← hC, l1, show P.length + (s + Y1.length) = P.length + s + Y1.length by omega]
      · rename_i hc hd
        exact ⟨Z, rfl, List.Perm.refl _, .last Z (by omega) (blks_le hb (by omega))⟩
theorem stGo_at {α : Type} {lt : α → α → Bool} {R : α → α → Prop} (htr : ∀ a b c : α, R a b → R b c → R a c) : ∀ (k s : Nat) (Z : List α), 0 < s → Z.length ≤ s + k → Blks lt R s Z → (stGo lt Z.length k s Z).Perm Z ∧ (stGo lt Z.length k s Z).Pairwise R
  | 0, s, Z, hs, h, hb => ⟨List.Perm.refl _, blks_le (Z := Z) hb (by omega)⟩
  | k + 1, s, Z, hs, h, hb => by
    rw [stGo]
    split
    · obtain ⟨Y, hY, pY, bY⟩ := stMrg_at htr s hs Z.length [] Z (Nat.le_refl _) hb
      simp only [List.length_nil, Nat.zero_add, List.nil_append] at hY
      have ly := pY.length_eq
      have := stGo_at htr k (2 * s) Y (by omega) (by omega) bY
      rw [hY, ← ly]
      exact ⟨this.1.trans pY, this.2⟩
    · exact ⟨List.Perm.refl _, blks_le hb (by omega)⟩
theorem stable_at {α : Type} {lt : α → α → Bool} {R : α → α → Prop} (htr : ∀ a b c : α, R a b → R b c → R a c) (l : List α) (h : l.Pairwise (TB lt R)) : (stable lt l).Perm l ∧ (stable lt l).Pairwise R := by
  unfold stable
  obtain ⟨Y, hY, pY, bY⟩ := stIns_at htr l.length [] l (Nat.le_refl _) h
  simp only [List.length_nil, Nat.zero_add, List.nil_append] at hY
  have ly := pY.length_eq
  rw [hY, ← ly]
  have := stGo_at htr Y.length 20 Y (by omega) (by omega) bY
  exact ⟨this.1.trans pY, this.2⟩
theorem rLease_set (l : List GLease) (i : Nat) (x : GLease) : (rLease l).set i x.row = rLease (l.set i x) := by simp [rLease, List.map_set]
theorem sw2_eq {α : Type} {l : List α} {i j : Nat} {x y : α} (h1 : l[i]? = some x) (h2 : l[j]? = some y) : (l.set i y).set j x = sw2 l i j := by unfold sw2; rw [h1, h2]
theorem rLease_setX (l : List GLease) (i : Nat) (x : GLease) : (rLease l).set i [.int .i64 x.fId, .int .i64 x.fToken, .str x.fPath, .int .i64 x.fMade, .int .i64 x.fEnds, .int .i64 x.fLimit] = rLease (l.set i x) := rLease_set l i x
theorem set_same {α : Type} {l : List α} {j : Nat} {y : α} (i : Nat) (h : l[j]? = some y) : (l.set i y)[j]? = some y := by
  by_cases e : i = j
  · subst e
    obtain ⟨h1, _⟩ := List.getElem?_eq_some_iff.1 h
    simp [h1]
  · rw [List.getElem?_set_ne e, h]
theorem swapRange_ok (l : List GLease) (a b n : Nat) (g : FuncId) (caps : List (List D)) (h1 : a + n ≤ l.length) (h2 : b + n ≤ l.length) (hl : l.length ≤ 1048576) :
    Valid PP GG 214 [.own 0 6 (rLease l), .d (.int .i64 a), .d (.int .i64 b), .d (.int .i64 n), .d (.fn g caps)] (.tup []) [some (.own 0 6 (rLease (swR a b n 0 l))), none, none, none, none] := by
  refine cv Tryz.func214 [] ?_
  generalize hT : swR a b n 0 l = T
  refine u_23 ?_
  refine W_loop (fun k st => ∃ (i : Nat) (L : List GLease), k = n - i ∧ i ≤ n ∧ L.length = l.length ∧ swR a b (n - i) i L = T ∧
    st = ⟨[], [(0, .sl 0), (1, .d (.int .i64 a)), (2, .d (.int .i64 b)), (3, .d (.int .i64 n)), (10, .d (.int .i64 i))], [(0, .arr 0 0 6 (rLease L))], 1⟩) _ ⟨0, l, rfl, by omega, rfl, hT, ?_⟩ ?_
  · exact u_16
  rintro k st ⟨i, L, rfl, hi, hL, hs, rfl⟩
  by_cases hlt : i < n
  · have ha := List.getElem?_eq_getElem (show a + i < L.length by omega)
    have hb := List.getElem?_eq_getElem (show b + i < L.length by omega)
    generalize L[a + i] = x at ha
    generalize L[b + i] = y at hb
    have e1 : IntKind.i64.wrap ((a : Int) + i) = (a + i : Nat) := by rw [wrap_id (by omega) (by omega)]; omega
    have e2 : IntKind.i64.wrap ((b : Int) + i) = (b + i : Nat) := by rw [wrap_id (by omega) (by omega)]; omega
    have e3 : IntKind.i64.wrap ((i : Int) + 1) = (i + 1 : Nat) := by rw [wrap_id (by omega) (by omega)]; omega
    have e4 : ((a : Int) + i).toNat = a + i := by omega
    have e5 : ((b : Int) + i).toNat = b + i := by omega
    have hb2 := set_same (a + i) hb
    have hw := sw2_eq ha hb
    refine u_51 (Y9 ha hb hb2 e1 e2 e3 e4 e5 hw) ?_
    refine ⟨n - (i + 1), by omega, i + 1, sw2 L (a + i) (b + i), rfl, by omega, by rw [sw2_len]; exact hL, ?_, ?_⟩
    · rw [← hs, show n - i = n - (i + 1) + 1 by omega, swR]
    · exact u_16
  · have hie : i = n := by omega
    subst hie
    rw [Nat.sub_self, swR] at hs
    subst hs
    refine u_23 ?_
    simp [Fin]
theorem rotate_ok (l : List GLease) (a m b : Nat) (g : FuncId) (caps : List (List D)) (h1 : a < m) (h2 : m < b) (h3 : b ≤ l.length) (hl : l.length ≤ 1048576) :
    Valid PP GG 197 [.own 0 6 (rLease l), .d (.int .i64 a), .d (.int .i64 m), .d (.int .i64 b), .d (.fn g caps)] (.tup []) [some (.own 0 6 (rLease (rot a m b l))), none, none, none, none] := by
  refine cv Tryz.func197 [] ?_
  generalize hT : rot a m b l = T
  unfold rot at hT
  refine u_23 ?_
  refine W_loop (fun w st => ∃ (k i j : Nat) (L : List GLease), w = i + j ∧ 0 < i ∧ 0 < j ∧ i ≤ m ∧ m + j ≤ l.length ∧ i + j ≤ k ∧ L.length = l.length ∧ rotG m k i j L = T ∧
    st = ⟨[], [(0, .sl 0), (2, .d (.int .i64 m)), (4, .d (.fn g caps)), (10, .d (.int .i64 i)), (11, .d (.int .i64 j))], [(0, .arr 0 0 6 (rLease L))], 1⟩) _ ⟨b - a, m - a, b - m, l, rfl, by omega, by omega, by omega, by omega, by omega, rfl, hT, ?_⟩ ?_
  · refine u_19 ?_
    exact ⟨by rw [wrap_id (by omega) (by omega)]; omega, by rw [wrap_id (by omega) (by omega)]; omega⟩
  rintro w st ⟨k, i, j, L, rfl, hi, hj, him, hjl, hk, hL, hs, rfl⟩
  obtain ⟨k, rfl⟩ : ∃ k', k = k' + 1 := ⟨k - 1, by omega⟩
  rw [rotG] at hs
  have e1 : IntKind.i64.wrap ((m : Int) - i) = (m : Int) - i := wrap_id (by omega) (by omega)
  by_cases hij : i = j
  · subst hij
    rw [if_pos rfl] at hs
    have cs := swapRange_ok (GG := GG) L (m - i) m i g caps (by omega) (by omega) (by omega)
    rw [hs, show ((m - i : Nat) : Int) = (m : Int) - i by omega] at cs
    refine u_25 e1 (Z1 cs) ?_
    simp [Fin]
  · rw [if_neg hij] at hs
    by_cases hlt : j < i
    · rw [if_pos hlt] at hs
      have cs := swapRange_ok (GG := GG) L (m - i) m j g caps (by omega) (by omega) (by omega)
      rw [show ((m - i : Nat) : Int) = (m : Int) - i by omega] at cs
      have e2 : IntKind.i64.wrap ((i : Int) - j) = (i - j : Nat) := by rw [wrap_id (by omega) (by omega)]; omega
      refine u_25 (Y2 e1 e2) (Z1 cs) ?_
      refine ⟨i - j + j, by omega, k, i - j, j, _, rfl, by omega, by omega, by omega, by omega, by omega, ?_, hs, ?_⟩
      · rw [swR_len]; exact hL
      · exact u_16
    · rw [if_neg hlt] at hs
      have cs := swapRange_ok (GG := GG) L (m - i) (m + j - i) i g caps (by omega) (by omega) (by omega)
      rw [show ((m - i : Nat) : Int) = (m : Int) - i by omega, show ((m + j - i : Nat) : Int) = (m : Int) + j - i by omega] at cs
      have e2 : IntKind.i64.wrap ((j : Int) - i) = (j - i : Nat) := by rw [wrap_id (by omega) (by omega)]; omega
      have e3 : IntKind.i64.wrap ((m : Int) + j - i) = (m : Int) + j - i := wrap_id (by omega) (by omega)
      have e4 : IntKind.i64.wrap ((m : Int) + j) = (m : Int) + j := wrap_id (by omega) (by omega)
      refine u_25 (Y4 e1 e2 e3 e4) (Z1 cs) ?_
      refine ⟨i + (j - i), by omega, k, i, j - i, _, rfl, by omega, by omega, by omega, by omega, by omega, ?_, hs, ?_⟩
      · rw [swR_len]; exact hL
      · exact u_16
def CmpOk (GG : GV) (g : FuncId) (caps : List (List D)) (lt : GLease → GLease → Bool) (a : List GLease) : Prop := ∀ x y, x ∈ a → y ∈ a → ∃ v : Int, Valid PP GG g (.agg x.c :: .agg y.c :: caps.map .rp) (.d (.int .i64 v)) [none, none] ∧ decide (v < 0) = lt x y
theorem sw2_mem {α : Type} {l : List α} {i j : Nat} {z : α} (h : z ∈ sw2 l i j) : z ∈ l := by
  unfold sw2 at h
  split at h
  · rename_i x y h1 h2
    have h := List.mem_or_eq_of_mem_set h
    rcases h with h | h
    · rcases List.mem_or_eq_of_mem_set h with h | h
      · exact h
      · subst h; exact List.mem_of_getElem? h2
    · subst h; exact List.mem_of_getElem? h1
  · exact h
theorem CmpOk.sw {g : FuncId} {caps : List (List D)} {lt : GLease → GLease → Bool} {a : List GLease} (h : CmpOk GG g caps lt a) (i j : Nat) : CmpOk GG g caps lt (sw2 a i j) := fun x y hx hy => h x y (sw2_mem hx) (sw2_mem hy)
theorem insJ_stop {α : Type} (lt : α → α → Bool) (a : Nat) (l : List α) : insJ lt a a l = l := by
  cases a with
  | zero => rfl
  | succ k => rw [insJ, if_neg (by omega)]
end Go.Proofs.YtoomonfpedjgoaaGreatDoor.Ab
