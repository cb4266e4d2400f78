/-
  A part of a proof about the given program; what is proved is said where each theorem stands.
-/
import Derived.Test.YtdckkojgnkoabaaGreatDoorFrameA
import Derived.Test.YtdckkojgnkoabaaGreatDoorFrameB
import Derived.Test.YtdckkojgnkoabaaGreatDoorFrameC
import Derived.Test.YtdckkojgnkoabaaGreatDoorFrameD
import Derived.Test.YtdckkojgnkoabaaGreatDoorFrameE
import Derived.Test.YtdckkojgnkoabaaGreatDoorCodesA
import Derived.Test.YtdckkojgnkoabaaGreatDoorCodesB
import Derived.Test.YtdckkojgnkoabaaGreatDoorShelf
import Derived.Test.YtdckkojgnkoabaaGreatDoorPartA
import Derived.Test.YtdckkojgnkoabaaGreatDoorPartB
import Derived.Test.YtdckkojgnkoabaaGreatDoorPartC
import Derived.Test.YtdckkojgnkoabaaGreatDoorPartD
namespace Go.Proofs
end Go.Proofs
set_option linter.unusedSimpArgs false
set_option linter.unusedVariables false
set_option maxRecDepth 100000
set_option maxHeartbeats 2000000
namespace Go.Proofs.YtdckkojgnkoabaaGreatDoor.Ab
open Go.Proofs
variable {GG : GV}
theorem delUser : Go.Proofs.SlLaysE0.n45 PP delUser_ren := {
  mixed := by kernel_rfl
  f45 := ⟨"slices.Delete[[]loop.example/g00705/impl.User,loop.example/g00705/impl.User]", by decide, Tryz.func225.trans (congrArg some (by kernel_rfl))⟩
  t0 := Tryz.underlying0
  a0 := Tryz.isAgg0
  z0 := Tryz.sizeOf0
  v0 := Tryz.zeroValue0
  t3 := Tryz.underlying3
  a3 := Tryz.isAgg3
  z3 := Tryz.sizeOf3
  v3 := Tryz.zeroValue3
  t4 := Tryz.underlying4
  a4 := Tryz.isAgg4
  z4 := Tryz.sizeOf4
  v4 := Tryz.zeroValue4
  t22 := Tryz.underlying45
  a22 := Tryz.isAgg45
  z22 := Tryz.sizeOf45
  v22 := Tryz.zeroValue45
}
theorem DeleteUser_ok (rows : List (List D)) (i j : Nat) (hij : i ≤ j) (hj : j ≤ rows.length) : Valid PP GG 225 [.own 0 2 rows, .d (.int .i64 i), .d (.int .i64 j)] (.own 0 2 (rows.take i ++ rows.drop j)) [none, none, none] :=
  delete_valid delUser ⟨Tryz.f225, Tryz.func225, by kernel_rfl, by kernel_rfl⟩ (by kernel_rfl) (by omega) i j hij hj
theorem rUser_del (a : List GUser) (i : Nat) : (rUser a).take i ++ (rUser a).drop (i + 1) = rUser (a.take i ++ a.drop (i + 1)) := by simp [rUser]
def delOwned_ren : Go.Shelf.Ren := ⟨fun | 45 => 166 | n => n, fun | 22 => 51 | 23 => 108 | n => n, fun n => n⟩
theorem delOwned : Go.Proofs.SlLaysE0.n45 PP delOwned_ren := {
  mixed := by kernel_rfl
  f45 := ⟨"slices.Delete[[]loop.example/g00705/impl.Owned,loop.example/g00705/impl.Owned]", by decide, Tryz.func166.trans (congrArg some (by kernel_rfl))⟩
  t0 := Tryz.underlying0
  a0 := Tryz.isAgg0
  z0 := Tryz.sizeOf0
  v0 := Tryz.zeroValue0
  t3 := Tryz.underlying3
  a3 := Tryz.isAgg3
  z3 := Tryz.sizeOf3
  v3 := Tryz.zeroValue3
  t4 := Tryz.underlying4
  a4 := Tryz.isAgg4
  z4 := Tryz.sizeOf4
  v4 := Tryz.zeroValue4
  t22 := Tryz.underlying51
  a22 := Tryz.isAgg51
  z22 := Tryz.sizeOf51
  v22 := Tryz.zeroValue51
}
theorem DeleteOwned_ok (rows : List (List D)) (i j : Nat) (hij : i ≤ j) (hj : j ≤ rows.length) : Valid PP GG 166 [.own 0 2 rows, .d (.int .i64 i), .d (.int .i64 j)] (.own 0 2 (rows.take i ++ rows.drop j)) [none, none, none] :=
  delete_valid delOwned ⟨Tryz.f166, Tryz.func166, by kernel_rfl, by kernel_rfl⟩ (by kernel_rfl) (by omega) i j hij hj
theorem rOwned_del (a : List GOwned) (i : Nat) : (rOwned a).take i ++ (rOwned a).drop (i + 1) = rOwned (a.take i ++ a.drop (i + 1)) := by simp [rOwned]
def dropF (f : GFar) (s : List UInt8) : GFar := if 0 < f.fFail then { f with fFail := f.fFail - 1 } else { f with fUsers := f.fUsers.filter fun u => !(u.fName == s) }
def dropC (f : GFar) : Int := if 0 < f.fFail then 2 else 0
theorem filter_keep {α : Type} {p : α → Bool} {l : List α} (h : ∀ x, x ∈ l → p x = true) : l.filter p = l := by
  rw [List.filter_eq_self]; exact h
theorem del_user {us : List GUser} {s : List UInt8} (hs : us.Pairwise (fun y x => Go.Op.bytesLess y.fName x.fName = true)) (h : us.any (fun u => u.fName == s) = true) :
    lessN GUser.fName s us < us.length ∧ us.take (lessN GUser.fName s us) ++ us.drop (lessN GUser.fName s us + 1) = us.filter fun u => !(u.fName == s) := by
  rw [List.any_eq_true] at h
  obtain ⟨x, hx, hxs⟩ := h
  have hxs : x.fName = s := by simpa using hxs
  obtain ⟨i, hi⟩ := List.getElem?_of_mem hx
  have hlt := (List.getElem?_eq_some_iff.1 hi).1
  have h1 : ∀ (m : Nat) y, m < i → us[m]? = some y → Go.Op.bytesLess y.fName s = true := fun m y hm hy => hxs ▸ pw_get hs hm hy hi
  have h2 : ∀ (m : Nat) y, i < m → us[m]? = some y → Go.Op.bytesLess s y.fName = true := fun m y hm hy => hxs ▸ pw_get hs hm hi hy
  have e : lessN GUser.fName s us = i := lessN_eq (by omega) h1 fun m y hm hy => by
    by_cases hmi : m = i
    · subst hmi; rw [hi] at hy; cases hy; rw [hxs, bl_irrefl]
    · exact bl_asymm (h2 m y (by omega) hy)
  rw [e]
  refine ⟨hlt, ?_⟩
  conv => rhs; rw [← List.take_append_drop i us, drop_get hi]
  rw [List.filter_append, List.filter_cons, hxs, beq_self_eq_true]
  simp only [Bool.not_true, Bool.false_eq_true, if_false]
  rw [filter_keep fun y hy => ?_, filter_keep fun y hy => ?_]
  · obtain ⟨m, hm⟩ := List.getElem?_of_mem hy
    rw [List.getElem?_drop] at hm
    have := h2 (i + 1 + m) y (by omega) hm
    cases hb : (y.fName == s) with
    | false => rfl
    | true => rw [beq_iff_eq] at hb; rw [hb, bl_irrefl] at this; cases this
  · obtain ⟨m, hm⟩ := List.getElem?_of_mem hy
    have hml := (List.getElem?_eq_some_iff.1 hm).1
    rw [List.length_take] at hml
    rw [List.getElem?_take_of_lt (by omega)] at hm
    have := h1 m y (by omega) hm
    cases hb : (y.fName == s) with
    | false => rfl
    | true => rw [beq_iff_eq] at hb; rw [hb, bl_irrefl] at this; cases this
theorem okP_of {α : Type} {q : List α → α → Bool} {l : List α} (h : ∀ (i : Nat) x, l[i]? = some x → q (l.take i) x = true) : okP q [] l = true := by
  have : ∀ n, n ≤ l.length → okP q [] (l.take n) = true := by
    intro n
    induction n with
    | zero => intro _; rfl
    | succ n ih =>
      intro hn
      have hx := List.getElem?_eq_getElem (show n < l.length by omega)
      rw [okP_step hx, ih (by omega), h n _ hx]; rfl
  have := this l.length (Nat.le_refl _)
  rwa [List.take_length] at this
theorem far_iff (f : GFar) : farB f = true ↔ f.fUsers.length ≤ 120 ∧ inB f.fFail 0 1000 = true ∧ inB f.fMade 0 1000000000 = true ∧ (∀ u, u ∈ f.fUsers → nameOk u.fName = true) ∧ f.fUsers.Pairwise (fun y x => Go.Op.bytesLess y.fName x.fName = true) := by
  constructor
  · intro h
    have hp := far_inc h
    unfold farB at h
    simp only [Bool.and_eq_true, decide_eq_true_eq] at h
    refine ⟨h.1.1.1, h.1.1.2, h.1.2, fun u hu => ?_, hp⟩
    obtain ⟨i, hi⟩ := List.getElem?_of_mem hu
    have := okP_get h.2 hi
    unfold farQ at this
    rw [Bool.and_eq_true] at this
    exact this.1
  · rintro ⟨h1, h2, h3, h4, h5⟩
    unfold farB
    rw [h2, h3, decide_eq_true h1]
    simp only [Bool.and_self, Bool.true_and]
    refine okP_of fun i x hx => ?_
    unfold farQ
    rw [h4 x (List.mem_of_getElem? hx), Bool.true_and]
    cases i with
    | zero => exact adj_zero _ _ _
    | succ j =>
      have hlt := (List.getElem?_eq_some_iff.1 hx).1
      have hy := List.getElem?_eq_getElem (show j < f.fUsers.length by omega)
      rw [adj_succ _ hy]
      exact pw_get h5 (Nat.lt_succ_self j) hy hx
theorem far_drop {f : GFar} (h : farB f = true) (s : List UInt8) : farB (dropF f s) = true := by
  rw [far_iff] at h ⊢
  obtain ⟨h1, h2, h3, h4, h5⟩ := h
  unfold dropF
  split
  · rename_i hp
    refine ⟨h1, ?_, h3, h4, h5⟩
    have := inB_true h2
    unfold inB; simp only [Bool.and_eq_true, decide_eq_true_eq]; omega
  · exact ⟨Nat.le_trans (List.length_filter_le _ _) h1, h2, h3, fun u hu => h4 u ((List.mem_filter.1 hu).1), h5.filter _⟩
theorem fit_drop {f : GFar} (h : fitFar f) (s : List UInt8) : fitFar (dropF f s) := by
  unfold dropF
  split
  · exact h
  · exact ⟨Nat.le_trans (List.length_filter_le _ _) h.1, fun u hu => h.2 u ((List.mem_filter.1 hu).1)⟩
theorem dropUser_ok (f : GFar) (s : List UInt8) (hf : fitFar f) (hb : farB f = true) : Valid PP GG F_I_dropUser [.agg f.c, .d (.str s)] (.tup [.agg (dropF f s).o, .d (.int .i64 (dropC f))]) [none, none] := by
  refine v_I_dropUser [.agg (dropF f s).o, .d (.int .i64 (dropC f))] rfl rfl ?_
  have hD : dropF f s = if 0 < f.fFail then { f with fFail := f.fFail - 1 } else { f with fUsers := f.fUsers.filter fun u => !(u.fName == s) } := rfl
  have hC : dropC f = if 0 < f.fFail then 2 else 0 := rfl
  have ccp := cloneFar_ok (GG := GG) f.fUsers f.fFail f.fMade (by have := hf.1; omega)
  have cui := userIndex_ok (GG := GG) f s hf.1 hb
  have hi := far_iff f |>.1 hb
  have hdu := fun h => del_user (us := f.fUsers) (s := s) hi.2.2.2.2 h
  obtain ⟨a, ff, fm⟩ := f
  dsimp only at hD hC ccp cui hi hdu
  have hin := inB_true hi.2.1
  have hi3 := ind_rUser a
  generalize dropF ⟨a, ff, fm⟩ s = DF at *
  generalize dropC ⟨a, ff, fm⟩ = DC at *
  by_cases hff : 0 < ff
  · rw [if_pos hff] at hD hC
    subst hD hC
    have hw : IntKind.i64.wrap (ff - 1) = ff - 1 := wrap_id (by omega) (by omega)
    exact u_35 hff hw ccp
  · rw [if_neg hff] at hD hC
    subst hD hC
    cases hany : a.any (fun u => u.fName == s) with
    | false =>
      rw [hany] at cui
      have e : (a.filter fun u => !(u.fName == s)) = a := filter_keep fun u hu => by
        rw [List.any_eq_false] at hany
        have := hany u hu
        simpa using this
      rw [e]
      exact u_42 hff ccp cui
    | true =>
      rw [hany] at cui
      obtain ⟨hk, hde⟩ := hdu hany
      generalize lessN GUser.fName s a = k at *
      have cdl := DeleteUser_ok (GG := GG) (rUser a) k (k + 1) (by omega) (by rw [rUser_len]; omega)
      rw [rUser_del, hde] at cdl
      have hw : IntKind.i64.wrap ((k : Int) + 1) = ((k + 1 : Nat) : Int) := by rw [wrap_id (by omega) (by omega)]; omega
      rw [show ((k + 1 : Nat) : Int) = (k : Int) + 1 by omega] at cdl hw
      have hi4 := ind_rUser (a.filter fun u => !(u.fName == s))
      generalize (a.filter fun u => !(u.fName == s)) = b at *
      repeat' (first | refine W_seq ?_ | refine W_skip ?_ | refine W_block ?_ | refine W_exit ?_ | refine pick_pos rfl ?_ | refine pick_neg rfl ?_ | ((first | refine W_regP fun K hK => ?_ | refine W_regPD fun K hK => ?_ | refine W_ret ?_ | with_reducible refine callQ (ccp) ?_ | with_reducible refine callQ (cui) ?_ | with_reducible refine callQ (cdl) ?_); simp [Fin, hff, hw]) | (with_reducible refine hK _ ?_; clear hK K) | (with_reducible refine goL_split (fun h => ?_) (fun h => ?_) <;> first | (exfalso; simp at h; first | done | omega | contradiction) | ((try simp at h); simp [hff, hw])) | with_reducible refine And.intro ?_ ?_ | with_reducible exact okay_rfl rfl | with_reducible assumption | (refine W_cond rfl (fun h => ?_) (fun h => ?_) <;> first | (exfalso; simp at h; first | done | omega | contradiction) | (exfalso; simp_all; done) | (try simp at h)) | omega)
theorem s_DropUser_ok [MaxL GG] (f : GFar) (s : List UInt8) (hf : fitFar f) (hb : farB f = true) : Valid PP GG F_S_DropUser [.agg f.c, .d (.str s)] (.tup [.agg (dropF f s).o, .d (.int .i64 (dropC f))]) [none, none] := by
  refine v_S_DropUser [.agg (dropF f s).o, .d (.int .i64 (dropC f))] rfl rfl ?_
  have hD : dropF f s = if 0 < f.fFail then { f with fFail := f.fFail - 1 } else { f with fUsers := f.fUsers.filter fun u => !(u.fName == s) } := rfl
  have hC : dropC f = if 0 < f.fFail then 2 else 0 := rfl
  have ccp := s_l11Copy_ok (GG := GG) f.fUsers f.fFail f.fMade (by have := hf.1; omega)
  have cfo := s_FarOk_ok (GG := GG) f hf
  rw [hb] at cfo
  have hi := far_iff f |>.1 hb
  have hl := hf.1
  obtain ⟨a, ff, fm⟩ := f
  dsimp only at hD hC ccp cfo hi hl
  have hin := inB_true hi.2.1
  have hi3 := ind_rUser a
  generalize dropF ⟨a, ff, fm⟩ s = DF at *
  generalize dropC ⟨a, ff, fm⟩ = DC at *
  by_cases hff : 0 < ff
  · rw [if_pos hff] at hD hC
    subst hD hC
    have hw : IntKind.i64.wrap (ff - 1) = ff - 1 := wrap_id (by omega) (by omega)
    exact u_52 hff hw cfo ccp
  · rw [if_neg hff] at hD hC
    subst hD hC
    refine W_seq (?_)
    refine u_1 ?_
    refine W_seq (?_)
    refine u_10 ccp ?_
    refine W_seq (W_seq ?_)
    refine u_10 cfo ?_
    refine W_cond rfl (fun h => by simp at h) (fun h => W_skip ?_)
    refine W_seq (W_seq ?_)
    refine u_6 hff ?_
    refine W_cond rfl (fun h => by simp at h) (fun h => W_skip ?_)
    refine W_seq (?_)
    refine u_1 ?_
    refine W_nilP 6 0 rfl rfl rfl ?_
    refine u_30 ?_
    refine W_loop (fun n st => ∃ i : Nat, n = a.length - i ∧ i ≤ a.length ∧
      st = ⟨[], [(1, .d (.str s)), (2, .ptr 0 0), (4, .ptr 1 0), (6, .ptr 2 0), (7, .d (.int .i64 i))], [(0, .box [.d (.slc 2 (rUser a)), .d (.int .i64 ff), .d (.int .i64 fm)]), (1, .box [.nil 0 2, .d (.int .i64 0), .d (.int .i64 0)]), (2, .box [.sl 3, .d (.int .i64 ff), .d (.int .i64 fm)]), (3, .arr 0 0 2 (rUser ((a.take i).filter fun u => !(u.fName == s))))], 4⟩) _ ⟨0, rfl, by omega, ?_⟩ ?_
    · simp [gc, closeN, liveA, gcV, gcO, renA, renAs, renO, namesAs, namesA, namesO, posn, rUser]
    rintro n st ⟨i, rfl, hi', rfl⟩
    by_cases hlt : i < a.length
    rotate_left
    · have hie : i = a.length := by omega
      subst hie
      rw [List.take_length]
      have hi4 := ind_rUser (a.filter fun u => !(u.fName == s))
      generalize (a.filter fun u => !(u.fName == s)) = b at *
      exact u_29
    have ha := List.getElem?_eq_getElem hlt
    generalize a[i] = x at ha
    have hsc := filter_succ (p := fun u : GUser => !(u.fName == s)) (f := GUser.row) ha
    have hlen := filter_take_len (fun u : GUser => !(u.fName == s)) GUser.row a i
    rw [show ∀ l : List GUser, (l.filter fun u => !(u.fName == s)).map GUser.row = rUser (l.filter fun u => !(u.fName == s)) from fun l => rfl] at hsc hlen
    rw [show ∀ l : List GUser, (l.filter fun u => !(u.fName == s)).map GUser.row = rUser (l.filter fun u => !(u.fName == s)) from fun l => rfl] at hsc
    generalize rUser ((a.take i).filter fun u => !(u.fName == s)) = L at *
    obtain ⟨xn, xp⟩ := x
    dsimp only at hsc
    cases hx : (xn == s) with
    | false =>
      rw [hx] at hsc
      simp only [Bool.not_false, if_true] at hsc
      refine u_53 ha hx ?_
      refine ⟨a.length - (i + 1), by omega, i + 1, rfl, hlt, ?_⟩
      rw [hsc]
      simp [gc, closeN, liveA, gcV, gcO, renA, renAs, renO, namesAs, namesA, namesO, posn]
      exact wrap_id (by omega) (by omega)
    | true =>
      rw [hx] at hsc
      simp only [Bool.not_true, Bool.false_eq_true, if_false, List.append_nil] at hsc
      refine u_27 ha hx ?_
      refine ⟨a.length - (i + 1), by omega, i + 1, rfl, hlt, ?_⟩
      rw [hsc]
      simp [gc, closeN, liveA, gcV, gcO, renA, renAs, renO, namesAs, namesA, namesO, posn]
      exact wrap_id (by omega) (by omega)
def dropOut (q : GQueue) (s : List UInt8) (now : Int) : GQueue := ⟨q.fJobs ++ [⟨s, now, 0⟩]⟩
def qHas (q : GQueue) (s : List UInt8) : Bool := q.fJobs.any fun t => t.fName == s
def qDropB (q : GQueue) (s : List UInt8) (now : Int) : Bool := qHas q s || queueB (dropOut q s now)
def qDropQ (q : GQueue) (s : List UInt8) (now : Int) : GQueue := if qHas q s then q else if queueB (dropOut q s now) then dropOut q s now else q
theorem fitQ_app {q : GQueue} {s : List UInt8} (now : Int) (h : queueB q = true) (hf : fitQ q) (hs : s.length ≤ 1048576) : fitQ (dropOut q s now) := by
  unfold queueB at h
  simp only [Bool.and_eq_true, decide_eq_true_eq] at h
  refine ⟨by unfold dropOut; simp; omega, fun t ht => ?_⟩
  rcases List.mem_append.1 ht with ht | ht
  · exact hf.2 t ht
  · simp at ht; subst ht; exact hs
theorem queueDrop_ok [MaxL GG] (q : GQueue) (s : List UInt8) (now : Int) (hf : fitQ q) (hs : s.length ≤ 1048576) (hb : queueB q = true) :
    Valid PP GG F_I_queueDrop [.agg q.c, .d (.str s), .d (.int .i64 now)] (.tup [.agg (qDropQ q s now).o, .d (.bool (qDropB q s now))]) [none, none, none] := by
  refine v_I_queueDrop [.agg (qDropQ q s now).o, .d (.bool (qDropB q s now))] rfl rfl ?_
  have ccp := cloneQueue_ok (GG := GG) q.fJobs (by have := hf.1; omega)
  have ch := hasJob_ok (GG := GG) q s hf.1
  have cq := isQueue_ok (GG := GG) (dropOut q s now) (fitQ_app now hb hf hs)
  have hB : qDropB q s now = (qHas q s || queueB (dropOut q s now)) := rfl
  have hQ : qDropQ q s now = if qHas q s then q else if queueB (dropOut q s now) then dropOut q s now else q := rfl
  have hH : qHas q s = q.fJobs.any fun t => t.fName == s := rfl
  have hl := hf.1
  rw [← hH] at ch
  clear hH
  obtain ⟨a⟩ := q
  dsimp only at ccp ch hB hQ hl
  have hi1 := ind_rJob a
  have hro : rJob (dropOut ⟨a⟩ s now).fJobs = rJob a ++ [[.str s, .int .i64 now, .int .i64 0]] := by
    unfold dropOut; dsimp only; rw [rJob_app]; rfl
  dsimp only [GQueue.c] at cq
  rw [hro] at cq
  generalize qHas ⟨a⟩ s = H at *
  generalize hqo : queueB (dropOut ⟨a⟩ s now) = Q at *
  have hoq : (dropOut ⟨a⟩ s now).o = [.own 0 3 (rJob a ++ [[.str s, .int .i64 now, .int .i64 0]])] := by rw [← hro]
  generalize dropOut ⟨a⟩ s now = OQ at *
  generalize qDropB ⟨a⟩ s now = DB at *
  generalize qDropQ ⟨a⟩ s now = DQ at *
  cases H
  · simp only [Bool.false_or, Bool.false_eq_true, if_false] at hB hQ
    subst hB
    cases DB
    · simp only [Bool.false_eq_true, if_false] at hQ
      subst hQ
      exact u_54 ccp ch cq
    · simp only [if_true] at hQ
      subst hQ
      rw [hoq]
      exact u_54 ccp ch cq
  · simp only [Bool.true_or, if_true] at hB hQ
    subst hB hQ
    repeat' (first | refine W_seq ?_ | refine W_skip ?_ | refine W_block ?_ | refine W_exit ?_ | refine pick_pos rfl ?_ | refine pick_neg rfl ?_ | ((first | refine W_regP fun K hK => ?_ | refine W_regPD fun K hK => ?_ | refine W_ret ?_ | with_reducible refine callQ (ccp) ?_ | with_reducible refine callQ (ch) ?_); simp [Fin]) | (with_reducible refine hK _ ?_; clear hK K) | (with_reducible refine goL_split (fun h => ?_) (fun h => ?_) <;> first | (exfalso; simp at h; first | done | omega | contradiction) | ((try simp at h); simp)) | with_reducible refine And.intro ?_ ?_ | with_reducible exact okay_rfl rfl | with_reducible assumption | (refine W_cond rfl (fun h => ?_) (fun h => ?_) <;> first | (exfalso; simp at h; first | done | omega | contradiction) | (exfalso; simp_all; done) | (try simp at h)) | omega)
theorem s_QueueDrop_ok [MaxL GG] (q : GQueue) (s : List UInt8) (now : Int) (hf : fitQ q) (hs : s.length ≤ 1048576) (hb : queueB q = true) :
    Valid PP GG F_S_QueueDrop [.agg q.c, .d (.str s), .d (.int .i64 now)] (.tup [.agg (qDropQ q s now).o, .d (.bool (qDropB q s now))]) [none, none, none] := by
  refine v_S_QueueDrop [.agg (qDropQ q s now).o, .d (.bool (qDropB q s now))] rfl rfl ?_
  have ccp := s_l11CopyQueue_ok (GG := GG) q.fJobs (by have := hf.1; omega)
  have cq0 := s_QueueOk_ok (GG := GG) q hf
  rw [hb] at cq0
  have cq := s_QueueOk_ok (GG := GG) (dropOut q s now) (fitQ_app now hb hf hs)
  have hB : qDropB q s now = (qHas q s || queueB (dropOut q s now)) := rfl
  have hQ : qDropQ q s now = if qHas q s then q else if queueB (dropOut q s now) then dropOut q s now else q := rfl
  have hH : qHas q s = q.fJobs.any fun t => t.fName == s := rfl
  have hl := hf.1
  obtain ⟨a⟩ := q
  dsimp only at ccp cq0 hB hQ hl hH
  have hi1 := ind_rJob a
  have hro : rJob (dropOut ⟨a⟩ s now).fJobs = rJob a ++ [[.str s, .int .i64 now, .int .i64 0]] := by
    unfold dropOut; dsimp only; rw [rJob_app]; rfl
  dsimp only [GQueue.c] at cq
  rw [hro] at cq
  generalize qHas ⟨a⟩ s = H at *
  generalize hqo : queueB (dropOut ⟨a⟩ s now) = Q at *
  have hoq : (dropOut ⟨a⟩ s now).o = [.own 0 3 (rJob a ++ [[.str s, .int .i64 now, .int .i64 0]])] := by rw [← hro]
  generalize dropOut ⟨a⟩ s now = OQ at *
  generalize qDropB ⟨a⟩ s now = DB at *
  generalize qDropQ ⟨a⟩ s now = DQ at *
  repeat' (first | refine W_seq ?_ | refine W_skip ?_ | refine W_block ?_ | refine W_exit ?_ | refine pick_pos rfl ?_ | refine pick_neg rfl ?_ | ((first | refine W_regP fun K hK => ?_ | refine W_regPD fun K hK => ?_ | refine W_ret ?_ | with_reducible refine callQ (ccp) ?_ | with_reducible refine callQ (cq0) ?_); simp [Fin]) | (with_reducible refine hK _ ?_; clear hK K) | (with_reducible refine goL_split (fun h => ?_) (fun h => ?_) <;> first | (exfalso; simp at h; first | done | omega | contradiction) | ((try simp at h); simp)) | with_reducible refine And.intro ?_ ?_ | with_reducible exact okay_rfl rfl | with_reducible assumption | (refine W_cond rfl (fun h => ?_) (fun h => ?_) <;> first | (exfalso; simp at h; first | done | omega | contradiction) | (exfalso; simp_all; done) | (try simp at h)) | omega)
  refine W_loop (fun n st => ∃ i : Nat, n = a.length - i ∧ i ≤ a.length ∧ (∀ y, y ∈ a.take i → (y.fName == s) = false) ∧
    st = ⟨[], [(1, .d (.str s)), (2, .d (.int .i64 now)), (3, .ptr 0 0), (6, .ptr 1 0), (8, .ptr 2 0), (9, .d (.int .i64 i))], [(0, .box [.d (.slc 3 (rJob a))]), (1, .box [.nil 0 3]), (2, .box [.sl 3]), (3, .arr 0 0 3 (rJob a))], 4⟩) _ ⟨0, rfl, by omega, fun x hx => by simp at hx, ?_⟩ ?_
  · simp [gc, closeN, liveA, gcV, gcO, renA, renAs, renO, namesAs, namesA, namesO, posn]
  rintro n st ⟨i, rfl, hi, hn, rfl⟩
  by_cases hlt : i < a.length
  · have ha := List.getElem?_eq_getElem hlt
    generalize a[i] = x at ha
    obtain ⟨xn, xa, xt⟩ := x
    cases hx : (xn == s) with
    | true =>
      have e := (find_hit (p := fun t : GJob => t.fName == s) ha hn hx).2
      rw [e] at hH
      subst hH
      simp only [Bool.true_or, if_true] at hB hQ
      subst hB hQ
      exact u_26 ha hx
    | false =>
      have hn2 := take_miss (p := fun t : GJob => t.fName == s) ha hn hx
      refine u_27 ha hx ?_
      refine ⟨a.length - (i + 1), by omega, i + 1, rfl, hlt, hn2, ?_⟩
      simp [gc, closeN, liveA, gcV, gcO, renA, renAs, renO, namesAs, namesA, namesO, posn]
      exact wrap_id (by omega) (by omega)
  · have hie : i = a.length := by omega
    subst hie
    rw [List.take_length] at hn
    rw [(find_miss hn).2] at hH
    subst hH
    simp only [Bool.false_or, Bool.false_eq_true, if_false] at hB hQ
    subst hB
    cases DB
    · simp only [Bool.false_eq_true, if_false] at hQ
      subst hQ
      exact u_55 ccp cq
    · simp only [if_true] at hQ
      subst hQ
      rw [hoq]
      exact u_55 ccp cq
structure RQ where
  jobs : List GJob
  far : GFar
  done : List (List UInt8)
  failed : List (List UInt8)
def rqStep (now : Int) (s : RQ) (j : GJob) : RQ :=
  if now < j.fAt then { s with jobs := s.jobs ++ [j] }
  else if dropC s.far = 0 then { s with far := dropF s.far j.fName, done := s.done ++ [j.fName] }
  else if j.fTries + 1 = 6 then { s with far := dropF s.far j.fName, failed := s.failed ++ [j.fName] }
  else { s with jobs := s.jobs ++ [⟨j.fName, now + 2 ^ (j.fTries + 1).toNat, j.fTries + 1⟩], far := dropF s.far j.fName }
def rq (now : Int) (q : List GJob) (f : GFar) : RQ := q.foldl (rqStep now) ⟨[], f, [], []⟩
theorem rq_succ {now : Int} {q : List GJob} {f : GFar} {i : Nat} {j : GJob} (h : q[i]? = some j) : rq now (q.take (i + 1)) f = rqStep now (rq now (q.take i) f) j := by
  unfold rq; rw [List.take_add_one, h, List.foldl_append]; rfl
theorem rq_len (now : Int) (q : List GJob) (f : GFar) : (rq now q f).jobs.length ≤ q.length ∧ (rq now q f).done.length ≤ q.length ∧ (rq now q f).failed.length ≤ q.length := by
  induction q using snoc_ind with
  | h0 => exact ⟨Nat.le_refl _, Nat.le_refl _, Nat.le_refl _⟩
  | h1 l x ih =>
    have e : rq now (l ++ [x]) f = rqStep now (rq now l f) x := by unfold rq; rw [List.foldl_append]; rfl
    rw [e, List.length_append]
    simp only [List.length_cons, List.length_nil]
    unfold rqStep
    repeat' split
    all_goals (simp only [List.length_append, List.length_cons, List.length_nil]; omega)
theorem rq_far {now : Int} {f : GFar} (hb : farB f = true) (hf : fitFar f) (q : List GJob) : farB (rq now q f).far = true ∧ fitFar (rq now q f).far := by
  induction q using snoc_ind with
  | h0 => exact ⟨hb, hf⟩
  | h1 l x ih =>
    have e : rq now (l ++ [x]) f = rqStep now (rq now l f) x := by unfold rq; rw [List.foldl_append]; rfl
    rw [e]
    unfold rqStep
    repeat' split
    · exact ih
    all_goals exact ⟨far_drop ih.1 _, fit_drop ih.2 _⟩
theorem strsD_one (l : List (List UInt8)) (x : List UInt8) : strsD l ++ [[.str x]] = strsD (l ++ [x]) := by simp [strsD]
theorem rJob_one (l : List GJob) (x : GJob) : rJob l ++ [x.row] = rJob (l ++ [x]) := by simp [rJob]
theorem job_tries {q : GQueue} (h : queueB q = true) {i : Nat} {j : GJob} (hi : q.fJobs[i]? = some j) : 0 ≤ j.fTries ∧ j.fTries ≤ 5 := by
  unfold queueB at h
  rw [Bool.and_eq_true] at h
  have := okP_get h.2 hi
  unfold jobQ jobB at this
  simp only [Bool.and_eq_true] at this
  exact inB_true this.1.2
theorem shl_one {t : Int} (h1 : 1 ≤ t) (h2 : t ≤ 5) : IntKind.i64.wrap (1 * 2 ^ (min t.toNat 64)) = 2 ^ t.toNat ∧ 0 ≤ (2 : Int) ^ t.toNat ∧ (2 : Int) ^ t.toNat ≤ 32 := by
  obtain ⟨n, rfl⟩ : ∃ n : Nat, t = n := ⟨t.toNat, by omega⟩
  have : n = 1 ∨ n = 2 ∨ n = 3 ∨ n = 4 ∨ n = 5 := by omega
  rcases this with rfl | rfl | rfl | rfl | rfl <;> decide
theorem runQueue_ok (q : GQueue) (f : GFar) (now : Int) (hq : fitQ q) (hf : fitFar f) (hqb : queueB q = true) (hfb : farB f = true) (hnow : 0 ≤ now ∧ now ≤ 1000000000) :
    Valid PP GG F_I_runQueue [.agg q.c, .agg f.c, .d (.int .i64 now)] (.tup [.agg (GQueue.mk (rq now q.fJobs f).jobs).o, .agg (rq now q.fJobs f).far.o, .own 0 1 (strsD (rq now q.fJobs f).done), .own 0 1 (strsD (rq now q.fJobs f).failed)]) [none, none, none] := by
  refine v_I_runQueue [.agg (GQueue.mk (rq now q.fJobs f).jobs).o, .agg (rq now q.fJobs f).far.o, .own 0 1 (strsD (rq now q.fJobs f).done), .own 0 1 (strsD (rq now q.fJobs f).failed)] rfl rfl ?_
  have ccp := cloneFar_ok (GG := GG) f.fUsers f.fFail f.fMade (by have := hf.1; omega)
  have hfa := fun l => rq_far (now := now) hfb hf l
  have htr := fun (i : Nat) (j : GJob) h => job_tries (q := q) hqb (i := i) (j := j) h
  have hl := hq.1
  have hi3 := ind_rUser f.fUsers
  obtain ⟨a⟩ := q
  obtain ⟨us, ff, fm⟩ := f
  dsimp only at ccp htr hl hi3
  refine W_seq (?_)
  refine u_1 ?_
  refine W_seq (?_)
  refine u_1 ?_
  refine W_nilP 10 0 rfl rfl rfl ?_
  refine W_seq (?_)
  refine u_1 ?_
  refine W_nilV 11 rfl ?_
  refine W_nilV 12 rfl ?_
  refine u_46 ccp ?_
  refine W_loop (fun n st => ∃ i : Nat, n = a.length - i ∧ i ≤ a.length ∧
    st = ⟨[], [(2, .d (.int .i64 now)), (4, .ptr 0 0), (6, .ptr 1 0), (7, .ptr 2 0), (10, .ptr 3 0), (11, .sl 4), (12, .sl 5), (20, .d (.slc 3 (rJob a))), (21, .d (.int .i64 a.length)), (22, .d (.int .i64 i))],
      [(0, .box [.sl 6, .d (.int .i64 (rq now (a.take i) ⟨us, ff, fm⟩).far.fFail), .d (.int .i64 (rq now (a.take i) ⟨us, ff, fm⟩).far.fMade)]), (1, .box [.nil 0 3]), (2, .box [.nil 0 2, .d (.int .i64 0), .d (.int .i64 0)]), (3, .box [.sl 7]),
       (4, .arr 0 0 1 (strsD (rq now (a.take i) ⟨us, ff, fm⟩).done)), (5, .arr 0 0 1 (strsD (rq now (a.take i) ⟨us, ff, fm⟩).failed)), (6, .arr 0 0 2 (rUser (rq now (a.take i) ⟨us, ff, fm⟩).far.fUsers)), (7, .arr 0 0 3 (rJob (rq now (a.take i) ⟨us, ff, fm⟩).jobs))], 8⟩) _ ⟨0, rfl, by omega, ?_⟩ ?_
  · simp [gc, closeN, liveA, gcV, gcO, renA, renAs, renO, namesAs, namesA, namesO, posn, rq, strsD, rJob]
  rintro n st ⟨i, rfl, hi, rfl⟩
  by_cases hlt : i < a.length
  rotate_left
  · have hie : i = a.length := by omega
    subst hie
    rw [List.take_length]
    exact u_29
  have ha := List.getElem?_eq_getElem hlt
  generalize a[i] = x at ha
  have hsu := rq_succ (now := now) (f := ⟨us, ff, fm⟩) ha
  have hlen := rq_len now (a.take i) ⟨us, ff, fm⟩
  rw [List.length_take] at hlen
  obtain ⟨hfb2, hff2⟩ := hfa (a.take i)
  have ht := htr i x ha
  generalize rq now (a.take i) ⟨us, ff, fm⟩ = R at *
  obtain ⟨rj, rf, rd, rl⟩ := R
  dsimp only at hlen hfb2 hff2
  have cd := dropUser_ok (GG := GG) rf x.fName hff2 hfb2
  unfold rqStep at hsu
  dsimp only at hsu
  obtain ⟨xn, xa, xt⟩ := x
  dsimp only at cd hsu ht
  have hi4 := ind_rUser (dropF rf xn).fUsers
  have hdc : dropC rf = 0 ∨ dropC rf = 2 := by unfold dropC; split <;> simp
  have hi5 := ind_rUser rf.fUsers
  have hl1 : (strsD rd).length ≤ i := by rw [strsD_len]; omega
  have hl2 : (strsD rl).length ≤ i := by rw [strsD_len]; omega
  have hl3 : (rJob rj).length ≤ i := by rw [rJob_len]; omega
  by_cases hat : now < xa
  · rw [if_pos hat] at hsu
    refine u_53 ha hat ?_
    refine ⟨a.length - (i + 1), by omega, i + 1, rfl, hlt, ?_⟩
    rw [hsu]
    simp [gc, closeN, liveA, gcV, gcO, renA, renAs, renO, namesAs, namesA, namesO, posn, ← rJob_one]
    exact wrap_id (by omega) (by omega)
  · rw [if_neg hat] at hsu
    generalize dropC rf = DC at *
    generalize dropF rf xn = DF at *
    obtain ⟨du, df, dm⟩ := DF
    obtain ⟨ru, rff, rfm⟩ := rf
    dsimp only at hi4 hi5
    rcases hdc with rfl | rfl
    · rw [if_pos rfl] at hsu
      refine u_56 ha hat cd ?_
      refine ⟨a.length - (i + 1), by omega, i + 1, rfl, hlt, ?_⟩
      rw [hsu]
      simp [gc, closeN, liveA, gcV, gcO, renA, renAs, renO, namesAs, namesA, namesO, posn, ← strsD_one]
      exact wrap_id (by omega) (by omega)
    · rw [if_neg (by omega)] at hsu
      have hw1 : IntKind.i64.wrap (xt + 1) = xt + 1 := wrap_id (by omega) (by omega)
      by_cases h6 : xt + 1 = 6
      · rw [if_pos h6] at hsu
        have hq6 : (xt + 1 == 6) = true := by simpa using h6
        refine u_57 ha hat hw1 hq6 cd ?_
        refine ⟨a.length - (i + 1), by omega, i + 1, rfl, hlt, ?_⟩
        rw [hsu]
        simp [gc, closeN, liveA, gcV, gcO, renA, renAs, renO, namesAs, namesA, namesO, posn, ← strsD_one]
        exact wrap_id (by omega) (by omega)
      · rw [if_neg h6] at hsu
        have hq6 : (xt + 1 == 6) = false := by simpa using h6
        obtain ⟨hs1, hs2, hs3⟩ := shl_one (t := xt + 1) (by omega) (by omega)
        have hw2 : IntKind.i64.wrap (now + 2 ^ (xt + 1).toNat) = now + 2 ^ (xt + 1).toNat := wrap_id (by omega) (by omega)
        have hnn : 0 ≤ xt + 1 := by omega
        repeat' (first | refine W_seq ?_ | refine W_skip ?_ | refine W_block ?_ | refine W_exit ?_ | refine pick_pos rfl ?_ | refine pick_neg rfl ?_ | ((first | refine W_regP fun K hK => ?_ | refine W_regPD fun K hK => ?_ | refine W_ret ?_ | with_reducible refine callQ (cd) ?_); simp [Fin, ha, hat, limit, hw1, hq6, shBin_shl, hnn, hs1, hw2]) | (with_reducible refine hK _ ?_; clear hK K) | (with_reducible refine goL_split (fun h => ?_) (fun h => ?_) <;> first | (exfalso; simp at h; first | done | omega | contradiction) | ((try simp at h); simp [ha, hat, limit, hw1, hq6, shBin_shl, hnn, hs1, hw2])) | with_reducible refine And.intro ?_ ?_ | with_reducible exact okay_rfl rfl | with_reducible assumption | (refine W_cond rfl (fun h => ?_) (fun h => ?_) <;> first | (exfalso; simp at h; first | done | omega | contradiction) | (exfalso; simp_all; done) | (try simp at h)) | omega)
        refine ⟨a.length - (i + 1), by omega, i + 1, rfl, hlt, ?_⟩
        rw [hsu]
        simp [gc, closeN, liveA, gcV, gcO, renA, renAs, renO, namesAs, namesA, namesO, posn, ← rJob_one]
        refine ⟨wrap_id (by omega) (by omega), ?_⟩
        rw [Nat.min_eq_left (by omega), wrap_id (n := 2 ^ (xt + 1).toNat) (by omega) (by omega)]
        exact hw2
theorem s_RunQueue_ok [MaxL GG] (q : GQueue) (f : GFar) (now : Int) (hq : fitQ q) (hf : fitFar f) (hqb : queueB q = true) (hfb : farB f = true) (hnow : 0 ≤ now ∧ now ≤ 1000000000) :
    Valid PP GG F_S_RunQueue [.agg q.c, .agg f.c, .d (.int .i64 now)] (.tup [.agg (GQueue.mk (rq now q.fJobs f).jobs).o, .agg (rq now q.fJobs f).far.o, .own 0 1 (strsD (rq now q.fJobs f).done), .own 0 1 (strsD (rq now q.fJobs f).failed)]) [none, none, none] := by
  refine v_S_RunQueue [.agg (GQueue.mk (rq now q.fJobs f).jobs).o, .agg (rq now q.fJobs f).far.o, .own 0 1 (strsD (rq now q.fJobs f).done), .own 0 1 (strsD (rq now q.fJobs f).failed)] rfl rfl ?_
  have ccp := s_l11Copy_ok (GG := GG) f.fUsers f.fFail f.fMade (by have := hf.1; omega)
  have cqo := s_QueueOk_ok (GG := GG) q hq
  have cfo := s_FarOk_ok (GG := GG) f hf
  have cin := l01In_ok (GG := GG) now 0 1000000000
  rw [hqb] at cqo
  rw [hfb] at cfo
  rw [decide_eq_true hnow.1, decide_eq_true hnow.2, Bool.and_self] at cin
  have hfa := fun l => rq_far (now := now) hfb hf l
  have htr := fun (i : Nat) (j : GJob) h => job_tries (q := q) hqb (i := i) (j := j) h
  have hl := hq.1
  have hi3 := ind_rUser f.fUsers
  obtain ⟨a⟩ := q
  obtain ⟨us, ff, fm⟩ := f
  dsimp only at ccp cqo cfo htr hl hi3
  refine W_seq (?_)
  refine u_1 ?_
  refine W_seq (?_)
  refine u_10 ccp ?_
  refine W_seq (W_seq ?_)
  apply W_regS
  · intro K hK
    simp
    repeat' (first | with_reducible exact hK | (with_reducible refine callQ (cqo) ?_; simp) | (with_reducible refine callQ (cfo) ?_; simp) | (with_reducible refine callQ (cin) ?_; simp) | (with_reducible refine goL_split (fun _ => ?_) (fun _ => ?_) <;> simp) | with_reducible refine And.intro ?_ ?_ | with_reducible exact okay_rfl rfl | with_reducible assumption | omega)
  refine W_cond rfl (fun h => by simp at h) (fun h => W_skip ?_)
  refine W_seq (?_)
  refine u_1 ?_
  refine W_nilP 11 0 rfl rfl rfl ?_
  refine u_30 ?_
  refine W_loop (fun n st => ∃ i : Nat, n = a.length - i ∧ i ≤ a.length ∧
    st = ⟨[], [(2, .d (.int .i64 now)), (3, .ptr 0 0), (6, .ptr 1 0), (7, .ptr 2 0), (10, .ptr 3 0), (11, .ptr 4 0), (12, .sl 5), (13, .sl 6), (14, .d (.int .i64 i))],
      [(0, .box [.d (.slc 3 (rJob a))]), (1, .box [.nil 0 3]), (2, .box [.nil 0 2, .d (.int .i64 0), .d (.int .i64 0)]), (3, .box [.sl 7, .d (.int .i64 (rq now (a.take i) ⟨us, ff, fm⟩).far.fFail), .d (.int .i64 (rq now (a.take i) ⟨us, ff, fm⟩).far.fMade)]), (4, .box [.sl 8]),
       (5, .arr 0 0 1 (strsD (rq now (a.take i) ⟨us, ff, fm⟩).done)), (6, .arr 0 0 1 (strsD (rq now (a.take i) ⟨us, ff, fm⟩).failed)), (7, .arr 0 0 2 (rUser (rq now (a.take i) ⟨us, ff, fm⟩).far.fUsers)), (8, .arr 0 0 3 (rJob (rq now (a.take i) ⟨us, ff, fm⟩).jobs))], 9⟩) _ ⟨0, rfl, by omega, ?_⟩ ?_
  · simp [gc, closeN, liveA, gcV, gcO, renA, renAs, renO, namesAs, namesA, namesO, posn, rq, strsD, rJob]
  rintro n st ⟨i, rfl, hi, rfl⟩
  by_cases hlt : i < a.length
  rotate_left
  · have hie : i = a.length := by omega
    subst hie
    rw [List.take_length]
    exact u_29
  have ha := List.getElem?_eq_getElem hlt
  generalize a[i] = x at ha
  have hsu := rq_succ (now := now) (f := ⟨us, ff, fm⟩) ha
  have hlen := rq_len now (a.take i) ⟨us, ff, fm⟩
  rw [List.length_take] at hlen
  obtain ⟨hfb2, hff2⟩ := hfa (a.take i)
  have ht := htr i x ha
  generalize rq now (a.take i) ⟨us, ff, fm⟩ = R at *
  obtain ⟨rj, rf, rd, rl⟩ := R
  dsimp only at hlen hfb2 hff2
  have cd := s_DropUser_ok (GG := GG) rf x.fName hff2 hfb2
  unfold rqStep at hsu
  dsimp only at hsu
  obtain ⟨xn, xa, xt⟩ := x
  dsimp only at cd hsu ht
  have hi4 := ind_rUser (dropF rf xn).fUsers
  have hdc : dropC rf = 0 ∨ dropC rf = 2 := by unfold dropC; split <;> simp
  have hi5 := ind_rUser rf.fUsers
  have hl1 : (strsD rd).length ≤ i := by rw [strsD_len]; omega
  have hl2 : (strsD rl).length ≤ i := by rw [strsD_len]; omega
  have hl3 : (rJob rj).length ≤ i := by rw [rJob_len]; omega
  by_cases hat : now < xa
  · rw [if_pos hat] at hsu
    refine u_53 ha hat ?_
    refine ⟨a.length - (i + 1), by omega, i + 1, rfl, hlt, ?_⟩
    rw [hsu]
    simp [gc, closeN, liveA, gcV, gcO, renA, renAs, renO, namesAs, namesA, namesO, posn, ← rJob_one]
    exact wrap_id (by omega) (by omega)
  · rw [if_neg hat] at hsu
    generalize dropC rf = DC at *
    generalize dropF rf xn = DF at *
    obtain ⟨du, df, dm⟩ := DF
    obtain ⟨ru, rff, rfm⟩ := rf
    dsimp only at hi4 hi5
    rcases hdc with rfl | rfl
    · rw [if_pos rfl] at hsu
      refine u_56 ha hat cd ?_
      refine ⟨a.length - (i + 1), by omega, i + 1, rfl, hlt, ?_⟩
      rw [hsu]
      simp [gc, closeN, liveA, gcV, gcO, renA, renAs, renO, namesAs, namesA, namesO, posn, ← strsD_one]
      exact wrap_id (by omega) (by omega)
    · rw [if_neg (by omega)] at hsu
      have hw1 : IntKind.i64.wrap (xt + 1) = xt + 1 := wrap_id (by omega) (by omega)
      by_cases h6 : xt + 1 = 6
      · rw [if_pos h6] at hsu
        have hq6 : (xt + 1 == 6) = true := by simpa using h6
        refine u_57 ha hat hw1 hq6 cd ?_
        refine ⟨a.length - (i + 1), by omega, i + 1, rfl, hlt, ?_⟩
        rw [hsu]
        simp [gc, closeN, liveA, gcV, gcO, renA, renAs, renO, namesAs, namesA, namesO, posn, ← strsD_one]
        exact wrap_id (by omega) (by omega)
      · rw [if_neg h6] at hsu
        have hq6 : (xt + 1 == 6) = false := by simpa using h6
        obtain ⟨hs1, hs2, hs3⟩ := shl_one (t := xt + 1) (by omega) (by omega)
        have hw2 : IntKind.i64.wrap (now + 2 ^ (xt + 1).toNat) = now + 2 ^ (xt + 1).toNat := wrap_id (by omega) (by omega)
        have hnn : 0 ≤ xt + 1 := by omega
        have hwu : IntKind.u64.wrap (xt + 1) = xt + 1 := by rw [IntKind.wrap_u64]; omega
        repeat' (first | refine W_seq ?_ | refine W_skip ?_ | refine W_block ?_ | refine W_exit ?_ | refine pick_pos rfl ?_ | refine pick_neg rfl ?_ | ((first | refine W_regP fun K hK => ?_ | refine W_regPD fun K hK => ?_ | refine W_ret ?_ | with_reducible refine callQ (cd) ?_); simp [Fin, ha, hat, limit, hw1, hq6, hwu, shBin_shl, hnn, hs1, hw2]) | (with_reducible refine hK _ ?_; clear hK K) | (with_reducible refine goL_split (fun h => ?_) (fun h => ?_) <;> first | (exfalso; simp at h; first | done | omega | contradiction) | ((try simp at h); simp [ha, hat, limit, hw1, hq6, hwu, shBin_shl, hnn, hs1, hw2])) | with_reducible refine And.intro ?_ ?_ | with_reducible exact okay_rfl rfl | with_reducible assumption | (refine W_cond rfl (fun h => ?_) (fun h => ?_) <;> first | (exfalso; simp at h; first | done | omega | contradiction) | (exfalso; simp_all; done) | (try simp at h)) | omega)
        refine ⟨a.length - (i + 1), by omega, i + 1, rfl, hlt, ?_⟩
        rw [hsu]
        simp [gc, closeN, liveA, gcV, gcO, renA, renAs, renO, namesAs, namesA, namesO, posn, ← rJob_one]
        refine ⟨wrap_id (by omega) (by omega), ?_⟩
        rw [Nat.min_eq_left (by omega), wrap_id (n := 2 ^ (xt + 1).toNat) (by omega) (by omega)]
        exact hw2
def loseW (w : GWorld) (n : Int) : GWorld := { w with fLost := if 1000000000 < w.fLost + n then 1000000000 else w.fLost + n }
def letHit (w : GWorld) (o : GOwned) : GWorld :=
  if qDropB w.fQueue o.fName w.fNow then { w with fQueue := qDropQ w.fQueue o.fName w.fNow } else loseW { w with fQueue := qDropQ w.fQueue o.fName w.fNow } 1
def letStep (id : Int) (s : GWorld × List GOwned) (o : GOwned) : GWorld × List GOwned :=
  if o.fLease = id then (letHit s.1 o, s.2) else (s.1, s.2 ++ [o])
def letFold (w : GWorld) (id : Int) (os : List GOwned) : GWorld × List GOwned := os.foldl (letStep id) (w, [])
def letOne (w : GWorld) (l : GLease) : GWorld := { (letFold w l.fId w.fOwned).1 with fOwned := (letFold w l.fId w.fOwned).2 }
def letAll (w : GWorld) (ls : List GLease) : GWorld := ls.foldl letOne w
def letRun (w : GWorld) : RQ := rq w.fNow w.fQueue.fJobs w.fFar
def letGo (w : GWorld) (ls : List GLease) : GWorld :=
  loseW { letAll w ls with fQueue := ⟨(letRun (letAll w ls)).jobs⟩, fFar := (letRun (letAll w ls)).far } (letRun (letAll w ls)).failed.length
structure LetOk (w : GWorld) : Prop where
  now : 0 ≤ w.fNow ∧ w.fNow ≤ 1000000000
  lost : 0 ≤ w.fLost ∧ w.fLost ≤ 1000000000
  qb : queueB w.fQueue = true
  qf : fitQ w.fQueue
  fb : farB w.fFar = true
  ff : fitFar w.fFar
  ol : w.fOwned.length ≤ 1048576
  on : ∀ o, o ∈ w.fOwned → o.fName.length ≤ 1048576
theorem qDrop_ok {q : GQueue} {s : List UInt8} (now : Int) (h : queueB q = true) (hf : fitQ q) (hs : s.length ≤ 1048576) : queueB (qDropQ q s now) = true ∧ fitQ (qDropQ q s now) := by
  unfold qDropQ
  split
  · exact ⟨h, hf⟩
  · split
    · next h2 => exact ⟨h2, fitQ_app now h hf hs⟩
    · exact ⟨h, hf⟩
theorem lose_ok {w : GWorld} {n : Int} (h : LetOk w) (hn : 0 ≤ n) : LetOk (loseW w n) := by
  obtain ⟨h1, h2, h3, h4, h5, h6, h7, h8⟩ := h
  refine ⟨h1, ?_, h3, h4, h5, h6, h7, h8⟩
  unfold loseW
  dsimp only
  split <;> omega
theorem hit_ok {w : GWorld} {o : GOwned} (h : LetOk w) (ho : o.fName.length ≤ 1048576) : LetOk (letHit w o) := by
  have hq := qDrop_ok w.fNow h.qb h.qf ho
  have h' : LetOk { w with fQueue := qDropQ w.fQueue o.fName w.fNow } := ⟨h.now, h.lost, hq.1, hq.2, h.fb, h.ff, h.ol, h.on⟩
  unfold letHit
  split
  · exact h'
  · exact lose_ok h' (by omega)
theorem letFold_succ {w : GWorld} {id : Int} {os : List GOwned} {i : Nat} {o : GOwned} (h : os[i]? = some o) : letFold w id (os.take (i + 1)) = letStep id (letFold w id (os.take i)) o := by
  unfold letFold; rw [List.take_add_one, h, List.foldl_append]; rfl
theorem letFold_snoc (w : GWorld) (id : Int) (l : List GOwned) (x : GOwned) : letFold w id (l ++ [x]) = letStep id (letFold w id l) x := by
  unfold letFold; rw [List.foldl_append]; rfl
theorem letFold_ok {w : GWorld} (id : Int) (h : LetOk w) (os : List GOwned) (ho : ∀ o, o ∈ os → o.fName.length ≤ 1048576) : LetOk (letFold w id os).1 ∧ (letFold w id os).2.length ≤ os.length ∧ ∀ o, o ∈ (letFold w id os).2 → o ∈ os := by
  induction os using snoc_ind with
  | h0 => exact ⟨h, Nat.le_refl _, fun o ho => ho⟩
  | h1 l x ih =>
    obtain ⟨i1, i2, i3⟩ := ih fun o h => ho o (List.mem_append_left _ h)
    rw [letFold_snoc, List.length_append]
    unfold letStep
    split
    · exact ⟨hit_ok i1 (ho x (by simp)), by simp; omega, fun o h => List.mem_append_left _ (i3 o h)⟩
    · refine ⟨i1, by simp; omega, fun o h => ?_⟩
      rcases List.mem_append.1 h with h | h
      · exact List.mem_append_left _ (i3 o h)
      · exact List.mem_append_right _ h
theorem letOne_ok {w : GWorld} (l : GLease) (h : LetOk w) : LetOk (letOne w l) := by
  obtain ⟨h1, h2, h3⟩ := letFold_ok l.fId h w.fOwned h.on
  exact ⟨h1.now, h1.lost, h1.qb, h1.qf, h1.fb, h1.ff, by unfold letOne; dsimp only; have := h.ol; omega, fun o ho => h.on o (h3 o ho)⟩
theorem letAll_ok {w : GWorld} (h : LetOk w) (ls : List GLease) : LetOk (letAll w ls) := by
  unfold letAll
  induction ls generalizing w with
  | nil => exact h
  | cons l r ih => exact ih (letOne_ok l h)
theorem letAll_succ {w : GWorld} {ls : List GLease} {i : Nat} {l : GLease} (h : ls[i]? = some l) : letAll w (ls.take (i + 1)) = letOne (letAll w (ls.take i)) l := by
  unfold letAll; rw [List.take_add_one, h, List.foldl_append]; rfl
theorem s_l16Lose_ok (w : GWorld) (n : Int) (h : 0 ≤ w.fLost ∧ w.fLost ≤ 1000000000) (hn : 0 ≤ n ∧ n ≤ 1000000000) :
    Valid PP GG F_S_l16Lose [.agg w.o, .d (.int .i64 n)] (.agg (loseW w n).o) [none, none] := by
  refine v_S_l16Lose [.agg (loseW w n).o] rfl rfl ?_
  have hL : loseW w n = { w with fLost := if 1000000000 < w.fLost + n then 1000000000 else w.fLost + n } := rfl
  obtain ⟨a, b, c, ⟨tk⟩, ⟨bk⟩, ⟨us, ff, fm⟩, ⟨jb⟩, ow⟩ := w
  dsimp only at hL h
  have hi1 := ind_rToken tk
  have hi2 := ind_rLease bk
  have hi3 := ind_rUser us
  have hi4 := ind_rJob jb
  have hi5 := ind_rOwned ow
  have hw : IntKind.i64.wrap (c + n) = c + n := wrap_id (by omega) (by omega)
  by_cases hc : 1000000000 < c + n
  · rw [if_pos hc] at hL
    rw [hL]
    exact u_26 hw hc
  · rw [if_neg hc] at hL
    rw [hL]
    exact u_26 hw hc
theorem rOwned_one (l : List GOwned) (x : GOwned) : rOwned l ++ [x.row] = rOwned (l ++ [x]) := by simp [rOwned]
abbrev goVs (ls : List GLease) (i : Nat) : List (Nat × A) := [(1, .d (.slc 6 (rLease ls))), (2, .ptr 0 0), (4, .ptr 1 0), (7, .d (.int .i64 i))]
abbrev goOs (W : GWorld) : List (Nat × O) := [(0, .box [.d (.int .i64 W.fNow), .d (.int .i64 W.fNext), .d (.int .i64 W.fLost), .sl 2, .sl 3, .sl 4, .d (.int .i64 W.fFar.fFail), .d (.int .i64 W.fFar.fMade), .sl 5, .sl 6]), (1, .box [.d (.int .i64 0), .d (.int .i64 0), .d (.int .i64 0), .nil 1 7, .nil 0 6, .nil 0 2, .d (.int .i64 0), .d (.int .i64 0), .nil 0 3, .nil 0 2]), (2, .arr 0 1 7 (rToken W.fForest.fTokens)), (3, .arr 0 0 6 (rLease W.fBook.fLeases)), (4, .arr 0 0 2 (rUser W.fFar.fUsers)), (5, .arr 0 0 3 (rJob W.fQueue.fJobs)), (6, .arr 0 0 2 (rOwned W.fOwned))]
abbrev goOt (W : GWorld) (r : List GOwned) : List (Nat × O) := [(0, .box [.d (.int .i64 W.fNow), .d (.int .i64 W.fNext), .d (.int .i64 W.fLost), .sl 3, .sl 4, .sl 5, .d (.int .i64 W.fFar.fFail), .d (.int .i64 W.fFar.fMade), .sl 6, .sl 7]), (1, .box [.d (.int .i64 0), .d (.int .i64 0), .d (.int .i64 0), .nil 1 7, .nil 0 6, .nil 0 2, .d (.int .i64 0), .d (.int .i64 0), .nil 0 3, .nil 0 2]), (2, .arr 0 0 2 (rOwned r)), (3, .arr 0 1 7 (rToken W.fForest.fTokens)), (4, .arr 0 0 6 (rLease W.fBook.fLeases)), (5, .arr 0 0 2 (rUser W.fFar.fUsers)), (6, .arr 0 0 3 (rJob W.fQueue.fJobs)), (7, .arr 0 0 2 (rOwned W.fOwned))]
theorem s_l16LetGo_ok [MaxL GG] (w : GWorld) (ls : List GLease) (h : LetOk w) (hls : ls.length ≤ 1048576) :
    Valid PP GG F_S_l16LetGo [.agg w.o, .d (.slc 6 (rLease ls))] (.tup [.agg (letGo w ls).o, .own 0 1 (strsD (letRun (letAll w ls)).done), .own 0 1 (strsD (letRun (letAll w ls)).failed)]) [none, none] := by
  refine v_S_l16LetGo [.agg (letGo w ls).o, .own 0 1 (strsD (letRun (letAll w ls)).done), .own 0 1 (strsD (letRun (letAll w ls)).failed)] rfl rfl ?_
  repeat' (first | refine W_seq ?_ | refine W_skip ?_ | refine W_block ?_ | refine W_exit ?_ | refine pick_pos rfl ?_ | refine pick_neg rfl ?_ | ((first | refine W_regP fun K hK => ?_ | refine W_regPD fun K hK => ?_ | refine W_ret ?_); simp [Fin]) | (with_reducible refine hK _ ?_; clear hK K) | (with_reducible refine goL_split (fun h => ?_) (fun h => ?_) <;> first | (exfalso; simp at h; first | done | omega | contradiction) | ((try simp at h); simp)) | with_reducible refine And.intro ?_ ?_ | with_reducible exact okay_rfl rfl | with_reducible assumption | (refine W_cond rfl (fun h => ?_) (fun h => ?_) <;> first | (exfalso; simp at h; first | done | omega | contradiction) | (exfalso; simp_all; done) | (try simp at h)) | omega)
  refine W_loop (fun n st => ∃ i : Nat, n = ls.length - i ∧ i ≤ ls.length ∧ st = ⟨[], goVs ls i, goOs (letAll w (ls.take i)), 7⟩) _ ⟨0, rfl, by omega, ?_⟩ ?_
  · obtain ⟨a, b, c, ⟨tk⟩, ⟨bk⟩, ⟨us, ff, fm⟩, ⟨jb⟩, ow⟩ := w
    simp [gc, closeN, liveA, gcV, gcO, renA, renAs, renO, namesAs, namesA, namesO, posn, letAll]
  rintro n st ⟨i, rfl, hi, rfl⟩
  by_cases hlt : i < ls.length
  · have hli := List.getElem?_eq_getElem hlt
    generalize ls[i] = l at hli
    have hsu := letAll_succ (w := w) hli
    have hW := letAll_ok h (ls.take i)
    generalize letAll w (ls.take i) = W at *
    unfold letOne at hsu
    have hfo := fun os => letFold_ok (w := W) l.fId hW os
    repeat' (first | refine W_seq ?_ | refine W_skip ?_ | refine W_block ?_ | refine W_exit ?_ | refine pick_pos rfl ?_ | refine pick_neg rfl ?_ | ((first | refine W_regP fun K hK => ?_ | refine W_regPD fun K hK => ?_ | refine W_ret ?_); simp [Fin, litA]) | (with_reducible refine hK _ ?_; clear hK K) | (with_reducible refine goL_split (fun h => ?_) (fun h => ?_) <;> first | (exfalso; simp at h; first | done | omega | contradiction) | ((try simp at h); simp [litA])) | with_reducible refine And.intro ?_ ?_ | with_reducible exact okay_rfl rfl | with_reducible assumption | (refine W_cond rfl (fun h => ?_) (fun h => ?_) <;> first | (exfalso; simp at h; first | done | omega | contradiction) | (exfalso; simp_all; done) | (try simp at h)) | omega)
    refine W_loop (fun n st => ∃ j : Nat, n = W.fOwned.length - j ∧ j ≤ W.fOwned.length ∧ st = ⟨[], goVs ls i ++ [(8, .sl 2), (9, .d (.int .i64 j))], goOt { (letFold W l.fId (W.fOwned.take j)).1 with fOwned := W.fOwned } (letFold W l.fId (W.fOwned.take j)).2, 8⟩) _ ⟨0, rfl, by omega, ?_⟩ ?_
    · simp [gc, closeN, liveA, gcV, gcO, renA, renAs, renO, namesAs, namesA, namesO, posn, letFold, rOwned]
    rintro n st ⟨j, rfl, hj, rfl⟩
    by_cases hjt : j < W.fOwned.length
    · have hoj := List.getElem?_eq_getElem hjt
      have hom := List.getElem_mem hjt
      generalize W.fOwned[j] = o at hoj hom
      have hsj := letFold_succ (w := W) (id := l.fId) hoj
      obtain ⟨hV, hrl, -⟩ := hfo (W.fOwned.take j) fun o ho => hW.on o (List.mem_of_mem_take ho)
      rw [List.length_take] at hrl
      have hol := hW.ol
      have hon := hW.on o hom
      have hi5 := ind_rOwned W.fOwned
      generalize letFold W l.fId (W.fOwned.take j) = S at *
      obtain ⟨V, r⟩ := S
      dsimp only at hV hrl
      unfold letStep at hsj
      dsimp only at hsj
      have hr2 : (rOwned r).length ≤ j := by rw [rOwned_len]; omega
      have hi6 := ind_rOwned r
      obtain ⟨on, ol⟩ := o
      by_cases hne : on = l.fId
      · rw [if_pos hne] at hsj
        have cqd := s_QueueDrop_ok (GG := GG) V.fQueue ol V.fNow hV.qf hon hV.qb
        have clo := s_l16Lose_ok (GG := GG) { V with fQueue := qDropQ V.fQueue ol V.fNow, fOwned := W.fOwned } 1 hV.lost ⟨by omega, by omega⟩
        unfold letHit at hsj
        dsimp only at hsj
        subst hne
        obtain ⟨Vn, Vx, Vl, ⟨Vf⟩, ⟨Vb⟩, ⟨Vu, Vfl, Vfm⟩, ⟨Vq⟩, Vo⟩ := V
        dsimp only at cqd clo hsj
        have hi1 := ind_rToken Vf
        have hi2 := ind_rLease Vb
        have hi3 := ind_rUser Vu
        generalize qDropB ⟨Vq⟩ ol Vn = DB at *
        generalize qDropQ ⟨Vq⟩ ol Vn = DQ at *
        obtain ⟨dj⟩ := DQ
        have hi4 := ind_rJob dj
        cases DB
        · simp only [Bool.false_eq_true, if_false] at hsj
          repeat' (first | refine W_seq ?_ | refine W_skip ?_ | refine W_block ?_ | refine W_exit ?_ | refine pick_pos rfl ?_ | refine pick_neg rfl ?_ | ((first | refine W_regP fun K hK => ?_ | refine W_regPD fun K hK => ?_ | refine W_ret ?_ | with_reducible refine callQ (cqd) ?_ | with_reducible refine callQ (clo) ?_); simp [Fin, hli, hoj, limit, loseW]) | (with_reducible refine hK _ ?_; clear hK K) | (with_reducible refine goL_split (fun h => ?_) (fun h => ?_) <;> first | (exfalso; simp at h; first | done | omega | contradiction) | ((try simp at h); simp [hli, hoj, limit, loseW])) | with_reducible refine And.intro ?_ ?_ | with_reducible exact okay_rfl rfl | with_reducible assumption | (refine W_cond rfl (fun h => ?_) (fun h => ?_) <;> first | (exfalso; simp at h; first | done | omega | contradiction) | (exfalso; simp_all; done) | (try simp at h)) | omega)
          refine ⟨W.fOwned.length - (j + 1), by omega, j + 1, rfl, hjt, ?_⟩
          rw [hsj]
          simp [gc, closeN, liveA, gcV, gcO, renA, renAs, renO, namesAs, namesA, namesO, posn, loseW]
          exact wrap_id (by omega) (by omega)
        · simp only [if_true] at hsj
          repeat' (first | refine W_seq ?_ | refine W_skip ?_ | refine W_block ?_ | refine W_exit ?_ | refine pick_pos rfl ?_ | refine pick_neg rfl ?_ | ((first | refine W_regP fun K hK => ?_ | refine W_regPD fun K hK => ?_ | refine W_ret ?_ | with_reducible refine callQ (cqd) ?_); simp [Fin, hli, hoj, limit]) | (with_reducible refine hK _ ?_; clear hK K) | (with_reducible refine goL_split (fun h => ?_) (fun h => ?_) <;> first | (exfalso; simp at h; first | done | omega | contradiction) | ((try simp at h); simp [hli, hoj, limit])) | with_reducible refine And.intro ?_ ?_ | with_reducible exact okay_rfl rfl | with_reducible assumption | (refine W_cond rfl (fun h => ?_) (fun h => ?_) <;> first | (exfalso; simp at h; first | done | omega | contradiction) | (exfalso; simp_all; done) | (try simp at h)) | omega)
          refine ⟨W.fOwned.length - (j + 1), by omega, j + 1, rfl, hjt, ?_⟩
          rw [hsj]
          simp [gc, closeN, liveA, gcV, gcO, renA, renAs, renO, namesAs, namesA, namesO, posn]
          exact wrap_id (by omega) (by omega)
      · rw [if_neg hne] at hsj
        repeat' (first | refine W_seq ?_ | refine W_skip ?_ | refine W_block ?_ | refine W_exit ?_ | refine pick_pos rfl ?_ | refine pick_neg rfl ?_ | ((first | refine W_regP fun K hK => ?_ | refine W_regPD fun K hK => ?_ | refine W_ret ?_); simp [Fin, hli, hoj, hne, limit]) | (with_reducible refine hK _ ?_; clear hK K) | (with_reducible refine goL_split (fun h => ?_) (fun h => ?_) <;> first | (exfalso; simp at h; first | done | omega | contradiction) | ((try simp at h); simp [hli, hoj, hne, limit])) | with_reducible refine And.intro ?_ ?_ | with_reducible exact okay_rfl rfl | with_reducible assumption | (refine W_cond rfl (fun h => ?_) (fun h => ?_) <;> first | (exfalso; simp at h; first | done | omega | contradiction) | (exfalso; simp_all; done) | (try simp at h)) | omega)
        refine ⟨W.fOwned.length - (j + 1), by omega, j + 1, rfl, hjt, ?_⟩
        rw [hsj]
        simp [gc, closeN, liveA, gcV, gcO, renA, renAs, renO, namesAs, namesA, namesO, posn, ← rOwned_one]
        exact wrap_id (by omega) (by omega)
    · have hje : j = W.fOwned.length := by omega
      subst hje
      rw [List.take_length]
      generalize letFold W l.fId W.fOwned = S at *
      obtain ⟨V, r⟩ := S
      dsimp only at hsu
      have hi6 := ind_rOwned r
      repeat' (first | refine W_seq ?_ | refine W_skip ?_ | refine W_block ?_ | refine W_exit ?_ | refine pick_pos rfl ?_ | refine pick_neg rfl ?_ | ((first | refine W_regP fun K hK => ?_ | refine W_regPD fun K hK => ?_ | refine W_ret ?_); simp [Fin]) | (with_reducible refine hK _ ?_; clear hK K) | (with_reducible refine goL_split (fun h => ?_) (fun h => ?_) <;> first | (exfalso; simp at h; first | done | omega | contradiction) | ((try simp at h); simp)) | with_reducible refine And.intro ?_ ?_ | with_reducible exact okay_rfl rfl | with_reducible assumption | (refine W_cond rfl (fun h => ?_) (fun h => ?_) <;> first | (exfalso; simp at h; first | done | omega | contradiction) | (exfalso; simp_all; done) | (try simp at h)) | omega)
      refine ⟨ls.length - (i + 1), by omega, i + 1, rfl, hlt, ?_⟩
      rw [hsu]
      simp [gc, closeN, liveA, gcV, gcO, renA, renAs, renO, namesAs, namesA, namesO, posn]
      exact wrap_id (by omega) (by omega)
  · have hie : i = ls.length := by omega
    subst hie
    rw [List.take_length]
    have hW := letAll_ok h ls
    have hgo : letGo w ls = loseW { letAll w ls with fQueue := ⟨(letRun (letAll w ls)).jobs⟩, fFar := (letRun (letAll w ls)).far } (letRun (letAll w ls)).failed.length := rfl
    have cru := s_RunQueue_ok (GG := GG) (letAll w ls).fQueue (letAll w ls).fFar (letAll w ls).fNow hW.qf hW.ff hW.qb hW.fb hW.now
    have hlr : letRun (letAll w ls) = rq (letAll w ls).fNow (letAll w ls).fQueue.fJobs (letAll w ls).fFar := rfl
    have hln := (rq_len (letAll w ls).fNow (letAll w ls).fQueue.fJobs (letAll w ls).fFar).2.2
    have hql := hW.qf.1
    rw [← hlr] at cru hln
    generalize letAll w ls = W at *
    generalize letRun W = R at *
    obtain ⟨rj, ⟨ru, rfl', rfm⟩, rd, rf⟩ := R
    obtain ⟨Wn, Wx, Wl, ⟨Wf⟩, ⟨Wb⟩, ⟨Wu, Wfl, Wfm⟩, ⟨Wq⟩, Wo⟩ := W
    dsimp only at *
    have clo := s_l16Lose_ok (GG := GG) ⟨Wn, Wx, Wl, ⟨Wf⟩, ⟨Wb⟩, ⟨ru, rfl', rfm⟩, ⟨rj⟩, Wo⟩ rf.length hW.lost ⟨by omega, by omega⟩
    rw [← hgo] at clo
    generalize letGo w ls = Z at *
    obtain ⟨Zn, Zx, Zl, ⟨Zf⟩, ⟨Zb⟩, ⟨Zu, Zfl, Zfm⟩, ⟨Zq⟩, Zo⟩ := Z
    have hi1 := ind_rToken Wf
    have hi2 := ind_rLease Wb
    have hi3 := ind_rUser ru
    have hi4 := ind_rJob rj
    have hi5 := ind_rOwned Wo
    have hj1 := ind_rToken Zf
    have hj2 := ind_rLease Zb
    have hj3 := ind_rUser Zu
    have hj4 := ind_rJob Zq
    have hj5 := ind_rOwned Zo
    have hj6 := ind_strs rd
    have hj7 := ind_strs rf
    repeat' (first | refine W_seq ?_ | refine W_skip ?_ | refine W_block ?_ | refine W_exit ?_ | refine pick_pos rfl ?_ | refine pick_neg rfl ?_ | ((first | refine W_regP fun K hK => ?_ | refine W_regPD fun K hK => ?_ | refine W_ret ?_ | with_reducible refine callQ (cru) ?_ | with_reducible refine callQ (clo) ?_); simp [Fin]) | (with_reducible refine hK _ ?_; clear hK K) | (with_reducible refine goL_split (fun h => ?_) (fun h => ?_) <;> first | (exfalso; simp at h; first | done | omega | contradiction) | ((try simp at h); simp)) | with_reducible refine And.intro ?_ ?_ | with_reducible exact okay_rfl rfl | with_reducible assumption | (refine W_cond rfl (fun h => ?_) (fun h => ?_) <;> first | (exfalso; simp at h; first | done | omega | contradiction) | (exfalso; simp_all; done) | (try simp at h)) | omega)
theorem letFold_skip {id : Int} {os : List GOwned} (h : ∀ o, o ∈ os → o.fLease ≠ id) (v : GWorld) (r : List GOwned) : os.foldl (letStep id) (v, r) = (v, r ++ os) := by
  induction os generalizing r with
  | nil => rw [List.append_nil]; rfl
  | cons a t ih =>
    rw [List.foldl_cons]
    have : letStep id (v, r) a = (v, r ++ [a]) := by unfold letStep; rw [if_neg (h a (by simp))]
    rw [this, ih (fun o ho => h o (by simp [ho])), List.append_assoc]
    rfl
theorem letHit_owned (w : GWorld) (o : GOwned) : (letHit w o).fOwned = w.fOwned := by
  unfold letHit loseW; split <;> rfl
theorem letOne_miss {w : GWorld} {l : GLease} (h : ∀ o, o ∈ w.fOwned → o.fLease ≠ l.fId) : letOne w l = w := by
  unfold letOne letFold
  rw [letFold_skip h]
  rfl
def ownInc (w : GWorld) : Prop := w.fOwned.Pairwise (fun y x => y.fLease < x.fLease)
theorem own_split {os : List GOwned} (inc : os.Pairwise (fun y x => y.fLease < x.fLease)) {i : Nat} {o : GOwned} (hi : os[i]? = some o) : (∀ y, y ∈ os.take i → y.fLease < o.fLease) ∧ (∀ y, y ∈ os.drop (i + 1) → o.fLease < y.fLease) ∧ os = os.take i ++ o :: os.drop (i + 1) := by
  obtain ⟨h1, rfl⟩ := List.getElem?_eq_some_iff.1 hi
  have e : os = os.take i ++ os[i] :: os.drop (i + 1) := by rw [← List.drop_eq_getElem_cons h1, List.take_append_drop]
  have inc2 := inc
  rw [e, List.pairwise_append, List.pairwise_cons] at inc2
  exact ⟨fun y hy => inc2.2.2 y hy _ (List.mem_cons_self ..), fun y hy => inc2.2.1.1 y hy, e⟩
theorem letOne_hit {w : GWorld} {l : GLease} {i : Nat} {o : GOwned} (inc : ownInc w) (hi : w.fOwned[i]? = some o) (ho : o.fLease = l.fId) : letOne w l = { letHit w o with fOwned := w.fOwned.take i ++ w.fOwned.drop (i + 1) } := by
  obtain ⟨h1, h2, h3⟩ := own_split inc hi
  have e : letFold w l.fId w.fOwned = (letHit w o, w.fOwned.take i ++ w.fOwned.drop (i + 1)) := by
    have e1 : (w.fOwned.take i).foldl (letStep l.fId) (w, []) = (w, w.fOwned.take i) := letFold_skip (fun y hy => by have := h1 y hy; omega) w []
    have e2 := letFold_skip (id := l.fId) (os := w.fOwned.drop (i + 1)) (fun y hy => by have := h2 y hy; omega) (letHit w o) (w.fOwned.take i)
    have e3 : letStep l.fId (w, w.fOwned.take i) o = (letHit w o, w.fOwned.take i) := by unfold letStep; rw [if_pos ho]
    have e4 : letFold w l.fId w.fOwned = (w.fOwned.take i ++ o :: w.fOwned.drop (i + 1)).foldl (letStep l.fId) (w, []) := by rw [← h3]; rfl
    rw [e4, List.foldl_append, e1, List.foldl_cons, e3, e2]
  unfold letOne
  rw [e]
theorem letOne_inc {w : GWorld} (l : GLease) (inc : ownInc w) : ownInc (letOne w l) := by
  by_cases hm : ∃ (j : Nat) (o : GOwned), w.fOwned[j]? = some o ∧ o.fLease = l.fId
  · obtain ⟨j, o, hj, ho⟩ := hm
    rw [letOne_hit inc hj ho]
    unfold ownInc at inc ⊢
    dsimp only
    refine List.Pairwise.sublist ?_ inc
    obtain ⟨-, -, h3⟩ := own_split inc hj
    conv => rhs; rw [h3]
    exact List.Sublist.append_left (List.sublist_cons_self _ _) _
  · rw [letOne_miss]
    · exact inc
    · intro o ho e
      obtain ⟨j, hj, rfl⟩ := List.mem_iff_getElem.1 ho
      exact hm ⟨j, _, List.getElem?_eq_getElem hj, e⟩
theorem letAll_inc {w : GWorld} (inc : ownInc w) (ls : List GLease) : ownInc (letAll w ls) := by
  unfold letAll
  induction ls generalizing w with
  | nil => exact inc
  | cons l r ih => exact ih (letOne_inc l inc)
theorem release_c1_ok (t : GOwned) (l : GLease) : Valid PP GG F_I_World_release_c1 [.agg t.c, .rp l.row] (.d (.bool (decide (t.fLease = l.fId)))) [none] := by
  refine v_I_World_release_c1 [.d (.bool (decide (t.fLease = l.fId)))] rfl rfl ?_
  refine u_30 ?_
  rfl
abbrev reVs (ls : List GLease) (i : Nat) : List (Nat × A) := [(0, .ptr 0 0), (15, .d (.slc 6 (rLease ls))), (16, .d (.int .i64 ls.length)), (17, .d (.int .i64 i))]
abbrev reOs (W : GWorld) : List (Nat × O) := [(0, .box [.d (.int .i64 W.fNow), .d (.int .i64 W.fNext), .d (.int .i64 W.fLost), .sl 1, .sl 2, .sl 3, .d (.int .i64 W.fFar.fFail), .d (.int .i64 W.fFar.fMade), .sl 4, .sl 5]), (1, .arr 0 1 7 (rToken W.fForest.fTokens)), (2, .arr 0 0 6 (rLease W.fBook.fLeases)), (3, .arr 0 0 2 (rUser W.fFar.fUsers)), (4, .arr 0 0 3 (rJob W.fQueue.fJobs)), (5, .arr 0 0 2 (rOwned W.fOwned))]
theorem release_ok [MaxL GG] (w : GWorld) (ls : List GLease) (h : LetOk w) (inc : ownInc w) (hls : ls.length ≤ 1048576) :
    Valid PP GG F_I_World_release [.box w.o, .d (.slc 6 (rLease ls))] (.tup [.own 0 1 (strsD (letRun (letAll w ls)).done), .own 0 1 (strsD (letRun (letAll w ls)).failed)]) [some (.box (letGo w ls).o), none] := by
  refine v_I_World_release [.own 0 1 (strsD (letRun (letAll w ls)).done), .own 0 1 (strsD (letRun (letAll w ls)).failed)] rfl rfl ?_
  repeat' (first | refine W_seq ?_ | refine W_skip ?_ | refine W_block ?_ | refine W_exit ?_ | refine pick_pos rfl ?_ | refine pick_neg rfl ?_ | ((first | refine W_regP fun K hK => ?_ | refine W_regPD fun K hK => ?_ | refine W_ret ?_); simp [Fin]) | (with_reducible refine hK _ ?_; clear hK K) | (with_reducible refine goL_split (fun h => ?_) (fun h => ?_) <;> first | (exfalso; simp at h; first | done | omega | contradiction) | ((try simp at h); simp)) | with_reducible refine And.intro ?_ ?_ | with_reducible exact okay_rfl rfl | with_reducible assumption | (refine W_cond rfl (fun h => ?_) (fun h => ?_) <;> first | (exfalso; simp at h; first | done | omega | contradiction) | (exfalso; simp_all; done) | (try simp at h)) | omega)
  refine W_loop (fun n st => ∃ i : Nat, n = ls.length - i ∧ i ≤ ls.length ∧ st = ⟨[], reVs ls i, reOs (letAll w (ls.take i)), 6⟩) _ ⟨0, rfl, by omega, ?_⟩ ?_
  · obtain ⟨a, b, c, ⟨tk⟩, ⟨bk⟩, ⟨us, ff, fm⟩, ⟨jb⟩, ow⟩ := w
    simp [gc, closeN, liveA, gcV, gcO, renA, renAs, renO, namesAs, namesA, namesO, posn, letAll]
  rintro n st ⟨i, rfl, hi, rfl⟩
  by_cases hlt : i < ls.length
  · have hli := List.getElem?_eq_getElem hlt
    generalize ls[i] = l at hli
    have hsu := letAll_succ (w := w) hli
    have hW := letAll_ok h (ls.take i)
    have hinc := letAll_inc inc (ls.take i)
    generalize letAll w (ls.take i) = W at *
    have hol := hW.ol
    have cix := IndexFuncOwned_ok (GG := GG) W.fOwned F_I_World_release_c1 [l.row] (fun t => decide (t.fLease = l.fId)) (by omega) fun x _ => release_c1_ok x l
    have hi5 := ind_rOwned W.fOwned
    by_cases hm : ∃ (j : Nat) (o : GOwned), W.fOwned[j]? = some o ∧ o.fLease = l.fId
    · obtain ⟨j, o, hj, ho⟩ := hm
      obtain ⟨hs1, hs2, hs3⟩ := own_split hinc hj
      rw [idxF_hit hj (fun y hy => by have := hs1 y hy; exact decide_eq_false (by omega)) (decide_eq_true ho)] at cix
      rw [letOne_hit hinc hj ho] at hsu
      clear hs1 hs2 hs3
      have hjl := (List.getElem?_eq_some_iff.1 hj).1
      have hon := hW.on o (List.mem_of_getElem? hj)
      have cqd := queueDrop_ok (GG := GG) W.fQueue o.fName W.fNow hW.qf hon hW.qb
      have cdl := DeleteOwned_ok (GG := GG) (rOwned W.fOwned) j (j + 1) (by omega) (by rw [rOwned_len]; omega)
      rw [rOwned_del] at cdl
      have hw : IntKind.i64.wrap ((j : Int) + 1) = (j : Int) + 1 := wrap_id (by omega) (by omega)
      rw [show ((j + 1 : Nat) : Int) = (j : Int) + 1 by omega] at cdl
      have hlo := hW.lost
      have hi6 := ind_rOwned (W.fOwned.take j ++ W.fOwned.drop (j + 1))
      generalize W.fOwned.take j ++ W.fOwned.drop (j + 1) = os' at *
      unfold letHit at hsu
      obtain ⟨on, ol⟩ := o
      obtain ⟨Vn, Vx, Vl, ⟨Vf⟩, ⟨Vb⟩, ⟨Vu, Vfl, Vfm⟩, ⟨Vq⟩, Vo⟩ := W
      dsimp only at *
      have hi1 := ind_rToken Vf
      have hi2 := ind_rLease Vb
      have hi3 := ind_rUser Vu
      generalize qDropB ⟨Vq⟩ ol Vn = DB at *
      generalize qDropQ ⟨Vq⟩ ol Vn = DQ at *
      obtain ⟨dj⟩ := DQ
      have hi4 := ind_rJob dj
      cases DB
      · simp only [Bool.false_eq_true, if_false] at hsu
        have hw2 : IntKind.i64.wrap (Vl + 1) = Vl + 1 := wrap_id (by omega) (by omega)
        repeat' (first | refine W_seq ?_ | refine W_skip ?_ | refine W_block ?_ | refine W_exit ?_ | refine pick_pos rfl ?_ | refine pick_neg rfl ?_ | ((first | refine W_regP fun K hK => ?_ | refine W_regPD fun K hK => ?_ | refine W_ret ?_ | with_reducible refine callQ (cix) ?_ | with_reducible refine callQ (cqd) ?_ | with_reducible refine callQ (cdl) ?_); simp [Fin, hli, hj, hw, hw2]) | (with_reducible refine hK _ ?_; clear hK K) | (with_reducible refine goL_split (fun h => ?_) (fun h => ?_) <;> first | (exfalso; simp at h; first | done | omega | contradiction) | ((try simp at h); simp [hli, hj, hw, hw2])) | with_reducible refine And.intro ?_ ?_ | with_reducible exact okay_rfl rfl | with_reducible assumption | (refine W_cond rfl (fun h => ?_) (fun h => ?_) <;> first | (exfalso; simp at h; first | done | omega | contradiction) | (exfalso; simp_all; done) | (try simp at h)) | omega)
        refine ⟨ls.length - (i + 1), by omega, i + 1, rfl, hlt, ?_⟩
        rw [hsu]
        simp [gc, closeN, liveA, gcV, gcO, renA, renAs, renO, namesAs, namesA, namesO, posn, loseW]
        exact wrap_id (by omega) (by omega)
      · simp only [if_true] at hsu
        repeat' (first | refine W_seq ?_ | refine W_skip ?_ | refine W_block ?_ | refine W_exit ?_ | refine pick_pos rfl ?_ | refine pick_neg rfl ?_ | ((first | refine W_regP fun K hK => ?_ | refine W_regPD fun K hK => ?_ | refine W_ret ?_ | with_reducible refine callQ (cix) ?_ | with_reducible refine callQ (cqd) ?_ | with_reducible refine callQ (cdl) ?_); simp [Fin, hli, hj, hw]) | (with_reducible refine hK _ ?_; clear hK K) | (with_reducible refine goL_split (fun h => ?_) (fun h => ?_) <;> first | (exfalso; simp at h; first | done | omega | contradiction) | ((try simp at h); simp [hli, hj, hw])) | with_reducible refine And.intro ?_ ?_ | with_reducible exact okay_rfl rfl | with_reducible assumption | (refine W_cond rfl (fun h => ?_) (fun h => ?_) <;> first | (exfalso; simp at h; first | done | omega | contradiction) | (exfalso; simp_all; done) | (try simp at h)) | omega)
        refine ⟨ls.length - (i + 1), by omega, i + 1, rfl, hlt, ?_⟩
        rw [hsu]
        simp [gc, closeN, liveA, gcV, gcO, renA, renAs, renO, namesAs, namesA, namesO, posn]
        exact wrap_id (by omega) (by omega)
    · have hno : ∀ o, o ∈ W.fOwned → o.fLease ≠ l.fId := by
        intro o ho e
        obtain ⟨j, hj, rfl⟩ := List.mem_iff_getElem.1 ho
        exact hm ⟨j, _, List.getElem?_eq_getElem hj, e⟩
      rw [idxF_miss (fun o ho => decide_eq_false (hno o ho))] at cix
      rw [letOne_miss hno] at hsu
      repeat' (first | refine W_seq ?_ | refine W_skip ?_ | refine W_block ?_ | refine W_exit ?_ | refine pick_pos rfl ?_ | refine pick_neg rfl ?_ | ((first | refine W_regP fun K hK => ?_ | refine W_regPD fun K hK => ?_ | refine W_ret ?_ | with_reducible refine callQ (cix) ?_); simp [Fin, hli]) | (with_reducible refine hK _ ?_; clear hK K) | (with_reducible refine goL_split (fun h => ?_) (fun h => ?_) <;> first | (exfalso; simp at h; first | done | omega | contradiction) | ((try simp at h); simp [hli])) | with_reducible refine And.intro ?_ ?_ | with_reducible exact okay_rfl rfl | with_reducible assumption | (refine W_cond rfl (fun h => ?_) (fun h => ?_) <;> first | (exfalso; simp at h; first | done | omega | contradiction) | (exfalso; simp_all; done) | (try simp at h)) | omega)
      refine ⟨ls.length - (i + 1), by omega, i + 1, rfl, hlt, ?_⟩
      rw [hsu]
      simp [gc, closeN, liveA, gcV, gcO, renA, renAs, renO, namesAs, namesA, namesO, posn]
      exact wrap_id (by omega) (by omega)
  · have hie : i = ls.length := by omega
    subst hie
    rw [List.take_length]
    have hW := letAll_ok h ls
    have hgo : letGo w ls = { letAll w ls with fQueue := ⟨(letRun (letAll w ls)).jobs⟩, fFar := (letRun (letAll w ls)).far, fLost := if 1000000000 < (letAll w ls).fLost + (letRun (letAll w ls)).failed.length then 1000000000 else (letAll w ls).fLost + (letRun (letAll w ls)).failed.length } := rfl
    have cru := runQueue_ok (GG := GG) (letAll w ls).fQueue (letAll w ls).fFar (letAll w ls).fNow hW.qf hW.ff hW.qb hW.fb hW.now
    have hlr : letRun (letAll w ls) = rq (letAll w ls).fNow (letAll w ls).fQueue.fJobs (letAll w ls).fFar := rfl
    have hln := (rq_len (letAll w ls).fNow (letAll w ls).fQueue.fJobs (letAll w ls).fFar).2.2
    have hql := hW.qf.1
    have hlo := hW.lost
    rw [← hlr] at cru hln
    generalize letAll w ls = W at *
    generalize letRun W = R at *
    obtain ⟨rj, ⟨ru, rfl', rfm⟩, rd, rf⟩ := R
    obtain ⟨Wn, Wx, Wl, ⟨Wf⟩, ⟨Wb⟩, ⟨Wu, Wfl, Wfm⟩, ⟨Wq⟩, Wo⟩ := W
    dsimp only at *
    have hi1 := ind_rToken Wf
    have hi2 := ind_rLease Wb
    have hi3 := ind_rUser ru
    have hi4 := ind_rJob rj
    have hi5 := ind_rOwned Wo
    have hj6 := ind_strs rd
    have hj7 := ind_strs rf
    have hw : IntKind.i64.wrap (Wl + rf.length) = Wl + rf.length := wrap_id (by omega) (by omega)
    have hsl := strsD_len rf
    clear hlr
    by_cases hc : 1000000000 < Wl + rf.length
    · rw [if_pos hc] at hgo
      rw [hgo]
      clear hgo
      repeat' (first | refine W_seq ?_ | refine W_skip ?_ | refine W_block ?_ | refine W_exit ?_ | refine pick_pos rfl ?_ | refine pick_neg rfl ?_ | ((first | refine W_regP fun K hK => ?_ | refine W_regPD fun K hK => ?_ | refine W_ret ?_ | with_reducible refine callQ (cru) ?_); simp [Fin, hw, hc, hsl]) | (with_reducible refine hK _ ?_; clear hK K) | (with_reducible refine goL_split (fun h => ?_) (fun h => ?_) <;> first | (exfalso; simp at h; first | done | omega | contradiction) | ((try simp at h); simp [hw, hc, hsl])) | with_reducible refine And.intro ?_ ?_ | with_reducible exact okay_rfl rfl | with_reducible assumption | (refine W_cond rfl (fun h => ?_) (fun h => ?_) <;> first | (exfalso; simp at h; first | done | omega | contradiction) | (exfalso; simp_all; done) | (try simp at h)) | omega)
    · rw [if_neg hc] at hgo
      rw [hgo]
      clear hgo
      repeat' (first | refine W_seq ?_ | refine W_skip ?_ | refine W_block ?_ | refine W_exit ?_ | refine pick_pos rfl ?_ | refine pick_neg rfl ?_ | ((first | refine W_regP fun K hK => ?_ | refine W_regPD fun K hK => ?_ | refine W_ret ?_ | with_reducible refine callQ (cru) ?_); simp [Fin, hw, hc, hsl]) | (with_reducible refine hK _ ?_; clear hK K) | (with_reducible refine goL_split (fun h => ?_) (fun h => ?_) <;> first | (exfalso; simp at h; first | done | omega | contradiction) | ((try simp at h); simp [hw, hc, hsl])) | with_reducible refine And.intro ?_ ?_ | with_reducible exact okay_rfl rfl | with_reducible assumption | (refine W_cond rfl (fun h => ?_) (fun h => ?_) <;> first | (exfalso; simp at h; first | done | omega | contradiction) | (exfalso; simp_all; done) | (try simp at h)) | omega)
theorem letOk_of {w : GWorld} (hf : fitW w) (hb : worldB w = true) (b : GBook) : LetOk { w with fBook := b } ∧ ownInc { w with fBook := b } ∧ bookB w.fBook = true := by
  unfold worldB at hb
  simp only [Bool.and_eq_true] at hb
  obtain ⟨⟨⟨⟨⟨⟨⟨⟨⟨h1, h2⟩, h3⟩, h4⟩, h5⟩, h6⟩, h7⟩, h8⟩, h9⟩, h10⟩ := hb
  obtain ⟨f1, f2, f3, f4, f5, f6⟩ := hf
  exact ⟨⟨inB_true h1, inB_true h3, h7, f4, h6, f3, f5, f6⟩, own_inc h10, h5⟩
theorem sumBy_filter {α : Type} (f : α → Nat) (p : α → Bool) (l : List α) : (l.filter p).length + sumBy f (l.filter p) ≤ l.length + sumBy f l := by
  induction l with
  | nil => exact Nat.le_refl _
  | cons a t ih =>
    rw [List.filter_cons]
    split
    · simp only [List.length_cons, sumBy]; omega
    · simp only [List.length_cons, sumBy]; omega
theorem sumBy_sing {α : Type} (f : α → Nat) (x : α) : sumBy f [x] = f x := rfl
theorem dropF_cost (f : GFar) (s : List UInt8) : (dropF f s).cost ≤ f.cost := by
  unfold dropF
  split
  · exact Nat.le_refl _
  · exact sumBy_filter _ _ _
theorem qDropQ_cost (q : GQueue) (s : List UInt8) (now : Int) : (qDropQ q s now).cost ≤ q.cost + 1 + s.length := by
  unfold qDropQ
  split
  · omega
  · split
    · unfold dropOut GQueue.cost
      dsimp only
      rw [List.length_append, sumBy_append, sumBy_sing]
      unfold GJob.cost
      simp only [List.length_cons, List.length_nil]
      omega
    · omega
theorem world_cost (w : GWorld) : w.cost = w.fForest.cost + w.fBook.cost + w.fFar.cost + w.fQueue.cost + (w.fOwned.length + sumBy GOwned.cost w.fOwned) := rfl
theorem letHit_cost (w : GWorld) (o : GOwned) : (letHit w o).cost ≤ w.cost + 1 + o.cost := by
  have h := qDropQ_cost w.fQueue o.fName w.fNow
  have e : o.cost = o.fName.length := rfl
  unfold letHit loseW
  split <;> (rw [world_cost, world_cost]; dsimp only; omega)
theorem letFold_cost (w : GWorld) (id : Int) (os : List GOwned) : (letFold w id os).1.cost + ((letFold w id os).2.length + sumBy GOwned.cost (letFold w id os).2) ≤ w.cost + (os.length + sumBy GOwned.cost os) ∧ (letFold w id os).1.fOwned = w.fOwned := by
  induction os using snoc_ind with
  | h0 => exact ⟨Nat.le_refl _, rfl⟩
  | h1 l x ih =>
    obtain ⟨ih1, ih2⟩ := ih
    rw [letFold_snoc, List.length_append, sumBy_append, sumBy_sing]
    unfold letStep
    simp only [List.length_cons, List.length_nil]
    split
    · have := letHit_cost (letFold w id l).1 x
      exact ⟨by dsimp only; omega, by dsimp only; rw [letHit_owned]; exact ih2⟩
    · refine ⟨?_, ih2⟩
      dsimp only
      rw [List.length_append, sumBy_append, sumBy_sing]
      simp only [List.length_cons, List.length_nil]
      omega
theorem letOne_cost (w : GWorld) (l : GLease) : (letOne w l).cost ≤ w.cost := by
  obtain ⟨h1, h2⟩ := letFold_cost w l.fId w.fOwned
  have e := world_cost (letFold w l.fId w.fOwned).1
  rw [h2] at e
  unfold letOne
  rw [world_cost]
  dsimp only
  omega
theorem letAll_cost (w : GWorld) (ls : List GLease) : (letAll w ls).cost ≤ w.cost := by
  unfold letAll
  induction ls generalizing w with
  | nil => exact Nat.le_refl _
  | cons l r ih => exact Nat.le_trans (ih (letOne w l)) (letOne_cost w l)
theorem rq_cost (now : Int) (q : List GJob) (f : GFar) : (rq now q f).jobs.length + sumBy GJob.cost (rq now q f).jobs + (rq now q f).far.cost ≤ q.length + sumBy GJob.cost q + f.cost := by
  induction q using snoc_ind with
  | h0 => exact Nat.le_refl _
  | h1 l x ih =>
    have e : rq now (l ++ [x]) f = rqStep now (rq now l f) x := by unfold rq; rw [List.foldl_append]; rfl
    have hd := dropF_cost (rq now l f).far x.fName
    have ej : x.cost = x.fName.length := rfl
    have ek : ∀ a b, (GJob.mk x.fName a b).cost = x.fName.length := fun _ _ => rfl
    rw [e, List.length_append, sumBy_append, sumBy_sing]
    simp only [List.length_cons, List.length_nil]
    unfold rqStep
    repeat' split
    · dsimp only; rw [List.length_append, sumBy_append, sumBy_sing]; simp only [List.length_cons, List.length_nil]; omega
    · dsimp only; omega
    · dsimp only; omega
    · dsimp only; rw [List.length_append, sumBy_append, sumBy_sing, ek]; simp only [List.length_cons, List.length_nil]; omega
theorem letGo_cost (w : GWorld) (ls : List GLease) : (letGo w ls).cost ≤ w.cost := by
  have h1 := letAll_cost w ls
  have h2 := rq_cost (letAll w ls).fNow (letAll w ls).fQueue.fJobs (letAll w ls).fFar
  have e1 := world_cost (letAll w ls)
  have e2 : (letAll w ls).fQueue.cost = (letAll w ls).fQueue.fJobs.length + sumBy GJob.cost (letAll w ls).fQueue.fJobs := rfl
  have e3 : ∀ l, (GQueue.mk l).cost = l.length + sumBy GJob.cost l := fun _ => rfl
  unfold letGo loseW letRun
  rw [world_cost]
  dsimp only
  rw [e3]
  omega
def lessF (f : GForest) (g : List Int) : GForest := ⟨f.fTokens.filter fun t => !g.contains t.fId⟩
theorem s_l08Less_ok (a : List GToken) (g : List Int) (hf : fitF ⟨a⟩) (hg : g.length ≤ 1048576) :
    Valid PP GG F_S_l08Less [.agg (GForest.mk a).c, .d (.slc 1 (intsD g))] (.agg (lessF ⟨a⟩ g).o) [none, none] := by
  refine v_S_l08Less [.agg (lessF ⟨a⟩ g).o] rfl rfl ?_
  have hL : lessF ⟨a⟩ g = ⟨a.filter fun t => !g.contains t.fId⟩ := rfl
  rw [hL]
  clear hL
  have chas := fun x => l01Has_ok (GG := GG) g x (by omega)
  refine u_30 ?_
  refine W_nilP 5 0 rfl rfl rfl ?_
  refine u_30 ?_
  refine W_loop (fun n st => ∃ i : Nat, n = a.length - i ∧ i ≤ a.length ∧
    st = ⟨[], [(1, .d (.slc 1 (intsD g))), (2, .ptr 0 0), (4, .ptr 1 0), (5, .ptr 2 0), (6, .d (.int .i64 i))], [(0, .box [.d (.slc 7 (rToken a))]), (1, .box [.nil 1 7]), (2, .box [.sl 3]), (3, .arr 0 1 7 (rToken ((a.take i).filter fun t => !g.contains t.fId)))], 4⟩) _ ⟨0, rfl, by omega, ?_⟩ ?_
  · simp [gc, closeN, liveA, gcV, gcO, renA, renAs, renO, namesAs, namesA, namesO, posn, rToken]
  rintro n st ⟨i, rfl, hi, rfl⟩
  by_cases hlt : i < a.length
  rotate_left
  · have hie : i = a.length := by omega
    subst hie
    rw [List.take_length]
    have hi4 := ind_rToken (a.filter fun t => !g.contains t.fId)
    generalize (a.filter fun t => !g.contains t.fId) = b at *
    exact u_29
  have ha := List.getElem?_eq_getElem hlt
  have hm := List.getElem_mem hlt
  generalize a[i] = x at ha hm
  have hsc := filter_succ (p := fun t : GToken => !g.contains t.fId) (f := GToken.row) ha
  have hlen := filter_take_len (fun t : GToken => !g.contains t.fId) GToken.row a i
  rw [show ∀ l : List GToken, (l.filter fun t => !g.contains t.fId).map GToken.row = rToken (l.filter fun t => !g.contains t.fId) from fun l => rfl] at hsc hlen
  rw [show ∀ l : List GToken, (l.filter fun t => !g.contains t.fId).map GToken.row = rToken (l.filter fun t => !g.contains t.fId) from fun l => rfl] at hsc
  have hir := ind_rToken ((a.take i).filter fun t => !g.contains t.fId)
  have ct := s_l08CopyToken_ok (GG := GG) x (hf.2 x hm)
  have hla : a.length ≤ 1048576 := hf.1
  generalize rToken ((a.take i).filter fun t => !g.contains t.fId) = L at *
  have ch := chas x.fId
  obtain ⟨xi, xp, xn, xm, xe, xl, xu⟩ := x
  dsimp only at hsc ch
  cases hc : g.contains xi with
  | true =>
    rw [hc] at hsc ch
    simp only [Bool.not_true, Bool.false_eq_true, if_false, List.append_nil] at hsc
    refine u_32 ha ch ?_
    refine ⟨a.length - (i + 1), by omega, i + 1, rfl, hlt, ?_⟩
    rw [hsc]
    simp [gc, closeN, liveA, gcV, gcO, renA, renAs, renO, namesAs, namesA, namesO, posn]
    exact wrap_id (by omega) (by omega)
  | false =>
    rw [hc] at hsc ch
    simp only [Bool.not_false, if_true] at hsc
    repeat' (first | refine W_seq ?_ | refine W_skip ?_ | refine W_block ?_ | refine W_exit ?_ | refine pick_pos rfl ?_ | refine pick_neg rfl ?_ | ((first | refine W_regP fun K hK => ?_ | refine W_regPD fun K hK => ?_ | refine W_ret ?_ | with_reducible refine callQ (ch) ?_ | with_reducible refine callQ (ct) ?_); simp [Fin, ha, limit]) | (with_reducible refine hK _ ?_; clear hK K) | (with_reducible refine goL_split (fun h => ?_) (fun h => ?_) <;> first | (exfalso; simp at h; first | done | omega | contradiction) | ((try simp at h); simp [ha, limit])) | with_reducible refine And.intro ?_ ?_ | with_reducible exact okay_rfl rfl | with_reducible assumption | (refine W_cond rfl (fun h => ?_) (fun h => ?_) <;> first | (exfalso; simp at h; first | done | omega | contradiction) | (exfalso; simp_all; done) | (try simp at h)) | omega)
    refine ⟨a.length - (i + 1), by omega, i + 1, rfl, hlt, ?_⟩
    rw [hsc]
    simp [gc, closeN, liveA, gcV, gcO, renA, renAs, renO, namesAs, namesA, namesO, posn]
    exact wrap_id (by omega) (by omega)
theorem lessF_nil (f : GForest) : lessF f [] = f := by
  obtain ⟨a⟩ := f
  unfold lessF
  congr 1
  rw [List.filter_eq_self]
  intro t _
  rfl
theorem s_RevokeToken_ok [MaxL GG] (f : GForest) (id : Int) (hf : fitF f) :
    Valid PP GG F_S_RevokeToken [.agg f.c, .d (.int .i64 id)] (.tup [.agg (lessF f (goneT f id)).o, .own 0 1 (intsD (goneT f id))]) [none, none] := by
  refine v_S_RevokeToken [.agg (lessF f (goneT f id)).o, .own 0 1 (intsD (goneT f id))] rfl rfl ?_
  have cb := s_Below_ok (GG := GG) f id hf
  have hgl := goneT_len f id
  have hl := hf.1
  have ccp := s_l08Copy_ok (GG := GG) f.fTokens hf
  have cle := s_l08Less_ok (GG := GG) f.fTokens (goneT f id) hf (by omega)
  have hnil := lessF_nil f
  obtain ⟨a⟩ := f
  dsimp only at hgl hl ccp cle
  generalize goneT ⟨a⟩ id = G at *
  have hi1 := ind_rToken a
  have hig := ind_ints G
  cases G with
  | nil =>
    rw [hnil]
    clear hnil cle
    repeat' (first | refine W_seq ?_ | refine W_skip ?_ | refine W_block ?_ | refine W_exit ?_ | refine pick_pos rfl ?_ | refine pick_neg rfl ?_ | ((first | refine W_regP fun K hK => ?_ | refine W_regPD fun K hK => ?_ | refine W_ret ?_ | with_reducible refine callQ (cb) ?_ | with_reducible refine callQ (ccp) ?_); simp [Fin, intsD]) | (with_reducible refine hK _ ?_; clear hK K) | (with_reducible refine goL_split (fun h => ?_) (fun h => ?_) <;> first | (exfalso; simp at h; first | done | omega | contradiction) | ((try simp at h); simp [intsD])) | with_reducible refine And.intro ?_ ?_ | with_reducible exact okay_rfl rfl | with_reducible assumption | (refine W_cond rfl (fun h => ?_) (fun h => ?_) <;> first | (exfalso; simp at h; first | done | omega | contradiction) | (exfalso; simp_all; done) | (try simp at h)) | omega)
  | cons x t =>
    have hne : (((x :: t).length : Int) == 0) = false := by simp; omega
    have hle := ints_len (x :: t)
    generalize (x :: t) = G at *
    generalize lessF ⟨a⟩ G = R at *
    obtain ⟨r⟩ := R
    have hi2 := ind_rToken r
    clear hnil
    exact u_52 hne hle cb cle
def keepL (b : GBook) (g : List Int) : GBook := ⟨b.fLeases.filter fun l => !g.contains l.fToken⟩
def goneL (b : GBook) (g : List Int) : List GLease := b.fLeases.filter fun l => g.contains l.fToken
theorem s_DropOf_ok [MaxL GG] (b : GBook) (g : List Int) (hf : fitB b) (hb : bookB b = true) (hg : g.length ≤ 200) :
    Valid PP GG F_S_DropOf [.agg b.c, .d (.slc 1 (intsD g))] (.tup [.agg (keepL b g).o, .own 0 6 (rLease (goneL b g))]) [none, none] := by
  refine v_S_DropOf [.agg (keepL b g).o, .own 0 6 (rLease (goneL b g))] rfl rfl ?_
  have hK : keepL b g = ⟨b.fLeases.filter fun l => !g.contains l.fToken⟩ := rfl
  have hG : goneL b g = b.fLeases.filter fun l => g.contains l.fToken := rfl
  have cbo := s_BookOk_ok (GG := GG) b hf
  rw [hb] at cbo
  rw [hK, hG]
  clear hK hG
  have chas := fun x => l01Has_ok (GG := GG) g x (by omega)
  have hl := hf.1
  obtain ⟨a⟩ := b
  dsimp only at hl
  have hgl := ints_len g
  have hng : ((200 : Int) < (g.length : Int)) = False := by simp; omega
  refine u_39 hgl hng cbo ?_
  refine W_nilP 6 0 rfl rfl rfl ?_
  refine u_30 ?_
  refine W_loop (fun n st => ∃ i : Nat, n = a.length - i ∧ i ≤ a.length ∧
    st = ⟨[], [(1, .d (.slc 1 (intsD g))), (2, .ptr 0 0), (4, .ptr 1 0), (6, .ptr 2 0), (7, .sl 3), (8, .d (.int .i64 i))], [(0, .box [.d (.slc 6 (rLease a))]), (1, .box [.nil 0 6]), (2, .box [.sl 4]), (3, .arr 0 0 6 (rLease ((a.take i).filter fun l => g.contains l.fToken))), (4, .arr 0 0 6 (rLease ((a.take i).filter fun l => !g.contains l.fToken)))], 5⟩) _ ⟨0, rfl, by omega, ?_⟩ ?_
  · simp [gc, closeN, liveA, gcV, gcO, renA, renAs, renO, namesAs, namesA, namesO, posn, rLease]
  rintro n st ⟨i, rfl, hi, rfl⟩
  by_cases hlt : i < a.length
  rotate_left
  · have hie : i = a.length := by omega
    subst hie
    rw [List.take_length]
    have hi4 := ind_rLease (a.filter fun l => g.contains l.fToken)
    have hi5 := ind_rLease (a.filter fun l => !g.contains l.fToken)
    generalize (a.filter fun l => g.contains l.fToken) = b1 at *
    generalize (a.filter fun l => !g.contains l.fToken) = b2 at *
    exact u_29
  have ha := List.getElem?_eq_getElem hlt
  generalize a[i] = x at ha
  have hsc := filter_succ (p := fun l : GLease => g.contains l.fToken) (f := GLease.row) ha
  have hlen := filter_take_len (fun l : GLease => g.contains l.fToken) GLease.row a i
  rw [show ∀ l : List GLease, (l.filter fun l => g.contains l.fToken).map GLease.row = rLease (l.filter fun l => g.contains l.fToken) from fun l => rfl] at hsc hlen
  rw [show ∀ l : List GLease, (l.filter fun l => g.contains l.fToken).map GLease.row = rLease (l.filter fun l => g.contains l.fToken) from fun l => rfl] at hsc
  have hsc2 := filter_succ (p := fun l : GLease => !g.contains l.fToken) (f := GLease.row) ha
  have hlen2 := filter_take_len (fun l : GLease => !g.contains l.fToken) GLease.row a i
  rw [show ∀ l : List GLease, (l.filter fun l => !g.contains l.fToken).map GLease.row = rLease (l.filter fun l => !g.contains l.fToken) from fun l => rfl] at hsc2 hlen2
  rw [show ∀ l : List GLease, (l.filter fun l => !g.contains l.fToken).map GLease.row = rLease (l.filter fun l => !g.contains l.fToken) from fun l => rfl] at hsc2
  generalize rLease ((a.take i).filter fun l => g.contains l.fToken) = L at *
  generalize rLease ((a.take i).filter fun l => !g.contains l.fToken) = L2 at *
  have ch := chas x.fToken
  obtain ⟨x1, x2, x3, x4, x5, x6⟩ := x
  dsimp only at hsc hsc2 ch
  cases hc : g.contains x2 with
  | true =>
    rw [hc] at hsc hsc2 ch
    simp only [if_true] at hsc
    simp only [Bool.not_true, Bool.false_eq_true, if_false, List.append_nil] at hsc2
    refine u_49 ha ch ?_
    refine ⟨a.length - (i + 1), by omega, i + 1, rfl, hlt, ?_⟩
    rw [hsc, hsc2]
    simp [gc, closeN, liveA, gcV, gcO, renA, renAs, renO, namesAs, namesA, namesO, posn]
    exact wrap_id (by omega) (by omega)
  | false =>
    rw [hc] at hsc hsc2 ch
    simp only [Bool.not_false, if_true] at hsc2
    simp only [Bool.false_eq_true, if_false, List.append_nil] at hsc
    refine u_49 ha ch ?_
    refine ⟨a.length - (i + 1), by omega, i + 1, rfl, hlt, ?_⟩
    rw [hsc, hsc2]
    simp [gc, closeN, liveA, gcV, gcO, renA, renAs, renO, namesAs, namesA, namesO, posn]
    exact wrap_id (by omega) (by omega)
theorem dropLeases_ok (a : List GLease) (g : FuncId) (caps : List (List D)) (p : GLease → Bool) (hl : a.length ≤ 1048576) (hp : ∀ x, x ∈ a → Valid PP GG g (.agg x.c :: caps.map .rp) (.d (.bool (p x))) [none]) :
    Valid PP GG F_I_dropLeases [.agg [.d (.slc 6 (rLease a))], .d (.fn g caps)] (.tup [.agg [.own 0 6 (rLease (a.filter fun l => !p l))], .own 0 6 (rLease (a.filter p))]) [none, none] := by
  refine v_I_dropLeases [.agg [.own 0 6 (rLease (a.filter fun l => !p l))], .own 0 6 (rLease (a.filter p))] rfl rfl ?_
  refine W_seq (?_)
  refine u_1 ?_
  refine W_seq (?_)
  refine u_1 ?_
  refine W_nilP 6 0 rfl rfl rfl ?_
  refine W_seq (?_)
  refine u_1 ?_
  refine W_nilV 7 rfl ?_
  refine u_30 ?_
  refine W_loop (fun n st => ∃ i : Nat, n = a.length - i ∧ i ≤ a.length ∧
    st = ⟨[], [(1, .d (.fn g caps)), (4, .ptr 0 0), (6, .ptr 1 0), (7, .sl 2), (11, .d (.slc 6 (rLease a))), (12, .d (.int .i64 a.length)), (13, .d (.int .i64 i))],
      [(0, .box [.nil 0 6]), (1, .box [.sl 3]), (2, .arr 0 0 6 (rLease ((a.take i).filter p))), (3, .arr 0 0 6 (rLease ((a.take i).filter fun l => !p l)))], 4⟩) _ ⟨0, rfl, by omega, ?_⟩ ?_
  · simp [gc, closeN, liveA, gcV, gcO, renA, renAs, renO, namesAs, namesA, namesO, posn, rLease]
  rintro n st ⟨i, rfl, hi, rfl⟩
  by_cases hlt : i < a.length
  rotate_left
  · have hie : i = a.length := by omega
    subst hie
    rw [List.take_length]
    have hi4 := ind_rLease (a.filter p)
    have hi5 := ind_rLease (a.filter fun l => !p l)
    generalize (a.filter p) = b1 at *
    generalize (a.filter fun l => !p l) = b2 at *
    exact u_29
  have ha := List.getElem?_eq_getElem hlt
  have hm := List.getElem_mem hlt
  generalize a[i] = x at ha hm
  have cp := hp x hm
  have hsc := filter_succ (p := p) (f := GLease.row) ha
  have hlen := filter_take_len p GLease.row a i
  rw [show ∀ l : List GLease, (l.filter p).map GLease.row = rLease (l.filter p) from fun l => rfl] at hsc hlen
  rw [show ∀ l : List GLease, (l.filter p).map GLease.row = rLease (l.filter p) from fun l => rfl] at hsc
  have hsc2 := filter_succ (p := fun l : GLease => !p l) (f := GLease.row) ha
  have hlen2 := filter_take_len (fun l : GLease => !p l) GLease.row a i
  rw [show ∀ l : List GLease, (l.filter fun l => !p l).map GLease.row = rLease (l.filter fun l => !p l) from fun l => rfl] at hsc2 hlen2
  rw [show ∀ l : List GLease, (l.filter fun l => !p l).map GLease.row = rLease (l.filter fun l => !p l) from fun l => rfl] at hsc2
  generalize rLease ((a.take i).filter p) = L at *
  generalize rLease ((a.take i).filter fun l => !p l) = L2 at *
  generalize hcp : p x = c at *
  obtain ⟨x1, x2, x3, x4, x5, x6⟩ := x
  cases c with
  | true =>
    simp only [hcp, if_true] at hsc
    simp only [hcp, Bool.not_true, Bool.false_eq_true, if_false, List.append_nil] at hsc2
    refine u_49 ha cp ?_
    refine ⟨a.length - (i + 1), by omega, i + 1, rfl, hlt, ?_⟩
    rw [hsc, hsc2]
    simp [gc, closeN, liveA, gcV, gcO, renA, renAs, renO, namesAs, namesA, namesO, posn]
    exact wrap_id (by omega) (by omega)
  | false =>
    simp only [hcp, Bool.not_false, if_true] at hsc2
    simp only [hcp, Bool.false_eq_true, if_false, List.append_nil] at hsc
    refine u_49 ha cp ?_
    refine ⟨a.length - (i + 1), by omega, i + 1, rfl, hlt, ?_⟩
    rw [hsc, hsc2]
    simp [gc, closeN, liveA, gcV, gcO, renA, renAs, renO, namesAs, namesA, namesO, posn]
    exact wrap_id (by omega) (by omega)
theorem dropOfTokens_c1_ok (l : GLease) (g : List Int) (hg : g.length ≤ 1048576) : Valid PP GG F_I_World_dropOfTokens_c1 [.agg l.c, .rp [.slc 1 (intsD g)]] (.d (.bool (g.contains l.fToken))) [none] := by
  refine v_I_World_dropOfTokens_c1 [.d (.bool (g.contains l.fToken))] rfl rfl ?_
  have cc := ContainsInt_ok (GG := GG) g l.fToken (by omega)
  exact u_33 cc
theorem dropOfTokens_ok (w : GWorld) (g : List Int) (hl : w.fBook.fLeases.length ≤ 1048576) (hg : g.length ≤ 1048576) :
    Valid PP GG F_I_World_dropOfTokens [.box w.o, .d (.slc 1 (intsD g))] (.own 0 6 (rLease (goneL w.fBook g))) [some (.box { w with fBook := keepL w.fBook g }.o), none] := by
  refine v_I_World_dropOfTokens [.own 0 6 (rLease (goneL w.fBook g))] rfl rfl ?_
  have cd := dropLeases_ok (GG := GG) w.fBook.fLeases F_I_World_dropOfTokens_c1 [[.slc 1 (intsD g)]] (fun l => g.contains l.fToken) hl fun x _ => dropOfTokens_c1_ok x g hg
  rw [show (w.fBook.fLeases.filter fun l => g.contains l.fToken) = goneL w.fBook g from rfl] at cd
  have hK : keepL w.fBook g = ⟨w.fBook.fLeases.filter fun l => !g.contains l.fToken⟩ := rfl
  rw [hK]
  clear hK
  have hi1 := ind_rToken w.fForest.fTokens
  have hi2 := ind_rLease w.fBook.fLeases
  have hi3 := ind_rUser w.fFar.fUsers
  have hi4 := ind_rJob w.fQueue.fJobs
  have hi5 := ind_rOwned w.fOwned
  have hi6 := ind_rLease (goneL w.fBook g)
  have hi7 := ind_rLease (w.fBook.fLeases.filter fun l => !g.contains l.fToken)
  generalize goneL w.fBook g = GL at *
  generalize (w.fBook.fLeases.filter fun l => !g.contains l.fToken) = KL at *
  exact u_33 cd
def ctB (w : GWorld) (id : Int) : Bool := worldB w && hasTok w.fForest id
def ctG (w : GWorld) (id : Int) : List Int := if worldB w then goneT w.fForest id else []
def ctX (w : GWorld) (g : List Int) : GWorld := { w with fForest := lessF w.fForest g, fBook := keepL w.fBook g }
def ctW (w : GWorld) (id : Int) : GWorld := if ctB w id then letGo (ctX w (goneT w.fForest id)) (goneL w.fBook (goneT w.fForest id)) else w
theorem letOk_of2 {w : GWorld} (hf : fitW w) (hb : worldB w = true) (f : GForest) (b : GBook) : LetOk { w with fForest := f, fBook := b } ∧ ownInc { w with fForest := f, fBook := b } ∧ bookB w.fBook = true := by
  obtain ⟨hL, hI, hbb⟩ := letOk_of hf hb b
  obtain ⟨a1, a2, a3, a4, a5, a6, a7, a8⟩ := hL
  exact ⟨⟨a1, a2, a3, a4, a5, a6, a7, a8⟩, hI, hbb⟩
theorem goneT_none {f : GForest} {id : Int} (h : hasTok f id = false) : goneT f id = [] := by
  unfold goneT
  split
  · rw [wo_none]
    intro t ht
    unfold hasTok at h
    rw [List.any_eq_false] at h
    simpa using h t ht
  · rfl
theorem goneT_some {f : GForest} {id : Int} (hb : forestB f = true) (h : hasTok f id = true) : goneT f id ≠ [] := by
  obtain ⟨t, ht, hti⟩ := List.any_eq_true.1 h
  have hti := of_decide_eq_true hti
  have hr := (forest_wo hb (fun t => decide (t.fId = id))).rec_ t ht
  rw [decide_eq_true hti, Bool.true_or] at hr
  have e : goneT f id = (wo (fun t => decide (t.fId = id)) f.fTokens).2 := by unfold goneT; rw [if_pos hb]
  rw [e]
  intro e2
  rw [e2] at hr
  simp at hr
theorem goneT_len2 {f : GForest} (id : Int) (hb : forestB f = true) : (goneT f id).length ≤ 120 := by
  have h1 := goneT_len f id
  unfold forestB at hb
  simp only [Bool.and_eq_true, decide_eq_true_eq] at hb
  omega
theorem goneL_len (b : GBook) (g : List Int) : (goneL b g).length ≤ b.fLeases.length := List.length_filter_le _ _
theorem s_CutToken_ok [MaxL GG] (w : GWorld) (id : Int) (hf : fitW w) :
    Valid PP GG F_S_CutToken [.agg w.c, .d (.int .i64 id)] (.tup [.agg (ctW w id).o, .own 0 1 (intsD (ctG w id))]) [none, none] := by
  refine v_S_CutToken [.agg (ctW w id).o, .own 0 1 (intsD (ctG w id))] rfl rfl ?_
  have cw := s_WorldOk_ok (GG := GG) w hf
  have ccp := s_l16Copy_ok (GG := GG) w hf
  have crv := s_RevokeToken_ok (GG := GG) w.fForest id hf.1
  have hW : ctW w id = if ctB w id then letGo (ctX w (goneT w.fForest id)) (goneL w.fBook (goneT w.fForest id)) else w := rfl
  have hB : ctB w id = (worldB w && hasTok w.fForest id) := rfl
  have hG : ctG w id = if worldB w then goneT w.fForest id else [] := rfl
  have hi1 := ind_rToken w.fForest.fTokens
  have hi2 := ind_rLease w.fBook.fLeases
  have hi3 := ind_rUser w.fFar.fUsers
  have hi4 := ind_rJob w.fQueue.fJobs
  have hi5 := ind_rOwned w.fOwned
  cases hWB : worldB w with
  | false =>
    rw [hWB, Bool.false_and] at hB
    rw [hB] at hW
    rw [hWB] at hG
    simp only [Bool.false_eq_true, if_false] at hW hG
    rw [hW, hG]
    rw [hWB] at cw
    clear hW hB hG crv
    repeat' (first | refine W_seq ?_ | refine W_skip ?_ | refine W_block ?_ | refine W_exit ?_ | refine pick_pos rfl ?_ | refine pick_neg rfl ?_ | ((first | refine W_regP fun K hK => ?_ | refine W_regPD fun K hK => ?_ | refine W_ret ?_ | with_reducible refine callQ (ccp) ?_ | with_reducible refine callQ (cw) ?_); simp [Fin, intsD]) | (with_reducible refine hK _ ?_; clear hK K) | (with_reducible refine goL_split (fun h => ?_) (fun h => ?_) <;> first | (exfalso; simp at h; first | done | omega | contradiction) | ((try simp at h); simp [intsD])) | with_reducible refine And.intro ?_ ?_ | with_reducible exact okay_rfl rfl | with_reducible assumption | (refine W_cond rfl (fun h => ?_) (fun h => ?_) <;> first | (exfalso; simp at h; first | done | omega | contradiction) | (exfalso; simp_all; done) | (try simp at h)) | omega)
  | true =>
    rw [hWB, Bool.true_and] at hB
    rw [hWB] at cw
    rw [hWB, if_pos rfl] at hG
    have hfb := world_forest hWB
    have hg2 := goneT_len2 id hfb
    cases hH : hasTok w.fForest id with
    | false =>
      rw [hH] at hB
      rw [hB] at hW
      simp only [Bool.false_eq_true, if_false] at hW
      rw [goneT_none hH] at hG crv
      rw [lessF_nil] at crv
      rw [hW, hG]
      clear hW hB hG hg2
      repeat' (first | refine W_seq ?_ | refine W_skip ?_ | refine W_block ?_ | refine W_exit ?_ | refine pick_pos rfl ?_ | refine pick_neg rfl ?_ | ((first | refine W_regP fun K hK => ?_ | refine W_regPD fun K hK => ?_ | refine W_ret ?_ | with_reducible refine callQ (ccp) ?_ | with_reducible refine callQ (cw) ?_ | with_reducible refine callQ (crv) ?_); simp [Fin, intsD]) | (with_reducible refine hK _ ?_; clear hK K) | (with_reducible refine goL_split (fun h => ?_) (fun h => ?_) <;> first | (exfalso; simp at h; first | done | omega | contradiction) | ((try simp at h); simp [intsD])) | with_reducible refine And.intro ?_ ?_ | with_reducible exact okay_rfl rfl | with_reducible assumption | (refine W_cond rfl (fun h => ?_) (fun h => ?_) <;> first | (exfalso; simp at h; first | done | omega | contradiction) | (exfalso; simp_all; done) | (try simp at h)) | omega)
    | true =>
      rw [hH] at hB
      rw [hB] at hW
      simp only [if_true] at hW
      have hne := goneT_some hfb hH
      rw [hG]
      clear hG hB
      generalize goneT w.fForest id = G at *
      have hne2 : ((G.length : Int) == 0) = false := by
        cases G with
        | nil => exact absurd rfl hne
        | cons x t => simp; omega
      have hgl := ints_len G
      have hig := ind_ints G
      obtain ⟨hL, hI, hbb⟩ := letOk_of2 hf hWB (lessF w.fForest G) (keepL w.fBook G)
      have cdo := s_DropOf_ok (GG := GG) w.fBook G hf.2.1 hbb (by omega)
      have hgll := goneL_len w.fBook G
      have hbl := hf.2.1.1
      have cgo := s_l16LetGo_ok (GG := GG) { w with fForest := lessF w.fForest G, fBook := keepL w.fBook G } (goneL w.fBook G) hL (by omega)
      rw [show letGo { w with fForest := lessF w.fForest G, fBook := keepL w.fBook G } (goneL w.fBook G) = ctW w id from hW.symm] at cgo
      clear hW hL hI hne
      generalize letRun (letAll { w with fForest := lessF w.fForest G, fBook := keepL w.fBook G } (goneL w.fBook G)) = R at *
      generalize ctW w id = Z at *
      generalize goneL w.fBook G = GL at *
      generalize keepL w.fBook G = KB at *
      generalize lessF w.fForest G = LF at *
      obtain ⟨lf⟩ := LF
      obtain ⟨kb⟩ := KB
      obtain ⟨Zn, Zx, Zl, ⟨Zf⟩, ⟨Zb⟩, ⟨Zu, Zfl, Zfm⟩, ⟨Zq⟩, Zo⟩ := Z
      have hi6 := ind_rLease kb
      have hi7 := ind_rToken lf
      have hi8 := ind_rLease GL
      have hj1 := ind_rToken Zf
      have hj2 := ind_rLease Zb
      have hj3 := ind_rUser Zu
      have hj4 := ind_rJob Zq
      have hj5 := ind_rOwned Zo
      have hj6 := ind_strs R.done
      have hj7 := ind_strs R.failed
      repeat' (first | refine W_seq ?_ | refine W_skip ?_ | refine W_block ?_ | refine W_exit ?_ | refine pick_pos rfl ?_ | refine pick_neg rfl ?_ | ((first | refine W_regP fun K hK => ?_ | refine W_regPD fun K hK => ?_ | refine W_ret ?_ | with_reducible refine callQ (ccp) ?_ | with_reducible refine callQ (cw) ?_ | with_reducible refine callQ (crv) ?_ | with_reducible refine callQ (cdo) ?_ | with_reducible refine callQ (cgo) ?_); simp [Fin, hne2, hgl]) | (with_reducible refine hK _ ?_; clear hK K) | (with_reducible refine goL_split (fun h => ?_) (fun h => ?_) <;> first | (exfalso; simp at h; first | done | omega | contradiction) | ((try simp at h); simp [hne2, hgl])) | with_reducible refine And.intro ?_ ?_ | with_reducible exact okay_rfl rfl | with_reducible assumption | (refine W_cond rfl (fun h => ?_) (fun h => ?_) <;> first | (exfalso; simp at h; first | done | omega | contradiction) | (exfalso; simp_all; done) | (try simp at h)) | omega)
theorem cutToken_c1_ok (t : GToken) (id : Int) : Valid PP GG F_I_cutToken_c1 [.agg t.c, .rp [.int .i64 id]] (.d (.bool (decide (t.fId = id)))) [none] := by
  refine v_I_cutToken_c1 [.d (.bool (decide (t.fId = id)))] rfl rfl ?_
  have hind := ind_strs t.fNames
  have hq : (t.fId == id) = decide (t.fId = id) := rfl
  exact u_25 hq
theorem cutToken_ok [MaxL GG] (w : GWorld) (id : Int) (hf : fitW w) (hWB : worldB w = true) (hH : hasTok w.fForest id = true) :
    Valid PP GG F_I_cutToken [.agg w.c, .d (.int .i64 id)] (.tup [.agg (ctW w id).o, .own 0 1 (intsD (ctG w id))]) [none, none] := by
  refine v_I_cutToken [.agg (ctW w id).o, .own 0 1 (intsD (ctG w id))] rfl rfl ?_
  have ccp := cloneWorld_ok (GG := GG) w hf
  have hW : ctW w id = if ctB w id then letGo (ctX w (goneT w.fForest id)) (goneL w.fBook (goneT w.fForest id)) else w := rfl
  have hB : ctB w id = (worldB w && hasTok w.fForest id) := rfl
  have hG : ctG w id = if worldB w then goneT w.fForest id else [] := rfl
  rw [hWB, Bool.true_and, hH] at hB
  rw [hB, if_pos rfl] at hW
  rw [hWB, if_pos rfl] at hG
  have hfb := world_forest hWB
  have hg2 := goneT_len2 id hfb
  have hT : goneT w.fForest id = (wo (fun t => decide (t.fId = id)) w.fForest.fTokens).2 := by unfold goneT; rw [if_pos hfb]
  have hR := (forest_wo hfb (fun t => decide (t.fId = id))).rest
  rw [← hT] at hR
  have cwo := without_ok (GG := GG) w.fForest.fTokens F_I_cutToken_c1 [[.int .i64 id]] (fun t => decide (t.fId = id)) hf.1 fun t _ => cutToken_c1_ok t id
  rw [← hT, hR] at cwo
  rw [hG]
  clear hG hB hT hR
  generalize goneT w.fForest id = G at *
  have hig := ind_ints G
  obtain ⟨hL, hI, hbb⟩ := letOk_of2 hf hWB (lessF w.fForest G) (keepL w.fBook G)
  have cdr := dropOfTokens_ok (GG := GG) { w with fForest := lessF w.fForest G } G hf.2.1.1 (by omega)
  dsimp only at cdr
  have hgll := goneL_len w.fBook G
  have hbl := hf.2.1.1
  have cre := release_ok (GG := GG) { w with fForest := lessF w.fForest G, fBook := keepL w.fBook G } (goneL w.fBook G) hL hI (by omega)
  rw [show letGo { w with fForest := lessF w.fForest G, fBook := keepL w.fBook G } (goneL w.fBook G) = ctW w id from hW.symm] at cre
  rw [show (w.fForest.fTokens.filter fun t => !G.contains t.fId) = (lessF w.fForest G).fTokens from rfl] at cwo
  clear hW hL hI
  generalize letRun (letAll { w with fForest := lessF w.fForest G, fBook := keepL w.fBook G } (goneL w.fBook G)) = R at *
  generalize ctW w id = Z at *
  generalize goneL w.fBook G = GL at *
  generalize keepL w.fBook G = KB at *
  generalize lessF w.fForest G = LF at *
  obtain ⟨lf⟩ := LF
  obtain ⟨kb⟩ := KB
  obtain ⟨Zn, Zx, Zl, ⟨Zf⟩, ⟨Zb⟩, ⟨Zu, Zfl, Zfm⟩, ⟨Zq⟩, Zo⟩ := Z
  have hi1 := ind_rToken w.fForest.fTokens
  have hi2 := ind_rLease w.fBook.fLeases
  have hi3 := ind_rUser w.fFar.fUsers
  have hi4 := ind_rJob w.fQueue.fJobs
  have hi5 := ind_rOwned w.fOwned
  have hi6 := ind_rLease kb
  have hi7 := ind_rToken lf
  have hi8 := ind_rLease GL
  have hj1 := ind_rToken Zf
  have hj2 := ind_rLease Zb
  have hj3 := ind_rUser Zu
  have hj4 := ind_rJob Zq
  have hj5 := ind_rOwned Zo
  have hj6 := ind_strs R.done
  have hj7 := ind_strs R.failed
  repeat' (first | refine W_seq ?_ | refine W_skip ?_ | refine W_block ?_ | refine W_exit ?_ | refine pick_pos rfl ?_ | refine pick_neg rfl ?_ | ((first | refine W_regP fun K hK => ?_ | refine W_regPD fun K hK => ?_ | refine W_ret ?_ | with_reducible refine callQ (ccp) ?_ | with_reducible refine callQ (cwo) ?_ | with_reducible refine callQ (cdr) ?_ | with_reducible refine callQ (cre) ?_); simp [Fin]) | (with_reducible refine hK _ ?_; clear hK K) | (with_reducible refine goL_split (fun h => ?_) (fun h => ?_) <;> first | (exfalso; simp at h; first | done | omega | contradiction) | ((try simp at h); simp)) | with_reducible refine And.intro ?_ ?_ | with_reducible exact okay_rfl rfl | with_reducible assumption | (refine W_cond rfl (fun h => ?_) (fun h => ?_) <;> first | (exfalso; simp at h; first | done | omega | contradiction) | (exfalso; simp_all; done) | (try simp at h)) | omega)
theorem i_CutToken_ok [MaxL GG] (w : GWorld) (id : Int) (hf : fitW w) :
    Valid PP GG F_I_CutToken [.agg w.c, .d (.int .i64 id)] (.tup [.agg (ctW w id).o, .own 0 1 (intsD (ctG w id))]) [none, none] := by
  refine v_I_CutToken [.agg (ctW w id).o, .own 0 1 (intsD (ctG w id))] rfl rfl ?_
  have cw := isWorld_ok (GG := GG) w hf
  have ccp := cloneWorld_ok (GG := GG) w hf
  have cix := tokenIndex_ok (GG := GG) w.fForest id hf.1.1
  have cct := cutToken_ok (GG := GG) w id hf
  have hno := idxF_none (fun t : GToken => decide (t.fId = id)) w.fForest.fTokens
  rw [show w.fForest.fTokens.any (fun t => decide (t.fId = id)) = hasTok w.fForest id from rfl] at hno
  have hW : ctW w id = if ctB w id then letGo (ctX w (goneT w.fForest id)) (goneL w.fBook (goneT w.fForest id)) else w := rfl
  have hB : ctB w id = (worldB w && hasTok w.fForest id) := rfl
  have hG : ctG w id = if worldB w then goneT w.fForest id else [] := rfl
  have hi1 := ind_rToken w.fForest.fTokens
  have hi2 := ind_rLease w.fBook.fLeases
  have hi3 := ind_rUser w.fFar.fUsers
  have hi4 := ind_rJob w.fQueue.fJobs
  have hi5 := ind_rOwned w.fOwned
  cases hWB : worldB w with
  | false =>
    rw [hWB, Bool.false_and] at hB
    rw [hB] at hW
    rw [hWB] at hG
    simp only [Bool.false_eq_true, if_false] at hW hG
    rw [hW, hG]
    rw [hWB] at cw
    clear hW hB hG hno cct
    repeat' (first | refine W_seq ?_ | refine W_skip ?_ | refine W_block ?_ | refine W_exit ?_ | refine pick_pos rfl ?_ | refine pick_neg rfl ?_ | ((first | refine W_regP fun K hK => ?_ | refine W_regPD fun K hK => ?_ | refine W_ret ?_ | with_reducible refine callQ (cix) ?_ | with_reducible refine callQ (cw) ?_ | with_reducible refine callQ (ccp) ?_); simp [Fin, intsD]) | (with_reducible refine hK _ ?_; clear hK K) | (with_reducible refine goL_split (fun h => ?_) (fun h => ?_) <;> first | (exfalso; simp at h; first | done | omega | contradiction) | ((try simp at h); simp [intsD])) | with_reducible refine And.intro ?_ ?_ | with_reducible exact okay_rfl rfl | with_reducible assumption | (refine W_cond rfl (fun h => ?_) (fun h => ?_) <;> first | (exfalso; simp at h; first | done | omega | contradiction) | (exfalso; simp_all; done) | (try simp at h)) | omega)
  | true =>
    rw [hWB] at cw
    cases hH : hasTok w.fForest id with
    | false =>
      rw [hWB, hH] at hB
      rw [hWB, if_pos rfl, goneT_none hH] at hG
      rw [hB] at hW
      simp only [Bool.and_false, Bool.false_eq_true, if_false] at hW
      rw [hW, hG]
      rw [hH] at hno
      have hix := of_decide_eq_true hno
      clear hW hB hG hno cct
      generalize idxF (fun t : GToken => decide (t.fId = id)) w.fForest.fTokens = k at *
      repeat' (first | refine W_seq ?_ | refine W_skip ?_ | refine W_block ?_ | refine W_exit ?_ | refine pick_pos rfl ?_ | refine pick_neg rfl ?_ | ((first | refine W_regP fun K hK => ?_ | refine W_regPD fun K hK => ?_ | refine W_ret ?_ | with_reducible refine callQ (cix) ?_ | with_reducible refine callQ (cw) ?_ | with_reducible refine callQ (ccp) ?_); simp [Fin, hix, intsD]) | (with_reducible refine hK _ ?_; clear hK K) | (with_reducible refine goL_split (fun h => ?_) (fun h => ?_) <;> first | (exfalso; simp at h; first | done | omega | contradiction) | ((try simp at h); simp [hix, intsD])) | with_reducible refine And.intro ?_ ?_ | with_reducible exact okay_rfl rfl | with_reducible assumption | (refine W_cond rfl (fun h => ?_) (fun h => ?_) <;> first | (exfalso; simp at h; first | done | omega | contradiction) | (exfalso; simp_all; done) | (try simp at h)) | omega)
    | true =>
      have cct := cct hWB hH
      rw [hH] at hno
      have hix := of_decide_eq_false hno
      clear hW hB hG hno
      generalize idxF (fun t : GToken => decide (t.fId = id)) w.fForest.fTokens = k at *
      generalize ctW w id = Z at *
      generalize ctG w id = G at *
      obtain ⟨Zn, Zx, Zl, ⟨Zf⟩, ⟨Zb⟩, ⟨Zu, Zfl, Zfm⟩, ⟨Zq⟩, Zo⟩ := Z
      have hig := ind_ints G
      have hj1 := ind_rToken Zf
      have hj2 := ind_rLease Zb
      have hj3 := ind_rUser Zu
      have hj4 := ind_rJob Zq
      have hj5 := ind_rOwned Zo
      repeat' (first | refine W_seq ?_ | refine W_skip ?_ | refine W_block ?_ | refine W_exit ?_ | refine pick_pos rfl ?_ | refine pick_neg rfl ?_ | ((first | refine W_regP fun K hK => ?_ | refine W_regPD fun K hK => ?_ | refine W_ret ?_ | with_reducible refine callQ (cix) ?_ | with_reducible refine callQ (cw) ?_ | with_reducible refine callQ (ccp) ?_ | with_reducible refine callQ (cct) ?_); simp [Fin, hix]) | (with_reducible refine hK _ ?_; clear hK K) | (with_reducible refine goL_split (fun h => ?_) (fun h => ?_) <;> first | (exfalso; simp at h; first | done | omega | contradiction) | ((try simp at h); simp [hix])) | with_reducible refine And.intro ?_ ?_ | with_reducible exact okay_rfl rfl | with_reducible assumption | (refine W_cond rfl (fun h => ?_) (fun h => ?_) <;> first | (exfalso; simp at h; first | done | omega | contradiction) | (exfalso; simp_all; done) | (try simp at h)) | omega)
theorem ctW_cost (w : GWorld) (id : Int) : (ctW w id).cost ≤ w.cost := by
  unfold ctW
  split
  · refine Nat.le_trans (letGo_cost _ _) ?_
    generalize goneT w.fForest id = G
    have h := sumBy_filter GLease.cost (fun l : GLease => !G.contains l.fToken) w.fBook.fLeases
    have h2 := sumBy_filter GToken.cost (fun t : GToken => !G.contains t.fId) w.fForest.fTokens
    have e1 : ∀ l, (GForest.mk l).cost = l.length + sumBy GToken.cost l := fun _ => rfl
    have e2 : ∀ l, (GBook.mk l).cost = l.length + sumBy GLease.cost l := fun _ => rfl
    have e3 : w.fBook.cost = w.fBook.fLeases.length + sumBy GLease.cost w.fBook.fLeases := rfl
    have e4 : w.fForest.cost = w.fForest.fTokens.length + sumBy GToken.cost w.fForest.fTokens := rfl
    rw [world_cost, world_cost w]
    unfold ctX
    dsimp only
    unfold keepL lessF
    rw [e1, e2]
    omega
  · exact Nat.le_refl _
theorem ctG_len (w : GWorld) (id : Int) (hf : fitW w) : (ctG w id).length ≤ 1048576 := by
  have h1 := goneT_len w.fForest id
  have h2 := hf.1.1
  unfold ctG
  split
  · omega
  · simp
theorem law_CutToken [MaxL GG] (w : GWorld) (id : Int) (hok : w.ok) : Valid PP GG F_L_FnExactCutToken [.agg w.c, .d (.int .i64 id)] (.d (.bool true)) [none, none] := by
  refine v_L_FnExactCutToken [.d (.bool true)] rfl rfl ?_
  have hmx : maxLen = 9223372036854775807 := rfl
  have csz := szWorld_g (GG := GG) w 1048576 hok ⟨by omega, by omega⟩
  by_cases hcost : w.cost ≤ 1048576
  · rw [leftR_yes (by omega)] at csz
    have ct := toWorld_g (GG := GG) w (by omega)
    have cex := eqWorld_g (GG := GG) w w (by omega) (by omega)
    rw [decide_eq_true rfl] at cex
    have hmr := world_marks (w := w) (by omega)
    have ck := markWorld_g (GG := GG) w 1 (by omega) ⟨by omega, by omega⟩
    simp only [GWorld.markIn, GForest.markIn, GBook.markIn, GFar.markIn, GQueue.markIn] at ck
    have cs := s_CutToken_ok (GG := GG) w id (fitW_of hcost)
    have ci := i_CutToken_ok (GG := GG) w id (fitW_of hcost)
    have hgc := ctW_cost w id
    have hrl := ctG_len w id (fitW_of hcost)
    generalize ctW w id = g at *
    generalize ctG w id = r at *
    have ce := eqWorld_g (GG := GG) g g (by omega) (by omega)
    rw [decide_eq_true rfl] at ce
    have hmg := world_marks (w := g) (by omega)
    have cm := markWorld_g (GG := GG) g 1 (by omega) ⟨by omega, by omega⟩
    have ch := heldWorld_g (GG := GG) g 1 (by omega) ⟨by omega, by omega⟩
    simp only [GWorld.markIn, GForest.markIn, GBook.markIn, GFar.markIn, GQueue.markIn] at cm ch
    have hi1 := ind_rToken g.fForest.fTokens
    have hi2 := ind_rLease g.fBook.fLeases
    have hi3 := ind_rUser g.fFar.fUsers
    have hi4 := ind_rJob g.fQueue.fJobs
    have hi5 := ind_rOwned g.fOwned
    have hind := ind_ints r
    have cx := eqIntS_ok (GG := GG) r r (by omega)
    rw [beq_self_eq_true] at cx
    have cm2 := markIntS_ok (GG := GG) (intsD r) (1 + (g.marksIn : Nat)) (rows_ints _) (by simp; omega) (by omega)
    simp only [intsD_len] at cm2
    have ch2 := heldIntS_ok (GG := GG) r.length (1 + (g.marksIn : Nat)) (by omega) (by omega)
    repeat' (first | refine W_seq ?_ | refine W_skip ?_ | refine W_block ?_ | refine W_exit ?_ | refine pick_pos rfl ?_ | refine pick_neg rfl ?_ | ((first | refine W_regP fun K hK => ?_ | refine W_regPD fun K hK => ?_ | refine W_ret ?_ | with_reducible refine callQ (csz) ?_ | with_reducible refine callQ (ct) ?_ | with_reducible refine callQ (cs) ?_ | with_reducible refine callQ (ci) ?_ | with_reducible refine callQ (cex) ?_ | with_reducible refine callQ (ce) ?_ | with_reducible refine callQ (cx) ?_ | with_reducible refine callQ (ck) ?_ | with_reducible refine callQ (cm) ?_ | with_reducible refine callQ (cm2) ?_ | with_reducible refine callQ (ch) ?_ | with_reducible refine callQ (ch2) ?_); simp [Fin]) | (with_reducible refine hK _ ?_; clear hK K) | (with_reducible refine goL_split (fun h => ?_) (fun h => ?_) <;> first | (exfalso; simp at h; first | done | omega | contradiction) | ((try simp at h); simp)) | with_reducible refine And.intro ?_ ?_ | with_reducible exact okay_rfl rfl | with_reducible assumption | (refine W_cond rfl (fun h => ?_) (fun h => ?_) <;> first | (exfalso; simp at h; first | done | omega | contradiction) | (exfalso; simp_all; done) | (try simp at h)) | omega)
  · rw [leftR_no (by omega)] at csz
    repeat' (first | refine W_seq ?_ | refine W_skip ?_ | refine W_block ?_ | refine W_exit ?_ | refine pick_pos rfl ?_ | refine pick_neg rfl ?_ | ((first | refine W_regP fun K hK => ?_ | refine W_regPD fun K hK => ?_ | refine W_ret ?_ | with_reducible refine callQ (csz) ?_); simp [Fin]) | (with_reducible refine hK _ ?_; clear hK K) | (with_reducible refine goL_split (fun h => ?_) (fun h => ?_) <;> first | (exfalso; simp at h; first | done | omega | contradiction) | ((try simp at h); simp)) | with_reducible refine And.intro ?_ ?_ | with_reducible exact okay_rfl rfl | with_reducible assumption | (refine W_cond rfl (fun h => ?_) (fun h => ?_) <;> first | (exfalso; simp at h; first | done | omega | contradiction) | (exfalso; simp_all; done) | (try simp at h)) | omega)
end Go.Proofs.YtdckkojgnkoabaaGreatDoor.Ab
