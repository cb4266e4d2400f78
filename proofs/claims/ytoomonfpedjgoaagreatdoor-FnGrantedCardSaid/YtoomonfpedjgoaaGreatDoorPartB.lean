/-
  A part of a proof about the given program; what is proved is said where each theorem stands.
-/
import Derived.Test.YtoomonfpedjgoaaGreatDoorFrameA
import Derived.Test.YtoomonfpedjgoaaGreatDoorFrameB
import Derived.Test.YtoomonfpedjgoaaGreatDoorFrameC
import Derived.Test.YtoomonfpedjgoaaGreatDoorFrameD
import Derived.Test.YtoomonfpedjgoaaGreatDoorFrameE
import Derived.Test.YtoomonfpedjgoaaGreatDoorHead
import Derived.Test.YtoomonfpedjgoaaGreatDoorShelf
import Derived.Test.YtoomonfpedjgoaaGreatDoorPartA
namespace Go.Proofs
end Go.Proofs
set_option linter.unusedSimpArgs false
set_option linter.unusedVariables false
set_option maxRecDepth 100000
set_option maxHeartbeats 2000000
namespace Go.Proofs.YtoomonfpedjgoaaGreatDoor.Ab
open Go.Proofs
variable {GG : GV}
theorem s_l08Token_ok [MaxL GG] (x : GToken) (hx : fitT x) : Valid PP GG 65 [.agg x.c] (.d (.bool (tokenB x))) [none] := by
 refine cv Tryz.func65 [.d (.bool (tokenB x))] ?_
 have hr := tokenB_s x
 obtain ⟨x1, x2, x3, x4, x5, x6, x7⟩ := x
 dsimp only at hr
 have c1 : Valid PP GG 23 [.d (.int .i64 x1), .d (.int .i64 1), .d (.int .i64 1000000000)] (.d (.bool (inB x1 1 1000000000))) [none, none, none] := l01In_ok _ _ _
 have c3 := s_l08Names_ok (GG := GG) x3 hx.1 hx.2
 have c4 : Valid PP GG 23 [.d (.int .i64 x4), .d (.int .i64 0), .d (.int .i64 1000000000)] (.d (.bool (inB x4 0 1000000000))) [none, none, none] := l01In_ok _ _ _
 have c5 : Valid PP GG 23 [.d (.int .i64 x5), .d (.int .i64 (IntKind.i64.wrap (x4 + 1))), .d (.int .i64 1000000000)] (.d (.bool (inB x5 (IntKind.i64.wrap (x4 + 1)) 1000000000))) [none, none, none] := l01In_ok _ _ _
 have c6 : Valid PP GG 23 [.d (.int .i64 x6), .d (.int .i64 (IntKind.i64.wrap (x4 + 1))), .d (.int .i64 1000000000)] (.d (.bool (inB x6 (IntKind.i64.wrap (x4 + 1)) 1000000000))) [none, none, none] := l01In_ok _ _ _
 have c7 : Valid PP GG 23 [.d (.int .i64 x7), .d (.int .i64 0), .d (.int .i64 1000)] (.d (.bool (inB x7 0 1000))) [none, none, none] := l01In_ok _ _ _
 have hind := ind_strs x3
 have q5 : (x5 == 0) = decide (x5 = 0) := rfl
 have q6 : (x6 == 0) = decide (x6 = 0) := rfl
 have q7 : (x5 != 0) = !decide (x5 = 0) := rfl
 generalize inB x1 1 1000000000 = p1 at *
 generalize namesOk x3 = p3 at *
 generalize inB x4 0 1000000000 = p4 at *
 generalize inB x5 (IntKind.i64.wrap (x4 + 1)) 1000000000 = p5 at *
 generalize inB x6 (IntKind.i64.wrap (x4 + 1)) 1000000000 = p6 at *
 generalize inB x7 0 1000 = p7 at *
 generalize decide (x5 = 0) = e0 at *
 generalize decide (x6 = 0) = l0 at *
 obtain ⟨le, hle⟩ : ∃ le, decide (x5 ≤ x6) = le := ⟨_, rfl⟩
 obtain ⟨a, ha⟩ : ∃ a, decide (0 ≤ x2) = a := ⟨_, rfl⟩
 obtain ⟨b, hb⟩ : ∃ b, decide (x2 < x1) = b := ⟨_, rfl⟩
 have ha2 : decide (x2 < 0) = !a := by rw [← ha, ← decide_not]; exact decide_eq_decide.2 (by omega)
 have hb2 : decide (x1 ≤ x2) = !b := by rw [← hb, ← decide_not]; exact decide_eq_decide.2 (by omega)
 rw [hle, ha, hb] at hr
 refine u_1 ?_
 refine W_seq (?_)
 refine u_26 (Y2 ha2 hb2) (Z4 c1 c3 c4 c7) 36 (!p1 || !a || !b || !p3 || !p4 || !p7) ?_
 refine W_cond rfl (fun h => ?_) (fun h => W_skip ?_)
 ·have hf : tokenB ⟨x1, x2, x3, x4, x5, x6, x7⟩ = false := by rw [hr]; revert h; cases p1 <;> cases a <;> cases b <;> cases p3 <;> cases p4 <;> cases p7 <;> simp
  rw [hf]
  exact u_27
 have hg : (p1 && a && b && p3 && p4 && p7) = true := by revert h; cases p1 <;> cases a <;> cases b <;> cases p3 <;> cases p4 <;> cases p7 <;> simp
 rw [hg, Bool.true_and] at hr
 refine W_seq (?_)
 refine u_26 q7 (Z1 c5) 48 (!e0 && !p5) ?_
 refine W_cond rfl (fun h => ?_) (fun h => W_skip ?_)
 ·have hf : tokenB ⟨x1, x2, x3, x4, x5, x6, x7⟩ = false := by rw [hr]; revert h; cases e0 <;> cases p5 <;> simp
  rw [hf]
  exact u_27
 have hg : (e0 || p5) = true := by revert h; cases e0 <;> cases p5 <;> simp
 rw [hg, Bool.true_and] at hr
 rw [hr]
 cases l0 with
 | true =>
  exact u_20 q6
 | false =>
  refine W_seq (?_)
  refine W_seq (?_)
  refine u_7 q6 ?_
  refine W_cond rfl (fun h => ?_) (fun h => W_skip ?_)
  ·exact absurd h (by simp)
  refine u_26 (Y2 q7 hle) (Z1 c6) 2 (p6 && !e0 && le) ?_
  exact u_3
def idxF {α : Type} (p : α → Bool) (a : List α) : Int := match a.findIdx? p with | some i => i | none => -1
theorem idxF_any {α : Type} (p : α → Bool) (a : List α) : decide (0 ≤ idxF p a) = a.any p := by
 unfold idxF
 cases h : a.findIdx? p with
 | none =>
  rw [List.findIdx?_eq_none_iff] at h
  have : a.any p = false := by rw [List.any_eq_false]; intro x hx; simp [h x hx]
  rw [this]; rfl
 | some i =>
  rw [List.findIdx?_eq_some_iff_getElem] at h
  obtain ⟨h1, h2, _⟩ := h
  have : a.any p = true := by rw [List.any_eq_true]; exact ⟨_, List.getElem_mem h1, h2⟩
  rw [this]; exact decide_eq_true (show (0 : Int) ≤ (i : Int) by omega)
theorem idxF_none {α : Type} (p : α → Bool) (a : List α) : decide (idxF p a < 0) = !a.any p := by
 rw [← idxF_any, ← decide_not]; exact decide_eq_decide.2 (by omega)
theorem idxF_hit {α : Type} {p : α → Bool} {a : List α} {i : Nat} {x : α} (ha : a[i]? = some x) (hn : ∀ x, x ∈ a.take i → p x = false) (hx : p x = true) : idxF p a = i := by
 obtain ⟨h, e⟩ := List.getElem?_eq_some_iff.1 ha
 unfold idxF
 have : a.findIdx? p = some i := by
  rw [List.findIdx?_eq_some_iff_getElem]
  refine ⟨h, by rw [e]; exact hx, fun j hj => ?_⟩
  have := hn a[j] (List.mem_take_iff_getElem.2 ⟨j, by omega, rfl⟩); simp [this]
 rw [this]
theorem idxF_miss {α : Type} {p : α → Bool} {a : List α} (hn : ∀ x, x ∈ a → p x = false) : idxF p a = -1 := by
 unfold idxF
 rw [List.findIdx?_eq_none_iff.2 hn]
theorem take_miss {α : Type} {p : α → Bool} {a : List α} {i : Nat} {x : α} (ha : a[i]? = some x) (hn : ∀ x, x ∈ a.take i → p x = false) (hx : p x = false) : ∀ x, x ∈ a.take (i + 1) → p x = false := by
 intro y hy
 rw [List.take_add_one, ha] at hy
 rcases List.mem_append.1 hy with hy | hy
 ·exact hn y hy
 ·simp at hy; subst hy; exact hx
theorem IndexFuncToken_ok (a : List GToken) (g : FuncId) (caps : List (List D)) (p : GToken → Bool) (hsz : a.length ≤ 281474976710656) (hp : ∀ x, x ∈ a → Valid PP GG g (.agg x.c :: caps.map .rp) (.d (.bool (p x))) [none]) :
  Valid PP GG 112 [.d (.slc 7 (rToken a)), .d (.fn g caps)] (.d (.int .i64 (idxF p a))) [none, none] := by
 refine cv Tryz.func112 [.d (.int .i64 (idxF p a))] ?_
 refine u_28 ?_
 refine W_loop (fun n st => ∃ i : Nat, n = a.length - i ∧ i ≤ a.length ∧ (∀ x, x ∈ a.take i → p x = false) ∧
  st = ⟨[], [(0, .d (.slc 7 (rToken a))), (1, .d (.fn g caps)), (7, .d (.int .i64 a.length)), (8, .d (.int .i64 i))], [], 0⟩) _ ⟨0, rfl, by omega, fun x hx => by simp at hx, ?_⟩ ?_
 ·exact u_22
 rintro n st ⟨i, rfl, hi, hn, rfl⟩
 by_cases hlt : i < a.length
 ·have ha := List.getElem?_eq_getElem hlt
  have hm := List.getElem_mem hlt
  generalize a[i] = x at ha hm
  have cp := hp x hm
  cases hx : p x with
  | true =>
   have e := idxF_hit ha hn hx
   rw [hx] at cp
   rw [e]
   exact u_29 ha (Z1 cp)
  | false =>
   have hn2 := take_miss ha hn hx
   rw [hx] at cp
   refine u_30 ha (Z1 cp) ?_
   refine ⟨a.length - (i + 1), by omega, i + 1, rfl, hlt, hn2, ?_⟩
   refine u_25 ?_
   exact wrap_id (by omega) (by omega)
 ·have hie : i = a.length := by omega
  subst hie
  rw [List.take_length] at hn
  rw [idxF_miss hn]
  exact u_27
theorem IndexFuncLease_ok (a : List GLease) (g : FuncId) (caps : List (List D)) (p : GLease → Bool) (hsz : a.length ≤ 281474976710656) (hp : ∀ x, x ∈ a → Valid PP GG g (.agg x.c :: caps.map .rp) (.d (.bool (p x))) [none]) :
  Valid PP GG 102 [.d (.slc 6 (rLease a)), .d (.fn g caps)] (.d (.int .i64 (idxF p a))) [none, none] := by
 refine cv Tryz.func102 [.d (.int .i64 (idxF p a))] ?_
 refine u_28 ?_
 refine W_loop (fun n st => ∃ i : Nat, n = a.length - i ∧ i ≤ a.length ∧ (∀ x, x ∈ a.take i → p x = false) ∧
  st = ⟨[], [(0, .d (.slc 6 (rLease a))), (1, .d (.fn g caps)), (7, .d (.int .i64 a.length)), (8, .d (.int .i64 i))], [], 0⟩) _ ⟨0, rfl, by omega, fun x hx => by simp at hx, ?_⟩ ?_
 ·exact u_22
 rintro n st ⟨i, rfl, hi, hn, rfl⟩
 by_cases hlt : i < a.length
 ·have ha := List.getElem?_eq_getElem hlt
  have hm := List.getElem_mem hlt
  generalize a[i] = x at ha hm
  have cp := hp x hm
  cases hx : p x with
  | true =>
   have e := idxF_hit ha hn hx
   rw [hx] at cp
   rw [e]
   exact u_29 ha (Z1 cp)
  | false =>
   have hn2 := take_miss ha hn hx
   rw [hx] at cp
   refine u_30 ha (Z1 cp) ?_
   refine ⟨a.length - (i + 1), by omega, i + 1, rfl, hlt, hn2, ?_⟩
   refine u_25 ?_
   exact wrap_id (by omega) (by omega)
 ·have hie : i = a.length := by omega
  subst hie
  rw [List.take_length] at hn
  rw [idxF_miss hn]
  exact u_27
theorem IndexFuncOwned_ok (a : List GOwned) (g : FuncId) (caps : List (List D)) (p : GOwned → Bool) (hsz : a.length ≤ 281474976710656) (hp : ∀ x, x ∈ a → Valid PP GG g (.agg x.c :: caps.map .rp) (.d (.bool (p x))) [none]) :
  Valid PP GG 72 [.d (.slc 2 (rOwned a)), .d (.fn g caps)] (.d (.int .i64 (idxF p a))) [none, none] := by
 refine cv Tryz.func72 [.d (.int .i64 (idxF p a))] ?_
 refine u_28 ?_
 refine W_loop (fun n st => ∃ i : Nat, n = a.length - i ∧ i ≤ a.length ∧ (∀ x, x ∈ a.take i → p x = false) ∧
  st = ⟨[], [(0, .d (.slc 2 (rOwned a))), (1, .d (.fn g caps)), (7, .d (.int .i64 a.length)), (8, .d (.int .i64 i))], [], 0⟩) _ ⟨0, rfl, by omega, fun x hx => by simp at hx, ?_⟩ ?_
 ·exact u_22
 rintro n st ⟨i, rfl, hi, hn, rfl⟩
 by_cases hlt : i < a.length
 ·have ha := List.getElem?_eq_getElem hlt
  have hm := List.getElem_mem hlt
  generalize a[i] = x at ha hm
  have cp := hp x hm
  cases hx : p x with
  | true =>
   have e := idxF_hit ha hn hx
   rw [hx] at cp
   rw [e]
   exact u_29 ha (Z1 cp)
  | false =>
   have hn2 := take_miss ha hn hx
   rw [hx] at cp
   refine u_30 ha (Z1 cp) ?_
   refine ⟨a.length - (i + 1), by omega, i + 1, rfl, hlt, hn2, ?_⟩
   refine u_25 ?_
   exact wrap_id (by omega) (by omega)
 ·have hie : i = a.length := by omega
  subst hie
  rw [List.take_length] at hn
  rw [idxF_miss hn]
  exact u_27
theorem IndexFuncJob_ok (a : List GJob) (g : FuncId) (caps : List (List D)) (p : GJob → Bool) (hsz : a.length ≤ 281474976710656) (hp : ∀ x, x ∈ a → Valid PP GG g (.agg x.c :: caps.map .rp) (.d (.bool (p x))) [none]) :
  Valid PP GG 123 [.d (.slc 3 (rJob a)), .d (.fn g caps)] (.d (.int .i64 (idxF p a))) [none, none] := by
 refine cv Tryz.func123 [.d (.int .i64 (idxF p a))] ?_
 refine u_28 ?_
 refine W_loop (fun n st => ∃ i : Nat, n = a.length - i ∧ i ≤ a.length ∧ (∀ x, x ∈ a.take i → p x = false) ∧
  st = ⟨[], [(0, .d (.slc 3 (rJob a))), (1, .d (.fn g caps)), (7, .d (.int .i64 a.length)), (8, .d (.int .i64 i))], [], 0⟩) _ ⟨0, rfl, by omega, fun x hx => by simp at hx, ?_⟩ ?_
 ·exact u_22
 rintro n st ⟨i, rfl, hi, hn, rfl⟩
 by_cases hlt : i < a.length
 ·have ha := List.getElem?_eq_getElem hlt
  have hm := List.getElem_mem hlt
  generalize a[i] = x at ha hm
  have cp := hp x hm
  cases hx : p x with
  | true =>
   have e := idxF_hit ha hn hx
   rw [hx] at cp
   rw [e]
   exact u_29 ha (Z1 cp)
  | false =>
   have hn2 := take_miss ha hn hx
   rw [hx] at cp
   refine u_30 ha (Z1 cp) ?_
   refine ⟨a.length - (i + 1), by omega, i + 1, rfl, hlt, hn2, ?_⟩
   refine u_25 ?_
   exact wrap_id (by omega) (by omega)
 ·have hie : i = a.length := by omega
  subst hie
  rw [List.take_length] at hn
  rw [idxF_miss hn]
  exact u_27
theorem ContainsFuncOwned_ok (a : List GOwned) (g : FuncId) (caps : List (List D)) (p : GOwned → Bool) (hsz : a.length ≤ 281474976710656) (hp : ∀ x, x ∈ a → Valid PP GG g (.agg x.c :: caps.map .rp) (.d (.bool (p x))) [none]) :
  Valid PP GG 32 [.d (.slc 2 (rOwned a)), .d (.fn g caps)] (.d (.bool (a.any p))) [none, none] := by
 refine cv Tryz.func32 [.d (.bool (a.any p))] ?_
 have ci := IndexFuncOwned_ok a g caps p hsz hp
 have e := idxF_any p a
 exact u_29 e (Z1 ci)
theorem ContainsFuncJob_ok (a : List GJob) (g : FuncId) (caps : List (List D)) (p : GJob → Bool) (hsz : a.length ≤ 281474976710656) (hp : ∀ x, x ∈ a → Valid PP GG g (.agg x.c :: caps.map .rp) (.d (.bool (p x))) [none]) :
  Valid PP GG 70 [.d (.slc 3 (rJob a)), .d (.fn g caps)] (.d (.bool (a.any p))) [none, none] := by
 refine cv Tryz.func70 [.d (.bool (a.any p))] ?_
 have ci := IndexFuncJob_ok a g caps p hsz hp
 have e := idxF_any p a
 exact u_29 e (Z1 ci)
theorem tokenIndex_c1_ok (t : GToken) (id : Int) : Valid PP GG 113 [.agg t.c, .rp [.int .i64 id]] (.d (.bool (decide (t.fId = id)))) [none] := by
 refine cv Tryz.func113 [.d (.bool (decide (t.fId = id)))] ?_
 have hind := ind_strs t.fNames
 have hq : (t.fId == id) = decide (t.fId = id) := rfl
 exact u_20 hq
theorem tokenIndex_ok (f : GForest) (id : Int) (hf : f.fTokens.length ≤ 1048576) : Valid PP GG 59 [.agg f.c, .d (.int .i64 id)] (.d (.int .i64 (idxF (fun t => decide (t.fId = id)) f.fTokens))) [none, none] := by
 refine cv Tryz.func59 [.d (.int .i64 (idxF (fun t => decide (t.fId = id)) f.fTokens))] ?_
 have ci := IndexFuncToken_ok (GG := GG) f.fTokens 113 [[.int .i64 id]] (fun t => decide (t.fId = id)) (by omega) fun x _ => tokenIndex_c1_ok x id
 exact u_31 (Z1 ci)
theorem leaseIndex_c1_ok (t : GLease) (id : Int) : Valid PP GG 103 [.agg t.c, .rp [.int .i64 id]] (.d (.bool (decide (t.fId = id)))) [none] := by
 refine cv Tryz.func103 [.d (.bool (decide (t.fId = id)))] ?_
 have hq : (t.fId == id) = decide (t.fId = id) := rfl
 exact u_20 hq
theorem leaseIndex_ok (f : GBook) (id : Int) (hf : f.fLeases.length ≤ 1048576) : Valid PP GG 50 [.agg f.c, .d (.int .i64 id)] (.d (.int .i64 (idxF (fun t => decide (t.fId = id)) f.fLeases))) [none, none] := by
 refine cv Tryz.func50 [.d (.int .i64 (idxF (fun t => decide (t.fId = id)) f.fLeases))] ?_
 have ci := IndexFuncLease_ok (GG := GG) f.fLeases 103 [[.int .i64 id]] (fun t => decide (t.fId = id)) (by omega) fun x _ => leaseIndex_c1_ok x id
 exact u_31 (Z1 ci)
theorem hasJob_c1_ok (t : GJob) (s : List UInt8) : Valid PP GG 71 [.agg t.c, .rp [.str s]] (.d (.bool (t.fName == s))) [none] := by
 refine cv Tryz.func71 [.d (.bool (t.fName == s))] ?_
 exact u_27
theorem hasJob_ok (f : GQueue) (s : List UInt8) (hf : f.fJobs.length ≤ 1048576) : Valid PP GG 31 [.agg f.c, .d (.str s)] (.d (.bool (f.fJobs.any fun t => t.fName == s))) [none, none] := by
 refine cv Tryz.func31 [.d (.bool (f.fJobs.any fun t => t.fName == s))] ?_
 have ci := ContainsFuncJob_ok (GG := GG) f.fJobs 71 [[.str s]] (fun t => t.fName == s) (by omega) fun x _ => hasJob_c1_ok x s
 exact u_31 (Z1 ci)
def hasTok (f : GForest) (id : Int) : Bool := f.fTokens.any fun t => decide (t.fId = id)
def tokQ (f : GForest) (pre : List GToken) (t : GToken) : Bool := tokenB t && adjB (fun p x => decide (p.fId < x.fId)) pre t && (decide (t.fParent = 0) || hasTok f t.fParent)
def forestB (f : GForest) : Bool := decide (f.fTokens.length ≤ 120) && okP (tokQ f) [] f.fTokens
def fitF (f : GForest) : Prop := f.fTokens.length ≤ 1048576 ∧ ∀ t, t ∈ f.fTokens → fitT t
theorem s_l08At_ok (f : GForest) (id : Int) (hf : f.fTokens.length ≤ 1048576) : Valid PP GG 37 [.agg f.c, .d (.int .i64 id)] (.d (.int .i64 (idxF (fun t => decide (t.fId = id)) f.fTokens))) [none, none] := by
 refine cv Tryz.func37 [.d (.int .i64 (idxF (fun t => decide (t.fId = id)) f.fTokens))] ?_
 obtain ⟨a⟩ := f
 dsimp only at hf ⊢
 refine u_28 ?_
 refine W_loop (fun n st => ∃ i : Nat, n = a.length - i ∧ i ≤ a.length ∧ (∀ x, x ∈ a.take i → (decide (x.fId = id)) = false) ∧
  st = ⟨[], [(1, .d (.int .i64 id)), (2, .ptr 0 0), (5, .d (.int .i64 i))], [(0, .box [.d (.slc 7 (rToken a))])], 1⟩) _ ⟨0, rfl, by omega, fun x hx => by simp at hx, ?_⟩ ?_
 ·exact u_22
 rintro n st ⟨i, rfl, hi, hn, rfl⟩
 by_cases hlt : i < a.length
 ·have ha := List.getElem?_eq_getElem hlt
  generalize a[i] = x at ha
  by_cases hx : x.fId = id
  ·have e := idxF_hit ha hn (decide_eq_true hx)
   have hxb : (x.fId == id) = true := decide_eq_true hx
   rw [e]
   exact u_20 (Y2 ha hxb)
  ·have hn2 := take_miss (p := fun x => decide (x.fId = id)) ha hn (decide_eq_false hx)
   have hxb : (x.fId == id) = false := decide_eq_false hx
   refine u_21 (Y2 ha hxb) ?_
   refine ⟨a.length - (i + 1), by omega, i + 1, rfl, hlt, hn2, ?_⟩
   refine u_25 ?_
   exact wrap_id (by omega) (by omega)
 ·have hie : i = a.length := by omega
  subst hie
  rw [List.take_length] at hn
  rw [idxF_miss hn]
  exact u_27
theorem isForest_ok [MaxL GG] (f : GForest) (hf : fitF f) : Valid PP GG 61 [.agg f.c] (.d (.bool (forestB f))) [none] := by
 refine cv Tryz.func61 [.d (.bool (forestB f))] ?_
 obtain ⟨hl, ht⟩ := hf
 have hti : ∀ id, Valid PP GG 59 [.agg [.d (.slc 7 (rToken f.fTokens))], .d (.int .i64 id)] (.d (.int .i64 (idxF (fun t => decide (t.fId = id)) f.fTokens))) [none, none] := fun id => tokenIndex_ok (GG := GG) f id hl
 generalize hfa : f.fTokens = a at *
 refine u_21 hfa ?_
 refine W_loop (fun n st => ∃ i : Nat, n = a.length - i ∧ i ≤ a.length ∧ okP (tokQ f) [] (a.take i) = true ∧
  st = ⟨[], [(1, .ptr 0 0), (6, .d (.slc 7 (rToken a))), (7, .d (.int .i64 a.length)), (8, .d (.int .i64 i))], [(0, .box [.d (.slc 7 (rToken a))])], 1⟩) _ ⟨0, rfl, by omega, rfl, ?_⟩ ?_
 ·exact u_32 hfa
 rintro n st ⟨i, rfl, hi, hok, rfl⟩
 by_cases hlt : i < a.length
 ·have ha := List.getElem?_eq_getElem hlt
  generalize a[i] = x at ha
  have ct := isToken_ok (GG := GG) x (ht x (List.mem_of_getElem? ha))
  have cf := hti x.fParent
  have hbad0 := fun h => okP_bad (q := tokQ f) ha h
  have hst := okP_step (q := tokQ f) ha
  rw [hok, Bool.true_and] at hst
  have hbad : tokQ f (a.take i) x = false → forestB f = false := fun h => by unfold forestB; rw [hfa, hbad0 h, Bool.and_false]
  clear hbad0
  have hq : tokQ f (a.take i) x = (tokenB x && adjB (fun p x => decide (p.fId < x.fId)) (a.take i) x && (decide (x.fParent = 0) || hasTok f x.fParent)) := rfl
  rw [hq] at hst hbad
  clear hq
  obtain ⟨xi, xp, xn, xm, xe, xl, xu⟩ := x
  have hno : decide (idxF (fun t => decide (t.fId = xp)) a < 0) = !hasTok f xp := by rw [idxF_none]; unfold hasTok; rw [hfa]
  dsimp only at cf hst hbad
  generalize idxF (fun t => decide (t.fId = xp)) a = k at cf hno
  cases htb : tokenB ⟨xi, xp, xn, xm, xe, xl, xu⟩ with
  | false =>
   rw [htb] at ct hbad
   have hb := hbad (by simp)
   rw [hb]
   exact u_29 (Y2 ha hfa) (Z1 ct)
  | true =>
   rw [htb] at ct hst hbad
   simp only [Bool.true_and] at hst hbad
   by_cases h0 : i = 0
   ·have hpi : ¬ 0 < i := by omega
    have hz : adjB (fun p x : GToken => decide (p.fId < x.fId)) (a.take i) ⟨xi, xp, xn, xm, xe, xl, xu⟩ = true := by rw [h0]; exact adj_zero _ _ _
    rw [hz, Bool.true_and] at hst hbad
    by_cases hp0 : xp = 0
    ·have hst1 : okP (tokQ f) [] (a.take (i + 1)) = true := by rw [hst]; simp [hp0]
     have hq0 : (xp != 0) = false := by simp [hp0]
     refine u_30 (Y4 ha hfa hq0 hpi) (Z2 ct cf) ?_
     refine ⟨a.length - (i + 1), by omega, i + 1, rfl, hlt, hst1, ?_⟩
     refine u_33 hfa ?_
     exact wrap_id (by omega) (by omega)
    ·have hq0 : (xp != 0) = true := by simp [hp0]
     have hd0 : decide (xp = 0) = false := decide_eq_false hp0
     cases hh : hasTok f xp with
     | true =>
      have hk : ¬ k < 0 := by rw [hh] at hno; simpa using hno
      have hst1 : okP (tokQ f) [] (a.take (i + 1)) = true := by rw [hst]; simp [hh]
      refine u_30 (Y5 ha hfa hq0 hpi hk) (Z2 ct cf) ?_
      refine ⟨a.length - (i + 1), by omega, i + 1, rfl, hlt, hst1, ?_⟩
      refine u_33 hfa ?_
      exact wrap_id (by omega) (by omega)
     | false =>
      have hk : k < 0 := by rw [hh] at hno; simpa using hno
      have hb := hbad (by simp [hd0, hh])
      rw [hb]
      exact u_29 (Y5 ha hfa hq0 hpi hk) (Z2 ct cf)
   ·have hp := List.getElem?_eq_getElem (show i - 1 < a.length by omega)
    generalize a[i - 1]'_ = p at hp
    rw [adj_pos _ (by omega) hp] at hst hbad
    have hpi : 0 < i := by omega
    have hw1 : IntKind.i64.wrap ((i : Int) - 1) = ((i - 1 : Nat) : Int) := by rw [wrap_id (by omega) (by omega)]; omega
    obtain ⟨yi, yp, yn, ym, ye, yl, yu⟩ := p
    dsimp only at hst hbad
    by_cases hle : xi ≤ yi
    ·have hb := hbad (by rw [decide_eq_false (show ¬ yi < xi by omega), Bool.false_and])
     rw [hb]
     exact u_29 (Y6 ha hp hfa hpi hw1 hle) (Z1 ct)
    ·rw [decide_eq_true (show yi < xi by omega), Bool.true_and] at hst hbad
     by_cases hp0 : xp = 0
     ·have hst1 : okP (tokQ f) [] (a.take (i + 1)) = true := by rw [hst]; simp [hp0]
      have hq0 : (xp != 0) = false := by simp [hp0]
      refine u_30 (Y7 ha hfa hq0 hp hpi hw1 hle) (Z2 ct cf) ?_
      refine ⟨a.length - (i + 1), by omega, i + 1, rfl, hlt, hst1, ?_⟩
      refine u_33 hfa ?_
      exact wrap_id (by omega) (by omega)
     ·have hq0 : (xp != 0) = true := by simp [hp0]
      have hd0 : decide (xp = 0) = false := decide_eq_false hp0
      cases hh : hasTok f xp with
      | true =>
       have hk : ¬ k < 0 := by rw [hh] at hno; simpa using hno
       have hst1 : okP (tokQ f) [] (a.take (i + 1)) = true := by rw [hst]; simp [hh]
       refine u_30 (Y8 ha hfa hq0 hp hpi hw1 hle hk) (Z2 ct cf) ?_
       refine ⟨a.length - (i + 1), by omega, i + 1, rfl, hlt, hst1, ?_⟩
       refine u_33 hfa ?_
       exact wrap_id (by omega) (by omega)
      | false =>
       have hk : k < 0 := by rw [hh] at hno; simpa using hno
       have hb := hbad (by simp [hd0, hh])
       rw [hb]
       exact u_29 (Y8 ha hfa hq0 hp hpi hw1 hle hk) (Z2 ct cf)
 ·have hie : i = a.length := by omega
  subst hie
  rw [List.take_length] at hok
  have e : forestB f = decide ((a.length : Int) ≤ 120) := by unfold forestB; rw [hfa, hok, Bool.and_true]; exact decide_eq_decide.2 (by omega)
  rw [e]
  exact u_27
theorem s_ForestOk_ok [MaxL GG] (f : GForest) (hf : fitF f) : Valid PP GG 24 [.agg f.c] (.d (.bool (forestB f))) [none] := by
 refine cv Tryz.func24 [.d (.bool (forestB f))] ?_
 obtain ⟨hl, ht⟩ := hf
 have hti : ∀ id, Valid PP GG 37 [.agg [.d (.slc 7 (rToken f.fTokens))], .d (.int .i64 id)] (.d (.int .i64 (idxF (fun t => decide (t.fId = id)) f.fTokens))) [none, none] := fun id => s_l08At_ok (GG := GG) f id hl
 generalize hfa : f.fTokens = a at *
 by_cases h6 : a.length ≤ 120
 rotate_left
 ·have hb : forestB f = false := by unfold forestB; rw [hfa, decide_eq_false h6, Bool.false_and]
  rw [hb]
  have hd : 120 < a.length := by omega
  exact u_20 (Y2 hfa hd)
 have hd : ¬ 120 < a.length := by omega
 refine u_21 (Y2 hfa hd) ?_
 refine W_loop (fun n st => ∃ i : Nat, n = a.length - i ∧ i ≤ a.length ∧ okP (tokQ f) [] (a.take i) = true ∧
  st = ⟨[], [(1, .ptr 0 0), (3, .d (.int .i64 i))], [(0, .box [.d (.slc 7 (rToken a))])], 1⟩) _ ⟨0, rfl, by omega, rfl, ?_⟩ ?_
 ·exact u_32 hfa
 rintro n st ⟨i, rfl, hi, hok, rfl⟩
 by_cases hlt : i < a.length
 ·have ha := List.getElem?_eq_getElem hlt
  generalize a[i] = x at ha
  have ct := s_l08Token_ok (GG := GG) x (ht x (List.mem_of_getElem? ha))
  have cf := hti x.fParent
  have hbad0 := fun h => okP_bad (q := tokQ f) ha h
  have hst := okP_step (q := tokQ f) ha
  rw [hok, Bool.true_and] at hst
  have hbad : tokQ f (a.take i) x = false → forestB f = false := fun h => by unfold forestB; rw [hfa, hbad0 h, Bool.and_false]
  clear hbad0
  have hq : tokQ f (a.take i) x = (tokenB x && adjB (fun p x => decide (p.fId < x.fId)) (a.take i) x && (decide (x.fParent = 0) || hasTok f x.fParent)) := rfl
  rw [hq] at hst hbad
  clear hq
  obtain ⟨xi, xp, xn, xm, xe, xl, xu⟩ := x
  have hno : decide (idxF (fun t => decide (t.fId = xp)) a < 0) = !hasTok f xp := by rw [idxF_none]; unfold hasTok; rw [hfa]
  dsimp only at cf hst hbad
  generalize idxF (fun t => decide (t.fId = xp)) a = k at cf hno
  cases htb : tokenB ⟨xi, xp, xn, xm, xe, xl, xu⟩ with
  | false =>
   rw [htb] at ct hbad
   have hb := hbad (by simp)
   rw [hb]
   exact u_29 (Y2 ha hfa) (Z1 ct)
  | true =>
   rw [htb] at ct hst hbad
   simp only [Bool.true_and] at hst hbad
   by_cases h0 : i = 0
   ·have hpi : ¬ 0 < i := by omega
    have hz : adjB (fun p x : GToken => decide (p.fId < x.fId)) (a.take i) ⟨xi, xp, xn, xm, xe, xl, xu⟩ = true := by rw [h0]; exact adj_zero _ _ _
    rw [hz, Bool.true_and] at hst hbad
    by_cases hp0 : xp = 0
    ·have hst1 : okP (tokQ f) [] (a.take (i + 1)) = true := by rw [hst]; simp [hp0]
     have hq0 : (xp != 0) = false := by simp [hp0]
     refine u_30 (Y4 ha hfa hq0 hpi) (Z2 ct cf) ?_
     refine ⟨a.length - (i + 1), by omega, i + 1, rfl, hlt, hst1, ?_⟩
     refine u_33 hfa ?_
     exact wrap_id (by omega) (by omega)
    ·have hq0 : (xp != 0) = true := by simp [hp0]
     have hd0 : decide (xp = 0) = false := decide_eq_false hp0
     cases hh : hasTok f xp with
     | true =>
      have hk : ¬ k < 0 := by rw [hh] at hno; simpa using hno
      have hst1 : okP (tokQ f) [] (a.take (i + 1)) = true := by rw [hst]; simp [hh]
      refine u_30 (Y5 ha hfa hq0 hpi hk) (Z2 ct cf) ?_
      refine ⟨a.length - (i + 1), by omega, i + 1, rfl, hlt, hst1, ?_⟩
      refine u_33 hfa ?_
      exact wrap_id (by omega) (by omega)
     | false =>
      have hk : k < 0 := by rw [hh] at hno; simpa using hno
      have hb := hbad (by simp [hd0, hh])
      rw [hb]
      exact u_29 (Y5 ha hfa hq0 hpi hk) (Z2 ct cf)
   ·have hp := List.getElem?_eq_getElem (show i - 1 < a.length by omega)
    generalize a[i - 1]'_ = p at hp
    rw [adj_pos _ (by omega) hp] at hst hbad
    have hpi : 0 < i := by omega
    have hw1 : IntKind.i64.wrap ((i : Int) - 1) = ((i - 1 : Nat) : Int) := by rw [wrap_id (by omega) (by omega)]; omega
    obtain ⟨yi, yp, yn, ym, ye, yl, yu⟩ := p
    dsimp only at hst hbad
    by_cases hle : xi ≤ yi
    ·have hb := hbad (by rw [decide_eq_false (show ¬ yi < xi by omega), Bool.false_and])
     rw [hb]
     exact u_29 (Y6 ha hp hfa hpi hw1 hle) (Z1 ct)
    ·rw [decide_eq_true (show yi < xi by omega), Bool.true_and] at hst hbad
     by_cases hp0 : xp = 0
     ·have hst1 : okP (tokQ f) [] (a.take (i + 1)) = true := by rw [hst]; simp [hp0]
      have hq0 : (xp != 0) = false := by simp [hp0]
      refine u_30 (Y7 ha hfa hq0 hp hpi hw1 hle) (Z2 ct cf) ?_
      refine ⟨a.length - (i + 1), by omega, i + 1, rfl, hlt, hst1, ?_⟩
      refine u_33 hfa ?_
      exact wrap_id (by omega) (by omega)
     ·have hq0 : (xp != 0) = true := by simp [hp0]
      have hd0 : decide (xp = 0) = false := decide_eq_false hp0
      cases hh : hasTok f xp with
      | true =>
       have hk : ¬ k < 0 := by rw [hh] at hno; simpa using hno
       have hst1 : okP (tokQ f) [] (a.take (i + 1)) = true := by rw [hst]; simp [hh]
       refine u_30 (Y8 ha hfa hq0 hp hpi hw1 hle hk) (Z2 ct cf) ?_
       refine ⟨a.length - (i + 1), by omega, i + 1, rfl, hlt, hst1, ?_⟩
       refine u_33 hfa ?_
       exact wrap_id (by omega) (by omega)
      | false =>
       have hk : k < 0 := by rw [hh] at hno; simpa using hno
       have hb := hbad (by simp [hd0, hh])
       rw [hb]
       exact u_29 (Y8 ha hfa hq0 hp hpi hw1 hle hk) (Z2 ct cf)
 ·have hie : i = a.length := by omega
  subst hie
  rw [List.take_length] at hok
  have e : forestB f = true := by unfold forestB; rw [hfa, hok, decide_eq_true h6]; rfl
  rw [e]
  exact u_20 hfa
def leaseB (t : GLease) : Bool := inB t.fId 1 1000000000 && inB t.fToken 0 1000000000 && pathOk t.fPath && inB t.fMade 0 1000000000 &&
 inB t.fLimit (IntKind.i64.wrap (t.fMade + 1)) 1000000000 && inB t.fEnds (IntKind.i64.wrap (t.fMade + 1)) t.fLimit
def leaseQ (pre : List GLease) (t : GLease) : Bool := leaseB t && adjB (fun p x => decide (p.fId < x.fId)) pre t
def bookB (b : GBook) : Bool := decide (b.fLeases.length ≤ 150) && okP leaseQ [] b.fLeases
def fitB (b : GBook) : Prop := b.fLeases.length ≤ 1048576 ∧ ∀ t, t ∈ b.fLeases → t.fPath.length ≤ 1048576
theorem isLease_ok [MaxL GG] (x : GLease) (hx : x.fPath.length ≤ 1048576) : Valid PP GG 104 [.agg x.c] (.d (.bool (leaseB x))) [none] := by
 refine cv Tryz.func104 [.d (.bool (leaseB x))] ?_
 obtain ⟨x1, x2, x3, x4, x5, x6⟩ := x
 have hr : leaseB ⟨x1, x2, x3, x4, x5, x6⟩ = (inB x1 1 1000000000 && inB x2 0 1000000000 && pathOk x3 && inB x4 0 1000000000 && inB x6 (IntKind.i64.wrap (x4 + 1)) 1000000000 && inB x5 (IntKind.i64.wrap (x4 + 1)) x6) := rfl
 have c1 : Valid PP GG 34 [.d (.int .i64 x1), .d (.int .i64 1), .d (.int .i64 1000000000)] (.d (.bool (inB x1 1 1000000000))) [none, none, none] := within_ok _ _ _
 have c2 : Valid PP GG 34 [.d (.int .i64 x2), .d (.int .i64 0), .d (.int .i64 1000000000)] (.d (.bool (inB x2 0 1000000000))) [none, none, none] := within_ok _ _ _
 have c3 := isPath_ok (GG := GG) x3 (by dsimp only at hx; omega)
 have c4 : Valid PP GG 34 [.d (.int .i64 x4), .d (.int .i64 0), .d (.int .i64 1000000000)] (.d (.bool (inB x4 0 1000000000))) [none, none, none] := within_ok _ _ _
 have c5 : Valid PP GG 34 [.d (.int .i64 x6), .d (.int .i64 (IntKind.i64.wrap (x4 + 1))), .d (.int .i64 1000000000)] (.d (.bool (inB x6 (IntKind.i64.wrap (x4 + 1)) 1000000000))) [none, none, none] := within_ok _ _ _
 have c6 : Valid PP GG 34 [.d (.int .i64 x5), .d (.int .i64 (IntKind.i64.wrap (x4 + 1))), .d (.int .i64 x6)] (.d (.bool (inB x5 (IntKind.i64.wrap (x4 + 1)) x6))) [none, none, none] := within_ok _ _ _
 generalize inB x1 1 1000000000 = p1 at *
 generalize inB x2 0 1000000000 = p2 at *
 generalize pathOk x3 = p3 at *
 generalize inB x4 0 1000000000 = p4 at *
 generalize inB x6 (IntKind.i64.wrap (x4 + 1)) 1000000000 = p5 at *
 generalize inB x5 (IntKind.i64.wrap (x4 + 1)) x6 = p6 at *
 refine u_1 ?_
 refine u_17 (Z6 c1 c2 c3 c4 c5 c6) 2 (p1 && p2 && p3 && p4 && p5 && p6) ?_
 exact u_13 hr
theorem isBook_ok [MaxL GG] (f : GBook) (hf : fitB f) : Valid PP GG 51 [.agg f.c] (.d (.bool (bookB f))) [none] := by
 refine cv Tryz.func51 [.d (.bool (bookB f))] ?_
 obtain ⟨hl, ht⟩ := hf
 generalize hfa : f.fLeases = a at *
 refine u_21 hfa ?_
 refine W_loop (fun n st => ∃ i : Nat, n = a.length - i ∧ i ≤ a.length ∧ okP leaseQ [] (a.take i) = true ∧
  st = ⟨[], [(1, .ptr 0 0), (6, .d (.slc 6 (rLease a))), (7, .d (.int .i64 a.length)), (8, .d (.int .i64 i))], [(0, .box [.d (.slc 6 (rLease a))])], 1⟩) _ ⟨0, rfl, by omega, rfl, ?_⟩ ?_
 ·exact u_32 hfa
 rintro n st ⟨i, rfl, hi, hok, rfl⟩
 by_cases hlt : i < a.length
 ·have ha := List.getElem?_eq_getElem hlt
  generalize a[i] = x at ha
  have ct := isLease_ok (GG := GG) x (ht x (List.mem_of_getElem? ha))
  have hbad0 := fun h => okP_bad (q := leaseQ) ha h
  have hst := okP_step (q := leaseQ) ha
  rw [hok, Bool.true_and] at hst
  have hbad : leaseQ (a.take i) x = false → bookB f = false := fun h => by unfold bookB; rw [hfa, hbad0 h, Bool.and_false]
  clear hbad0
  have hq : leaseQ (a.take i) x = (leaseB x && adjB (fun p x => decide (p.fId < x.fId)) (a.take i) x) := rfl
  rw [hq] at hst hbad
  clear hq
  obtain ⟨xi, xp, xn, xm, xe, xl⟩ := x
  cases htb : leaseB ⟨xi, xp, xn, xm, xe, xl⟩ with
  | false =>
   rw [htb] at ct hbad
   have hb := hbad (by simp)
   rw [hb]
   exact u_29 (Y2 ha hfa) (Z1 ct)
  | true =>
   rw [htb] at ct hst hbad
   simp only [Bool.true_and] at hst hbad
   by_cases h0 : i = 0
   ·have hpi : ¬ 0 < i := by omega
    have hz : adjB (fun p x : GLease => decide (p.fId < x.fId)) (a.take i) ⟨xi, xp, xn, xm, xe, xl⟩ = true := by rw [h0]; exact adj_zero _ _ _
    rw [hz] at hst
    refine u_30 (Y3 ha hfa hpi) (Z1 ct) ?_
    refine ⟨a.length - (i + 1), by omega, i + 1, rfl, hlt, hst, ?_⟩
    refine u_33 hfa ?_
    exact wrap_id (by omega) (by omega)
   ·have hp := List.getElem?_eq_getElem (show i - 1 < a.length by omega)
    generalize a[i - 1]'_ = p at hp
    rw [adj_pos _ (by omega) hp] at hst hbad
    have hpi : 0 < i := by omega
    have hw1 : IntKind.i64.wrap ((i : Int) - 1) = ((i - 1 : Nat) : Int) := by rw [wrap_id (by omega) (by omega)]; omega
    obtain ⟨yi, yp, yn, ym, ye, yl⟩ := p
    dsimp only at hst hbad
    by_cases hle : xi ≤ yi
    ·have hb := hbad (decide_eq_false (show ¬ yi < xi by omega))
     rw [hb]
     exact u_29 (Y6 ha hp hfa hpi hw1 hle) (Z1 ct)
    ·rw [decide_eq_true (show yi < xi by omega)] at hst
     refine u_30 (Y6 ha hp hfa hpi hw1 hle) (Z1 ct) ?_
     refine ⟨a.length - (i + 1), by omega, i + 1, rfl, hlt, hst, ?_⟩
     refine u_33 hfa ?_
     exact wrap_id (by omega) (by omega)
 ·have hie : i = a.length := by omega
  subst hie
  rw [List.take_length] at hok
  have e : bookB f = decide ((a.length : Int) ≤ 150) := by unfold bookB; rw [hfa, hok, Bool.and_true]; exact decide_eq_decide.2 (by omega)
  rw [e]
  exact u_27
theorem s_l09Lease_ok [MaxL GG] (x : GLease) (hx : x.fPath.length ≤ 1048576) : Valid PP GG 66 [.agg x.c] (.d (.bool (leaseB x))) [none] := by
 refine cv Tryz.func66 [.d (.bool (leaseB x))] ?_
 obtain ⟨x1, x2, x3, x4, x5, x6⟩ := x
 have hr : leaseB ⟨x1, x2, x3, x4, x5, x6⟩ = (inB x1 1 1000000000 && inB x2 0 1000000000 && pathOk x3 && inB x4 0 1000000000 && inB x6 (IntKind.i64.wrap (x4 + 1)) 1000000000 && inB x5 (IntKind.i64.wrap (x4 + 1)) x6) := rfl
 have c1 : Valid PP GG 23 [.d (.int .i64 x1), .d (.int .i64 1), .d (.int .i64 1000000000)] (.d (.bool (inB x1 1 1000000000))) [none, none, none] := l01In_ok _ _ _
 have c2 : Valid PP GG 23 [.d (.int .i64 x2), .d (.int .i64 0), .d (.int .i64 1000000000)] (.d (.bool (inB x2 0 1000000000))) [none, none, none] := l01In_ok _ _ _
 have c3 := s_PathOk_ok (GG := GG) x3 (by dsimp only at hx; omega)
 have c4 : Valid PP GG 23 [.d (.int .i64 x4), .d (.int .i64 0), .d (.int .i64 1000000000)] (.d (.bool (inB x4 0 1000000000))) [none, none, none] := l01In_ok _ _ _
 have c5 : Valid PP GG 23 [.d (.int .i64 x6), .d (.int .i64 (IntKind.i64.wrap (x4 + 1))), .d (.int .i64 1000000000)] (.d (.bool (inB x6 (IntKind.i64.wrap (x4 + 1)) 1000000000))) [none, none, none] := l01In_ok _ _ _
 have c6 : Valid PP GG 23 [.d (.int .i64 x5), .d (.int .i64 (IntKind.i64.wrap (x4 + 1))), .d (.int .i64 x6)] (.d (.bool (inB x5 (IntKind.i64.wrap (x4 + 1)) x6))) [none, none, none] := l01In_ok _ _ _
 generalize inB x1 1 1000000000 = p1 at *
 generalize inB x2 0 1000000000 = p2 at *
 generalize pathOk x3 = p3 at *
 generalize inB x4 0 1000000000 = p4 at *
 generalize inB x6 (IntKind.i64.wrap (x4 + 1)) 1000000000 = p5 at *
 generalize inB x5 (IntKind.i64.wrap (x4 + 1)) x6 = p6 at *
 refine u_1 ?_
 refine u_17 (Z6 c1 c2 c3 c4 c5 c6) 2 (p1 && p2 && p3 && p4 && p5 && p6) ?_
 exact u_13 hr
theorem s_BookOk_ok [MaxL GG] (f : GBook) (hf : fitB f) : Valid PP GG 25 [.agg f.c] (.d (.bool (bookB f))) [none] := by
 refine cv Tryz.func25 [.d (.bool (bookB f))] ?_
 obtain ⟨hl, ht⟩ := hf
 generalize hfa : f.fLeases = a at *
 by_cases h6 : a.length ≤ 150
 rotate_left
 ·have hb : bookB f = false := by unfold bookB; rw [hfa, decide_eq_false h6, Bool.false_and]
  rw [hb]
  have hd : 150 < a.length := by omega
  exact u_20 (Y2 hfa hd)
 have hd : ¬ 150 < a.length := by omega
 refine u_21 (Y2 hfa hd) ?_
 refine W_loop (fun n st => ∃ i : Nat, n = a.length - i ∧ i ≤ a.length ∧ okP leaseQ [] (a.take i) = true ∧
  st = ⟨[], [(1, .ptr 0 0), (3, .d (.int .i64 i))], [(0, .box [.d (.slc 6 (rLease a))])], 1⟩) _ ⟨0, rfl, by omega, rfl, ?_⟩ ?_
 ·exact u_32 hfa
 rintro n st ⟨i, rfl, hi, hok, rfl⟩
 by_cases hlt : i < a.length
 ·have ha := List.getElem?_eq_getElem hlt
  generalize a[i] = x at ha
  have ct := s_l09Lease_ok (GG := GG) x (ht x (List.mem_of_getElem? ha))
  have hbad0 := fun h => okP_bad (q := leaseQ) ha h
  have hst := okP_step (q := leaseQ) ha
  rw [hok, Bool.true_and] at hst
  have hbad : leaseQ (a.take i) x = false → bookB f = false := fun h => by unfold bookB; rw [hfa, hbad0 h, Bool.and_false]
  clear hbad0
  have hq : leaseQ (a.take i) x = (leaseB x && adjB (fun p x => decide (p.fId < x.fId)) (a.take i) x) := rfl
  rw [hq] at hst hbad
  clear hq
  obtain ⟨xi, xp, xn, xm, xe, xl⟩ := x
  cases htb : leaseB ⟨xi, xp, xn, xm, xe, xl⟩ with
  | false =>
   rw [htb] at ct hbad
   have hb := hbad (by simp)
   rw [hb]
   exact u_29 (Y2 ha hfa) (Z1 ct)
  | true =>
   rw [htb] at ct hst hbad
   simp only [Bool.true_and] at hst hbad
   by_cases h0 : i = 0
   ·have hpi : ¬ 0 < i := by omega
    have hz : adjB (fun p x : GLease => decide (p.fId < x.fId)) (a.take i) ⟨xi, xp, xn, xm, xe, xl⟩ = true := by rw [h0]; exact adj_zero _ _ _
    rw [hz] at hst
    refine u_30 (Y3 ha hfa hpi) (Z1 ct) ?_
    refine ⟨a.length - (i + 1), by omega, i + 1, rfl, hlt, hst, ?_⟩
    refine u_33 hfa ?_
    exact wrap_id (by omega) (by omega)
   ·have hp := List.getElem?_eq_getElem (show i - 1 < a.length by omega)
    generalize a[i - 1]'_ = p at hp
    rw [adj_pos _ (by omega) hp] at hst hbad
    have hpi : 0 < i := by omega
    have hw1 : IntKind.i64.wrap ((i : Int) - 1) = ((i - 1 : Nat) : Int) := by rw [wrap_id (by omega) (by omega)]; omega
    obtain ⟨yi, yp, yn, ym, ye, yl⟩ := p
    dsimp only at hst hbad
    by_cases hle : xi ≤ yi
    ·have hb := hbad (decide_eq_false (show ¬ yi < xi by omega))
     rw [hb]
     exact u_29 (Y6 ha hp hfa hpi hw1 hle) (Z1 ct)
    ·rw [decide_eq_true (show yi < xi by omega)] at hst
     refine u_30 (Y6 ha hp hfa hpi hw1 hle) (Z1 ct) ?_
     refine ⟨a.length - (i + 1), by omega, i + 1, rfl, hlt, hst, ?_⟩
     refine u_33 hfa ?_
     exact wrap_id (by omega) (by omega)
 ·have hie : i = a.length := by omega
  subst hie
  rw [List.take_length] at hok
  have e : bookB f = true := by unfold bookB; rw [hfa, hok, decide_eq_true h6]; rfl
  rw [e]
  exact u_20 hfa
def farQ (pre : List GUser) (u : GUser) : Bool := nameOk u.fName && adjB (fun p x => Go.Op.bytesLess p.fName x.fName) pre u
def farB (f : GFar) : Bool := decide (f.fUsers.length ≤ 120) && inB f.fFail 0 1000 && inB f.fMade 0 1000000000 && okP farQ [] f.fUsers
def fitFar (f : GFar) : Prop := f.fUsers.length ≤ 1048576 ∧ ∀ u, u ∈ f.fUsers → u.fName.length ≤ 1048576
theorem isFar_ok [MaxL GG] (f : GFar) (hf : fitFar f) : Valid PP GG 52 [.agg f.c] (.d (.bool (farB f))) [none] := by
 refine cv Tryz.func52 [.d (.bool (farB f))] ?_
 obtain ⟨a, ff, fm⟩ := f
 obtain ⟨hl, ht⟩ := hf
 dsimp only at hl ht
 have c1 : Valid PP GG 34 [.d (.int .i64 ff), .d (.int .i64 0), .d (.int .i64 1000)] (.d (.bool (inB ff 0 1000))) [none, none, none] := within_ok _ _ _
 have c2 : Valid PP GG 34 [.d (.int .i64 fm), .d (.int .i64 0), .d (.int .i64 1000000000)] (.d (.bool (inB fm 0 1000000000))) [none, none, none] := within_ok _ _ _
 have hB : farB ⟨a, ff, fm⟩ = (decide (a.length ≤ 120) && inB ff 0 1000 && inB fm 0 1000000000 && okP farQ [] a) := rfl
 generalize farB ⟨a, ff, fm⟩ = B at *
 generalize inB ff 0 1000 = p2 at *
 generalize inB fm 0 1000000000 = p3 at *
 refine u_28 ?_
 refine W_loop (fun n st => ∃ i : Nat, n = a.length - i ∧ i ≤ a.length ∧ okP farQ [] (a.take i) = true ∧
  st = ⟨[], [(1, .ptr 0 0), (6, .d (.slc 2 (rUser a))), (7, .d (.int .i64 a.length)), (8, .d (.int .i64 i))], [(0, .box [.d (.slc 2 (rUser a)), .d (.int .i64 ff), .d (.int .i64 fm)])], 1⟩) _ ⟨0, rfl, by omega, rfl, ?_⟩ ?_
 ·exact u_22
 rintro n st ⟨i, rfl, hi, hok, rfl⟩
 by_cases hlt : i < a.length
 ·have ha := List.getElem?_eq_getElem hlt
  generalize a[i] = x at ha
  have ct := isName_ok (GG := GG) x.fName (by have := ht x (List.mem_of_getElem? ha); omega)
  have hbad0 := fun h => okP_bad (q := farQ) ha h
  have hst := okP_step (q := farQ) ha
  rw [hok, Bool.true_and] at hst
  have hbad : farQ (a.take i) x = false → B = false := fun h => by rw [hB, hbad0 h, Bool.and_false]
  clear hbad0
  have hq : farQ (a.take i) x = (nameOk x.fName && adjB (fun p x => Go.Op.bytesLess p.fName x.fName) (a.take i) x) := rfl
  rw [hq] at hst hbad
  clear hq
  obtain ⟨xn, xp⟩ := x
  dsimp only at ct hst hbad
  cases htb : nameOk xn with
  | false =>
   rw [htb] at ct hbad
   have hb := hbad (by simp)
   rw [hb]
   exact u_29 ha (Z1 ct)
  | true =>
   rw [htb] at ct hst hbad
   simp only [Bool.true_and] at hst hbad
   by_cases h0 : i = 0
   ·have hpi : ¬ 0 < i := by omega
    have hz : adjB (fun p x : GUser => Go.Op.bytesLess p.fName x.fName) (a.take i) ⟨xn, xp⟩ = true := by rw [h0]; exact adj_zero _ _ _
    rw [hz] at hst
    refine u_30 (Y2 ha hpi) (Z1 ct) ?_
    refine ⟨a.length - (i + 1), by omega, i + 1, rfl, hlt, hst, ?_⟩
    refine u_25 ?_
    exact wrap_id (by omega) (by omega)
   ·have hp := List.getElem?_eq_getElem (show i - 1 < a.length by omega)
    generalize a[i - 1]'_ = p at hp
    rw [adj_pos _ (by omega) hp] at hst hbad
    have hpi : 0 < i := by omega
    have hw1 : IntKind.i64.wrap ((i : Int) - 1) = ((i - 1 : Nat) : Int) := by rw [wrap_id (by omega) (by omega)]; omega
    obtain ⟨yn, yp⟩ := p
    dsimp only at hst hbad
    cases hbl : Go.Op.bytesLess yn xn with
    | false =>
     have hb := hbad hbl
     rw [hb]
     exact u_29 (Y5 ha hp hpi hw1 hbl) (Z1 ct)
    | true =>
     rw [hbl] at hst
     refine u_30 (Y5 ha hp hpi hw1 hbl) (Z1 ct) ?_
     refine ⟨a.length - (i + 1), by omega, i + 1, rfl, hlt, hst, ?_⟩
     refine u_25 ?_
     exact wrap_id (by omega) (by omega)
 ·have hie : i = a.length := by omega
  subst hie
  rw [List.take_length] at hok
  rw [hok, Bool.and_true] at hB
  by_cases h6 : a.length ≤ 120
  ·rw [decide_eq_true h6, Bool.true_and] at hB
   cases p2
   ·rw [hB]
    exact u_29 h6 (Z1 c1)
   ·rw [hB]
    exact u_29 h6 (Z2 c1 c2)
  ·rw [decide_eq_false h6] at hB
   simp only [Bool.false_and] at hB
   rw [hB]
   exact u_20 h6
theorem s_FarOk_ok [MaxL GG] (f : GFar) (hf : fitFar f) : Valid PP GG 26 [.agg f.c] (.d (.bool (farB f))) [none] := by
 refine cv Tryz.func26 [.d (.bool (farB f))] ?_
 obtain ⟨a, ff, fm⟩ := f
 obtain ⟨hl, ht⟩ := hf
 dsimp only at hl ht
 have c1 : Valid PP GG 23 [.d (.int .i64 ff), .d (.int .i64 0), .d (.int .i64 1000)] (.d (.bool (inB ff 0 1000))) [none, none, none] := l01In_ok _ _ _
 have c2 : Valid PP GG 23 [.d (.int .i64 fm), .d (.int .i64 0), .d (.int .i64 1000000000)] (.d (.bool (inB fm 0 1000000000))) [none, none, none] := l01In_ok _ _ _
 have hB : farB ⟨a, ff, fm⟩ = (decide (a.length ≤ 120) && inB ff 0 1000 && inB fm 0 1000000000 && okP farQ [] a) := rfl
 generalize farB ⟨a, ff, fm⟩ = B at *
 generalize inB ff 0 1000 = p2 at *
 generalize inB fm 0 1000000000 = p3 at *
 by_cases h6 : a.length ≤ 120
 rotate_left
 ·have hd : 120 < a.length := by omega
  rw [decide_eq_false h6] at hB
  simp only [Bool.false_and] at hB
  rw [hB]
  exact u_20 hd
 have hd : ¬ 120 < a.length := by omega
 rw [decide_eq_true h6, Bool.true_and] at hB
 cases p2
 ·rw [hB]
  exact u_29 hd (Z1 c1)
 cases p3
 ·rw [hB]
  exact u_29 hd (Z2 c1 c2)
 rw [Bool.true_and, Bool.true_and] at hB
 refine u_30 hd (Z2 c1 c2) ?_
 refine W_loop (fun n st => ∃ i : Nat, n = a.length - i ∧ i ≤ a.length ∧ okP farQ [] (a.take i) = true ∧
  st = ⟨[], [(1, .ptr 0 0), (3, .d (.int .i64 i))], [(0, .box [.d (.slc 2 (rUser a)), .d (.int .i64 ff), .d (.int .i64 fm)])], 1⟩) _ ⟨0, rfl, by omega, rfl, ?_⟩ ?_
 ·exact u_22
 rintro n st ⟨i, rfl, hi, hok, rfl⟩
 by_cases hlt : i < a.length
 ·have ha := List.getElem?_eq_getElem hlt
  generalize a[i] = x at ha
  have ct := l01Name_ok (GG := GG) x.fName (by have := ht x (List.mem_of_getElem? ha); omega)
  have hbad0 := fun h => okP_bad (q := farQ) ha h
  have hst := okP_step (q := farQ) ha
  rw [hok, Bool.true_and] at hst
  have hbad : farQ (a.take i) x = false → B = false := fun h => by rw [hB, hbad0 h]
  clear hbad0
  have hq : farQ (a.take i) x = (nameOk x.fName && adjB (fun p x => Go.Op.bytesLess p.fName x.fName) (a.take i) x) := rfl
  rw [hq] at hst hbad
  clear hq
  obtain ⟨xn, xp⟩ := x
  dsimp only at ct hst hbad
  cases htb : nameOk xn with
  | false =>
   rw [htb] at ct hbad
   have hb := hbad (by simp)
   rw [hb]
   exact u_29 ha (Z1 ct)
  | true =>
   rw [htb] at ct hst hbad
   simp only [Bool.true_and] at hst hbad
   by_cases h0 : i = 0
   ·have hpi : ¬ 0 < i := by omega
    have hz : adjB (fun p x : GUser => Go.Op.bytesLess p.fName x.fName) (a.take i) ⟨xn, xp⟩ = true := by rw [h0]; exact adj_zero _ _ _
    rw [hz] at hst
    refine u_30 (Y2 ha hpi) (Z1 ct) ?_
    refine ⟨a.length - (i + 1), by omega, i + 1, rfl, hlt, hst, ?_⟩
    refine u_25 ?_
    exact wrap_id (by omega) (by omega)
   ·have hp := List.getElem?_eq_getElem (show i - 1 < a.length by omega)
    generalize a[i - 1]'_ = p at hp
    rw [adj_pos _ (by omega) hp] at hst hbad
    have hpi : 0 < i := by omega
    have hw1 : IntKind.i64.wrap ((i : Int) - 1) = ((i - 1 : Nat) : Int) := by rw [wrap_id (by omega) (by omega)]; omega
    obtain ⟨yn, yp⟩ := p
    dsimp only at hst hbad
    cases hbl : Go.Op.bytesLess yn xn with
    | false =>
     have hb := hbad hbl
     rw [hb]
     exact u_29 (Y5 ha hp hpi hw1 hbl) (Z1 ct)
    | true =>
     rw [hbl] at hst
     refine u_30 (Y5 ha hp hpi hw1 hbl) (Z1 ct) ?_
     refine ⟨a.length - (i + 1), by omega, i + 1, rfl, hlt, hst, ?_⟩
     refine u_25 ?_
     exact wrap_id (by omega) (by omega)
 ·have hie : i = a.length := by omega
  subst hie
  rw [List.take_length] at hok
  rw [hok] at hB
  rw [hB]
  exact u_27
def jobB (j : GJob) : Bool := nameOk j.fName && inB j.fAt 0 2000000000 && inB j.fTries 0 5
def jobQ (pre : List GJob) (j : GJob) : Bool := jobB j && !(pre.any fun t => t.fName == j.fName)
def queueB (q : GQueue) : Bool := decide (q.fJobs.length ≤ 120) && okP jobQ [] q.fJobs
def fitQ (q : GQueue) : Prop := q.fJobs.length ≤ 1048576 ∧ ∀ j, j ∈ q.fJobs → j.fName.length ≤ 1048576
theorem isQueue_ok [MaxL GG] (f : GQueue) (hf : fitQ f) : Valid PP GG 67 [.agg f.c] (.d (.bool (queueB f))) [none] := by
 refine cv Tryz.func67 [.d (.bool (queueB f))] ?_
 obtain ⟨a⟩ := f
 obtain ⟨hl, ht⟩ := hf
 dsimp only at hl ht
 have hB : queueB ⟨a⟩ = (decide (a.length ≤ 120) && okP jobQ [] a) := rfl
 generalize queueB ⟨a⟩ = B at *
 refine u_28 ?_
 refine W_loop (fun n st => ∃ i : Nat, n = a.length - i ∧ i ≤ a.length ∧ okP jobQ [] (a.take i) = true ∧
  st = ⟨[], [(1, .ptr 0 0), (6, .d (.slc 3 (rJob a))), (7, .d (.int .i64 a.length)), (8, .d (.int .i64 i))], [(0, .box [.d (.slc 3 (rJob a))])], 1⟩) _ ⟨0, rfl, by omega, rfl, ?_⟩ ?_
 ·exact u_22
 rintro n st ⟨i, rfl, hi, hok, rfl⟩
 by_cases hlt : i < a.length
 ·have ha := List.getElem?_eq_getElem hlt
  generalize a[i] = x at ha
  have ct := isName_ok (GG := GG) x.fName (by have := ht x (List.mem_of_getElem? ha); omega)
  have c1 : Valid PP GG 34 [.d (.int .i64 x.fAt), .d (.int .i64 0), .d (.int .i64 2000000000)] (.d (.bool (inB x.fAt 0 2000000000))) [none, none, none] := within_ok _ _ _
  have c2 : Valid PP GG 34 [.d (.int .i64 x.fTries), .d (.int .i64 0), .d (.int .i64 5)] (.d (.bool (inB x.fTries 0 5))) [none, none, none] := within_ok _ _ _
  have ch : Valid PP GG 31 [.agg [.d (.slc 3 (rJob (a.take i)))], .d (.str x.fName)] (.d (.bool ((a.take i).any fun t => t.fName == x.fName))) [none, none] := hasJob_ok (GG := GG) ⟨a.take i⟩ x.fName (by simp; omega)
  have htk : (rJob a).take i = rJob (a.take i) := by simp [rJob, List.map_take]
  have hbad0 := fun h => okP_bad (q := jobQ) ha h
  have hst := okP_step (q := jobQ) ha
  rw [hok, Bool.true_and] at hst
  have hbad : jobQ (a.take i) x = false → B = false := fun h => by rw [hB, hbad0 h, Bool.and_false]
  clear hbad0
  have hq : jobQ (a.take i) x = (nameOk x.fName && inB x.fAt 0 2000000000 && inB x.fTries 0 5 && !((a.take i).any fun t => t.fName == x.fName)) := rfl
  rw [hq] at hst hbad
  clear hq
  obtain ⟨xn, xa, xt⟩ := x
  dsimp only at ct c1 c2 ch hst hbad
  generalize nameOk xn = p1 at *
  generalize inB xa 0 2000000000 = p2 at *
  generalize inB xt 0 5 = p3 at *
  generalize ((a.take i).any fun t => t.fName == xn) = p4 at *
  cases p1
  ·rw [hbad (by simp)]
   exact u_29 ha (Z1 ct)
  cases p2
  ·rw [hbad (by simp)]
   exact u_29 ha (Z2 ct c1)
  cases p3
  ·rw [hbad (by simp)]
   exact u_29 ha (Z3 ct c1 c2)
  cases p4
  ·refine u_30 (Y2 ha htk) (Z4 ct c1 c2 ch) ?_
   refine ⟨a.length - (i + 1), by omega, i + 1, rfl, hlt, hst, ?_⟩
   refine u_25 ?_
   exact wrap_id (by omega) (by omega)
  ·rw [hbad (by simp)]
   exact u_29 (Y2 ha htk) (Z4 ct c1 c2 ch)
 ·have hie : i = a.length := by omega
  subst hie
  rw [List.take_length] at hok
  rw [hok, Bool.and_true] at hB
  have e : decide ((a.length : Int) ≤ 120) = decide (a.length ≤ 120) := decide_eq_decide.2 (by omega)
  rw [hB, ← e]
  exact u_27
theorem s_QueueOk_ok [MaxL GG] (f : GQueue) (hf : fitQ f) : Valid PP GG 27 [.agg f.c] (.d (.bool (queueB f))) [none] := by
 refine cv Tryz.func27 [.d (.bool (queueB f))] ?_
 obtain ⟨a⟩ := f
 obtain ⟨hl, ht⟩ := hf
 dsimp only at hl ht
 have hB : queueB ⟨a⟩ = (decide (a.length ≤ 120) && okP jobQ [] a) := rfl
 generalize queueB ⟨a⟩ = B at *
 by_cases h6 : a.length ≤ 120
 rotate_left
 ·have hd : 120 < a.length := by omega
  rw [decide_eq_false h6] at hB
  simp only [Bool.false_and] at hB
  rw [hB]
  exact u_20 hd
 have hd : ¬ 120 < a.length := by omega
 rw [decide_eq_true h6, Bool.true_and] at hB
 refine u_21 hd ?_
 refine W_loop (fun n st => ∃ i : Nat, n = a.length - i ∧ i ≤ a.length ∧ okP jobQ [] (a.take i) = true ∧
  st = ⟨[], [(1, .ptr 0 0), (3, .d (.int .i64 i))], [(0, .box [.d (.slc 3 (rJob a))])], 1⟩) _ ⟨0, rfl, by omega, rfl, ?_⟩ ?_
 ·exact u_22
 rintro n st ⟨i, rfl, hi, hok, rfl⟩
 by_cases hlt : i < a.length
 ·have ha := List.getElem?_eq_getElem hlt
  generalize a[i] = x at ha
  have ct := l01Name_ok (GG := GG) x.fName (by have := ht x (List.mem_of_getElem? ha); omega)
  have c1 : Valid PP GG 23 [.d (.int .i64 x.fAt), .d (.int .i64 0), .d (.int .i64 2000000000)] (.d (.bool (inB x.fAt 0 2000000000))) [none, none, none] := l01In_ok _ _ _
  have c2 : Valid PP GG 23 [.d (.int .i64 x.fTries), .d (.int .i64 0), .d (.int .i64 5)] (.d (.bool (inB x.fTries 0 5))) [none, none, none] := l01In_ok _ _ _
  have hbad0 := fun h => okP_bad (q := jobQ) ha h
  have hst := okP_step (q := jobQ) ha
  rw [hok, Bool.true_and] at hst
  have hbad : jobQ (a.take i) x = false → B = false := fun h => by rw [hB, hbad0 h]
  clear hbad0
  have hq : jobQ (a.take i) x = (nameOk x.fName && inB x.fAt 0 2000000000 && inB x.fTries 0 5 && !((a.take i).any fun t => t.fName == x.fName)) := rfl
  rw [hq] at hst hbad
  clear hq
  obtain ⟨xn, xa, xt⟩ := x
  dsimp only at ct c1 c2 hst hbad
  generalize nameOk xn = p1 at *
  generalize inB xa 0 2000000000 = p2 at *
  generalize inB xt 0 5 = p3 at *
  cases p1
  ·rw [hbad (by simp)]
   exact u_29 ha (Z1 ct)
  cases p2
  ·rw [hbad (by simp)]
   exact u_29 ha (Z2 ct c1)
  cases p3
  ·rw [hbad (by simp)]
   exact u_29 ha (Z3 ct c1 c2)
  refine u_30 ha (Z3 ct c1 c2) ?_
  refine W_loop (fun n st => ∃ k : Nat, n = i - k ∧ k ≤ i ∧ (∀ y, y ∈ a.take k → (y.fName == xn) = false) ∧
   st = ⟨[], [(1, .ptr 0 0), (3, .d (.int .i64 i)), (4, .ptr 1 0), (5, .d (.int .i64 k))], [(0, .box [.d (.slc 3 (rJob a))]), (1, .box [.d (.str xn), .d (.int .i64 xa), .d (.int .i64 xt)])], 2⟩) _ ⟨0, rfl, by omega, fun y h => by simp at h, ?_⟩ ?_
  ·exact u_22
  rintro n st ⟨k, rfl, hk, hn, rfl⟩
  by_cases hkl : k < i
  ·have hak := List.getElem?_eq_getElem (show k < a.length by omega)
   generalize a[k]'_ = y at hak
   obtain ⟨yn, ya, yt⟩ := y
   cases hyn : (yn == xn) with
   | true =>
    rw [hbad (by
     have : (a.take i).any (fun t => t.fName == xn) = true := by
      rw [List.any_eq_true]
      exact ⟨_, List.mem_of_getElem? (by rw [List.getElem?_take_of_lt hkl]; exact hak), hyn⟩
     rw [this]; rfl)]
    exact u_20 (Y3 hak hkl hyn)
   | false =>
    have hn2 := take_miss (p := fun y : GJob => y.fName == xn) hak hn hyn
    refine u_21 (Y3 hak hkl hyn) ?_
    refine ⟨i - (k + 1), by omega, k + 1, rfl, hkl, hn2, ?_⟩
    refine u_25 ?_
    exact wrap_id (by omega) (by omega)
  ·have hke : k = i := by omega
   subst hke
   have : (a.take k).any (fun t => t.fName == xn) = false := by
    rw [List.any_eq_false]; intro y hy; rw [hn y hy]; simp
   rw [this] at hst
   refine u_21 hkl ?_
   refine ⟨a.length - (k + 1), by omega, k + 1, rfl, hlt, hst, ?_⟩
   refine u_25 ?_
   exact wrap_id (by omega) (by omega)
 ·have hie : i = a.length := by omega
  subst hie
  rw [List.take_length] at hok
  rw [hok] at hB
  rw [hB]
  exact u_27
theorem okP_get {α : Type} {q : List α → α → Bool} {l : List α} {i : Nat} {x : α} (h : okP q [] l = true) (hi : l[i]? = some x) : q (l.take i) x = true := by
 cases hq : q (l.take i) x with
 | true => rfl
 | false => rw [okP_bad hi hq] at h; cases h
theorem inc_of_step {α : Type} {key : α → Int} {l : List α} (h : ∀ (i : Nat) x y, l[i]? = some y → l[i + 1]? = some x → key y < key x) : l.Pairwise (fun y x => key y < key x) := by
 rw [List.pairwise_iff_getElem]
 intro i j hi hj hij
 obtain ⟨d, rfl⟩ : ∃ d, j = i + 1 + d := ⟨j - i - 1, by omega⟩
 induction d with
 | zero => exact h i _ _ (List.getElem?_eq_getElem hi) (List.getElem?_eq_getElem hj)
 | succ d ih =>
  have h1 := ih (by omega) (by omega)
  have h2 := h (i + 1 + d) _ _ (List.getElem?_eq_getElem (show i + 1 + d < l.length by omega)) (List.getElem?_eq_getElem hj)
  exact Int.lt_trans h1 h2
theorem okP_inc {α : Type} {q : List α → α → Bool} {key : α → Int} (hq : ∀ pre x, q pre x = true → adjB (fun p x => decide (key p < key x)) pre x = true) {l : List α} (h : okP q [] l = true) : l.Pairwise (fun y x => key y < key x) := by
 refine inc_of_step fun i x y hy hx => ?_
 have h1 := hq _ _ (okP_get h hx)
 rw [adj_succ _ hy] at h1
 exact of_decide_eq_true h1
theorem inc_last {α : Type} {key : α → Int} {l : List α} (h : l.Pairwise (fun y x => key y < key x)) {k : Nat} {t : α} (hk : l.length = k + 1) (ht : l[k]? = some t) (n : Int) : l.all (fun x => decide (key x < n)) = decide (key t < n) := by
 rw [List.pairwise_iff_getElem] at h
 obtain ⟨h1, rfl⟩ := List.getElem?_eq_some_iff.1 ht
 by_cases hn : key l[k] < n
 ·rw [decide_eq_true hn, List.all_eq_true]
  intro x hx
  obtain ⟨i, hi, rfl⟩ := List.mem_iff_getElem.1 hx
  by_cases hik : i = k
  ·subst hik; exact decide_eq_true hn
  ·have := h i k hi h1 (by omega)
   exact decide_eq_true (by omega)
 ·rw [decide_eq_false hn, List.all_eq_false]
  exact ⟨_, List.getElem_mem h1, by simpa using hn⟩
def belowT (f : GForest) (n : Int) : Bool := f.fTokens.all fun t => decide (t.fId < n)
def belowL (b : GBook) (n : Int) : Bool := b.fLeases.all fun t => decide (t.fId < n)
def hasLease (b : GBook) (id : Int) : Bool := b.fLeases.any fun l => decide (l.fId = id)
def ownQ (b : GBook) (pre : List GOwned) (o : GOwned) : Bool := adjB (fun p x => decide (p.fLease < x.fLease)) pre o && hasLease b o.fLease && nameOk o.fName && !(pre.any fun p => p.fName == o.fName)
def worldB (w : GWorld) : Bool := inB w.fNow 0 1000000000 && inB w.fNext 1 1000000000 && inB w.fLost 0 1000000000 && forestB w.fForest && bookB w.fBook && farB w.fFar && queueB w.fQueue && belowT w.fForest w.fNext && belowL w.fBook w.fNext && okP (ownQ w.fBook) [] w.fOwned
def fitW (w : GWorld) : Prop := fitF w.fForest ∧ fitB w.fBook ∧ fitFar w.fFar ∧ fitQ w.fQueue ∧ w.fOwned.length ≤ 1048576 ∧ ∀ o, o ∈ w.fOwned → o.fName.length ≤ 1048576
theorem forest_inc {f : GForest} (h : forestB f = true) : f.fTokens.Pairwise (fun y x => y.fId < x.fId) := by
 unfold forestB at h
 rw [Bool.and_eq_true] at h
 refine okP_inc (key := GToken.fId) (fun pre x hq => ?_) h.2
 unfold tokQ at hq
 simp only [Bool.and_eq_true] at hq
 exact hq.1.2
theorem book_inc {f : GBook} (h : bookB f = true) : f.fLeases.Pairwise (fun y x => y.fId < x.fId) := by
 unfold bookB at h
 rw [Bool.and_eq_true] at h
 refine okP_inc (key := GLease.fId) (fun pre x hq => ?_) h.2
 unfold leaseQ at hq
 rw [Bool.and_eq_true] at hq
 exact hq.2
theorem own_inc {b : GBook} {l : List GOwned} (h : okP (ownQ b) [] l = true) : l.Pairwise (fun y x => y.fLease < x.fLease) := by
 refine okP_inc (key := GOwned.fLease) (fun pre x hq => ?_) h
 unfold ownQ at hq
 simp only [Bool.and_eq_true] at hq
 exact hq.1.1.1
theorem lastT {f : GForest} (h : forestB f = true) (n : Int) : (f.fTokens = [] ∧ belowT f n = true) ∨ ∃ k t, f.fTokens.length = k + 1 ∧ f.fTokens[k]? = some t ∧ belowT f n = decide (t.fId < n) := by
 by_cases h0 : f.fTokens = []
 ·exact .inl ⟨h0, by unfold belowT; rw [h0]; rfl⟩
 ·have hl := List.length_pos_iff.2 h0
  refine .inr ⟨f.fTokens.length - 1, f.fTokens[f.fTokens.length - 1], by omega, List.getElem?_eq_getElem (by omega), ?_⟩
  exact inc_last (key := GToken.fId) (forest_inc h) (by omega) (List.getElem?_eq_getElem (by omega)) n
theorem lastL {f : GBook} (h : bookB f = true) (n : Int) : (f.fLeases = [] ∧ belowL f n = true) ∨ ∃ k t, f.fLeases.length = k + 1 ∧ f.fLeases[k]? = some t ∧ belowL f n = decide (t.fId < n) := by
 by_cases h0 : f.fLeases = []
 ·exact .inl ⟨h0, by unfold belowL; rw [h0]; rfl⟩
 ·have hl := List.length_pos_iff.2 h0
  refine .inr ⟨f.fLeases.length - 1, f.fLeases[f.fLeases.length - 1], by omega, List.getElem?_eq_getElem (by omega), ?_⟩
  exact inc_last (key := GLease.fId) (book_inc h) (by omega) (List.getElem?_eq_getElem (by omega)) n
theorem inc_len {α β : Type} {ka : α → Int} {kb : β → Int} : ∀ (b : List β) (a : List α), a.Pairwise (fun y x => ka y < ka x) → b.Pairwise (fun y x => kb y < kb x) → (∀ x, x ∈ a → ∃ y, y ∈ b ∧ kb y = ka x) → a.length ≤ b.length := by
 intro b
 induction b with
 | nil =>
  intro a _ _ h
  cases a with
  | nil => simp
  | cons x a => obtain ⟨y, hy, _⟩ := h x (by simp); simp at hy
 | cons y b ih =>
  intro a ha hb h
  cases a with
  | nil => simp
  | cons x a =>
   rw [List.pairwise_cons] at ha hb
   by_cases hxy : kb y = ka x
   ·have := ih a ha.2 hb.2 fun z hz => by
     obtain ⟨u, hu, e⟩ := h z (by simp [hz])
     have := ha.1 z hz
     rcases List.mem_cons.1 hu with rfl | hu
     ·omega
     ·exact ⟨u, hu, e⟩
    simp only [List.length_cons]; omega
   ·have hgt : ∃ u, u ∈ b ∧ kb u = ka x := by
     obtain ⟨u, hu, e⟩ := h x (by simp)
     rcases List.mem_cons.1 hu with rfl | hu
     ·exact absurd e hxy
     ·exact ⟨u, hu, e⟩
    obtain ⟨u, hu, e⟩ := hgt
    have hyx := hb.1 u hu
    have := ih (x :: a) (List.pairwise_cons.2 ha) hb.2 fun z hz => by
     obtain ⟨u', hu', e'⟩ := h z hz
     rcases List.mem_cons.1 hu' with rfl | hu'
     ·rcases List.mem_cons.1 hz with rfl | hz
      ·exact absurd e' hxy
      ·have := ha.1 z hz; omega
     ·exact ⟨u', hu', e'⟩
    simp only [List.length_cons] at this ⊢; omega
theorem owned_len {b : GBook} {l : List GOwned} (hb : bookB b = true) (h : okP (ownQ b) [] l = true) : l.length ≤ b.fLeases.length := by
 refine inc_len (ka := GOwned.fLease) (kb := GLease.fId) _ _ (own_inc h) (book_inc hb) fun x hx => ?_
 obtain ⟨i, hi⟩ := List.getElem?_of_mem hx
 have := okP_get h hi
 unfold ownQ hasLease at this
 simp only [Bool.and_eq_true, List.any_eq_true, decide_eq_true_eq] at this
 exact this.1.1.2
theorem isWorld_c1_ok (t : GOwned) (l : Int) (s : List UInt8) : Valid PP GG 69 [.agg t.c, .rp [.int .i64 l, .str s]] (.d (.bool (t.fName == s))) [none] := by
 refine cv Tryz.func69 [.d (.bool (t.fName == s))] ?_
 exact u_27
theorem adj_cases {α : Type} {lt : α → α → Bool} {a : List α} {i : Nat} {x : α} (hi : i ≤ a.length) : (i = 0 ∧ adjB lt (a.take i) x = true) ∨ ∃ j p, i = j + 1 ∧ a[j]? = some p ∧ adjB lt (a.take i) x = lt p x := by
 cases i with
 | zero => exact .inl ⟨rfl, adj_zero _ _ _⟩
 | succ j =>
  have hp := List.getElem?_eq_getElem (show j < a.length by omega)
  exact .inr ⟨j, _, rfl, hp, adj_succ _ hp _⟩
theorem isWorld_ok [MaxL GG] (w : GWorld) (hf : fitW w) : Valid PP GG 30 [.agg w.c] (.d (.bool (worldB w))) [none] := by
 refine cv Tryz.func30 [.d (.bool (worldB w))] ?_
 obtain ⟨now, next, lost, ⟨tk⟩, ⟨ls⟩, ⟨us, ff, fm⟩, ⟨js⟩, ow⟩ := w
 obtain ⟨hf1, hf2, hf3, hf4, hol, hon⟩ := hf
 dsimp only at hf1 hf2 hf3 hf4 hol hon
 have c1 : Valid PP GG 34 [.d (.int .i64 now), .d (.int .i64 0), .d (.int .i64 1000000000)] (.d (.bool (inB now 0 1000000000))) [none, none, none] := within_ok _ _ _
 have c2 : Valid PP GG 34 [.d (.int .i64 next), .d (.int .i64 1), .d (.int .i64 1000000000)] (.d (.bool (inB next 1 1000000000))) [none, none, none] := within_ok _ _ _
 have c3 : Valid PP GG 34 [.d (.int .i64 lost), .d (.int .i64 0), .d (.int .i64 1000000000)] (.d (.bool (inB lost 0 1000000000))) [none, none, none] := within_ok _ _ _
 have c4 := isForest_ok (GG := GG) ⟨tk⟩ hf1
 have c5 := isBook_ok (GG := GG) ⟨ls⟩ hf2
 have c6 := isFar_ok (GG := GG) ⟨us, ff, fm⟩ hf3
 have c7 := isQueue_ok (GG := GG) ⟨js⟩ hf4
 have hT := fun h => lastT (f := ⟨tk⟩) h next
 have hL := fun h => lastL (f := ⟨ls⟩) h next
 have hli : ∀ id, Valid PP GG 50 [.agg [.d (.slc 6 (rLease ls))], .d (.int .i64 id)] (.d (.int .i64 (idxF (fun t => decide (t.fId = id)) ls))) [none, none] := fun id => leaseIndex_ok (GG := GG) ⟨ls⟩ id hf2.1
 have hB : worldB ⟨now, next, lost, ⟨tk⟩, ⟨ls⟩, ⟨us, ff, fm⟩, ⟨js⟩, ow⟩ = (inB now 0 1000000000 && inB next 1 1000000000 && inB lost 0 1000000000 && forestB ⟨tk⟩ && bookB ⟨ls⟩ && farB ⟨us, ff, fm⟩ && queueB ⟨js⟩ && belowT ⟨tk⟩ next && belowL ⟨ls⟩ next && okP (ownQ ⟨ls⟩) [] ow) := rfl
 have htl := hf1.1
 have hll := hf2.1
 generalize worldB ⟨now, next, lost, ⟨tk⟩, ⟨ls⟩, ⟨us, ff, fm⟩, ⟨js⟩, ow⟩ = B at *
 dsimp only at c4 c5 c6 c7 hT hL htl hll
 generalize inB now 0 1000000000 = p1 at *
 generalize inB next 1 1000000000 = p2 at *
 generalize inB lost 0 1000000000 = p3 at *
 generalize forestB ⟨tk⟩ = p4 at *
 generalize bookB ⟨ls⟩ = p5 at *
 generalize farB ⟨us, ff, fm⟩ = p6 at *
 generalize queueB ⟨js⟩ = p7 at *
 generalize belowT ⟨tk⟩ next = BT at *
 generalize belowL ⟨ls⟩ next = BL at *
 refine u_1 ?_
 refine W_seq (W_seq ?_)
 refine u_34 (Z7 c1 c2 c3 c4 c5 c6 c7) 46 (!(p1 && p2 && p3 && p4 && p5 && p6 && p7)) ?_
 refine W_cond rfl (fun h => ?_) (fun h => ?_)
 ·rw [Bool.not_eq_true'] at h
  have hb : B = false := by rw [hB, h]; simp
  rw [hb]
  exact u_27
 rw [Bool.not_eq_false'] at h
 rw [h, Bool.true_and] at hB
 simp only [Bool.and_eq_true] at h
 have hT := hT h.1.1.1.2
 have hL := hL h.1.1.2
 clear h
 refine W_skip ?_
 refine W_seq (W_seq ?_)
 refine u_5 ?_
 refine W_seq (?_)
 refine W_regBD 65 (!BT) (fun K hK => ?_) ?_
 ·rcases hT with ⟨e, hb⟩ | ⟨k, t, hk, ht, hb⟩
  ·subst e
   rw [hb] at hK
   simp
   repeat' (first | exact hK _ _ (by clear hK; first | rfl | omega | (exact decide_eq_false (by omega)) | (exact decide_eq_true (by omega)) | (exact (decide_eq_true (by omega)).symm) | (exact (decide_eq_false (by omega)).symm) | (exact decide_eq_decide.2 (by omega)) | (simp only [← decide_not]; exact decide_eq_decide.2 (by omega)) | (simp [*]; done) | (simp [*]; omega) | (simp_all; done) | (simp_all; omega) | (rw [Bool.eq_iff_iff]; simp at *; omega)) | (with_reducible refine goL_split (fun _ => ?_) (fun _ => ?_) <;> simp) | with_reducible refine And.intro ?_ ?_ | with_reducible exact okay_rfl rfl | with_reducible assumption | omega)
  ·have hw1 : IntKind.i64.wrap (k : Int) = k := wrap_id (by omega) (by omega)
   have hkc : (tk.length : Int) = (k : Int) + 1 := by omega
   have hpos : (0 : Int) < (k : Int) + 1 := by omega
   rw [hb, hkc] at hK
   simp [hkc, hpos, ht, hw1]
   repeat' (first | exact hK _ _ (by clear hK; first | rfl | omega | (exact decide_eq_false (by omega)) | (exact decide_eq_true (by omega)) | (exact (decide_eq_true (by omega)).symm) | (exact (decide_eq_false (by omega)).symm) | (exact decide_eq_decide.2 (by omega)) | (simp only [← decide_not]; exact decide_eq_decide.2 (by omega)) | (simp [*]; done) | (simp [*]; omega) | (simp_all; done) | (simp_all; omega) | (rw [Bool.eq_iff_iff]; simp at *; omega)) | (with_reducible refine goL_split (fun _ => ?_) (fun _ => ?_) <;> simp [hkc, hpos, ht, hw1]) | with_reducible refine And.intro ?_ ?_ | with_reducible exact okay_rfl rfl | with_reducible assumption | omega)
 refine W_cond rfl (fun h => ?_) (fun h => ?_)
 ·rw [Bool.not_eq_true'] at h
  have hb : B = false := by rw [hB, h]; simp
  rw [hb]
  exact u_27
 rw [Bool.not_eq_false'] at h
 rw [h, Bool.true_and] at hB
 clear h hT
 refine W_skip ?_
 refine W_seq (W_seq ?_)
 refine u_5 ?_
 refine W_seq (?_)
 refine W_regBD 84 (!BL) (fun K hK => ?_) ?_
 ·rcases hL with ⟨e, hb⟩ | ⟨k, t, hk, ht, hb⟩
  ·subst e
   rw [hb] at hK
   simp
   repeat' (first | exact hK _ _ (by clear hK; first | rfl | omega | (exact decide_eq_false (by omega)) | (exact decide_eq_true (by omega)) | (exact (decide_eq_true (by omega)).symm) | (exact (decide_eq_false (by omega)).symm) | (exact decide_eq_decide.2 (by omega)) | (simp only [← decide_not]; exact decide_eq_decide.2 (by omega)) | (simp [*]; done) | (simp [*]; omega) | (simp_all; done) | (simp_all; omega) | (rw [Bool.eq_iff_iff]; simp at *; omega)) | (with_reducible refine goL_split (fun _ => ?_) (fun _ => ?_) <;> simp) | with_reducible refine And.intro ?_ ?_ | with_reducible exact okay_rfl rfl | with_reducible assumption | omega)
  ·have hw1 : IntKind.i64.wrap (k : Int) = k := wrap_id (by omega) (by omega)
   have hkc : (ls.length : Int) = (k : Int) + 1 := by omega
   have hpos : (0 : Int) < (k : Int) + 1 := by omega
   rw [hb, hkc] at hK
   simp [hkc, hpos, ht, hw1]
   repeat' (first | exact hK _ _ (by clear hK; first | rfl | omega | (exact decide_eq_false (by omega)) | (exact decide_eq_true (by omega)) | (exact (decide_eq_true (by omega)).symm) | (exact (decide_eq_false (by omega)).symm) | (exact decide_eq_decide.2 (by omega)) | (simp only [← decide_not]; exact decide_eq_decide.2 (by omega)) | (simp [*]; done) | (simp [*]; omega) | (simp_all; done) | (simp_all; omega) | (rw [Bool.eq_iff_iff]; simp at *; omega)) | (with_reducible refine goL_split (fun _ => ?_) (fun _ => ?_) <;> simp [hkc, hpos, ht, hw1]) | with_reducible refine And.intro ?_ ?_ | with_reducible exact okay_rfl rfl | with_reducible assumption | omega)
 refine W_cond rfl (fun h => ?_) (fun h => ?_)
 ·rw [Bool.not_eq_true'] at h
  have hb : B = false := by rw [hB, h]; simp
  rw [hb]
  exact u_27
 rw [Bool.not_eq_false'] at h
 rw [h, Bool.true_and] at hB
 clear h hL
 refine u_28 ?_
 refine W_loop (fun n st => ∃ i : Nat, n = ow.length - i ∧ i ≤ ow.length ∧ okP (ownQ ⟨ls⟩) [] (ow.take i) = true ∧
  st = ⟨[], [(1, .ptr 0 0), (86, .d (.slc 2 (rOwned ow))), (87, .d (.int .i64 ow.length)), (88, .d (.int .i64 i))], [(0, .box [.d (.int .i64 now), .d (.int .i64 next), .d (.int .i64 lost), .d (.slc 7 (rToken tk)), .d (.slc 6 (rLease ls)), .d (.slc 2 (rUser us)), .d (.int .i64 ff), .d (.int .i64 fm), .d (.slc 3 (rJob js)), .d (.slc 2 (rOwned ow))])], 1⟩) _ ⟨0, rfl, by omega, rfl, ?_⟩ ?_
 ·exact u_22
 rintro n st ⟨i, rfl, hi, hok, rfl⟩
 by_cases hlt : i < ow.length
 ·have ha := List.getElem?_eq_getElem hlt
  generalize ow[i] = x at ha
  have hst := okP_step (q := ownQ ⟨ls⟩) ha
  have hbad : ownQ ⟨ls⟩ (ow.take i) x = false → B = false := fun h => by rw [hB]; exact okP_bad ha h
  rw [hok, Bool.true_and] at hst
  have hq : ownQ ⟨ls⟩ (ow.take i) x = (adjB (fun p x => decide (p.fLease < x.fLease)) (ow.take i) x && hasLease ⟨ls⟩ x.fLease && nameOk x.fName && !((ow.take i).any fun p => p.fName == x.fName)) := rfl
  rw [hq] at hst hbad
  clear hq
  have hA := adj_cases (lt := fun p x : GOwned => decide (p.fLease < x.fLease)) (x := x) hi
  have cn := isName_ok (GG := GG) x.fName (by have := hon x (List.mem_of_getElem? ha); omega)
  have cl := hli x.fLease
  have hno : decide (idxF (fun t => decide (t.fId = x.fLease)) ls < 0) = !hasLease ⟨ls⟩ x.fLease := idxF_none _ _
  have cc := ContainsFuncOwned_ok (GG := GG) (ow.take i) 69 [[.int .i64 x.fLease, .str x.fName]] (fun p => p.fName == x.fName) (by simp; omega) fun t _ => isWorld_c1_ok t _ _
  have htk : (rOwned ow).take i = rOwned (ow.take i) := by simp [rOwned, List.map_take]
  generalize adjB (fun p x : GOwned => decide (p.fLease < x.fLease)) (ow.take i) x = A at *
  obtain ⟨xl, xn⟩ := x
  dsimp only at cn cl hno cc hst hbad hA
  generalize hasLease ⟨ls⟩ xl = L at *
  generalize nameOk xn = N at *
  generalize (ow.take i).any (fun p => p.fName == xn) = C at *
  generalize idxF (fun t => decide (t.fId = xl)) ls = k at *
  refine W_seq (?_)
  refine u_5 ?_
  refine W_seq (W_cond rfl (fun h => W_skip ?_) (fun h => ?_))
  rotate_left
  ·exfalso; simp at h; omega
  refine W_seq (W_block (W_seq ?_))
  refine u_7 ha ?_
  refine W_seq (?_)
  refine W_regBD 128 (!(A && L && N && !C)) (fun K hK => ?_) ?_
  ·rcases hA with ⟨rfl, hA⟩ | ⟨j, p, rfl, hp, hA⟩
   ·subst hA
    simp only [List.take_zero] at cc
    cases L
    ·simp only [Bool.not_false] at hno
     simp [hno]
     repeat' (first | exact hK _ _ (by clear hK; first | rfl | omega | (exact decide_eq_false (by omega)) | (exact decide_eq_true (by omega)) | (exact (decide_eq_true (by omega)).symm) | (exact (decide_eq_false (by omega)).symm) | (exact decide_eq_decide.2 (by omega)) | (simp only [← decide_not]; exact decide_eq_decide.2 (by omega)) | (simp [*]; done) | (simp [*]; omega) | (simp_all; done) | (simp_all; omega) | (rw [Bool.eq_iff_iff]; simp at *; omega)) | (with_reducible refine callQ (cl) ?_; simp [hno]) | (with_reducible refine callQ (cn) ?_; simp [hno]) | (with_reducible refine callQ (cc) ?_; simp [hno]) | (with_reducible refine goL_split (fun _ => ?_) (fun _ => ?_) <;> simp [hno]) | with_reducible refine And.intro ?_ ?_ | with_reducible exact okay_rfl rfl | with_reducible assumption | omega)
    ·simp only [Bool.not_true] at hno
     simp [hno, htk]
     repeat' (first | exact hK _ _ (by clear hK; first | rfl | omega | (exact decide_eq_false (by omega)) | (exact decide_eq_true (by omega)) | (exact (decide_eq_true (by omega)).symm) | (exact (decide_eq_false (by omega)).symm) | (exact decide_eq_decide.2 (by omega)) | (simp only [← decide_not]; exact decide_eq_decide.2 (by omega)) | (simp [*]; done) | (simp [*]; omega) | (simp_all; done) | (simp_all; omega) | (rw [Bool.eq_iff_iff]; simp at *; omega)) | (with_reducible refine callQ (cl) ?_; simp [hno, htk]) | (with_reducible refine callQ (cn) ?_; simp [hno, htk]) | (with_reducible refine callQ (cc) ?_; simp [hno, htk]) | (with_reducible refine goL_split (fun _ => ?_) (fun _ => ?_) <;> simp [hno, htk]) | with_reducible refine And.intro ?_ ?_ | with_reducible exact okay_rfl rfl | with_reducible assumption | omega)
   ·have hw1 : IntKind.i64.wrap (j : Int) = j := wrap_id (by omega) (by omega)
    rw [hA] at hK
    cases L
    ·simp only [Bool.not_false] at hno
     simp [hp, hw1, htk, hno]
     repeat' (first | exact hK _ _ (by clear hK; first | rfl | omega | (exact decide_eq_false (by omega)) | (exact decide_eq_true (by omega)) | (exact (decide_eq_true (by omega)).symm) | (exact (decide_eq_false (by omega)).symm) | (exact decide_eq_decide.2 (by omega)) | (simp only [← decide_not]; exact decide_eq_decide.2 (by omega)) | (simp [*]; done) | (simp [*]; omega) | (simp_all; done) | (simp_all; omega) | (rw [Bool.eq_iff_iff]; simp at *; omega)) | (with_reducible refine callQ (cl) ?_; simp [hp, hw1, htk, hno]) | (with_reducible refine callQ (cn) ?_; simp [hp, hw1, htk, hno]) | (with_reducible refine callQ (cc) ?_; simp [hp, hw1, htk, hno]) | (with_reducible refine goL_split (fun _ => ?_) (fun _ => ?_) <;> simp [hp, hw1, htk, hno]) | with_reducible refine And.intro ?_ ?_ | with_reducible exact okay_rfl rfl | with_reducible assumption | omega)
    ·simp only [Bool.not_true] at hno
     simp [hp, hw1, htk, hno]
     repeat' (first | exact hK _ _ (by clear hK; first | rfl | omega | (exact decide_eq_false (by omega)) | (exact decide_eq_true (by omega)) | (exact (decide_eq_true (by omega)).symm) | (exact (decide_eq_false (by omega)).symm) | (exact decide_eq_decide.2 (by omega)) | (simp only [← decide_not]; exact decide_eq_decide.2 (by omega)) | (simp [*]; done) | (simp [*]; omega) | (simp_all; done) | (simp_all; omega) | (rw [Bool.eq_iff_iff]; simp at *; omega)) | (with_reducible refine callQ (cl) ?_; simp [hp, hw1, htk, hno]) | (with_reducible refine callQ (cn) ?_; simp [hp, hw1, htk, hno]) | (with_reducible refine callQ (cc) ?_; simp [hp, hw1, htk, hno]) | (with_reducible refine goL_split (fun _ => ?_) (fun _ => ?_) <;> simp [hp, hw1, htk, hno]) | with_reducible refine And.intro ?_ ?_ | with_reducible exact okay_rfl rfl | with_reducible assumption | omega)
  refine W_cond rfl (fun h => ?_) (fun h => ?_)
  ·rw [Bool.not_eq_true'] at h
   rw [hbad h]
   exact u_27
  rw [Bool.not_eq_false'] at h
  rw [h] at hst
  refine u_28 ?_
  refine ⟨ow.length - (i + 1), by omega, i + 1, rfl, hlt, hst, ?_⟩
  refine u_25 ?_
  exact wrap_id (by omega) (by omega)
 ·have hie : i = ow.length := by omega
  subst hie
  rw [List.take_length] at hok
  rw [hok] at hB
  rw [hB]
  exact u_27
def zLease : GLease := ⟨0, 0, [], 0, 0, 0⟩
def findL (b : GBook) (id : Int) : GLease := if bookB b then (b.fLeases.find? fun l => decide (l.fId = id)).getD zLease else zLease
theorem find_hit {α : Type} {p : α → Bool} {a : List α} {i : Nat} {x : α} (ha : a[i]? = some x) (hn : ∀ x, x ∈ a.take i → p x = false) (hx : p x = true) : a.find? p = some x ∧ a.any p = true := by
 constructor
 ·rw [List.find?_eq_some_iff_getElem]
  obtain ⟨h, e⟩ := List.getElem?_eq_some_iff.1 ha
  refine ⟨hx, i, h, e, fun j hj => ?_⟩
  have := hn a[j] (List.mem_take_iff_getElem.2 ⟨j, by omega, rfl⟩); simp [this]
 ·rw [List.any_eq_true]; exact ⟨x, List.mem_of_getElem? ha, hx⟩
theorem find_miss {α : Type} {p : α → Bool} {a : List α} (hn : ∀ x, x ∈ a → p x = false) : a.find? p = none ∧ a.any p = false := by
 constructor
 ·rw [List.find?_eq_none]; intro x hx; simp [hn x hx]
 ·rw [List.any_eq_false]; intro x hx; simp [hn x hx]
theorem s_FindLease_ok [MaxL GG] (b : GBook) (id : Int) (hf : fitB b) : Valid PP GG 28 [.agg b.c, .d (.int .i64 id)] (.tup [.agg (findL b id).o, .d (.bool (bookB b && hasLease b id))]) [none, none] := by
 refine cv Tryz.func28 [.agg (findL b id).o, .d (.bool (bookB b && hasLease b id))] ?_
 obtain ⟨a⟩ := b
 have cb := s_BookOk_ok (GG := GG) ⟨a⟩ hf
 have hl := hf.1
 dsimp only at hl cb
 have hF : findL ⟨a⟩ id = if bookB ⟨a⟩ then (a.find? fun l => decide (l.fId = id)).getD zLease else zLease := rfl
 have hH : hasLease ⟨a⟩ id = a.any fun l => decide (l.fId = id) := rfl
 generalize findL ⟨a⟩ id = F at *
 generalize hasLease ⟨a⟩ id = H at *
 cases hb : bookB ⟨a⟩ with
 | false =>
  rw [hb] at cb hF
  simp only [Bool.false_eq_true, if_false] at hF
  subst hF
  exact u_35 (Z1 cb)
 | true =>
  rw [hb] at cb hF
  simp only [if_true] at hF
  refine u_36 (Z1 cb) ?_
  refine W_loop (fun n st => ∃ i : Nat, n = a.length - i ∧ i ≤ a.length ∧ (∀ x, x ∈ a.take i → (decide (x.fId = id)) = false) ∧
   st = ⟨[], [(1, .d (.int .i64 id)), (2, .ptr 0 0), (4, .ptr 1 0), (6, .d (.int .i64 i))], [(0, .box [.d (.slc 6 (rLease a))]), (1, .box [.d (.int .i64 0), .d (.int .i64 0), .d (.str []), .d (.int .i64 0), .d (.int .i64 0), .d (.int .i64 0)])], 2⟩) _ ⟨0, rfl, by omega, fun x hx => by simp at hx, ?_⟩ ?_
  ·exact u_22
  rintro n st ⟨i, rfl, hi, hn, rfl⟩
  by_cases hlt : i < a.length
  ·have ha := List.getElem?_eq_getElem hlt
   generalize a[i] = x at ha
   by_cases hx : x.fId = id
   ·obtain ⟨e1, e2⟩ := find_hit ha hn (decide_eq_true hx)
    rw [e1] at hF
    rw [e2] at hH
    simp only [Option.getD_some] at hF
    have hxb : (x.fId == id) = true := decide_eq_true hx
    subst hF hH
    exact u_20 (Y2 ha hxb)
   ·have hn2 := take_miss (p := fun x : GLease => decide (x.fId = id)) ha hn (decide_eq_false hx)
    have hxb : (x.fId == id) = false := decide_eq_false hx
    refine u_21 (Y2 ha hxb) ?_
    refine ⟨a.length - (i + 1), by omega, i + 1, rfl, hlt, hn2, ?_⟩
    refine u_25 ?_
    exact wrap_id (by omega) (by omega)
  ·have hie : i = a.length := by omega
   subst hie
   rw [List.take_length] at hn
   obtain ⟨e1, e2⟩ := find_miss hn
   rw [e1] at hF
   rw [e2] at hH
   simp only [Option.getD_none] at hF
   subst hF hH
   repeat' (first | refine W_seq ?_ | refine W_skip ?_ | refine W_block ?_ | refine W_exit ?_ | refine pick_pos rfl ?_ | refine pick_neg rfl ?_ | ((first | refine W_regP fun K hK => ?_ | refine W_regPD fun K hK => ?_ | refine W_ret ?_); simp [Fin, zLease]) | (with_reducible refine hK _ ?_; clear hK K) | (with_reducible refine goL_split (fun h => ?_) (fun h => ?_) <;> first | (exfalso; simp at h; first | done | omega | contradiction) | ((try simp at h); simp [zLease])) | with_reducible refine And.intro ?_ ?_ | with_reducible exact okay_rfl rfl | with_reducible assumption | (refine W_cond rfl (fun h => ?_) (fun h => ?_) <;> first | (exfalso; simp at h; first | done | omega | contradiction) | (exfalso; simp_all; done) | (try simp at h)) | omega)
theorem s_WorldOk_ok [MaxL GG] (w : GWorld) (hf : fitW w) : Valid PP GG 7 [.agg w.c] (.d (.bool (worldB w))) [none] := by
 refine cv Tryz.func7 [.d (.bool (worldB w))] ?_
 obtain ⟨now, next, lost, ⟨tk⟩, ⟨ls⟩, ⟨us, ff, fm⟩, ⟨js⟩, ow⟩ := w
 obtain ⟨hf1, hf2, hf3, hf4, hol, hon⟩ := hf
 dsimp only at hf1 hf2 hf3 hf4 hol hon
 have c1 : Valid PP GG 23 [.d (.int .i64 now), .d (.int .i64 0), .d (.int .i64 1000000000)] (.d (.bool (inB now 0 1000000000))) [none, none, none] := l01In_ok _ _ _
 have c2 : Valid PP GG 23 [.d (.int .i64 next), .d (.int .i64 1), .d (.int .i64 1000000000)] (.d (.bool (inB next 1 1000000000))) [none, none, none] := l01In_ok _ _ _
 have c3 : Valid PP GG 23 [.d (.int .i64 lost), .d (.int .i64 0), .d (.int .i64 1000000000)] (.d (.bool (inB lost 0 1000000000))) [none, none, none] := l01In_ok _ _ _
 have c4 := s_ForestOk_ok (GG := GG) ⟨tk⟩ hf1
 have c5 := s_BookOk_ok (GG := GG) ⟨ls⟩ hf2
 have c6 := s_FarOk_ok (GG := GG) ⟨us, ff, fm⟩ hf3
 have c7 := s_QueueOk_ok (GG := GG) ⟨js⟩ hf4
 have hfl := fun id => s_FindLease_ok (GG := GG) ⟨ls⟩ id hf2
 have hOL := fun h h' => owned_len (b := ⟨ls⟩) (l := ow) h h'
 have hB : worldB ⟨now, next, lost, ⟨tk⟩, ⟨ls⟩, ⟨us, ff, fm⟩, ⟨js⟩, ow⟩ = (inB now 0 1000000000 && inB next 1 1000000000 && inB lost 0 1000000000 && forestB ⟨tk⟩ && bookB ⟨ls⟩ && farB ⟨us, ff, fm⟩ && queueB ⟨js⟩ && belowT ⟨tk⟩ next && belowL ⟨ls⟩ next && okP (ownQ ⟨ls⟩) [] ow) := rfl
 have hBT : belowT ⟨tk⟩ next = tk.all fun t => decide (t.fId < next) := rfl
 have hBL : belowL ⟨ls⟩ next = ls.all fun t => decide (t.fId < next) := rfl
 have htl := hf1.1
 have hll := hf2.1
 generalize worldB ⟨now, next, lost, ⟨tk⟩, ⟨ls⟩, ⟨us, ff, fm⟩, ⟨js⟩, ow⟩ = B at *
 dsimp only at c4 c5 c6 c7 htl hll hOL
 generalize inB now 0 1000000000 = p1 at *
 generalize inB next 1 1000000000 = p2 at *
 generalize inB lost 0 1000000000 = p3 at *
 generalize forestB ⟨tk⟩ = p4 at *
 generalize bookB ⟨ls⟩ = p5 at *
 generalize farB ⟨us, ff, fm⟩ = p6 at *
 generalize queueB ⟨js⟩ = p7 at *
 generalize belowT ⟨tk⟩ next = BT at *
 generalize belowL ⟨ls⟩ next = BL at *
 refine u_1 ?_
 refine W_seq (W_seq ?_)
 refine u_34 (Z7 c1 c2 c3 c4 c5 c6 c7) 48 (!(p1 && p2 && p3 && p4 && p5 && p6 && p7)) ?_
 refine W_cond rfl (fun h => ?_) (fun h => ?_)
 ·rw [Bool.not_eq_true'] at h
  have hb : B = false := by rw [hB, h]; simp
  rw [hb]
  exact u_27
 rw [Bool.not_eq_false'] at h
 rw [h, Bool.true_and] at hB
 simp only [Bool.and_eq_true] at h
 have hp5 := h.1.1.2
 subst hp5
 simp only [Bool.true_and] at hfl
 have hOL := hOL rfl
 clear h
 refine W_skip ?_
 refine u_28 ?_
 refine W_loop (fun n st => ∃ i : Nat, n = tk.length - i ∧ i ≤ tk.length ∧ (∀ x, x ∈ tk.take i → (!decide (x.fId < next)) = false) ∧
  st = ⟨[], [(1, .ptr 0 0), (3, .d (.int .i64 i))], [(0, .box [.d (.int .i64 now), .d (.int .i64 next), .d (.int .i64 lost), .d (.slc 7 (rToken tk)), .d (.slc 6 (rLease ls)), .d (.slc 2 (rUser us)), .d (.int .i64 ff), .d (.int .i64 fm), .d (.slc 3 (rJob js)), .d (.slc 2 (rOwned ow))])], 1⟩) _ ⟨0, rfl, by omega, fun x hx => by simp at hx, ?_⟩ ?_
 ·exact u_22
 rintro n st ⟨i, rfl, hi, hn, rfl⟩
 by_cases hlt : i < tk.length
 ·have ha := List.getElem?_eq_getElem hlt
  generalize tk[i] = x at ha
  by_cases hx : next ≤ x.fId
  ·have hb : BT = false := by
    rw [hBT, List.all_eq_false]
    exact ⟨x, List.mem_of_getElem? ha, by simp; omega⟩
   rw [hB, hb]
   exact u_20 (Y2 ha hx)
  ·have hn2 := take_miss (p := fun x : GToken => !decide (x.fId < next)) ha hn (by simp; omega)
   refine u_21 (Y2 ha hx) ?_
   refine ⟨tk.length - (i + 1), by omega, i + 1, rfl, hlt, hn2, ?_⟩
   refine u_25 ?_
   exact wrap_id (by omega) (by omega)
 have hie : i = tk.length := by omega
 subst hie
 rw [List.take_length] at hn
 have hb : BT = true := by
  rw [hBT, List.all_eq_true]; intro x hx; simpa using hn x hx
 subst hb
 clear hn hi hlt
 rw [Bool.true_and] at hB
 refine u_28 ?_
 refine W_loop (fun n st => ∃ i : Nat, n = ls.length - i ∧ i ≤ ls.length ∧ (∀ x, x ∈ ls.take i → (!decide (x.fId < next)) = false) ∧
  st = ⟨[], [(1, .ptr 0 0), (4, .d (.int .i64 i))], [(0, .box [.d (.int .i64 now), .d (.int .i64 next), .d (.int .i64 lost), .d (.slc 7 (rToken tk)), .d (.slc 6 (rLease ls)), .d (.slc 2 (rUser us)), .d (.int .i64 ff), .d (.int .i64 fm), .d (.slc 3 (rJob js)), .d (.slc 2 (rOwned ow))])], 1⟩) _ ⟨0, rfl, by omega, fun x hx => by simp at hx, ?_⟩ ?_
 ·exact u_22
 rintro n st ⟨i, rfl, hi, hn, rfl⟩
 by_cases hlt : i < ls.length
 ·have ha := List.getElem?_eq_getElem hlt
  generalize ls[i] = x at ha
  by_cases hx : next ≤ x.fId
  ·have hb : BL = false := by
    rw [hBL, List.all_eq_false]
    exact ⟨x, List.mem_of_getElem? ha, by simp; omega⟩
   rw [hB, hb]
   exact u_20 (Y2 ha hx)
  ·have hn2 := take_miss (p := fun x : GLease => !decide (x.fId < next)) ha hn (by simp; omega)
   refine u_21 (Y2 ha hx) ?_
   refine ⟨ls.length - (i + 1), by omega, i + 1, rfl, hlt, hn2, ?_⟩
   refine u_25 ?_
   exact wrap_id (by omega) (by omega)
 have hie : i = ls.length := by omega
 subst hie
 rw [List.take_length] at hn
 have hb : BL = true := by
  rw [hBL, List.all_eq_true]; intro x hx; simpa using hn x hx
 subst hb
 clear hn hi hlt
 rw [Bool.true_and] at hB
 by_cases hol2 : ls.length < ow.length
 ·have hb : B = false := by
   rw [hB]
   cases h : okP (ownQ ⟨ls⟩) [] ow with
   | false => rfl
   | true => have := hOL h; omega
  rw [hb]
  exact u_20 hol2
 clear hOL
 refine u_21 hol2 ?_
 refine W_loop (fun n st => ∃ i : Nat, n = ow.length - i ∧ i ≤ ow.length ∧ okP (ownQ ⟨ls⟩) [] (ow.take i) = true ∧
  st = ⟨[], [(1, .ptr 0 0), (5, .d (.int .i64 i))], [(0, .box [.d (.int .i64 now), .d (.int .i64 next), .d (.int .i64 lost), .d (.slc 7 (rToken tk)), .d (.slc 6 (rLease ls)), .d (.slc 2 (rUser us)), .d (.int .i64 ff), .d (.int .i64 fm), .d (.slc 3 (rJob js)), .d (.slc 2 (rOwned ow))])], 1⟩) _ ⟨0, rfl, by omega, rfl, ?_⟩ ?_
 ·exact u_22
 rintro n st ⟨i, rfl, hi, hok, rfl⟩
 by_cases hlt : i < ow.length
 rotate_left
 ·have hie : i = ow.length := by omega
  subst hie
  rw [List.take_length] at hok
  rw [hok] at hB
  rw [hB]
  exact u_27
 have ha := List.getElem?_eq_getElem hlt
 generalize ow[i] = x at ha
 have hst := okP_step (q := ownQ ⟨ls⟩) ha
 have hbad : ownQ ⟨ls⟩ (ow.take i) x = false → B = false := fun h => by rw [hB]; exact okP_bad ha h
 rw [hok, Bool.true_and] at hst
 have hq : ownQ ⟨ls⟩ (ow.take i) x = (adjB (fun p x => decide (p.fLease < x.fLease)) (ow.take i) x && hasLease ⟨ls⟩ x.fLease && nameOk x.fName && !((ow.take i).any fun p => p.fName == x.fName)) := rfl
 rw [hq] at hst hbad
 clear hq
 have hA := adj_cases (lt := fun p x : GOwned => decide (p.fLease < x.fLease)) (x := x) hi
 have cn := l01Name_ok (GG := GG) x.fName (by have := hon x (List.mem_of_getElem? ha); omega)
 have cl := hfl x.fLease
 generalize adjB (fun p x : GOwned => decide (p.fLease < x.fLease)) (ow.take i) x = A at *
 obtain ⟨xl, xn⟩ := x
 dsimp only at cn cl hst hbad hA
 generalize hasLease ⟨ls⟩ xl = L at *
 generalize nameOk xn = N at *
 generalize findL ⟨ls⟩ xl = FL at *
 refine W_seq (W_seq ?_)
 refine u_5 ?_
 refine W_cond rfl (fun h => W_skip ?_) (fun h => ?_)
 rotate_left
 ·exfalso; simp at h; omega
 refine W_seq (W_block (W_seq ?_))
 apply W_regD
 ·intro K hK
  simp [ha]
  repeat' (first | with_reducible exact hK | (with_reducible refine callQ (cl) ?_; simp [ha]) | (with_reducible refine goL_split (fun _ => ?_) (fun _ => ?_) <;> simp [ha]) | with_reducible refine And.intro ?_ ?_ | with_reducible exact okay_rfl rfl | with_reducible assumption | omega)
 refine W_seq (W_seq ?_)
 refine W_regBD 143 (!(A && L && N)) (fun K hK => ?_) ?_
 ·rcases hA with ⟨rfl, hA⟩ | ⟨j, p, rfl, hp, hA⟩
  ·subst hA
   simp [ha]
   repeat' (first | exact hK _ _ (by clear hK; first | rfl | omega | (exact decide_eq_false (by omega)) | (exact decide_eq_true (by omega)) | (exact (decide_eq_true (by omega)).symm) | (exact (decide_eq_false (by omega)).symm) | (exact decide_eq_decide.2 (by omega)) | (simp only [← decide_not]; exact decide_eq_decide.2 (by omega)) | (simp [*]; done) | (simp [*]; omega) | (simp_all; done) | (simp_all; omega) | (rw [Bool.eq_iff_iff]; simp at *; omega)) | (with_reducible refine callQ (cn) ?_; simp [ha]) | (with_reducible refine goL_split (fun _ => ?_) (fun _ => ?_) <;> simp [ha]) | with_reducible refine And.intro ?_ ?_ | with_reducible exact okay_rfl rfl | with_reducible assumption | omega)
  ·have hw1 : IntKind.i64.wrap (j : Int) = j := wrap_id (by omega) (by omega)
   rw [hA] at hK
   cases L
   ·simp [hp, ha, hw1]
    repeat' (first | exact hK _ _ (by clear hK; first | rfl | omega | (exact decide_eq_false (by omega)) | (exact decide_eq_true (by omega)) | (exact (decide_eq_true (by omega)).symm) | (exact (decide_eq_false (by omega)).symm) | (exact decide_eq_decide.2 (by omega)) | (simp only [← decide_not]; exact decide_eq_decide.2 (by omega)) | (simp [*]; done) | (simp [*]; omega) | (simp_all; done) | (simp_all; omega) | (rw [Bool.eq_iff_iff]; simp at *; omega)) | (with_reducible refine callQ (cn) ?_; simp [hp, ha, hw1]) | (with_reducible refine goL_split (fun _ => ?_) (fun _ => ?_) <;> simp [hp, ha, hw1]) | with_reducible refine And.intro ?_ ?_ | with_reducible exact okay_rfl rfl | with_reducible assumption | omega)
   ·cases N
    ·simp [hp, ha, hw1]
     repeat' (first | exact hK _ _ (by clear hK; first | rfl | omega | (exact decide_eq_false (by omega)) | (exact decide_eq_true (by omega)) | (exact (decide_eq_true (by omega)).symm) | (exact (decide_eq_false (by omega)).symm) | (exact decide_eq_decide.2 (by omega)) | (simp only [← decide_not]; exact decide_eq_decide.2 (by omega)) | (simp [*]; done) | (simp [*]; omega) | (simp_all; done) | (simp_all; omega) | (rw [Bool.eq_iff_iff]; simp at *; omega)) | (with_reducible refine callQ (cn) ?_; simp [hp, ha, hw1]) | (with_reducible refine goL_split (fun _ => ?_) (fun _ => ?_) <;> simp [hp, ha, hw1]) | with_reducible refine And.intro ?_ ?_ | with_reducible exact okay_rfl rfl | with_reducible assumption | omega)
    ·simp only [Bool.and_true] at hK
     simp [hp, ha, hw1]
     repeat' (first | exact hK _ _ (by clear hK; first | rfl | omega | (exact decide_eq_false (by omega)) | (exact decide_eq_true (by omega)) | (exact (decide_eq_true (by omega)).symm) | (exact (decide_eq_false (by omega)).symm) | (exact decide_eq_decide.2 (by omega)) | (simp only [← decide_not]; exact decide_eq_decide.2 (by omega)) | (simp [*]; done) | (simp [*]; omega) | (simp_all; done) | (simp_all; omega) | (rw [Bool.eq_iff_iff]; simp at *; omega)) | (with_reducible refine callQ (cn) ?_; simp [hp, ha, hw1]) | (with_reducible refine goL_split (fun _ => ?_) (fun _ => ?_) <;> simp [hp, ha, hw1]) | with_reducible refine And.intro ?_ ?_ | with_reducible exact okay_rfl rfl | with_reducible assumption | omega)
 refine W_cond rfl (fun h => ?_) (fun h => ?_)
 ·rw [Bool.not_eq_true'] at h
  rw [h] at hbad
  rw [hbad rfl]
  exact u_27
 rw [Bool.not_eq_false'] at h
 rw [h, Bool.true_and] at hst hbad
 clear h hA
 refine W_skip ?_
 refine u_28 ?_
 refine W_loop (fun n st => ∃ k : Nat, n = i - k ∧ k ≤ i ∧ (∀ y, y ∈ ow.take k → (y.fName == xn) = false) ∧
  st = ⟨[], [(1, .ptr 0 0), (5, .d (.int .i64 i)), (8, .d (.int .i64 k))], [(0, .box [.d (.int .i64 now), .d (.int .i64 next), .d (.int .i64 lost), .d (.slc 7 (rToken tk)), .d (.slc 6 (rLease ls)), .d (.slc 2 (rUser us)), .d (.int .i64 ff), .d (.int .i64 fm), .d (.slc 3 (rJob js)), .d (.slc 2 (rOwned ow))])], 1⟩) _ ⟨0, rfl, by omega, fun y h => by simp at h, ?_⟩ ?_
 ·exact u_22
 rintro n st ⟨k, rfl, hk, hn, rfl⟩
 by_cases hkl : k < i
 ·have hak := List.getElem?_eq_getElem (show k < ow.length by omega)
  generalize ow[k]'_ = y at hak
  obtain ⟨yl, yn⟩ := y
  cases hyn : (yn == xn) with
  | true =>
   rw [hbad (by
    have : (ow.take i).any (fun t => t.fName == xn) = true := by
     rw [List.any_eq_true]
     exact ⟨_, List.mem_of_getElem? (by rw [List.getElem?_take_of_lt hkl]; exact hak), hyn⟩
    rw [this]; rfl)]
   exact u_20 (Y4 hak ha hkl hyn)
  | false =>
   have hn2 := take_miss (p := fun y : GOwned => y.fName == xn) hak hn hyn
   refine u_21 (Y4 hak ha hkl hyn) ?_
   refine ⟨i - (k + 1), by omega, k + 1, rfl, hkl, hn2, ?_⟩
   refine u_25 ?_
   exact wrap_id (by omega) (by omega)
 ·have hke : k = i := by omega
  subst hke
  have : (ow.take k).any (fun t => t.fName == xn) = false := by
   rw [List.any_eq_false]; intro y hy; rw [hn y hy]; simp
  rw [this] at hst
  refine u_21 hkl ?_
  refine ⟨ow.length - (k + 1), by omega, k + 1, rfl, hlt, hst, ?_⟩
  refine u_25 ?_
  exact wrap_id (by omega) (by omega)
theorem snoc_ind {α : Type} {P : List α → Prop} (h0 : P []) (h1 : ∀ l x, P l → P (l ++ [x])) : ∀ l, P l := by
 intro l
 rw [← List.reverse_reverse l]
 induction l.reverse with
 | nil => exact h0
 | cons x r ih => rw [List.reverse_cons]; exact h1 _ _ ih
def wstep (p : GToken → Bool) (s : List GToken × List Int) (t : GToken) : List GToken × List Int :=
 if (p t || s.2.contains t.fParent) = true then (s.1, s.2 ++ [t.fId]) else (s.1 ++ [t], s.2)
def wo (p : GToken → Bool) (l : List GToken) : List GToken × List Int := l.foldl (wstep p) ([], [])
theorem wo_snoc (p : GToken → Bool) (l : List GToken) (t : GToken) : wo p (l ++ [t]) = wstep p (wo p l) t := by
 unfold wo; rw [List.foldl_append]; rfl
theorem wo_succ {p : GToken → Bool} {l : List GToken} {i : Nat} {t : GToken} (h : l[i]? = some t) : wo p (l.take (i + 1)) = wstep p (wo p (l.take i)) t := by
 rw [List.take_add_one, h]; exact wo_snoc p _ t
theorem wo_len (p : GToken → Bool) (l : List GToken) : (wo p l).1.length + (wo p l).2.length = l.length := by
 induction l using snoc_ind with
 | h0 => rfl
 | h1 l t ih =>
  rw [wo_snoc]; unfold wstep
  split <;> simp <;> omega
structure WoOk (p : GToken → Bool) (l : List GToken) (r : List GToken) (G : List Int) : Prop where
 sub : ∀ x, x ∈ G → ∃ t, t ∈ l ∧ t.fId = x
 rec_ : ∀ t, t ∈ l → G.contains t.fId = (p t || G.contains t.fParent)
 rest : r = l.filter fun t => !G.contains t.fId
 ids : G = (l.filter fun t => G.contains t.fId).map GToken.fId
theorem contains_app (G : List Int) (y x : Int) : (G ++ [y]).contains x = (G.contains x || decide (x = y)) := by
 rw [Bool.eq_iff_iff]; simp [List.contains_iff_mem]
theorem wo_ok (p : GToken → Bool) (l : List GToken) : l.Pairwise (fun y x => y.fId < x.fId) → (∀ t, t ∈ l → t.fParent < t.fId) → WoOk p l (wo p l).1 (wo p l).2 := by
 induction l using snoc_ind with
 | h0 => intro _ _; exact ⟨fun x h => by simp [wo] at h, fun t h => by simp at h, rfl, rfl⟩
 | h1 l t ih =>
  intro hinc hpar
  rw [List.pairwise_append] at hinc
  obtain ⟨hi1, _, hi2⟩ := hinc
  have hlt : ∀ s, s ∈ l → s.fId < t.fId := fun s hs => hi2 s hs t (by simp)
  obtain ⟨sub, hrec, rest, ids⟩ := ih hi1 fun s hs => hpar s (by simp [hs])
  have htp := hpar t (by simp)
  rw [wo_snoc]
  generalize wo p l = s at sub hrec rest ids ⊢
  obtain ⟨r, G⟩ := s
  dsimp only at sub hrec rest ids ⊢
  have hGt : ∀ y, y ∈ G → y < t.fId := fun y hy => by obtain ⟨s, hs, rfl⟩ := sub y hy; exact hlt s hs
  have hct : G.contains t.fId = false := by
   cases h : G.contains t.fId with
   | false => rfl
   | true => have := hGt _ (List.contains_iff_mem.1 h); omega
  unfold wstep
  by_cases hd : (p t || G.contains t.fParent) = true
  ·rw [if_pos hd]
   have hc : ∀ x, x < t.fId → (G ++ [t.fId]).contains x = G.contains x := fun x hx => by
    rw [contains_app, decide_eq_false (by omega), Bool.or_false]
   have hc2 : (G ++ [t.fId]).contains t.fId = true := by rw [contains_app, decide_eq_true rfl, Bool.or_true]
   refine ⟨fun x hx => ?_, fun s hs => ?_, ?_, ?_⟩
   ·rcases List.mem_append.1 hx with h | h
    ·obtain ⟨s, hs, e⟩ := sub x h; exact ⟨s, by simp [hs], e⟩
    ·simp at h; exact ⟨t, by simp, h.symm⟩
   ·rcases List.mem_append.1 hs with h | h
    ·have h1 := hlt s h
     have h2 := hpar s hs
     rw [hc _ h1, hc _ (by omega)]
     exact hrec s h
    ·simp at h; subst h
     rw [hc2, hc _ htp, hd]
   ·simp only
    rw [List.filter_append, List.filter_congr (q := fun s => !G.contains s.fId) fun s hs => by rw [hc _ (hlt s hs)], ← rest]
    simp [hc2]
   ·simp only
    rw [List.filter_append, List.filter_congr (q := fun s => G.contains s.fId) fun s hs => by rw [hc _ (hlt s hs)], List.map_append, ← ids]
    simp
  ·rw [if_neg hd]
   simp only [Bool.not_eq_true] at hd
   refine ⟨fun x hx => ?_, fun s hs => ?_, ?_, ?_⟩
   ·obtain ⟨s, hs, e⟩ := sub x hx; exact ⟨s, by simp [hs], e⟩
   ·rcases List.mem_append.1 hs with h | h
    ·exact hrec s h
    ·simp at h; subst h; rw [hct, hd]
   ·simp only
    rw [List.filter_append, ← rest]
    simp only [List.filter_cons, List.filter_nil, hct]; simp
   ·simp only
    rw [List.filter_append, List.map_append, ← ids]
    simp only [List.filter_cons, List.filter_nil, hct]; simp
theorem wo_none (p : GToken → Bool) (l : List GToken) : (∀ t, t ∈ l → p t = false) → wo p l = (l, []) := by
 induction l using snoc_ind with
 | h0 => intro _; rfl
 | h1 l t ih =>
  intro h
  rw [wo_snoc, ih fun s hs => h s (by simp [hs])]
  unfold wstep
  rw [h t (by simp)]
  simp
theorem forest_par {f : GForest} (h : forestB f = true) : (∀ t, t ∈ f.fTokens → t.fParent < t.fId) ∧ (∀ t, t ∈ f.fTokens → 0 ≤ t.fParent ∧ 1 ≤ t.fId ∧ t.fId ≤ 1000000000) ∧ (∀ t, t ∈ f.fTokens → t.fParent = 0 ∨ hasTok f t.fParent = true) := by
 unfold forestB at h
 rw [Bool.and_eq_true] at h
 have key : ∀ t, t ∈ f.fTokens → t.fParent < t.fId ∧ 0 ≤ t.fParent ∧ 1 ≤ t.fId ∧ t.fId ≤ 1000000000 ∧ (t.fParent = 0 ∨ hasTok f t.fParent = true) := by
  intro t ht
  obtain ⟨i, hi⟩ := List.getElem?_of_mem ht
  have hq := okP_get h.2 hi
  unfold tokQ tokenB at hq
  simp only [Bool.and_eq_true, Bool.or_eq_true, decide_eq_true_eq] at hq
  have h1 := inB_true hq.1.1.1.1.1.1.1.1
  have h2 := inB_true hq.1.1.1.1.1.1.1.2
  exact ⟨by omega, by omega, by omega, by omega, hq.2⟩
 exact ⟨fun t ht => (key t ht).1, fun t ht => ⟨(key t ht).2.1, (key t ht).2.2.1, (key t ht).2.2.2.1⟩, fun t ht => (key t ht).2.2.2.2⟩
theorem forest_wo {f : GForest} (h : forestB f = true) (p : GToken → Bool) : WoOk p f.fTokens (wo p f.fTokens).1 (wo p f.fTokens).2 := wo_ok p _ (forest_inc h) (forest_par h).1
theorem idxF_some {α : Type} {p : α → Bool} {l : List α} (h : l.any p = true) : ∃ (k : Nat) (t : α), idxF p l = k ∧ l[k]? = some t ∧ p t = true := by
 unfold idxF
 cases hf : l.findIdx? p with
 | none =>
  rw [List.findIdx?_eq_none_iff] at hf
  rw [List.any_eq_true] at h
  obtain ⟨x, hx, hp⟩ := h
  rw [hf x hx] at hp; cases hp
 | some i =>
  rw [List.findIdx?_eq_some_iff_getElem] at hf
  obtain ⟨h1, h2, _⟩ := hf
  exact ⟨i, _, rfl, List.getElem?_eq_getElem h1, h2⟩
theorem wo_zero {f : GForest} (h : forestB f = true) (p : GToken → Bool) : (wo p f.fTokens).2.contains 0 = false := by
 cases hc : (wo p f.fTokens).2.contains 0 with
 | false => rfl
 | true =>
  obtain ⟨t, ht, e⟩ := (forest_wo h p).sub 0 (List.contains_iff_mem.1 hc)
  have := ((forest_par h).2.1 t ht).2.1
  omega
def knownU (ow : List GOwned) (js : List GJob) (s : List UInt8) : Bool := (ow.any fun o => o.fName == s) || (js.any fun j => j.fName == s)
theorem filter_succ {α β : Type} {p : α → Bool} {f : α → β} {a : List α} {k : Nat} {x : α} (h : a[k]? = some x) : ((a.take (k + 1)).filter p).map f = ((a.take k).filter p).map f ++ (if p x then [f x] else []) := by
 rw [List.take_add_one, h, List.filter_append, List.map_append]
 simp only [Option.toList_some, List.filter_cons, List.filter_nil]
 split <;> simp
theorem filter_take_len {α β : Type} (p : α → Bool) (f : α → β) (a : List α) (k : Nat) : (((a.take k).filter p).map f).length ≤ k := by
 rw [List.length_map]
 have h1 := List.length_filter_le p (a.take k)
 have h2 : (a.take k).length ≤ k := by simp; omega
 omega
theorem strsD_snoc (l : List (List UInt8)) (x : List UInt8) : strsD (l ++ [x]) = strsD l ++ [[.str x]] := by simp [strsD]
theorem strs_row (l : List (List UInt8)) : ∀ r, r ∈ strsD l → r.length = 1 := by
 intro r h
 simp only [strsD, List.mem_map] at h
 obtain ⟨x, _, rfl⟩ := h
 rfl
def clnString_ren : Go.Shelf.Ren := ⟨fun | 41 => 149 | n => n, fun | 22 => 41 | 23 => 9 | n => n, fun n => n⟩
theorem clnString : Go.Proofs.SlLaysE0.n41 PP clnString_ren := {
 mixed := by kernel_rfl
 f41 := ⟨"slices.Clone[[]string,string]", by decide, Tryz.func149.trans (congrArg some (by kernel_rfl))⟩
 t4 := Tryz.underlying4
 a4 := Tryz.isAgg4
 z4 := Tryz.sizeOf4
 v4 := Tryz.zeroValue4
 t22 := Tryz.underlying41
 a22 := Tryz.isAgg41
 z22 := Tryz.sizeOf41
 v22 := Tryz.zeroValue41
}
theorem CloneString_ok (l : List (List UInt8)) (hN : l.length ≤ 1099511627776) : Valid PP GG 149 [.d (.slc 1 (strsD l))] (.own 0 1 (strsD l)) [none] :=
 clone_valid clnString ⟨Tryz.f149, Tryz.func149, by kernel_rfl, by kernel_rfl⟩ 1 16 (by kernel_rfl) (by kernel_rfl) (by kernel_rfl) (by kernel_rfl) (by omega) (by omega) Tryz.sizeOf9 _ (strs_row l) (by rw [strsD_len]; exact hN)
def clnLease_ren : Go.Shelf.Ren := ⟨fun | 41 => 124 | n => n, fun | 22 => 27 | 23 => 49 | n => n, fun n => n⟩
theorem clnLease : Go.Proofs.SlLaysE0.n41 PP clnLease_ren := {
 mixed := by kernel_rfl
 f41 := ⟨"slices.Clone[[]loop.example/g00705/impl.Lease,loop.example/g00705/impl.Lease]", by decide, Tryz.func124.trans (congrArg some (by kernel_rfl))⟩
 t4 := Tryz.underlying4
 a4 := Tryz.isAgg4
 z4 := Tryz.sizeOf4
 v4 := Tryz.zeroValue4
 t22 := Tryz.underlying27
 a22 := Tryz.isAgg27
 z22 := Tryz.sizeOf27
 v22 := Tryz.zeroValue27
}
theorem CloneLease_ok (l : List GLease) (hN : l.length ≤ 1099511627776) : Valid PP GG 124 [.d (.slc 6 (rLease l))] (.own 0 6 (rLease l)) [none] :=
 clone_valid clnLease ⟨Tryz.f124, Tryz.func124, by kernel_rfl, by kernel_rfl⟩ 6 56 (by kernel_rfl) (by kernel_rfl) (by kernel_rfl) (by kernel_rfl) (by omega) (by omega) Tryz.sizeOf49 _ (rLease_row l) (by rw [rLease_len]; exact hN)
def clnUser_ren : Go.Shelf.Ren := ⟨fun | 41 => 125 | n => n, fun | 22 => 30 | 23 => 59 | n => n, fun n => n⟩
theorem clnUser : Go.Proofs.SlLaysE0.n41 PP clnUser_ren := {
 mixed := by kernel_rfl
 f41 := ⟨"slices.Clone[[]loop.example/g00705/impl.User,loop.example/g00705/impl.User]", by decide, Tryz.func125.trans (congrArg some (by kernel_rfl))⟩
 t4 := Tryz.underlying4
 a4 := Tryz.isAgg4
 z4 := Tryz.sizeOf4
 v4 := Tryz.zeroValue4
 t22 := Tryz.underlying30
 a22 := Tryz.isAgg30
 z22 := Tryz.sizeOf30
 v22 := Tryz.zeroValue30
}
theorem CloneUser_ok (l : List GUser) (hN : l.length ≤ 1099511627776) : Valid PP GG 125 [.d (.slc 2 (rUser l))] (.own 0 2 (rUser l)) [none] :=
 clone_valid clnUser ⟨Tryz.f125, Tryz.func125, by kernel_rfl, by kernel_rfl⟩ 2 32 (by kernel_rfl) (by kernel_rfl) (by kernel_rfl) (by kernel_rfl) (by omega) (by omega) Tryz.sizeOf59 _ (rUser_row l) (by rw [rUser_len]; exact hN)
def clnJob_ren : Go.Shelf.Ren := ⟨fun | 41 => 126 | n => n, fun | 22 => 33 | 23 => 114 | n => n, fun n => n⟩
theorem clnJob : Go.Proofs.SlLaysE0.n41 PP clnJob_ren := {
 mixed := by kernel_rfl
 f41 := ⟨"slices.Clone[[]loop.example/g00705/impl.Job,loop.example/g00705/impl.Job]", by decide, Tryz.func126.trans (congrArg some (by kernel_rfl))⟩
 t4 := Tryz.underlying4
 a4 := Tryz.isAgg4
 z4 := Tryz.sizeOf4
 v4 := Tryz.zeroValue4
 t22 := Tryz.underlying33
 a22 := Tryz.isAgg33
 z22 := Tryz.sizeOf33
 v22 := Tryz.zeroValue33
}
theorem CloneJob_ok (l : List GJob) (hN : l.length ≤ 1099511627776) : Valid PP GG 126 [.d (.slc 3 (rJob l))] (.own 0 3 (rJob l)) [none] :=
 clone_valid clnJob ⟨Tryz.f126, Tryz.func126, by kernel_rfl, by kernel_rfl⟩ 3 32 (by kernel_rfl) (by kernel_rfl) (by kernel_rfl) (by kernel_rfl) (by omega) (by omega) Tryz.sizeOf114 _ (rJob_row l) (by rw [rJob_len]; exact hN)
def clnOwned_ren : Go.Shelf.Ren := ⟨fun | 41 => 76 | n => n, fun | 22 => 36 | 23 => 82 | n => n, fun n => n⟩
theorem clnOwned : Go.Proofs.SlLaysE0.n41 PP clnOwned_ren := {
 mixed := by kernel_rfl
 f41 := ⟨"slices.Clone[[]loop.example/g00705/impl.Owned,loop.example/g00705/impl.Owned]", by decide, Tryz.func76.trans (congrArg some (by kernel_rfl))⟩
 t4 := Tryz.underlying4
 a4 := Tryz.isAgg4
 z4 := Tryz.sizeOf4
 v4 := Tryz.zeroValue4
 t22 := Tryz.underlying36
 a22 := Tryz.isAgg36
 z22 := Tryz.sizeOf36
 v22 := Tryz.zeroValue36
}
theorem CloneOwned_ok (l : List GOwned) (hN : l.length ≤ 1099511627776) : Valid PP GG 76 [.d (.slc 2 (rOwned l))] (.own 0 2 (rOwned l)) [none] :=
 clone_valid clnOwned ⟨Tryz.f76, Tryz.func76, by kernel_rfl, by kernel_rfl⟩ 2 24 (by kernel_rfl) (by kernel_rfl) (by kernel_rfl) (by kernel_rfl) (by omega) (by omega) Tryz.sizeOf82 _ (rOwned_row l) (by rw [rOwned_len]; exact hN)
theorem ints_get (l : List Int) (i : Nat) : (intsD l)[i]? = (l[i]?).map fun s => [.int .i64 s] := by simp [intsD]
theorem ints_len (l : List Int) : (intsD l).length = l.length := by simp [intsD]
theorem idxF_contains (x : Int) (a : List Int) : decide (0 ≤ idxF (fun y => y == x) a) = a.contains x := by
 rw [idxF_any, Bool.eq_iff_iff, List.contains_iff_mem, List.any_eq_true]
 constructor
 ·rintro ⟨y, h1, h2⟩; exact (beq_iff_eq.1 h2) ▸ h1
 ·intro h; exact ⟨x, h, beq_self_eq_true x⟩
theorem IndexInt_ok (a : List Int) (x : Int) (hsz : a.length ≤ 281474976710656) :
  Valid PP GG 107 [.d (.slc 1 (intsD a)), .d (.int .i64 x)] (.d (.int .i64 (idxF (fun y => y == x) a))) [none, none] := by
 refine cv Tryz.func107 [.d (.int .i64 (idxF (fun y => y == x) a))] ?_
 refine u_38 ?_
 refine W_loop (fun n st => ∃ i : Nat, n = a.length - i ∧ i ≤ a.length ∧ (∀ y, y ∈ a.take i → (y == x) = false) ∧
  st = ⟨[], [(0, .d (.slc 1 (intsD a))), (1, .d (.int .i64 x)), (7, .d (.int .i64 a.length)), (8, .d (.int .i64 i))], [], 0⟩) _ ⟨0, rfl, by omega, fun x hx => by simp at hx, ?_⟩ ?_
 ·exact u_39
 rintro n st ⟨i, rfl, hi, hn, rfl⟩
 by_cases hlt : i < a.length
 ·have ha := List.getElem?_eq_getElem hlt
  generalize a[i] = y at ha
  cases hx : (y == x) with
  | true =>
   have e := idxF_hit (p := fun y => y == x) ha hn hx
   have hx' : (x == y) = true := by rw [beq_iff_eq] at hx ⊢; exact hx.symm
   rw [e]
   exact u_40 (Y3 ha hx hx')
  | false =>
   have hn2 := take_miss (p := fun y => y == x) ha hn hx
   have hx' : (x == y) = false := by rw [beq_eq_false_iff_ne] at hx ⊢; exact fun e => hx e.symm
   repeat' (first | refine W_seq ?_ | refine W_skip ?_ | refine W_block ?_ | refine W_exit ?_ | refine pick_pos rfl ?_ | refine pick_neg rfl ?_ | ((first | refine W_regP fun K hK => ?_ | refine W_regPD fun K hK => ?_ | refine W_ret ?_); simp [Fin, ha, ints_get, hx, hx']) | (with_reducible refine hK _ ?_; clear hK K) | (with_reducible refine goL_split (fun h => ?_) (fun h => ?_) <;> first | (exfalso; simp at h; first | done | omega | contradiction) | ((try simp at h); simp [ha, ints_get, hx, hx'])) | with_reducible refine And.intro ?_ ?_ | with_reducible exact okay_rfl rfl | with_reducible assumption | (refine W_cond rfl (fun h => ?_) (fun h => ?_) <;> first | (exfalso; simp at h; first | done | omega | contradiction) | (exfalso; simp_all; done) | (try simp at h)) | omega)
   refine ⟨a.length - (i + 1), by omega, i + 1, rfl, hlt, hn2, ?_⟩
   refine u_41 ?_
   exact wrap_id (by omega) (by omega)
 ·have hie : i = a.length := by omega
  subst hie
  rw [List.take_length] at hn
  rw [idxF_miss hn]
  exact u_27
theorem ContainsInt_ok (a : List Int) (x : Int) (hsz : a.length ≤ 281474976710656) : Valid PP GG 56 [.d (.slc 1 (intsD a)), .d (.int .i64 x)] (.d (.bool (a.contains x))) [none, none] := by
 refine cv Tryz.func56 [.d (.bool (a.contains x))] ?_
 have ci := IndexInt_ok (GG := GG) a x hsz
 have e := idxF_contains x a
 exact u_29 e (Z1 ci)
theorem l01Has_ok (a : List Int) (x : Int) (hsz : a.length ≤ 281474976710656) : Valid PP GG 187 [.d (.slc 1 (intsD a)), .d (.int .i64 x)] (.d (.bool (a.contains x))) [none, none] := by
 refine cv Tryz.func187 [.d (.bool (a.contains x))] ?_
 have hany := idxF_contains x a
 rw [idxF_any] at hany
 refine u_38 ?_
 refine W_loop (fun n st => ∃ i : Nat, n = a.length - i ∧ i ≤ a.length ∧ (∀ y, y ∈ a.take i → (y == x) = false) ∧
  st = ⟨[], [(0, .d (.slc 1 (intsD a))), (1, .d (.int .i64 x)), (5, .d (.int .i64 i))], [], 0⟩) _ ⟨0, rfl, by omega, fun x hx => by simp at hx, ?_⟩ ?_
 ·exact u_39
 rintro n st ⟨i, rfl, hi, hn, rfl⟩
 by_cases hlt : i < a.length
 ·have ha := List.getElem?_eq_getElem hlt
  generalize a[i] = y at ha
  cases hx : (y == x) with
  | true =>
   have e := (find_hit (p := fun y => y == x) ha hn hx).2
   rw [e] at hany
   rw [← hany]
   exact u_42 (Y2 ha hx)
  | false =>
   have hn2 := take_miss (p := fun y => y == x) ha hn hx
   refine u_43 (Y2 ha hx) ?_
   refine ⟨a.length - (i + 1), by omega, i + 1, rfl, hlt, hn2, ?_⟩
   refine u_41 ?_
   exact wrap_id (by omega) (by omega)
 ·have hie : i = a.length := by omega
  subst hie
  rw [List.take_length] at hn
  rw [(find_miss hn).2] at hany
  rw [← hany]
  exact u_37
theorem cloneToken_ok (t : GToken) (ht : fitT t) : Valid PP GG 106 [.agg t.c] (.agg t.o) [none] := by
 refine cv Tryz.func106 [.agg t.o] ?_
 have cc := CloneString_ok (GG := GG) t.fNames (by have := ht.1; omega)
 exact u_31 (Z1 cc)
theorem ind_rToken (l : List GToken) : ∀ row, row ∈ rToken l → ∀ d, d ∈ row → IndD 1 d := by
 intro row h d hd
 simp only [rToken, List.mem_map] at h
 obtain ⟨x, _, rfl⟩ := h
 simp only [GToken.row, List.mem_cons, List.not_mem_nil, or_false] at hd
 rcases hd with rfl | rfl | rfl | rfl | rfl | rfl | rfl <;> simp only [IndD]
 exact ind_strs x.fNames
theorem without_ok (a : List GToken) (g : FuncId) (caps : List (List D)) (p : GToken → Bool) (hf : fitF ⟨a⟩) (hp : ∀ x, x ∈ a → Valid PP GG g (.agg x.c :: caps.map .rp) (.d (.bool (p x))) [none]) :
  Valid PP GG 54 [.agg [.d (.slc 7 (rToken a))], .d (.fn g caps)] (.tup [.agg [.own 1 7 (rToken (wo p a).1)], .own 0 1 (intsD (wo p a).2)]) [none, none] := by
 refine cv Tryz.func54 [.agg [.own 1 7 (rToken (wo p a).1)], .own 0 1 (intsD (wo p a).2)] ?_
 obtain ⟨hl, ht⟩ := hf
 dsimp only at hl ht
 refine u_1 ?_
 refine u_1 ?_
 refine W_nilP 6 0 rfl rfl rfl ?_
 refine u_1 ?_
 refine W_nilV 7 rfl ?_
 refine u_28 ?_
 refine W_loop (fun n st => ∃ i : Nat, n = a.length - i ∧ i ≤ a.length ∧ ∃ v : Nat,
  st = ⟨[], [(1, .d (.fn g caps)), (4, .ptr 0 0), (6, .ptr 1 0), (7, .sl 2), (11, .d (.slc 7 (rToken a))), (12, .d (.int .i64 a.length)), (13, .d (.int .i64 i))],
   [(0, .box [.nil 1 7]), (1, .box [.sl 3]), (2, .arr 0 0 1 (intsD (wo p (a.take i)).2)), (3, .arr v 1 7 (rToken (wo p (a.take i)).1))], 4⟩) _ ⟨0, rfl, by omega, 0, ?_⟩ ?_
 ·simp [gc, closeN, liveA, gcV, gcO, renA, renAs, renO, namesAs, namesA, namesO, posn, wo, rToken, intsD]
 rintro n st ⟨i, rfl, hi, v, rfl⟩
 by_cases hlt : i < a.length
 rotate_left
 ·have hie : i = a.length := by omega
  subst hie
  rw [List.take_length]
  exact u_27
 have ha := List.getElem?_eq_getElem hlt
 have hm := List.getElem_mem hlt
 generalize a[i] = x at ha hm
 have cp := hp x hm
 have hw := wo_succ (p := p) ha
 have hwl := wo_len p (a.take i)
 rw [List.length_take] at hwl
 have hct := cloneToken_ok (GG := GG) x (ht x hm)
 have hir := ind_rToken (wo p (a.take i)).1
 generalize wo p (a.take i) = s at *
 obtain ⟨r, G⟩ := s
 dsimp only at hwl hir
 have cc := ContainsInt_ok (GG := GG) G x.fParent (by omega)
 have hig := ind_ints G
 unfold wstep at hw
 dsimp only at hw
 obtain ⟨xi, xp, xn, xm, xe, xl, xu⟩ := x
 dsimp only at cc hct hw
 generalize hcp : p ⟨xi, xp, xn, xm, xe, xl, xu⟩ = b at *
 generalize G.contains xp = c at *
 have hin := ind_strs xn
 cases b
 ·cases c
  ·rw [if_neg (by simp)] at hw
   repeat' (first | refine W_seq ?_ | refine W_skip ?_ | refine W_block ?_ | refine W_exit ?_ | refine pick_pos rfl ?_ | refine pick_neg rfl ?_ | ((first | refine W_regP fun K hK => ?_ | refine W_regPD fun K hK => ?_ | refine W_ret ?_ | with_reducible refine callQ (cp) ?_ | with_reducible refine callQ (cc) ?_ | with_reducible refine callQ (hct) ?_); simp [Fin, ha, limit, rToken_app]) | (with_reducible refine hK _ ?_; clear hK K) | (with_reducible refine goL_split (fun h => ?_) (fun h => ?_) <;> first | (exfalso; simp at h; first | done | omega | contradiction) | ((try simp at h); simp [ha, limit, rToken_app])) | with_reducible refine And.intro ?_ ?_ | with_reducible exact okay_rfl rfl | with_reducible assumption | (refine W_cond rfl (fun h => ?_) (fun h => ?_) <;> first | (exfalso; simp at h; first | done | omega | contradiction) | (exfalso; simp_all; done) | (try simp at h)) | omega)
   refine ⟨a.length - (i + 1), by omega, i + 1, rfl, hlt, 0, ?_⟩
   rw [hw]
   simp [gc, closeN, liveA, gcV, gcO, renA, renAs, renO, namesAs, namesA, namesO, posn, ints_len, rToken]
   exact wrap_id (by omega) (by omega)
  ·rw [if_pos (by simp)] at hw
   refine u_45 ha (Z2 cp cc) ?_
   refine ⟨a.length - (i + 1), by omega, i + 1, rfl, hlt, 0, ?_⟩
   rw [hw]
   refine u_46 ?_
   exact wrap_id (by omega) (by omega)
 ·rw [if_pos (by simp)] at hw
  refine u_45 ha (Z1 cp) ?_
  refine ⟨a.length - (i + 1), by omega, i + 1, rfl, hlt, 0, ?_⟩
  rw [hw]
  refine u_46 ?_
  exact wrap_id (by omega) (by omega)
theorem s_l08Under_ok [MaxL GG] (f : GForest) (id top : Int) (hf : fitF f) (hb : forestB f = true) (hid : id = 0 ∨ hasTok f id = true) :
  Valid PP GG 199 [.agg f.c, .d (.int .i64 id), .d (.int .i64 top)] (.d (.bool ((wo (fun t => decide (t.fId = top)) f.fTokens).2.contains id))) [none, none, none] := by
 refine cv Tryz.func199 [.d (.bool ((wo (fun t => decide (t.fId = top)) f.fTokens).2.contains id))] ?_
 have hw := forest_wo hb (fun t => decide (t.fId = top))
 have hz := wo_zero hb (fun t => decide (t.fId = top))
 obtain ⟨hp1, hp2, hp3⟩ := forest_par hb
 have hat := fun id => s_l08At_ok (GG := GG) f id hf.1
 obtain ⟨a⟩ := f
 dsimp only at hw hz hp1 hp2 hp3 hat
 generalize (wo (fun t => decide (t.fId = top)) a).2 = G at *
 generalize hR : G.contains id = R
 refine u_28 ?_
 refine W_loop (fun n st => ∃ x : Int, n = x.toNat ∧ (x = 0 ∨ hasTok ⟨a⟩ x = true) ∧ G.contains x = R ∧
  st = ⟨[], [(1, .d (.int .i64 x)), (2, .d (.int .i64 top)), (3, .ptr 0 0)], [(0, .box [.d (.slc 7 (rToken a))])], 1⟩) _ ⟨id, rfl, hid, hR, ?_⟩ ?_
 ·exact u_22
 rintro n st ⟨x, rfl, hx, hxR, rfl⟩
 by_cases h0 : x = 0
 ·subst h0
  rw [hz] at hxR
  subst hxR
  exact u_27
 have hne : (x != 0) = true := by simpa using h0
 have hx := hx.resolve_left h0
 obtain ⟨k, t, hk, ht, htx⟩ := idxF_some (p := fun t : GToken => decide (t.fId = x)) (l := a) hx
 have htx : t.fId = x := by simpa using htx
 have hm := List.mem_of_getElem? ht
 have hrec := hw.rec_ t hm
 rw [htx, hxR] at hrec
 have hat := hat x
 rw [hk] at hat
 have h1 := hp1 t hm
 have h2 := hp2 t hm
 have h3 := hp3 t hm
 obtain ⟨ti, tp, tn, tm, te, tl, tu⟩ := t
 dsimp only at htx hrec h1 h2 h3
 by_cases htop : x = top
 ·have hd : decide (x = top) = true := decide_eq_true htop
  have hq : (x == top) = true := by simpa using htop
  rw [hd] at hrec
  simp only [Bool.true_or] at hrec
  subst hrec
  exact u_20 (Y2 hne hq)
 ·have hd : decide (x = top) = false := decide_eq_false htop
  have hq : (x == top) = false := by simpa using htop
  rw [hd, Bool.false_or] at hrec
  have hkl := (List.getElem?_eq_some_iff.1 ht).1
  refine u_30 (Y3 hne hq ht) (Z1 hat) ?_
  refine ⟨tp.toNat, by omega, tp, rfl, h3, ?_, ?_⟩
  ·simpa using hrec.symm
  ·exact u_22
def goneT (f : GForest) (id : Int) : List Int := if forestB f then (wo (fun t => decide (t.fId = id)) f.fTokens).2 else []
theorem goneT_len (f : GForest) (id : Int) : (goneT f id).length ≤ f.fTokens.length := by
 unfold goneT
 split
 ·have := wo_len (fun t => decide (t.fId = id)) f.fTokens; omega
 ·simp
theorem s_Below_ok [MaxL GG] (f : GForest) (id : Int) (hf : fitF f) : Valid PP GG 189 [.agg f.c, .d (.int .i64 id)] (.own 0 1 (intsD (goneT f id))) [none, none] := by
 refine cv Tryz.func189 [.own 0 1 (intsD (goneT f id))] ?_
 have cf := s_ForestOk_ok (GG := GG) f hf
 have cat := s_l08At_ok (GG := GG) f id hf.1
 have hno : decide (idxF (fun t => decide (t.fId = id)) f.fTokens < 0) = !hasTok f id := idxF_none _ _
 have hV : goneT f id = if forestB f then (wo (fun t => decide (t.fId = id)) f.fTokens).2 else [] := rfl
 have hl := hf.1
 have hun := fun (h : forestB f = true) x hx => s_l08Under_ok (GG := GG) f x id hf h hx
 have hw := fun (h : forestB f = true) => forest_wo h (fun t => decide (t.fId = id))
 have hnone : hasTok f id = false → (wo (fun t => decide (t.fId = id)) f.fTokens).2 = [] := fun h => by
  rw [wo_none]
  intro t ht
  unfold hasTok at h
  rw [List.any_eq_false] at h
  simpa using h t ht
 have hhas : ∀ (i : Nat) t, f.fTokens[i]? = some t → hasTok f t.fId = true := fun i t h => by
  unfold hasTok; rw [List.any_eq_true]; exact ⟨t, List.mem_of_getElem? h, by simp⟩
 obtain ⟨a⟩ := f
 dsimp only at cf cat hno hV hl hun hw hnone hhas
 generalize goneT ⟨a⟩ id = V at *
 generalize (wo (fun t => decide (t.fId = id)) a).2 = G at *
 generalize idxF (fun t => decide (t.fId = id)) a = k at *
 generalize forestB ⟨a⟩ = B at *
 cases B
 ·simp only [Bool.false_eq_true, if_false] at hV
  subst hV
  exact u_47 (Z1 cf)
 simp only [if_true] at hV
 subst hV
 have hw := hw rfl
 have hun := hun rfl
 cases hh : hasTok ⟨a⟩ id with
 | false =>
  rw [hh] at hno
  simp only [Bool.not_false] at hno
  have hG := hnone hh
  subst hG
  exact u_48 hno (Z2 cf cat)
 | true =>
  rw [hh] at hno
  simp only [Bool.not_true] at hno
  refine u_30 hno (Z2 cf cat) ?_
  refine W_loop (fun n st => ∃ i : Nat, n = a.length - i ∧ i ≤ a.length ∧
   st = ⟨[], [(1, .d (.int .i64 id)), (2, .ptr 0 0), (5, .sl 1), (6, .d (.int .i64 i))], [(0, .box [.d (.slc 7 (rToken a))]), (1, .arr 0 0 1 (intsD (((a.take i).filter fun t => V.contains t.fId).map GToken.fId)))], 2⟩) _ ⟨0, rfl, by omega, ?_⟩ ?_
  ·exact u_49
  rintro n st ⟨i, rfl, hi, rfl⟩
  by_cases hlt : i < a.length
  rotate_left
  ·have hie : i = a.length := by omega
   subst hie
   rw [List.take_length, ← hw.ids]
   exact u_27
  have ha := List.getElem?_eq_getElem hlt
  generalize a[i] = x at ha
  have hsc := filter_succ (p := fun t : GToken => V.contains t.fId) (f := GToken.fId) ha
  have hlen := filter_take_len (fun t : GToken => V.contains t.fId) GToken.fId a i
  generalize ((a.take i).filter fun t : GToken => V.contains t.fId).map GToken.fId = L at *
  have cu := hun x.fId (.inr (hhas i x ha))
  obtain ⟨xi, xp, xn, xm, xe, xl, xu⟩ := x
  dsimp only at hsc cu
  cases hc : V.contains xi with
  | true =>
   rw [hc] at hsc cu
   simp only [if_true] at hsc
   refine u_45 ha (Z1 cu) ?_
   refine ⟨a.length - (i + 1), by omega, i + 1, rfl, hlt, ?_⟩
   rw [hsc]
   refine u_46 ?_
   exact wrap_id (by omega) (by omega)
  | false =>
   rw [hc] at hsc cu
   simp only [Bool.false_eq_true, if_false, List.append_nil] at hsc
   refine u_30 ha (Z1 cu) ?_
   refine ⟨a.length - (i + 1), by omega, i + 1, rfl, hlt, ?_⟩
   rw [hsc]
   refine u_25 ?_
   exact wrap_id (by omega) (by omega)
def liveOf (G : List Int) (ls : List GLease) : List Int := (ls.filter fun l => G.contains l.fToken).map GLease.fId
def liveV (w : GWorld) (id : Int) : List Int := if worldB w then liveOf (goneT w.fForest id) w.fBook.fLeases else []
theorem world_forest {w : GWorld} (h : worldB w = true) : forestB w.fForest = true := by
 unfold worldB at h; simp only [Bool.and_eq_true] at h; exact h.1.1.1.1.1.1.2
theorem world_book {w : GWorld} (h : worldB w = true) : bookB w.fBook = true := by
 unfold worldB at h; simp only [Bool.and_eq_true] at h; exact h.1.1.1.1.1.2
theorem LiveLeases_c1_ok (t : GToken) (id : Int) : Valid PP GG 55 [.agg t.c, .rp [.int .i64 id]] (.d (.bool (decide (t.fId = id)))) [none] := by
 refine cv Tryz.func55 [.d (.bool (decide (t.fId = id)))] ?_
 have hind := ind_strs t.fNames
 have hq : (t.fId == id) = decide (t.fId = id) := rfl
 exact u_20 hq
theorem i_LiveLeases_ok [MaxL GG] (w : GWorld) (id : Int) (hf : fitW w) : Valid PP GG 17 [.agg w.c, .d (.int .i64 id)] (.own 0 1 (intsD (liveV w id))) [none, none] := by
 refine cv Tryz.func17 [.own 0 1 (intsD (liveV w id))] ?_
 have cw := isWorld_ok (GG := GG) w hf
 have hV : liveV w id = if worldB w then liveOf (goneT w.fForest id) w.fBook.fLeases else [] := rfl
 have hG := fun (h : worldB w = true) => (show goneT w.fForest id = (wo (fun t => decide (t.fId = id)) w.fForest.fTokens).2 by unfold goneT; rw [if_pos (world_forest h)])
 have co := without_ok (GG := GG) w.fForest.fTokens 55 [[.int .i64 id]] (fun t => decide (t.fId = id)) hf.1 fun t _ => LiveLeases_c1_ok t id
 have hgl := goneT_len w.fForest id
 have htl := hf.1.1
 have hll := hf.2.1.1
 obtain ⟨now, next, lost, ⟨tk⟩, ⟨ls⟩, ⟨us, ff, fm⟩, ⟨js⟩, ow⟩ := w
 dsimp only at hV hll cw co hgl htl hG
 generalize liveV ⟨now, next, lost, ⟨tk⟩, ⟨ls⟩, ⟨us, ff, fm⟩, ⟨js⟩, ow⟩ id = R at *
 generalize worldB ⟨now, next, lost, ⟨tk⟩, ⟨ls⟩, ⟨us, ff, fm⟩, ⟨js⟩, ow⟩ = B at *
 generalize goneT ⟨tk⟩ id = G at *
 cases B
 ·simp at hV
  subst hV
  exact u_47 (Z1 cw)
 simp only [if_true] at hV
 rw [← hG rfl] at co
 generalize (wo (fun t => decide (t.fId = id)) tk).1 = T at *
 have hig := ind_ints G
 have hit := ind_rToken T
 have chas := fun x => ContainsInt_ok (GG := GG) G x (by omega)
 refine u_1 ?_
 refine W_seq (W_seq ?_)
 refine u_50 (Z1 cw) ?_
 refine W_cond rfl (fun h => by simp at h) (fun h => W_skip ?_)
 refine u_11 (Z1 co) ?_
 refine u_1 ?_
 refine W_nilV 7 rfl ?_
 refine u_28 ?_
 refine W_loop (fun n st => ∃ i : Nat, n = ls.length - i ∧ i ≤ ls.length ∧
  st = ⟨[], [(6, .sl 0), (7, .sl 1), (22, .d (.slc 6 (rLease ls))), (23, .d (.int .i64 ls.length)), (24, .d (.int .i64 i))], [(0, .arr 0 0 1 (intsD G)), (1, .arr 0 0 1 (intsD (liveOf G (ls.take i))))], 2⟩) _ ⟨0, rfl, by omega, ?_⟩ ?_
 ·simp [gc, closeN, liveA, gcV, gcO, renA, renAs, renO, namesAs, namesA, namesO, posn, liveOf, intsD]
 rintro n st ⟨i, rfl, hi, rfl⟩
 by_cases hlt : i < ls.length
 rotate_left
 ·have hie : i = ls.length := by omega
  subst hie
  rw [List.take_length, ← hV]
  exact u_27
 have ha := List.getElem?_eq_getElem hlt
 generalize ls[i] = x at ha
 have hsc := filter_succ (p := fun l : GLease => G.contains l.fToken) (f := GLease.fId) ha
 have hlen := filter_take_len (fun l : GLease => G.contains l.fToken) GLease.fId ls i
 rw [show ∀ l, (l.filter fun l : GLease => G.contains l.fToken).map GLease.fId = liveOf G l from fun l => rfl] at hsc hlen
 rw [show ∀ l, (l.filter fun l : GLease => G.contains l.fToken).map GLease.fId = liveOf G l from fun l => rfl] at hsc
 have ch := chas x.fToken
 generalize liveOf G (ls.take i) = L at *
 obtain ⟨xi, xt, xp, xm, xe, xl⟩ := x
 dsimp only at hsc ch
 cases hc : G.contains xt with
 | true =>
  rw [hc] at hsc ch
  simp only [if_true] at hsc
  refine u_45 ha (Z1 ch) ?_
  refine ⟨ls.length - (i + 1), by omega, i + 1, rfl, hlt, ?_⟩
  rw [hsc]
  refine u_46 ?_
  exact wrap_id (by omega) (by omega)
 | false =>
  rw [hc] at hsc ch
  simp only [Bool.false_eq_true, if_false, List.append_nil] at hsc
  refine u_30 ha (Z1 ch) ?_
  refine ⟨ls.length - (i + 1), by omega, i + 1, rfl, hlt, ?_⟩
  rw [hsc]
  refine u_25 ?_
  exact wrap_id (by omega) (by omega)
theorem rToken_succ {a : List GToken} {i : Nat} {x : GToken} (h : a[i]? = some x) : rToken (a.take (i + 1)) = rToken (a.take i) ++ [x.row] := by
 rw [List.take_add_one, h, rToken_app]; rfl
theorem rToken_take_len (a : List GToken) (i : Nat) : (rToken (a.take i)).length ≤ i := by rw [rToken_len, List.length_take]; omega
theorem rLease_succ {a : List GLease} {i : Nat} {x : GLease} (h : a[i]? = some x) : rLease (a.take (i + 1)) = rLease (a.take i) ++ [x.row] := by
 rw [List.take_add_one, h, rLease_app]; rfl
theorem rLease_take_len (a : List GLease) (i : Nat) : (rLease (a.take i)).length ≤ i := by rw [rLease_len, List.length_take]; omega
theorem rUser_succ {a : List GUser} {i : Nat} {x : GUser} (h : a[i]? = some x) : rUser (a.take (i + 1)) = rUser (a.take i) ++ [x.row] := by
 rw [List.take_add_one, h, rUser_app]; rfl
theorem rUser_take_len (a : List GUser) (i : Nat) : (rUser (a.take i)).length ≤ i := by rw [rUser_len, List.length_take]; omega
theorem rJob_succ {a : List GJob} {i : Nat} {x : GJob} (h : a[i]? = some x) : rJob (a.take (i + 1)) = rJob (a.take i) ++ [x.row] := by
 rw [List.take_add_one, h, rJob_app]; rfl
theorem rJob_take_len (a : List GJob) (i : Nat) : (rJob (a.take i)).length ≤ i := by rw [rJob_len, List.length_take]; omega
theorem rOwned_succ {a : List GOwned} {i : Nat} {x : GOwned} (h : a[i]? = some x) : rOwned (a.take (i + 1)) = rOwned (a.take i) ++ [x.row] := by
 rw [List.take_add_one, h, rOwned_app]; rfl
theorem rOwned_take_len (a : List GOwned) (i : Nat) : (rOwned (a.take i)).length ≤ i := by rw [rOwned_len, List.length_take]; omega
theorem ind_rLease (l : List GLease) : ∀ row, row ∈ rLease l → ∀ d, d ∈ row → IndD 0 d := by
 intro row h d hd
 simp only [rLease, List.mem_map] at h
 obtain ⟨x, _, rfl⟩ := h
 simp only [GLease.row, List.mem_cons, List.not_mem_nil, or_false] at hd
 rcases hd with rfl | rfl | rfl | rfl | rfl | rfl <;> trivial
theorem ind_rUser (l : List GUser) : ∀ row, row ∈ rUser l → ∀ d, d ∈ row → IndD 0 d := by
 intro row h d hd
 simp only [rUser, List.mem_map] at h
 obtain ⟨x, _, rfl⟩ := h
 simp only [GUser.row, List.mem_cons, List.not_mem_nil, or_false] at hd
 rcases hd with rfl | rfl <;> trivial
theorem ind_rJob (l : List GJob) : ∀ row, row ∈ rJob l → ∀ d, d ∈ row → IndD 0 d := by
 intro row h d hd
 simp only [rJob, List.mem_map] at h
 obtain ⟨x, _, rfl⟩ := h
 simp only [GJob.row, List.mem_cons, List.not_mem_nil, or_false] at hd
 rcases hd with rfl | rfl | rfl <;> trivial
theorem ind_rOwned (l : List GOwned) : ∀ row, row ∈ rOwned l → ∀ d, d ∈ row → IndD 0 d := by
 intro row h d hd
 simp only [rOwned, List.mem_map] at h
 obtain ⟨x, _, rfl⟩ := h
 simp only [GOwned.row, List.mem_cons, List.not_mem_nil, or_false] at hd
 rcases hd with rfl | rfl <;> trivial
theorem strsD_take_len (a : List (List UInt8)) (i : Nat) : (strsD (a.take i)).length ≤ i := by rw [strsD_len, List.length_take]; omega
theorem s_l08Texts_ok (a : List (List UInt8)) (hl : a.length ≤ 1048576) : Valid PP GG 81 [.d (.slc 1 (strsD a))] (.own 0 1 (strsD a)) [none] := by
 refine cv Tryz.func81 [.own 0 1 (strsD a)] ?_
 refine u_52 ?_
 refine W_loop (fun n st => ∃ i : Nat, n = a.length - i ∧ i ≤ a.length ∧
  st = ⟨[], [(0, .d (.slc 1 (strsD a))), (3, .sl 0), (4, .d (.int .i64 i))], [(0, .arr 0 0 1 (strsD (a.take i)))], 1⟩) _ ⟨0, rfl, by omega, ?_⟩ ?_
 ·simp [gc, closeN, liveA, gcV, gcO, renA, renAs, renO, namesAs, namesA, namesO, posn, strsD]
 rintro n st ⟨i, rfl, hi, rfl⟩
 by_cases hlt : i < a.length
 rotate_left
 ·have hie : i = a.length := by omega
  subst hie
  rw [List.take_length]
  exact u_51
 have ha := List.getElem?_eq_getElem hlt
 generalize a[i] = x at ha
 have hsc := strsD_succ ha
 have hlen := strsD_take_len a i
 generalize strsD (a.take i) = L at *
 repeat' (first | refine W_seq ?_ | refine W_skip ?_ | refine W_block ?_ | refine W_exit ?_ | refine pick_pos rfl ?_ | refine pick_neg rfl ?_ | ((first | refine W_regP fun K hK => ?_ | refine W_regPD fun K hK => ?_ | refine W_ret ?_); simp [Fin, ha, strs_get, limit, strsD_len]) | (with_reducible refine hK _ ?_; clear hK K) | (with_reducible refine goL_split (fun h => ?_) (fun h => ?_) <;> first | (exfalso; simp at h; first | done | omega | contradiction) | ((try simp at h); simp [ha, strs_get, limit, strsD_len])) | with_reducible refine And.intro ?_ ?_ | with_reducible exact okay_rfl rfl | with_reducible assumption | (refine W_cond rfl (fun h => ?_) (fun h => ?_) <;> first | (exfalso; simp at h; first | done | omega | contradiction) | (exfalso; simp_all; done) | (try simp at h)) | omega)
 refine ⟨a.length - (i + 1), by omega, i + 1, rfl, hlt, ?_⟩
 rw [hsc]
 refine u_25 ?_
 exact wrap_id (by omega) (by omega)
theorem s_l08CopyToken_ok (t : GToken) (ht : fitT t) : Valid PP GG 38 [.agg t.c] (.agg t.o) [none] := by
 refine cv Tryz.func38 [.agg t.o] ?_
 have cc := s_l08Texts_ok (GG := GG) t.fNames ht.1
 exact u_31 (Z1 cc)
theorem s_l08Copy_ok (a : List GToken) (hf : fitF ⟨a⟩) : Valid PP GG 90 [.agg (GForest.mk a).c] (.agg (GForest.mk a).o) [none] := by
 refine cv Tryz.func90 [.agg (GForest.mk a).o] ?_
 refine u_28 ?_
 refine W_nilP 3 0 rfl rfl rfl ?_
 refine u_28 ?_
 refine W_loop (fun n st => ∃ i : Nat, n = a.length - i ∧ i ≤ a.length ∧
  st = ⟨[], [(1, .ptr 0 0), (2, .ptr 1 0), (3, .ptr 2 0), (4, .d (.int .i64 i))], [(0, .box [.d (.slc 7 (rToken a))]), (1, .box [.nil 1 7]), (2, .box [.sl 3]), (3, .arr 0 1 7 (rToken (a.take i)))], 4⟩) _ ⟨0, rfl, by omega, ?_⟩ ?_
 ·exact u_53
 rintro n st ⟨i, rfl, hi, rfl⟩
 by_cases hlt : i < a.length
 rotate_left
 ·have hie : i = a.length := by omega
  subst hie
  rw [List.take_length]
  exact u_27
 have ha := List.getElem?_eq_getElem hlt
 have hm := List.getElem_mem hlt
 generalize a[i] = x at ha hm
 have hsc := rToken_succ ha
 have hlen := rToken_take_len a i
 have hir := ind_rToken (a.take i)
 have ct := s_l08CopyToken_ok (GG := GG) x (hf.2 x hm)
 have hla : a.length ≤ 1048576 := hf.1
 generalize rToken (a.take i) = L at *
 refine u_55 ha (Z1 ct) ?_
 refine ⟨a.length - (i + 1), by omega, i + 1, rfl, hlt, ?_⟩
 rw [hsc]
 refine u_25 ?_
 exact wrap_id (by omega) (by omega)
theorem s_l09Copy_ok (a : List GLease) (hla : a.length ≤ 1048577) : Valid PP GG 91 [.agg (GBook.mk a).c] (.agg (GBook.mk a).o) [none] := by
 refine cv Tryz.func91 [.agg (GBook.mk a).o] ?_
 refine u_28 ?_
 refine W_nilP 3 0 rfl rfl rfl ?_
 refine u_28 ?_
 refine W_loop (fun n st => ∃ i : Nat, n = a.length - i ∧ i ≤ a.length ∧
  st = ⟨[], [(1, .ptr 0 0), (2, .ptr 1 0), (3, .ptr 2 0), (4, .d (.int .i64 i))], [(0, .box [.d (.slc 6 (rLease a))]), (1, .box [.nil 0 6]), (2, .box [.sl 3]), (3, .arr 0 0 6 (rLease (a.take i)))], 4⟩) _ ⟨0, rfl, by omega, ?_⟩ ?_
 ·exact u_56
 rintro n st ⟨i, rfl, hi, rfl⟩
 by_cases hlt : i < a.length
 rotate_left
 ·have hie : i = a.length := by omega
  subst hie
  rw [List.take_length]
  exact u_27
 have ha := List.getElem?_eq_getElem hlt
 have hm := List.getElem_mem hlt
 generalize a[i] = x at ha hm
 have hsc := rLease_succ ha
 have hlen := rLease_take_len a i
 have hir := ind_rLease (a.take i)
 generalize rLease (a.take i) = L at *
 refine u_58 ha ?_
 refine ⟨a.length - (i + 1), by omega, i + 1, rfl, hlt, ?_⟩
 rw [hsc]
 refine u_25 ?_
 exact wrap_id (by omega) (by omega)
theorem s_l11CopyQueue_ok (a : List GJob) (hla : a.length ≤ 1048577) : Valid PP GG 93 [.agg (GQueue.mk a).c] (.agg (GQueue.mk a).o) [none] := by
 refine cv Tryz.func93 [.agg (GQueue.mk a).o] ?_
 refine u_28 ?_
 refine W_nilP 3 0 rfl rfl rfl ?_
 refine u_28 ?_
 refine W_loop (fun n st => ∃ i : Nat, n = a.length - i ∧ i ≤ a.length ∧
  st = ⟨[], [(1, .ptr 0 0), (2, .ptr 1 0), (3, .ptr 2 0), (4, .d (.int .i64 i))], [(0, .box [.d (.slc 3 (rJob a))]), (1, .box [.nil 0 3]), (2, .box [.sl 3]), (3, .arr 0 0 3 (rJob (a.take i)))], 4⟩) _ ⟨0, rfl, by omega, ?_⟩ ?_
 ·simp [gc, closeN, liveA, gcV, gcO, renA, renAs, renO, namesAs, namesA, namesO, posn, rJob]
 rintro n st ⟨i, rfl, hi, rfl⟩
 by_cases hlt : i < a.length
 rotate_left
 ·have hie : i = a.length := by omega
  subst hie
  rw [List.take_length]
  exact u_27
 have ha := List.getElem?_eq_getElem hlt
 have hm := List.getElem_mem hlt
 generalize a[i] = x at ha hm
 have hsc := rJob_succ ha
 have hlen := rJob_take_len a i
 have hir := ind_rJob (a.take i)
 generalize rJob (a.take i) = L at *
 refine u_58 ha ?_
 refine ⟨a.length - (i + 1), by omega, i + 1, rfl, hlt, ?_⟩
 rw [hsc]
 refine u_25 ?_
 exact wrap_id (by omega) (by omega)
theorem s_l11Copy_ok (a : List GUser) (ff fm : Int) (hla : a.length ≤ 1048577) : Valid PP GG 92 [.agg (GFar.mk a ff fm).c] (.agg (GFar.mk a ff fm).o) [none] := by
 refine cv Tryz.func92 [.agg (GFar.mk a ff fm).o] ?_
 refine u_28 ?_
 refine W_nilP 3 0 rfl rfl rfl ?_
 refine u_28 ?_
 refine W_loop (fun n st => ∃ i : Nat, n = a.length - i ∧ i ≤ a.length ∧
  st = ⟨[], [(1, .ptr 0 0), (2, .ptr 1 0), (3, .ptr 2 0), (4, .d (.int .i64 i))], [(0, .box [.d (.slc 2 (rUser a)), .d (.int .i64 ff), .d (.int .i64 fm)]), (1, .box [.nil 0 2, .d (.int .i64 0), .d (.int .i64 0)]), (2, .box [.sl 3, .d (.int .i64 ff), .d (.int .i64 fm)]), (3, .arr 0 0 2 (rUser (a.take i)))], 4⟩) _ ⟨0, rfl, by omega, ?_⟩ ?_
 ·exact u_59
 rintro n st ⟨i, rfl, hi, rfl⟩
 by_cases hlt : i < a.length
 rotate_left
 ·have hie : i = a.length := by omega
  subst hie
  rw [List.take_length]
  exact u_27
 have ha := List.getElem?_eq_getElem hlt
 have hm := List.getElem_mem hlt
 generalize a[i] = x at ha hm
 have hsc := rUser_succ ha
 have hlen := rUser_take_len a i
 have hir := ind_rUser (a.take i)
 generalize rUser (a.take i) = L at *
 refine u_58 ha ?_
 refine ⟨a.length - (i + 1), by omega, i + 1, rfl, hlt, ?_⟩
 rw [hsc]
 refine u_25 ?_
 exact wrap_id (by omega) (by omega)
theorem s_l16Copy_ok (w : GWorld) (hf : fitW w) : Valid PP GG 46 [.agg w.c] (.agg w.o) [none] := by
 refine cv Tryz.func46 [.agg w.o] ?_
 obtain ⟨now, next, lost, ⟨tk⟩, ⟨ls⟩, ⟨us, ff, fm⟩, ⟨js⟩, a⟩ := w
 obtain ⟨hf1, hf2, hf3, hf4, hol, hon⟩ := hf
 dsimp only at hf1 hf2 hf3 hf4 hol
 have c1 := s_l08Copy_ok (GG := GG) tk hf1
 have c2 := s_l09Copy_ok (GG := GG) ls (by have := hf2.1; dsimp only at this; omega)
 have c3 := s_l11Copy_ok (GG := GG) us ff fm (by have := hf3.1; dsimp only at this; omega)
 have c4 := s_l11CopyQueue_ok (GG := GG) js (by have := hf4.1; dsimp only at this; omega)
 have hi1 := ind_rToken tk
 have hi2 := ind_rLease ls
 have hi3 := ind_rUser us
 have hi4 := ind_rJob js
 refine u_36 (Z4 c1 c2 c3 c4) ?_
 refine W_nilP 3 9 rfl rfl rfl ?_
 refine u_28 ?_
 refine W_loop (fun n st => ∃ i : Nat, n = a.length - i ∧ i ≤ a.length ∧
  st = ⟨[], [(1, .ptr 0 0), (2, .ptr 1 0), (3, .ptr 2 0), (4, .d (.int .i64 i))], [(0, .box [.d (.int .i64 now), .d (.int .i64 next), .d (.int .i64 lost), .d (.slc 7 (rToken tk)), .d (.slc 6 (rLease ls)), .d (.slc 2 (rUser us)), .d (.int .i64 ff), .d (.int .i64 fm), .d (.slc 3 (rJob js)), .d (.slc 2 (rOwned a))]),
   (1, .box [.d (.int .i64 0), .d (.int .i64 0), .d (.int .i64 0), .nil 1 7, .nil 0 6, .nil 0 2, .d (.int .i64 0), .d (.int .i64 0), .nil 0 3, .nil 0 2]),
   (2, .box [.d (.int .i64 now), .d (.int .i64 next), .d (.int .i64 lost), .sl 3, .sl 4, .sl 5, .d (.int .i64 ff), .d (.int .i64 fm), .sl 6, .sl 7]), (3, .arr 0 1 7 (rToken tk)), (4, .arr 0 0 6 (rLease ls)), (5, .arr 0 0 2 (rUser us)), (6, .arr 0 0 3 (rJob js)), (7, .arr 0 0 2 (rOwned (a.take i)))], 8⟩) _ ⟨0, rfl, by omega, ?_⟩ ?_
 ·simp [gc, closeN, liveA, gcV, gcO, renA, renAs, renO, namesAs, namesA, namesO, posn, rOwned]
 rintro n st ⟨i, rfl, hi, rfl⟩
 by_cases hlt : i < a.length
 rotate_left
 ·have hie : i = a.length := by omega
  subst hie
  rw [List.take_length]
  exact u_27
 have ha := List.getElem?_eq_getElem hlt
 generalize a[i] = x at ha
 have hsc := rOwned_succ ha
 have hlen := rOwned_take_len a i
 generalize rOwned (a.take i) = L at *
 refine u_58 ha ?_
 refine ⟨a.length - (i + 1), by omega, i + 1, rfl, hlt, ?_⟩
 rw [hsc]
 refine u_25 ?_
 exact wrap_id (by omega) (by omega)
theorem cloneForest_ok (a : List GToken) (hf : fitF ⟨a⟩) : Valid PP GG 62 [.agg (GForest.mk a).c] (.agg (GForest.mk a).o) [none] := by
 refine cv Tryz.func62 [.agg (GForest.mk a).o] ?_
 have hla : a.length ≤ 1048576 := hf.1
 refine u_1 ?_
 refine u_1 ?_
 refine W_nilP 3 0 rfl rfl rfl ?_
 refine u_28 ?_
 refine W_loop (fun n st => ∃ i : Nat, n = a.length - i ∧ i ≤ a.length ∧
  st = ⟨[], [(2, .ptr 0 0), (3, .ptr 1 0), (7, .d (.slc 7 (rToken a))), (8, .d (.int .i64 a.length)), (9, .d (.int .i64 i))], [(0, .box [.nil 1 7]), (1, .box [.sl 2]), (2, .arr 0 1 7 (rToken (a.take i)))], 3⟩) _ ⟨0, rfl, by omega, ?_⟩ ?_
 ·exact u_53
 rintro n st ⟨i, rfl, hi, rfl⟩
 by_cases hlt : i < a.length
 rotate_left
 ·have hie : i = a.length := by omega
  subst hie
  rw [List.take_length]
  exact u_27
 have ha := List.getElem?_eq_getElem hlt
 have hm := List.getElem_mem hlt
 generalize a[i] = x at ha hm
 have hsc := rToken_succ ha
 have hlen := rToken_take_len a i
 have hir := ind_rToken (a.take i)
 have ct := cloneToken_ok (GG := GG) x (hf.2 x hm)
 generalize rToken (a.take i) = L at *
 refine u_55 ha (Z1 ct) ?_
 refine ⟨a.length - (i + 1), by omega, i + 1, rfl, hlt, ?_⟩
 rw [hsc]
 refine u_25 ?_
 exact wrap_id (by omega) (by omega)
theorem cloneBook_ok (a : List GLease) (hla : a.length ≤ 1048577) : Valid PP GG 73 [.agg (GBook.mk a).c] (.agg (GBook.mk a).o) [none] := by
 refine cv Tryz.func73 [.agg (GBook.mk a).o] ?_
 have cc := CloneLease_ok (GG := GG) a (by omega)
 exact u_31 (Z1 cc)
theorem cloneQueue_ok (a : List GJob) (hla : a.length ≤ 1048577) : Valid PP GG 75 [.agg (GQueue.mk a).c] (.agg (GQueue.mk a).o) [none] := by
 refine cv Tryz.func75 [.agg (GQueue.mk a).o] ?_
 have cc := CloneJob_ok (GG := GG) a (by omega)
 exact u_31 (Z1 cc)
theorem cloneFar_ok (a : List GUser) (ff fm : Int) (hla : a.length ≤ 1048577) : Valid PP GG 74 [.agg (GFar.mk a ff fm).c] (.agg (GFar.mk a ff fm).o) [none] := by
 refine cv Tryz.func74 [.agg (GFar.mk a ff fm).o] ?_
 have cc := CloneUser_ok (GG := GG) a (by omega)
 exact u_31 (Z1 cc)
theorem cloneWorld_ok (w : GWorld) (hf : fitW w) : Valid PP GG 35 [.agg w.c] (.agg w.o) [none] := by
 refine cv Tryz.func35 [.agg w.o] ?_
 obtain ⟨now, next, lost, ⟨tk⟩, ⟨ls⟩, ⟨us, ff, fm⟩, ⟨js⟩, a⟩ := w
 obtain ⟨hf1, hf2, hf3, hf4, hol, hon⟩ := hf
 dsimp only at hf1 hf2 hf3 hf4 hol
 have c1 := cloneForest_ok (GG := GG) tk hf1
 have c2 := cloneBook_ok (GG := GG) ls (by have := hf2.1; dsimp only at this; omega)
 have c3 := cloneFar_ok (GG := GG) us ff fm (by have := hf3.1; dsimp only at this; omega)
 have c4 := cloneQueue_ok (GG := GG) js (by have := hf4.1; dsimp only at this; omega)
 have c5 := CloneOwned_ok (GG := GG) a (by omega)
 have hi1 := ind_rToken tk
 have hi2 := ind_rLease ls
 have hi3 := ind_rUser us
 have hi4 := ind_rJob js
 have hi5 := ind_rOwned a
 exact u_31 (Z5 c1 c2 c3 c4 c5)
def zTok : GToken := ⟨0, 0, [], 0, 0, 0, 0⟩
def findT (f : GForest) (id : Int) : GToken := if forestB f then (f.fTokens.find? fun t => decide (t.fId = id)).getD zTok else zTok
def overB (e now : Int) : Bool := !decide (e = 0) && decide (e ≤ now)
end Go.Proofs.YtoomonfpedjgoaaGreatDoor.Ab
